/- AdVcK: a part of the proof of statements of this seat. -/
import Derived.Test.YtcellhafdgmkjaaDoorAdVcJ
import Derived.Test.YtcellhafdgmkjaaDoorAdBase
set_option maxRecDepth 100000
set_option linter.unusedVariables false
set_option linter.unusedSimpArgs false
namespace Go.Ad
open Go Go.Rx
def B_rphone (S : Nat → List (List Int) → List (List Int) → Prop) (K : List (List Int) → List (List Int) → Prop) : Prop :=
 ∀ z0 : Int, 0 ≤ z0 → z0 ≤ HB → ∀ z1 : Int, 0 ≤ z1 → z1 ≤ HB → 
 chkD 44 [z0, z1] →
 ∀ z2 : Int, 0 ≤ z2 → z2 ≤ HB → ∀ z3 : Int, 0 ≤ z3 → z3 ≤ 1 → ∀ z4 : Int, 0 ≤ z4 → z4 ≤ 1 → S 35 [[z0]] [[z2], [z3], [z4]] →
 ((((!(decide (z4 = 1)))) = true →
  K [[z0], [z1]] [[0], [7]]
 ) ∧ (((!(decide (z4 = 1)))) = false →
  ∃ (I5 : List (List Int) → Prop) (μ5 : List (List Int) → Nat), I5 [[0], [0], [0]] ∧ (∀ z6 : Int, 0 ≤ z6 → z6 ≤ HB → ∀ z7 : Int, 0 ≤ z7 → z7 ≤ 9223372036854775807 → ∀ z8 : Int, 0 ≤ z8 → z8 ≤ 1 → I5 [[z6], [z7], [z8]] →
   ∀ z9 : Int, 0 ≤ z9 → z9 ≤ 9223372036854775807 → z9 = fnD 0 [z1] →
   (((decide (z7 < z9)) = true →
    chkD 1 [z1, z7] ∧
    ∀ z10 : Int, 0 ≤ z10 → z10 ≤ 255 → z10 = fnD 1 [z1, z7] →
    (((decide (48 ≤ z10)) = true →
     (((decide (z10 ≤ 57)) = true →
      ∀ z11 : Int, 0 ≤ z11 → z11 ≤ 1 → 0 ≤ (z7 + 9223372036854775809) - 18446744073709551616 * z11 → (z7 + 9223372036854775809) - 18446744073709551616 * z11 < 18446744073709551616 →
      chkD 2 [z1, z7, ((z7 + ((-18446744073709551616) * z11)) + 1)] ∧
      ∀ z12 : Int, 0 ≤ z12 → z12 ≤ HB → z12 = fnD 2 [z1, z7, ((z7 + ((-18446744073709551616) * z11)) + 1)] →
      chkD 3 [z6, z12] ∧
      ∀ z13 : Int, 0 ≤ z13 → z13 ≤ HB → z13 = fnD 3 [z6, z12] →
      ∀ z14 : Int, 0 ≤ z14 → z14 ≤ 1 → 0 ≤ (z7 + 9223372036854775809) - 18446744073709551616 * z14 → (z7 + 9223372036854775809) - 18446744073709551616 * z14 < 18446744073709551616 →
      chkD 39 [((z7 + ((-18446744073709551616) * z14)) + 1), 0, 9223372036854775807] ∧
      ∀ z15 : Int, 0 ≤ z15 → z15 ≤ 1 → decide (z8 = 1) = decide (z15 = 1) →
      (I5 [[z13], [((z7 + ((-18446744073709551616) * z14)) + 1)], [z15]] ∧ μ5 [[z13], [((z7 + ((-18446744073709551616) * z14)) + 1)], [z15]] < μ5 [[z6], [z7], [z8]])
     ) ∧ ((decide (z10 ≤ 57)) = false →
      K [[z0], [z1]] [[0], [2]]
     ))
    ) ∧ ((decide (48 ≤ z10)) = false →
     (((decide (z10 = 43)) = true →
      ∀ z11 : Int, 0 ≤ z11 → z11 ≤ 1 → z11 = fnD 4 [z6, 0] →
      (((decide (z11 = 1)) = true →
       ((((!(decide (z8 = 1)))) = true →
        ∀ z12 : Int, 0 ≤ z12 → z12 ≤ 1 → 0 ≤ (z7 + 9223372036854775809) - 18446744073709551616 * z12 → (z7 + 9223372036854775809) - 18446744073709551616 * z12 < 18446744073709551616 →
        chkD 39 [((z7 + ((-18446744073709551616) * z12)) + 1), 0, 9223372036854775807] ∧
        (I5 [[z6], [((z7 + ((-18446744073709551616) * z12)) + 1)], [1]] ∧ μ5 [[z6], [((z7 + ((-18446744073709551616) * z12)) + 1)], [1]] < μ5 [[z6], [z7], [z8]])
       ) ∧ (((!(decide (z8 = 1)))) = false →
        (((decide (z10 = 32)) = true →
         ∀ z12 : Int, 0 ≤ z12 → z12 ≤ 1 → 0 ≤ (z7 + 9223372036854775809) - 18446744073709551616 * z12 → (z7 + 9223372036854775809) - 18446744073709551616 * z12 < 18446744073709551616 →
         chkD 39 [((z7 + ((-18446744073709551616) * z12)) + 1), 0, 9223372036854775807] ∧
         ∀ z13 : Int, 0 ≤ z13 → z13 ≤ 1 → decide (z8 = 1) = decide (z13 = 1) →
         (I5 [[z6], [((z7 + ((-18446744073709551616) * z12)) + 1)], [z13]] ∧ μ5 [[z6], [((z7 + ((-18446744073709551616) * z12)) + 1)], [z13]] < μ5 [[z6], [z7], [z8]])
        ) ∧ ((decide (z10 = 32)) = false →
         (((decide (z10 = 45)) = true →
          ∀ z12 : Int, 0 ≤ z12 → z12 ≤ 1 → 0 ≤ (z7 + 9223372036854775809) - 18446744073709551616 * z12 → (z7 + 9223372036854775809) - 18446744073709551616 * z12 < 18446744073709551616 →
          chkD 39 [((z7 + ((-18446744073709551616) * z12)) + 1), 0, 9223372036854775807] ∧
          ∀ z13 : Int, 0 ≤ z13 → z13 ≤ 1 → decide (z8 = 1) = decide (z13 = 1) →
          (I5 [[z6], [((z7 + ((-18446744073709551616) * z12)) + 1)], [z13]] ∧ μ5 [[z6], [((z7 + ((-18446744073709551616) * z12)) + 1)], [z13]] < μ5 [[z6], [z7], [z8]])
         ) ∧ ((decide (z10 = 45)) = false →
          (((decide (z10 = 46)) = true →
           ∀ z12 : Int, 0 ≤ z12 → z12 ≤ 1 → 0 ≤ (z7 + 9223372036854775809) - 18446744073709551616 * z12 → (z7 + 9223372036854775809) - 18446744073709551616 * z12 < 18446744073709551616 →
           chkD 39 [((z7 + ((-18446744073709551616) * z12)) + 1), 0, 9223372036854775807] ∧
           ∀ z13 : Int, 0 ≤ z13 → z13 ≤ 1 → decide (z8 = 1) = decide (z13 = 1) →
           (I5 [[z6], [((z7 + ((-18446744073709551616) * z12)) + 1)], [z13]] ∧ μ5 [[z6], [((z7 + ((-18446744073709551616) * z12)) + 1)], [z13]] < μ5 [[z6], [z7], [z8]])
          ) ∧ ((decide (z10 = 46)) = false →
           (((decide (z10 = 40)) = true →
            ∀ z12 : Int, 0 ≤ z12 → z12 ≤ 1 → 0 ≤ (z7 + 9223372036854775809) - 18446744073709551616 * z12 → (z7 + 9223372036854775809) - 18446744073709551616 * z12 < 18446744073709551616 →
            chkD 39 [((z7 + ((-18446744073709551616) * z12)) + 1), 0, 9223372036854775807] ∧
            ∀ z13 : Int, 0 ≤ z13 → z13 ≤ 1 → decide (z8 = 1) = decide (z13 = 1) →
            (I5 [[z6], [((z7 + ((-18446744073709551616) * z12)) + 1)], [z13]] ∧ μ5 [[z6], [((z7 + ((-18446744073709551616) * z12)) + 1)], [z13]] < μ5 [[z6], [z7], [z8]])
           ) ∧ ((decide (z10 = 40)) = false →
            (((decide (z10 = 41)) = true →
             ∀ z12 : Int, 0 ≤ z12 → z12 ≤ 1 → 0 ≤ (z7 + 9223372036854775809) - 18446744073709551616 * z12 → (z7 + 9223372036854775809) - 18446744073709551616 * z12 < 18446744073709551616 →
             chkD 39 [((z7 + ((-18446744073709551616) * z12)) + 1), 0, 9223372036854775807] ∧
             ∀ z13 : Int, 0 ≤ z13 → z13 ≤ 1 → decide (z8 = 1) = decide (z13 = 1) →
             (I5 [[z6], [((z7 + ((-18446744073709551616) * z12)) + 1)], [z13]] ∧ μ5 [[z6], [((z7 + ((-18446744073709551616) * z12)) + 1)], [z13]] < μ5 [[z6], [z7], [z8]])
            ) ∧ ((decide (z10 = 41)) = false →
             K [[z0], [z1]] [[0], [2]]
            ))
           ))
          ))
         ))
        ))
       ))
      ) ∧ ((decide (z11 = 1)) = false →
       (((decide (z10 = 32)) = true →
        ∀ z12 : Int, 0 ≤ z12 → z12 ≤ 1 → 0 ≤ (z7 + 9223372036854775809) - 18446744073709551616 * z12 → (z7 + 9223372036854775809) - 18446744073709551616 * z12 < 18446744073709551616 →
        chkD 39 [((z7 + ((-18446744073709551616) * z12)) + 1), 0, 9223372036854775807] ∧
        ∀ z13 : Int, 0 ≤ z13 → z13 ≤ 1 → decide (z8 = 1) = decide (z13 = 1) →
        (I5 [[z6], [((z7 + ((-18446744073709551616) * z12)) + 1)], [z13]] ∧ μ5 [[z6], [((z7 + ((-18446744073709551616) * z12)) + 1)], [z13]] < μ5 [[z6], [z7], [z8]])
       ) ∧ ((decide (z10 = 32)) = false →
        (((decide (z10 = 45)) = true →
         ∀ z12 : Int, 0 ≤ z12 → z12 ≤ 1 → 0 ≤ (z7 + 9223372036854775809) - 18446744073709551616 * z12 → (z7 + 9223372036854775809) - 18446744073709551616 * z12 < 18446744073709551616 →
         chkD 39 [((z7 + ((-18446744073709551616) * z12)) + 1), 0, 9223372036854775807] ∧
         ∀ z13 : Int, 0 ≤ z13 → z13 ≤ 1 → decide (z8 = 1) = decide (z13 = 1) →
         (I5 [[z6], [((z7 + ((-18446744073709551616) * z12)) + 1)], [z13]] ∧ μ5 [[z6], [((z7 + ((-18446744073709551616) * z12)) + 1)], [z13]] < μ5 [[z6], [z7], [z8]])
        ) ∧ ((decide (z10 = 45)) = false →
         (((decide (z10 = 46)) = true →
          ∀ z12 : Int, 0 ≤ z12 → z12 ≤ 1 → 0 ≤ (z7 + 9223372036854775809) - 18446744073709551616 * z12 → (z7 + 9223372036854775809) - 18446744073709551616 * z12 < 18446744073709551616 →
          chkD 39 [((z7 + ((-18446744073709551616) * z12)) + 1), 0, 9223372036854775807] ∧
          ∀ z13 : Int, 0 ≤ z13 → z13 ≤ 1 → decide (z8 = 1) = decide (z13 = 1) →
          (I5 [[z6], [((z7 + ((-18446744073709551616) * z12)) + 1)], [z13]] ∧ μ5 [[z6], [((z7 + ((-18446744073709551616) * z12)) + 1)], [z13]] < μ5 [[z6], [z7], [z8]])
         ) ∧ ((decide (z10 = 46)) = false →
          (((decide (z10 = 40)) = true →
           ∀ z12 : Int, 0 ≤ z12 → z12 ≤ 1 → 0 ≤ (z7 + 9223372036854775809) - 18446744073709551616 * z12 → (z7 + 9223372036854775809) - 18446744073709551616 * z12 < 18446744073709551616 →
           chkD 39 [((z7 + ((-18446744073709551616) * z12)) + 1), 0, 9223372036854775807] ∧
           ∀ z13 : Int, 0 ≤ z13 → z13 ≤ 1 → decide (z8 = 1) = decide (z13 = 1) →
           (I5 [[z6], [((z7 + ((-18446744073709551616) * z12)) + 1)], [z13]] ∧ μ5 [[z6], [((z7 + ((-18446744073709551616) * z12)) + 1)], [z13]] < μ5 [[z6], [z7], [z8]])
          ) ∧ ((decide (z10 = 40)) = false →
           (((decide (z10 = 41)) = true →
            ∀ z12 : Int, 0 ≤ z12 → z12 ≤ 1 → 0 ≤ (z7 + 9223372036854775809) - 18446744073709551616 * z12 → (z7 + 9223372036854775809) - 18446744073709551616 * z12 < 18446744073709551616 →
            chkD 39 [((z7 + ((-18446744073709551616) * z12)) + 1), 0, 9223372036854775807] ∧
            ∀ z13 : Int, 0 ≤ z13 → z13 ≤ 1 → decide (z8 = 1) = decide (z13 = 1) →
            (I5 [[z6], [((z7 + ((-18446744073709551616) * z12)) + 1)], [z13]] ∧ μ5 [[z6], [((z7 + ((-18446744073709551616) * z12)) + 1)], [z13]] < μ5 [[z6], [z7], [z8]])
           ) ∧ ((decide (z10 = 41)) = false →
            K [[z0], [z1]] [[0], [2]]
           ))
          ))
         ))
        ))
       ))
      ))
     ) ∧ ((decide (z10 = 43)) = false →
      (((decide (z10 = 32)) = true →
       ∀ z11 : Int, 0 ≤ z11 → z11 ≤ 1 → 0 ≤ (z7 + 9223372036854775809) - 18446744073709551616 * z11 → (z7 + 9223372036854775809) - 18446744073709551616 * z11 < 18446744073709551616 →
       chkD 39 [((z7 + ((-18446744073709551616) * z11)) + 1), 0, 9223372036854775807] ∧
       ∀ z12 : Int, 0 ≤ z12 → z12 ≤ 1 → decide (z8 = 1) = decide (z12 = 1) →
       (I5 [[z6], [((z7 + ((-18446744073709551616) * z11)) + 1)], [z12]] ∧ μ5 [[z6], [((z7 + ((-18446744073709551616) * z11)) + 1)], [z12]] < μ5 [[z6], [z7], [z8]])
      ) ∧ ((decide (z10 = 32)) = false →
       (((decide (z10 = 45)) = true →
        ∀ z11 : Int, 0 ≤ z11 → z11 ≤ 1 → 0 ≤ (z7 + 9223372036854775809) - 18446744073709551616 * z11 → (z7 + 9223372036854775809) - 18446744073709551616 * z11 < 18446744073709551616 →
        chkD 39 [((z7 + ((-18446744073709551616) * z11)) + 1), 0, 9223372036854775807] ∧
        ∀ z12 : Int, 0 ≤ z12 → z12 ≤ 1 → decide (z8 = 1) = decide (z12 = 1) →
        (I5 [[z6], [((z7 + ((-18446744073709551616) * z11)) + 1)], [z12]] ∧ μ5 [[z6], [((z7 + ((-18446744073709551616) * z11)) + 1)], [z12]] < μ5 [[z6], [z7], [z8]])
       ) ∧ ((decide (z10 = 45)) = false →
        (((decide (z10 = 46)) = true →
         ∀ z11 : Int, 0 ≤ z11 → z11 ≤ 1 → 0 ≤ (z7 + 9223372036854775809) - 18446744073709551616 * z11 → (z7 + 9223372036854775809) - 18446744073709551616 * z11 < 18446744073709551616 →
         chkD 39 [((z7 + ((-18446744073709551616) * z11)) + 1), 0, 9223372036854775807] ∧
         ∀ z12 : Int, 0 ≤ z12 → z12 ≤ 1 → decide (z8 = 1) = decide (z12 = 1) →
         (I5 [[z6], [((z7 + ((-18446744073709551616) * z11)) + 1)], [z12]] ∧ μ5 [[z6], [((z7 + ((-18446744073709551616) * z11)) + 1)], [z12]] < μ5 [[z6], [z7], [z8]])
        ) ∧ ((decide (z10 = 46)) = false →
         (((decide (z10 = 40)) = true →
          ∀ z11 : Int, 0 ≤ z11 → z11 ≤ 1 → 0 ≤ (z7 + 9223372036854775809) - 18446744073709551616 * z11 → (z7 + 9223372036854775809) - 18446744073709551616 * z11 < 18446744073709551616 →
          chkD 39 [((z7 + ((-18446744073709551616) * z11)) + 1), 0, 9223372036854775807] ∧
          ∀ z12 : Int, 0 ≤ z12 → z12 ≤ 1 → decide (z8 = 1) = decide (z12 = 1) →
          (I5 [[z6], [((z7 + ((-18446744073709551616) * z11)) + 1)], [z12]] ∧ μ5 [[z6], [((z7 + ((-18446744073709551616) * z11)) + 1)], [z12]] < μ5 [[z6], [z7], [z8]])
         ) ∧ ((decide (z10 = 40)) = false →
          (((decide (z10 = 41)) = true →
           ∀ z11 : Int, 0 ≤ z11 → z11 ≤ 1 → 0 ≤ (z7 + 9223372036854775809) - 18446744073709551616 * z11 → (z7 + 9223372036854775809) - 18446744073709551616 * z11 < 18446744073709551616 →
           chkD 39 [((z7 + ((-18446744073709551616) * z11)) + 1), 0, 9223372036854775807] ∧
           ∀ z12 : Int, 0 ≤ z12 → z12 ≤ 1 → decide (z8 = 1) = decide (z12 = 1) →
           (I5 [[z6], [((z7 + ((-18446744073709551616) * z11)) + 1)], [z12]] ∧ μ5 [[z6], [((z7 + ((-18446744073709551616) * z11)) + 1)], [z12]] < μ5 [[z6], [z7], [z8]])
          ) ∧ ((decide (z10 = 41)) = false →
           K [[z0], [z1]] [[0], [2]]
          ))
         ))
        ))
       ))
      ))
     ))
    ))
   ) ∧ ((decide (z7 < z9)) = false →
    ((((!(decide (z8 = 1)))) = true →
     ∀ z10 : Int, 0 ≤ z10 → z10 ≤ 1 → z10 = fnD 4 [z0, 0] →
     ((((!(decide (z10 = 1)))) = true →
      (((decide (z3 = 1)) = true →
       ∀ z11 : Int, 0 ≤ z11 → z11 ≤ 9223372036854775807 → z11 = fnD 0 [z6] →
       (((decide (0 < z11)) = true →
        chkD 1 [z6, 0] ∧
        ∀ z12 : Int, 0 ≤ z12 → z12 ≤ 255 → z12 = fnD 1 [z6, 0] →
        (((decide (z12 = 48)) = true →
         ∀ z13 : Int, 0 ≤ z13 → z13 ≤ 9223372036854775807 → z13 = fnD 0 [z6] →
         chkD 2 [z6, 1, z13] ∧
         ∀ z14 : Int, 0 ≤ z14 → z14 ≤ HB → z14 = fnD 2 [z6, 1, z13] →
         chkD 3 [z2, z14] ∧
         ∀ z15 : Int, 0 ≤ z15 → z15 ≤ HB → z15 = fnD 3 [z2, z14] →
         ∀ z16 : Int, 0 ≤ z16 → z16 ≤ 9223372036854775807 → z16 = fnD 0 [z15] →
         (((decide (z16 < 6)) = true →
          K [[z0], [z1]] [[0], [2]]
         ) ∧ ((decide (z16 < 6)) = false →
          ∀ z17 : Int, 0 ≤ z17 → z17 ≤ 9223372036854775807 → z17 = fnD 0 [z15] →
          (((decide (15 < z17)) = true →
           K [[z0], [z1]] [[0], [2]]
          ) ∧ ((decide (15 < z17)) = false →
           chkD 1 [z15, 0] ∧
           ∀ z18 : Int, 0 ≤ z18 → z18 ≤ 255 → z18 = fnD 1 [z15, 0] →
           (((decide (z18 = 48)) = true →
            K [[z0], [z1]] [[0], [2]]
           ) ∧ ((decide (z18 = 48)) = false →
            K [[z0], [z1]] [[z15], [0]]
           ))
          ))
         ))
        ) ∧ ((decide (z12 = 48)) = false →
         chkD 3 [z2, z6] ∧
         ∀ z13 : Int, 0 ≤ z13 → z13 ≤ HB → z13 = fnD 3 [z2, z6] →
         ∀ z14 : Int, 0 ≤ z14 → z14 ≤ 9223372036854775807 → z14 = fnD 0 [z13] →
         (((decide (z14 < 6)) = true →
          K [[z0], [z1]] [[0], [2]]
         ) ∧ ((decide (z14 < 6)) = false →
          ∀ z15 : Int, 0 ≤ z15 → z15 ≤ 9223372036854775807 → z15 = fnD 0 [z13] →
          (((decide (15 < z15)) = true →
           K [[z0], [z1]] [[0], [2]]
          ) ∧ ((decide (15 < z15)) = false →
           chkD 1 [z13, 0] ∧
           ∀ z16 : Int, 0 ≤ z16 → z16 ≤ 255 → z16 = fnD 1 [z13, 0] →
           (((decide (z16 = 48)) = true →
            K [[z0], [z1]] [[0], [2]]
           ) ∧ ((decide (z16 = 48)) = false →
            K [[z0], [z1]] [[z13], [0]]
           ))
          ))
         ))
        ))
       ) ∧ ((decide (0 < z11)) = false →
        chkD 3 [z2, z6] ∧
        ∀ z12 : Int, 0 ≤ z12 → z12 ≤ HB → z12 = fnD 3 [z2, z6] →
        ∀ z13 : Int, 0 ≤ z13 → z13 ≤ 9223372036854775807 → z13 = fnD 0 [z12] →
        (((decide (z13 < 6)) = true →
         K [[z0], [z1]] [[0], [2]]
        ) ∧ ((decide (z13 < 6)) = false →
         ∀ z14 : Int, 0 ≤ z14 → z14 ≤ 9223372036854775807 → z14 = fnD 0 [z12] →
         (((decide (15 < z14)) = true →
          K [[z0], [z1]] [[0], [2]]
         ) ∧ ((decide (15 < z14)) = false →
          chkD 1 [z12, 0] ∧
          ∀ z15 : Int, 0 ≤ z15 → z15 ≤ 255 → z15 = fnD 1 [z12, 0] →
          (((decide (z15 = 48)) = true →
           K [[z0], [z1]] [[0], [2]]
          ) ∧ ((decide (z15 = 48)) = false →
           K [[z0], [z1]] [[z12], [0]]
          ))
         ))
        ))
       ))
      ) ∧ ((decide (z3 = 1)) = false →
       chkD 3 [z2, z6] ∧
       ∀ z11 : Int, 0 ≤ z11 → z11 ≤ HB → z11 = fnD 3 [z2, z6] →
       ∀ z12 : Int, 0 ≤ z12 → z12 ≤ 9223372036854775807 → z12 = fnD 0 [z11] →
       (((decide (z12 < 6)) = true →
        K [[z0], [z1]] [[0], [2]]
       ) ∧ ((decide (z12 < 6)) = false →
        ∀ z13 : Int, 0 ≤ z13 → z13 ≤ 9223372036854775807 → z13 = fnD 0 [z11] →
        (((decide (15 < z13)) = true →
         K [[z0], [z1]] [[0], [2]]
        ) ∧ ((decide (15 < z13)) = false →
         chkD 1 [z11, 0] ∧
         ∀ z14 : Int, 0 ≤ z14 → z14 ≤ 255 → z14 = fnD 1 [z11, 0] →
         (((decide (z14 = 48)) = true →
          K [[z0], [z1]] [[0], [2]]
         ) ∧ ((decide (z14 = 48)) = false →
          K [[z0], [z1]] [[z11], [0]]
         ))
        ))
       ))
      ))
     ) ∧ (((!(decide (z10 = 1)))) = false →
      ∀ z11 : Int, 0 ≤ z11 → z11 ≤ 9223372036854775807 → z11 = fnD 0 [z6] →
      (((decide (z11 < 6)) = true →
       K [[z0], [z1]] [[0], [2]]
      ) ∧ ((decide (z11 < 6)) = false →
       ∀ z12 : Int, 0 ≤ z12 → z12 ≤ 9223372036854775807 → z12 = fnD 0 [z6] →
       (((decide (15 < z12)) = true →
        K [[z0], [z1]] [[0], [2]]
       ) ∧ ((decide (15 < z12)) = false →
        chkD 1 [z6, 0] ∧
        ∀ z13 : Int, 0 ≤ z13 → z13 ≤ 255 → z13 = fnD 1 [z6, 0] →
        (((decide (z13 = 48)) = true →
         K [[z0], [z1]] [[0], [2]]
        ) ∧ ((decide (z13 = 48)) = false →
         K [[z0], [z1]] [[z6], [0]]
        ))
       ))
      ))
     ))
    ) ∧ (((!(decide (z8 = 1)))) = false →
     ∀ z10 : Int, 0 ≤ z10 → z10 ≤ 9223372036854775807 → z10 = fnD 0 [z6] →
     (((decide (z10 < 6)) = true →
      K [[z0], [z1]] [[0], [2]]
     ) ∧ ((decide (z10 < 6)) = false →
      ∀ z11 : Int, 0 ≤ z11 → z11 ≤ 9223372036854775807 → z11 = fnD 0 [z6] →
      (((decide (15 < z11)) = true →
       K [[z0], [z1]] [[0], [2]]
      ) ∧ ((decide (15 < z11)) = false →
       chkD 1 [z6, 0] ∧
       ∀ z12 : Int, 0 ≤ z12 → z12 ≤ 255 → z12 = fnD 1 [z6, 0] →
       (((decide (z12 = 48)) = true →
        K [[z0], [z1]] [[0], [2]]
       ) ∧ ((decide (z12 = 48)) = false →
        K [[z0], [z1]] [[z6], [0]]
       ))
      ))
     ))
    ))
   ))
  )
 ))
def BarI (z1 : Int) (bl : List (List Int)) : Prop := ∃ (i : Nat) (d p : Int), bl = [[d], [(i : Int)], [p]] ∧ i ≤ (sOf z1).length ∧ (sOf d).length ≤ i ∧ bareF ((sOf z1).drop i) (sOf d) (decide (p = 1)) = bareF (sOf z1) [] false
def BarM (z1 : Int) (bl : List (List Int)) : Nat := (sOf z1).length - ((bl.getD 1 []).getD 0 0).toNat
/-- A number's digits, one on. -/
theorem BarI.next {z1 d d' p p' : Int} {i : Nat} (h1 : z1 ≤ HB) (hi : i < (sOf z1).length) (hd : (sOf d').length ≤ i + 1) (hb : bareF ((sOf z1).drop (i + 1)) (sOf d') (decide (p' = 1)) = bareF (sOf z1) [] false) : BarI z1 [[d'], [(i : Int) + 1], [p']] ∧ BarM z1 [[d'], [(i : Int) + 1], [p']] < BarM z1 [[d], [(i : Int)], [p]] := by
  refine ⟨⟨i + 1, d', p', by simp, by omega, hd, hb⟩, ?_⟩
  show (sOf z1).length - ((i : Int) + 1).toNat < (sOf z1).length - (i : Int).toNat
  omega
theorem bare_step {s d : Tx} {p : Bool} {i : Nat} (hi : i < s.length) : bareF (s.drop i) d p = cond (isD (s.getD i 0)) (bareF (s.drop (i + 1)) (d ++ [s.getD i 0]) p) (cond (s.getD i 0 == 43 && d.isEmpty && !p) (bareF (s.drop (i + 1)) d true) (cond (seps.contains (s.getD i 0)) (bareF (s.drop (i + 1)) d p) none)) := by
  rw [drop_cons_getD s i hi, bareF]
theorem sepT {Kf : Prop} {I : List (List Int) → Prop} {M : List (List Int) → Nat} {z1 z6 z8 z10 : Int} {i : Nat} {c : UInt8} (h1 : z1 ≤ HB) (hi : i < (sOf z1).length) (hc : z10 = (c.toNat : Int))
    (hK : seps.contains c = false → Kf) (hA : seps.contains c = true → ∀ z13 : Int, decide (z8 = 1) = decide (z13 = 1) → I [[z6], [(i : Int) + 1], [z13]] ∧ M [[z6], [(i : Int) + 1], [z13]] < M [[z6], [(i : Int)], [z8]]) :
      (((decide (z10 = 32)) = true →
       ∀ z11 : Int, 0 ≤ z11 → z11 ≤ 1 → 0 ≤ ((i : Int) + 9223372036854775809) - 18446744073709551616 * z11 → ((i : Int) + 9223372036854775809) - 18446744073709551616 * z11 < 18446744073709551616 →
       chkD 39 [(((i : Int) + ((-18446744073709551616) * z11)) + 1), 0, 9223372036854775807] ∧
       ∀ z12 : Int, 0 ≤ z12 → z12 ≤ 1 → decide (z8 = 1) = decide (z12 = 1) →
       (I [[z6], [(((i : Int) + ((-18446744073709551616) * z11)) + 1)], [z12]] ∧ M [[z6], [(((i : Int) + ((-18446744073709551616) * z11)) + 1)], [z12]] < M [[z6], [(i : Int)], [z8]])
      ) ∧ ((decide (z10 = 32)) = false →
       (((decide (z10 = 45)) = true →
        ∀ z11 : Int, 0 ≤ z11 → z11 ≤ 1 → 0 ≤ ((i : Int) + 9223372036854775809) - 18446744073709551616 * z11 → ((i : Int) + 9223372036854775809) - 18446744073709551616 * z11 < 18446744073709551616 →
        chkD 39 [(((i : Int) + ((-18446744073709551616) * z11)) + 1), 0, 9223372036854775807] ∧
        ∀ z12 : Int, 0 ≤ z12 → z12 ≤ 1 → decide (z8 = 1) = decide (z12 = 1) →
        (I [[z6], [(((i : Int) + ((-18446744073709551616) * z11)) + 1)], [z12]] ∧ M [[z6], [(((i : Int) + ((-18446744073709551616) * z11)) + 1)], [z12]] < M [[z6], [(i : Int)], [z8]])
       ) ∧ ((decide (z10 = 45)) = false →
        (((decide (z10 = 46)) = true →
         ∀ z11 : Int, 0 ≤ z11 → z11 ≤ 1 → 0 ≤ ((i : Int) + 9223372036854775809) - 18446744073709551616 * z11 → ((i : Int) + 9223372036854775809) - 18446744073709551616 * z11 < 18446744073709551616 →
         chkD 39 [(((i : Int) + ((-18446744073709551616) * z11)) + 1), 0, 9223372036854775807] ∧
         ∀ z12 : Int, 0 ≤ z12 → z12 ≤ 1 → decide (z8 = 1) = decide (z12 = 1) →
         (I [[z6], [(((i : Int) + ((-18446744073709551616) * z11)) + 1)], [z12]] ∧ M [[z6], [(((i : Int) + ((-18446744073709551616) * z11)) + 1)], [z12]] < M [[z6], [(i : Int)], [z8]])
        ) ∧ ((decide (z10 = 46)) = false →
         (((decide (z10 = 40)) = true →
          ∀ z11 : Int, 0 ≤ z11 → z11 ≤ 1 → 0 ≤ ((i : Int) + 9223372036854775809) - 18446744073709551616 * z11 → ((i : Int) + 9223372036854775809) - 18446744073709551616 * z11 < 18446744073709551616 →
          chkD 39 [(((i : Int) + ((-18446744073709551616) * z11)) + 1), 0, 9223372036854775807] ∧
          ∀ z12 : Int, 0 ≤ z12 → z12 ≤ 1 → decide (z8 = 1) = decide (z12 = 1) →
          (I [[z6], [(((i : Int) + ((-18446744073709551616) * z11)) + 1)], [z12]] ∧ M [[z6], [(((i : Int) + ((-18446744073709551616) * z11)) + 1)], [z12]] < M [[z6], [(i : Int)], [z8]])
         ) ∧ ((decide (z10 = 40)) = false →
          (((decide (z10 = 41)) = true →
           ∀ z11 : Int, 0 ≤ z11 → z11 ≤ 1 → 0 ≤ ((i : Int) + 9223372036854775809) - 18446744073709551616 * z11 → ((i : Int) + 9223372036854775809) - 18446744073709551616 * z11 < 18446744073709551616 →
           chkD 39 [(((i : Int) + ((-18446744073709551616) * z11)) + 1), 0, 9223372036854775807] ∧
           ∀ z12 : Int, 0 ≤ z12 → z12 ≤ 1 → decide (z8 = 1) = decide (z12 = 1) →
           (I [[z6], [(((i : Int) + ((-18446744073709551616) * z11)) + 1)], [z12]] ∧ M [[z6], [(((i : Int) + ((-18446744073709551616) * z11)) + 1)], [z12]] < M [[z6], [(i : Int)], [z8]])
          ) ∧ ((decide (z10 = 41)) = false →
           Kf
          ))
         ))
        ))
       ))
      )) := by
  have hL := len_lt h1
  have hadv : seps.contains c = true → ∀ q : Int, 0 ≤ q → q ≤ 1 → 0 ≤ ((i : Int) + 9223372036854775809) - 18446744073709551616 * q → ((i : Int) + 9223372036854775809) - 18446744073709551616 * q < 18446744073709551616 →
      chkD 39 [(((i : Int) + ((-18446744073709551616) * q)) + 1), 0, 9223372036854775807] ∧ ∀ z12 : Int, 0 ≤ z12 → z12 ≤ 1 → decide (z8 = 1) = decide (z12 = 1) →
       (I [[z6], [(((i : Int) + ((-18446744073709551616) * q)) + 1)], [z12]] ∧ M [[z6], [(((i : Int) + ((-18446744073709551616) * q)) + 1)], [z12]] < M [[z6], [(i : Int)], [z8]]) := fun hs q q0 q1 q2 q3 => by
    rw [wrap1 (L := ((sOf z1).length : Int)) (by omega) hL (Int.natCast_nonneg _) q0 q2]
    exact ⟨⟨by omega, by omega⟩, fun z12 _ _ h => hA hs z12 h⟩
  have ee : ∀ n : Int, 0 ≤ n → n ≤ 255 → decide (z10 = n) = (c == u8 n) := fun n h0 h1 => by
    rw [Bool.eq_iff_iff, decide_eq_true_eq, hc, u8_eq h0 h1]
  rw [ee 32 (by decide) (by decide), ee 45 (by decide) (by decide), ee 46 (by decide) (by decide), ee 40 (by decide) (by decide), ee 41 (by decide) (by decide)]
  refine ⟨fun h => hadv ?_, fun h1 => ⟨fun h => hadv ?_, fun h2 => ⟨fun h => hadv ?_, fun h3 => ⟨fun h => hadv ?_, fun h4 => ⟨fun h => hadv ?_, fun h5 => hK ?_⟩⟩⟩⟩⟩
  · rw [beq_iff_eq.1 h]; decide
  · rw [beq_iff_eq.1 h]; decide
  · rw [beq_iff_eq.1 h]; decide
  · rw [beq_iff_eq.1 h]; decide
  · rw [beq_iff_eq.1 h]; decide
  · have e : seps = [u8 32, u8 45, u8 46, u8 40, u8 41] := by decide
    rw [e]
    simp only [List.contains_cons, h1, h2, h3, h4, h5]
    rfl
theorem ctry_trunk {w c t : Tx} (h : ctry w = some (c, t)) : t = [] ∨ t = [48] := by
  unfold ctry at h
  cases h0 : (w == []) with
  | true => rw [h0, cond_true] at h; simp only [Option.some.injEq, Prod.mk.injEq] at h; rw [← h.2]; decide
  | false =>
    rw [h0, cond_false] at h
    cases h1 : (w == [71, 66]) with
    | true => rw [h1, cond_true] at h; simp only [Option.some.injEq, Prod.mk.injEq] at h; rw [← h.2]; decide
    | false =>
      rw [h1, cond_false] at h
      cases h2 : (w == [85, 83]) with
      | true => rw [h2, cond_true] at h; simp only [Option.some.injEq, Prod.mk.injEq] at h; rw [← h.2]; decide
      | false =>
        rw [h2, cond_false] at h
        cases h3 : (w == [68, 69]) with
        | true => rw [h3, cond_true] at h; simp only [Option.some.injEq, Prod.mk.injEq] at h; rw [← h.2]; decide
        | false =>
          rw [h3, cond_false] at h
          cases h4 : (w == [70, 82]) with
          | true => rw [h4, cond_true] at h; simp only [Option.some.injEq, Prod.mk.injEq] at h; rw [← h.2]; decide
          | false =>
            rw [h4, cond_false] at h
            cases h5 : (w == [67, 72]) with
            | true => rw [h5, cond_true] at h; simp only [Option.some.injEq, Prod.mk.injEq] at h; rw [← h.2]; decide
            | false =>
              rw [h5, cond_false] at h
              cases h
theorem p_rphone : B_rphone SB (KBv SB [.str, .int .i64 0 21] 13) := by
  intro z0 a0 a1 z1 b0 b1 hq z2 x0 x1 z3 y0 y1 z4 c0 c1 hc
  have hid : ∀ a e, (sOf a, e) = phoneF (sOf z0) (sOf z1) → SB 13 [[z0], [z1]] [[a], [e]] := fun _ _ h => h
  have hq : (sOf z1).length ≤ 4294967280 := hq
  have hc : (match ctry (sOf z0) with | some (code, trunk) => sOf z2 = code ∧ z3 = b01 (!trunk.isEmpty) ∧ z4 = 1 | none => sOf z2 = [] ∧ z3 = 0 ∧ z4 = 0) := hc
  have kk : ∀ e : Int, 0 ≤ e → e ≤ 21 → phoneF (sOf z0) (sOf z1) = ([], e) → KBv SB [.str, .int .i64 0 21] 13 [[z0], [z1]] [[0], [e]] := fun e e0 e1 h => kse (Int.le_refl _) HB_pos e0 e1 (hid _ _ (by rw [h]; rfl))
  cases hct : ctry (sOf z0) with
  | none =>
    rw [hct] at hc
    obtain ⟨_, _, rfl⟩ := hc
    exact ⟨fun _ => kk 7 (by decide) (by decide) (by unfold phoneF; rw [hct]), fun h => by simp at h⟩
  | some ct =>
    obtain ⟨code, trunk⟩ := ct
    rw [hct] at hc
    obtain ⟨hcc, htt, rfl⟩ := hc
    refine ⟨fun h => by simp at h, fun _ => ⟨BarI z1, BarM z1, ⟨0, 0, 0, rfl, Nat.zero_le _, Nat.zero_le _, rfl⟩, ?_⟩⟩
    rintro z6 d0 d1 z7 e0 e1 z8 f0 f1 ⟨i, d, p, e, hi, hdl, hb⟩ z9 g0 g1 h9
    obtain ⟨rfl, rfl, rfl⟩ : z6 = d ∧ z7 = i ∧ z8 = p := by simpa using e
    simp only [fnD] at h9
    have hL := len_lt b1
    refine ⟨fun hp => ?_, fun hp => ?_⟩
    · have hp : (i : Int) < z9 := by simpa using hp
      have hlt : i < (sOf z1).length := by omega
      refine ⟨⟨e0, by omega⟩, fun z10 i0 i1 h10 => ?_⟩
      have h10 : z10 = (((sOf z1).getD i 0).toNat : Int) := by rw [h10]; simp only [fnD, Int.toNat_natCast]
      have hst := bare_step (s := sOf z1) (d := sOf z6) (p := decide (z8 = 1)) hlt
      rw [hst] at hb
      have hD : isD ((sOf z1).getD i 0) = (decide (48 ≤ z10) && decide (z10 ≤ 57)) := by
        rw [h10]; unfold isD; rw [Bool.eq_iff_iff]; simp [Nat.ble_eq]; omega
      have e43 : decide (z10 = 43) = ((sOf z1).getD i 0 == 43) := by
        rw [Bool.eq_iff_iff, decide_eq_true_eq, h10, u8_eq (z := 43) (by decide) (by decide)]; rfl
      have kno : bareF (sOf z1) [] false = none → KBv SB [.str, .int .i64 0 21] 13 [[z0], [z1]] [[0], [2]] := fun h => kk 2 (by decide) (by decide) (by unfold phoneF; rw [hct]; simp only [h])
      -- neither a digit nor a sign ahead of them
      have hs : isD ((sOf z1).getD i 0) = false → ((sOf z1).getD i 0 == 43 && (sOf z6).isEmpty && !decide (z8 = 1)) = false → _ := fun hnd hn43 =>
        sepT (I := BarI z1) (M := BarM z1) (z6 := z6) (z8 := z8) b1 hlt h10 (fun hsep => kno (by rw [← hb, hnd, hn43, hsep]; rfl)) (fun hsep z13 h13 => BarI.next (d := z6) (p := z8) b1 hlt (by omega) (by rw [← h13, ← hb, hnd, hn43, hsep]; rfl))
      refine ⟨fun hA => ⟨fun hB q q0 q1 q2 q3 => ?_, fun hB => ?_⟩, fun hA => ?_⟩
      · rw [hA, hB] at hD
        rw [wrap1 (L := z9) hp g1 e0 q0 q2]
        refine ⟨⟨e0, by omega, by omega⟩, fun z12 j0 j1 h12 => ?_⟩
        have e12 : sOf z12 = [(sOf z1).getD i 0] := by
          rw [h12]; simp only [fnD, sOf_cOf]
          rw [show (i : Int).toNat = i by omega, show ((i : Int) + 1).toNat - i = 1 by omega, drop_cons_getD _ _ hlt]
          rfl
        refine ⟨?_, fun z13 k0 k1 h13 q' q0' q1' q2' q3' => ?_⟩
        · show (sOf z6).length + (sOf z12).length ≤ maxLen
          rw [e12]; unfold maxLen; simp; omega
        · have e13 : sOf z13 = sOf z6 ++ [(sOf z1).getD i 0] := by rw [h13]; simp only [fnD, sOf_cOf, e12]
          rw [wrap1 (L := z9) hp g1 e0 q0' q2']
          refine ⟨⟨by omega, by omega⟩, fun z15 l0 l1 h15 => BarI.next (d := z6) (p := z8) b1 hlt (by rw [e13]; simp; omega) ?_⟩
          rw [← h15, e13, ← hb, hD]; rfl
      · refine kno ?_
        have h57 : ¬ z10 ≤ 57 := by simpa using hB
        rw [hB, Bool.and_false] at hD
        have n43 : ((sOf z1).getD i 0 == 43) = false := by rw [← e43]; simp; omega
        rw [← hb, hD, n43]
        have : seps.contains ((sOf z1).getD i 0) = false := by
          cases hh : seps.contains ((sOf z1).getD i 0) with
          | false => rfl
          | true =>
            exfalso
            have hm : (sOf z1).getD i 0 ∈ seps := by simpa using hh
            have : ∀ c ∈ seps, c.toNat ≤ 57 := by decide
            have := this _ hm
            omega
        rw [this]; rfl
      · rw [hA, Bool.false_and] at hD
        rw [e43]
        refine ⟨fun h43 z11 j0 j1 h11 => ?_, fun h43 => hs hD (by rw [h43]; rfl)⟩
        rw [eq_nil h11]
        have hem : (sOf z6 == []) = (sOf z6).isEmpty := by cases sOf z6 <;> rfl
        rw [hem]
        refine ⟨fun he => ⟨fun hp8 q q0 q1 q2 q3 => ?_, fun hp8 => hs hD (by rw [hp8]; simp)⟩, fun he => hs hD (by rw [he]; simp)⟩
        rw [wrap1 (L := z9) hp g1 e0 q0 q2]
        refine ⟨⟨by omega, by omega⟩, BarI.next (d := z6) (p := z8) b1 hlt (by omega) ?_⟩
        rw [← hb, hD, h43, he, hp8]; rfl
    · have hp : ¬ (i : Int) < z9 := by simpa using hp
      rw [List.drop_of_length_le (by omega)] at hb
      have hbf : bareF (sOf z1) [] false = some (sOf z6, decide (z8 = 1)) := by rw [← hb, bareF]
      have hf : phoneF (sOf z0) (sOf z1) = phoneE (phoneN (sOf z0) code trunk (sOf z6) (decide (z8 = 1))) := by unfold phoneF; rw [hct]; simp only [hbf]
      have hcl := ctry_len hct
      refine ⟨fun h8 z10 i0 i1 h10 => ?_, fun h8 => phoneEnd (z := 0) _ 13 hid d0 d1 (by rw [hf]; unfold phoneN; rw [h8]; rfl)⟩
      rw [eq_nil h10]
      refine ⟨fun hw => ?_, fun hw => phoneEnd (z := 0) _ 13 hid d0 d1 (by
        rw [hf]; unfold phoneN
        have hw : (!(sOf z0 == [])) = false := hw
        rw [h8, hw]; rfl)⟩
      have hw : (!(sOf z0 == [])) = true := hw
      have hN : phoneN (sOf z0) code trunk (sOf z6) (decide (z8 = 1)) = code ++ cond (trunk.isPrefixOf (sOf z6)) ((sOf z6).drop trunk.length) (sOf z6) := by unfold phoneN; rw [h8, hw]; rfl
      rw [hN] at hf
      have hadd : ∀ x : Int, (sOf x).length ≤ (sOf z6).length → chkD 3 [z2, x] := fun x hx => by
        show (sOf z2).length + (sOf x).length ≤ maxLen
        rw [hcc]; unfold maxLen; omega
      have same : cond (trunk.isPrefixOf (sOf z6)) ((sOf z6).drop trunk.length) (sOf z6) = sOf z6 → chkD 3 [z2, z6] ∧ ∀ z13 : Int, 0 ≤ z13 → z13 ≤ HB → z13 = fnD 3 [z2, z6] → _ := fun hsame => ⟨hadd z6 (Nat.le_refl _), fun z13 j0 j1 h13 => phoneEnd (z := 0) _ 13 hid j0 j1 (by
        rw [hf, hsame, h13]; simp only [fnD, sOf_cOf, hcc])⟩
      rw [b01_dec htt]
      refine ⟨fun ht z11 j0 j1 h11 => ?_, fun ht => same ?_⟩
      · have ht48 : trunk = [48] := by
          rcases ctry_trunk hct with h | h
          · rw [h] at ht; cases ht
          · exact h
        simp only [fnD] at h11
        refine ⟨fun hpos => ⟨⟨Int.le_refl _, ?_⟩, fun z12 k0 k1 h12 => ?_⟩, fun hpos => same ?_⟩
        · have hpos : 0 < z11 := by simpa using hpos
          omega
        · have hpos : 0 < z11 := by simpa using hpos
          rw [byte_eq (n := 48) (k := 0) rfl (by decide) (by decide) h12]
          cases h6 : sOf z6 with
          | nil => rw [h6] at h11; simp at h11; omega
          | cons x r =>
            refine ⟨fun h48 z13 l0 l1 h13 => ?_, fun h48 => ?_⟩
            · have hx : x = 48 := beq_iff_eq.1 h48
              simp only [fnD, h6, List.length_cons] at h13
              refine ⟨⟨by omega, by omega, by rw [h6]; simp; omega⟩, fun z14 m0 m1 h14 => ?_⟩
              have e14 : sOf z14 = r := by
                rw [h14]; simp only [fnD, sOf_cOf, h6]
                rw [show (1 : Int).toNat = 1 from rfl, List.drop_one, List.tail_cons]
                exact List.take_of_length_le (by omega)
              refine ⟨hadd z14 (by rw [e14, h6]; simp), fun z15 n0 n1 h15 => phoneEnd (z := 0) _ 13 hid n0 n1 ?_⟩
              rw [hf, h15]; simp only [fnD, sOf_cOf, hcc, e14, ht48, h6, hx]
              simp
            · have hx : (x == 48) = false := h48
              have := same (by rw [ht48, h6]; simp [List.isPrefixOf, Bool.beq_comm, hx])
              exact this
        · have hpos : ¬ 0 < z11 := by simpa using hpos
          cases h6 : sOf z6 with
          | nil => rw [ht48]; rfl
          | cons x r => rw [h6] at h11; simp at h11; omega
      · have ht0 : trunk = [] := by
          rcases ctry_trunk hct with h | h
          · exact h
          · rw [h] at ht; cases ht
        rw [ht0]; simp
end Go.Ad
