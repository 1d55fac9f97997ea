/- AdVcJ: a part of the proof of statements of this seat. -/
import Derived.Test.YtcellhafdgmkjaaDoorAdVcI
import Derived.Test.YtcellhafdgmkjaaDoorAdBase
set_option maxRecDepth 100000
set_option linter.unusedVariables false
set_option linter.unusedSimpArgs false
namespace Go.Ad
open Go Go.Rx
def B_remail (S : Nat → List (List Int) → List (List Int) → Prop) (K : List (List Int) → List (List Int) → Prop) : Prop :=
 ∀ z0 : Int, 0 ≤ z0 → z0 ≤ HB → 
 ∃ (I1 : List (List Int) → Prop) (μ1 : List (List Int) → Nat), I1 [[z0]] ∧ (∀ z2 : Int, 0 ≤ z2 → z2 ≤ HB → I1 [[z2]] →
  ∀ z3 : Int, 0 ≤ z3 → z3 ≤ 9223372036854775807 → z3 = fnD 0 [z2] →
  (((decide (0 < z3)) = true →
   chkD 1 [z2, 0] ∧
   ∀ z4 : Int, 0 ≤ z4 → z4 ≤ 255 → z4 = fnD 1 [z2, 0] →
   (((decide (z4 = 32)) = true →
    ∀ z5 : Int, 0 ≤ z5 → z5 ≤ 9223372036854775807 → z5 = fnD 0 [z2] →
    chkD 2 [z2, 1, z5] ∧
    ∀ z6 : Int, 0 ≤ z6 → z6 ≤ HB → z6 = fnD 2 [z2, 1, z5] →
    (I1 [[z6]] ∧ μ1 [[z6]] < μ1 [[z2]])
   ) ∧ ((decide (z4 = 32)) = false →
    ∃ (I5 : List (List Int) → Prop) (μ5 : List (List Int) → Nat), I5 [[z2]] ∧ (∀ z6 : Int, 0 ≤ z6 → z6 ≤ HB → I5 [[z6]] →
     ∀ z7 : Int, 0 ≤ z7 → z7 ≤ 9223372036854775807 → z7 = fnD 0 [z6] →
     (((decide (0 < z7)) = true →
      ∀ z8 : Int, 0 ≤ z8 → z8 ≤ 9223372036854775807 → z8 = fnD 0 [z6] →
      chkD 1 [z6, (z8 + (-1))] ∧
      ∀ z9 : Int, 0 ≤ z9 → z9 ≤ 255 → z9 = fnD 1 [z6, (z8 + (-1))] →
      (((decide (z9 = 32)) = true →
       ∀ z10 : Int, 0 ≤ z10 → z10 ≤ 9223372036854775807 → z10 = fnD 0 [z6] →
       chkD 2 [z6, 0, (z10 + (-1))] ∧
       ∀ z11 : Int, 0 ≤ z11 → z11 ≤ HB → z11 = fnD 2 [z6, 0, (z10 + (-1))] →
       (I5 [[z11]] ∧ μ5 [[z11]] < μ5 [[z6]])
      ) ∧ ((decide (z9 = 32)) = false →
       ∃ (I10 : List (List Int) → Prop) (μ10 : List (List Int) → Nat), I10 [[0]] ∧ (∀ z11 : Int, 0 ≤ z11 → z11 ≤ 9223372036854775807 → I10 [[z11]] →
        ∀ z12 : Int, 0 ≤ z12 → z12 ≤ 9223372036854775807 → z12 = fnD 0 [z6] →
        (((decide (z11 < z12)) = true →
         chkD 1 [z6, z11] ∧
         ∀ z13 : Int, 0 ≤ z13 → z13 ≤ 255 → z13 = fnD 1 [z6, z11] →
         (((decide (z13 = 64)) = true →
          chkD 2 [z6, 0, z11] ∧
          ∀ z14 : Int, 0 ≤ z14 → z14 ≤ HB → z14 = fnD 2 [z6, 0, z11] →
          ∀ z15 : Int, 0 ≤ z15 → z15 ≤ 1 → S 29 [[z14]] [[z15]] →
          (((decide (z15 = 1)) = true →
           ∀ z16 : Int, 0 ≤ z16 → z16 ≤ 1 → 0 ≤ (z11 + 9223372036854775809) - 18446744073709551616 * z16 → (z11 + 9223372036854775809) - 18446744073709551616 * z16 < 18446744073709551616 →
           ∀ z17 : Int, 0 ≤ z17 → z17 ≤ 9223372036854775807 → z17 = fnD 0 [z6] →
           chkD 2 [z6, ((z11 + ((-18446744073709551616) * z16)) + 1), z17] ∧
           ∀ z18 : Int, 0 ≤ z18 → z18 ≤ HB → z18 = fnD 2 [z6, ((z11 + ((-18446744073709551616) * z16)) + 1), z17] →
           ∀ z19 : Int, 0 ≤ z19 → z19 ≤ 1 → S 30 [[z18]] [[z19]] →
           (((decide (z19 = 1)) = true →
            ∀ z20 : Int, 0 ≤ z20 → z20 ≤ 1 → 0 ≤ (z11 + 9223372036854775809) - 18446744073709551616 * z20 → (z11 + 9223372036854775809) - 18446744073709551616 * z20 < 18446744073709551616 →
            ∀ z21 : Int, 0 ≤ z21 → z21 ≤ 9223372036854775807 → z21 = fnD 0 [z6] →
            chkD 2 [z6, ((z11 + ((-18446744073709551616) * z20)) + 1), z21] ∧
            ∀ z22 : Int, 0 ≤ z22 → z22 ≤ HB → z22 = fnD 2 [z6, ((z11 + ((-18446744073709551616) * z20)) + 1), z21] →
            ∀ z23 : Int, 0 ≤ z23 → z23 ≤ 1 → S 31 [[z22], [46]] [[z23]] →
            (((decide (z23 = 1)) = true →
             ∀ z24 : Int, 0 ≤ z24 → z24 ≤ 9223372036854775807 → z24 = fnD 0 [z6] →
             (((decide (z24 ≤ 254)) = true →
              ∀ z25 : Int, 0 ≤ z25 → z25 ≤ HB → S 17 [[z6]] [[z25]] →
              K [[z0]] [[z25], [0]]
             ) ∧ ((decide (z24 ≤ 254)) = false →
              K [[z0]] [[0], [2]]
             ))
            ) ∧ ((decide (z23 = 1)) = false →
             K [[z0]] [[0], [2]]
            ))
           ) ∧ ((decide (z19 = 1)) = false →
            K [[z0]] [[0], [2]]
           ))
          ) ∧ ((decide (z15 = 1)) = false →
           K [[z0]] [[0], [2]]
          ))
         ) ∧ ((decide (z13 = 64)) = false →
          ∀ z14 : Int, 0 ≤ z14 → z14 ≤ 1 → 0 ≤ (z11 + 9223372036854775809) - 18446744073709551616 * z14 → (z11 + 9223372036854775809) - 18446744073709551616 * z14 < 18446744073709551616 →
          chkD 39 [((z11 + ((-18446744073709551616) * z14)) + 1), 0, 9223372036854775807] ∧
          (I10 [[((z11 + ((-18446744073709551616) * z14)) + 1)]] ∧ μ10 [[((z11 + ((-18446744073709551616) * z14)) + 1)]] < μ10 [[z11]])
         ))
        ) ∧ ((decide (z11 < z12)) = false →
         K [[z0]] [[0], [2]]
        ))
       )
      ))
     ) ∧ ((decide (0 < z7)) = false →
      ∃ (I8 : List (List Int) → Prop) (μ8 : List (List Int) → Nat), I8 [[0]] ∧ (∀ z9 : Int, 0 ≤ z9 → z9 ≤ 9223372036854775807 → I8 [[z9]] →
       ∀ z10 : Int, 0 ≤ z10 → z10 ≤ 9223372036854775807 → z10 = fnD 0 [z6] →
       (((decide (z9 < z10)) = true →
        chkD 1 [z6, z9] ∧
        ∀ z11 : Int, 0 ≤ z11 → z11 ≤ 255 → z11 = fnD 1 [z6, z9] →
        (((decide (z11 = 64)) = true →
         chkD 2 [z6, 0, z9] ∧
         ∀ z12 : Int, 0 ≤ z12 → z12 ≤ HB → z12 = fnD 2 [z6, 0, z9] →
         ∀ z13 : Int, 0 ≤ z13 → z13 ≤ 1 → S 29 [[z12]] [[z13]] →
         (((decide (z13 = 1)) = true →
          ∀ z14 : Int, 0 ≤ z14 → z14 ≤ 1 → 0 ≤ (z9 + 9223372036854775809) - 18446744073709551616 * z14 → (z9 + 9223372036854775809) - 18446744073709551616 * z14 < 18446744073709551616 →
          ∀ z15 : Int, 0 ≤ z15 → z15 ≤ 9223372036854775807 → z15 = fnD 0 [z6] →
          chkD 2 [z6, ((z9 + ((-18446744073709551616) * z14)) + 1), z15] ∧
          ∀ z16 : Int, 0 ≤ z16 → z16 ≤ HB → z16 = fnD 2 [z6, ((z9 + ((-18446744073709551616) * z14)) + 1), z15] →
          ∀ z17 : Int, 0 ≤ z17 → z17 ≤ 1 → S 30 [[z16]] [[z17]] →
          (((decide (z17 = 1)) = true →
           ∀ z18 : Int, 0 ≤ z18 → z18 ≤ 1 → 0 ≤ (z9 + 9223372036854775809) - 18446744073709551616 * z18 → (z9 + 9223372036854775809) - 18446744073709551616 * z18 < 18446744073709551616 →
           ∀ z19 : Int, 0 ≤ z19 → z19 ≤ 9223372036854775807 → z19 = fnD 0 [z6] →
           chkD 2 [z6, ((z9 + ((-18446744073709551616) * z18)) + 1), z19] ∧
           ∀ z20 : Int, 0 ≤ z20 → z20 ≤ HB → z20 = fnD 2 [z6, ((z9 + ((-18446744073709551616) * z18)) + 1), z19] →
           ∀ z21 : Int, 0 ≤ z21 → z21 ≤ 1 → S 31 [[z20], [46]] [[z21]] →
           (((decide (z21 = 1)) = true →
            ∀ z22 : Int, 0 ≤ z22 → z22 ≤ 9223372036854775807 → z22 = fnD 0 [z6] →
            (((decide (z22 ≤ 254)) = true →
             ∀ z23 : Int, 0 ≤ z23 → z23 ≤ HB → S 17 [[z6]] [[z23]] →
             K [[z0]] [[z23], [0]]
            ) ∧ ((decide (z22 ≤ 254)) = false →
             K [[z0]] [[0], [2]]
            ))
           ) ∧ ((decide (z21 = 1)) = false →
            K [[z0]] [[0], [2]]
           ))
          ) ∧ ((decide (z17 = 1)) = false →
           K [[z0]] [[0], [2]]
          ))
         ) ∧ ((decide (z13 = 1)) = false →
          K [[z0]] [[0], [2]]
         ))
        ) ∧ ((decide (z11 = 64)) = false →
         ∀ z12 : Int, 0 ≤ z12 → z12 ≤ 1 → 0 ≤ (z9 + 9223372036854775809) - 18446744073709551616 * z12 → (z9 + 9223372036854775809) - 18446744073709551616 * z12 < 18446744073709551616 →
         chkD 39 [((z9 + ((-18446744073709551616) * z12)) + 1), 0, 9223372036854775807] ∧
         (I8 [[((z9 + ((-18446744073709551616) * z12)) + 1)]] ∧ μ8 [[((z9 + ((-18446744073709551616) * z12)) + 1)]] < μ8 [[z9]])
        ))
       ) ∧ ((decide (z9 < z10)) = false →
        K [[z0]] [[0], [2]]
       ))
      )
     ))
    )
   ))
  ) ∧ ((decide (0 < z3)) = false →
   ∃ (I4 : List (List Int) → Prop) (μ4 : List (List Int) → Nat), I4 [[z2]] ∧ (∀ z5 : Int, 0 ≤ z5 → z5 ≤ HB → I4 [[z5]] →
    ∀ z6 : Int, 0 ≤ z6 → z6 ≤ 9223372036854775807 → z6 = fnD 0 [z5] →
    (((decide (0 < z6)) = true →
     ∀ z7 : Int, 0 ≤ z7 → z7 ≤ 9223372036854775807 → z7 = fnD 0 [z5] →
     chkD 1 [z5, (z7 + (-1))] ∧
     ∀ z8 : Int, 0 ≤ z8 → z8 ≤ 255 → z8 = fnD 1 [z5, (z7 + (-1))] →
     (((decide (z8 = 32)) = true →
      ∀ z9 : Int, 0 ≤ z9 → z9 ≤ 9223372036854775807 → z9 = fnD 0 [z5] →
      chkD 2 [z5, 0, (z9 + (-1))] ∧
      ∀ z10 : Int, 0 ≤ z10 → z10 ≤ HB → z10 = fnD 2 [z5, 0, (z9 + (-1))] →
      (I4 [[z10]] ∧ μ4 [[z10]] < μ4 [[z5]])
     ) ∧ ((decide (z8 = 32)) = false →
      ∃ (I9 : List (List Int) → Prop) (μ9 : List (List Int) → Nat), I9 [[0]] ∧ (∀ z10 : Int, 0 ≤ z10 → z10 ≤ 9223372036854775807 → I9 [[z10]] →
       ∀ z11 : Int, 0 ≤ z11 → z11 ≤ 9223372036854775807 → z11 = fnD 0 [z5] →
       (((decide (z10 < z11)) = true →
        chkD 1 [z5, z10] ∧
        ∀ z12 : Int, 0 ≤ z12 → z12 ≤ 255 → z12 = fnD 1 [z5, z10] →
        (((decide (z12 = 64)) = true →
         chkD 2 [z5, 0, z10] ∧
         ∀ z13 : Int, 0 ≤ z13 → z13 ≤ HB → z13 = fnD 2 [z5, 0, z10] →
         ∀ z14 : Int, 0 ≤ z14 → z14 ≤ 1 → S 29 [[z13]] [[z14]] →
         (((decide (z14 = 1)) = true →
          ∀ z15 : Int, 0 ≤ z15 → z15 ≤ 1 → 0 ≤ (z10 + 9223372036854775809) - 18446744073709551616 * z15 → (z10 + 9223372036854775809) - 18446744073709551616 * z15 < 18446744073709551616 →
          ∀ z16 : Int, 0 ≤ z16 → z16 ≤ 9223372036854775807 → z16 = fnD 0 [z5] →
          chkD 2 [z5, ((z10 + ((-18446744073709551616) * z15)) + 1), z16] ∧
          ∀ z17 : Int, 0 ≤ z17 → z17 ≤ HB → z17 = fnD 2 [z5, ((z10 + ((-18446744073709551616) * z15)) + 1), z16] →
          ∀ z18 : Int, 0 ≤ z18 → z18 ≤ 1 → S 30 [[z17]] [[z18]] →
          (((decide (z18 = 1)) = true →
           ∀ z19 : Int, 0 ≤ z19 → z19 ≤ 1 → 0 ≤ (z10 + 9223372036854775809) - 18446744073709551616 * z19 → (z10 + 9223372036854775809) - 18446744073709551616 * z19 < 18446744073709551616 →
           ∀ z20 : Int, 0 ≤ z20 → z20 ≤ 9223372036854775807 → z20 = fnD 0 [z5] →
           chkD 2 [z5, ((z10 + ((-18446744073709551616) * z19)) + 1), z20] ∧
           ∀ z21 : Int, 0 ≤ z21 → z21 ≤ HB → z21 = fnD 2 [z5, ((z10 + ((-18446744073709551616) * z19)) + 1), z20] →
           ∀ z22 : Int, 0 ≤ z22 → z22 ≤ 1 → S 31 [[z21], [46]] [[z22]] →
           (((decide (z22 = 1)) = true →
            ∀ z23 : Int, 0 ≤ z23 → z23 ≤ 9223372036854775807 → z23 = fnD 0 [z5] →
            (((decide (z23 ≤ 254)) = true →
             ∀ z24 : Int, 0 ≤ z24 → z24 ≤ HB → S 17 [[z5]] [[z24]] →
             K [[z0]] [[z24], [0]]
            ) ∧ ((decide (z23 ≤ 254)) = false →
             K [[z0]] [[0], [2]]
            ))
           ) ∧ ((decide (z22 = 1)) = false →
            K [[z0]] [[0], [2]]
           ))
          ) ∧ ((decide (z18 = 1)) = false →
           K [[z0]] [[0], [2]]
          ))
         ) ∧ ((decide (z14 = 1)) = false →
          K [[z0]] [[0], [2]]
         ))
        ) ∧ ((decide (z12 = 64)) = false →
         ∀ z13 : Int, 0 ≤ z13 → z13 ≤ 1 → 0 ≤ (z10 + 9223372036854775809) - 18446744073709551616 * z13 → (z10 + 9223372036854775809) - 18446744073709551616 * z13 < 18446744073709551616 →
         chkD 39 [((z10 + ((-18446744073709551616) * z13)) + 1), 0, 9223372036854775807] ∧
         (I9 [[((z10 + ((-18446744073709551616) * z13)) + 1)]] ∧ μ9 [[((z10 + ((-18446744073709551616) * z13)) + 1)]] < μ9 [[z10]])
        ))
       ) ∧ ((decide (z10 < z11)) = false →
        K [[z0]] [[0], [2]]
       ))
      )
     ))
    ) ∧ ((decide (0 < z6)) = false →
     ∃ (I7 : List (List Int) → Prop) (μ7 : List (List Int) → Nat), I7 [[0]] ∧ (∀ z8 : Int, 0 ≤ z8 → z8 ≤ 9223372036854775807 → I7 [[z8]] →
      ∀ z9 : Int, 0 ≤ z9 → z9 ≤ 9223372036854775807 → z9 = fnD 0 [z5] →
      (((decide (z8 < z9)) = true →
       chkD 1 [z5, z8] ∧
       ∀ z10 : Int, 0 ≤ z10 → z10 ≤ 255 → z10 = fnD 1 [z5, z8] →
       (((decide (z10 = 64)) = true →
        chkD 2 [z5, 0, z8] ∧
        ∀ z11 : Int, 0 ≤ z11 → z11 ≤ HB → z11 = fnD 2 [z5, 0, z8] →
        ∀ z12 : Int, 0 ≤ z12 → z12 ≤ 1 → S 29 [[z11]] [[z12]] →
        (((decide (z12 = 1)) = true →
         ∀ z13 : Int, 0 ≤ z13 → z13 ≤ 1 → 0 ≤ (z8 + 9223372036854775809) - 18446744073709551616 * z13 → (z8 + 9223372036854775809) - 18446744073709551616 * z13 < 18446744073709551616 →
         ∀ z14 : Int, 0 ≤ z14 → z14 ≤ 9223372036854775807 → z14 = fnD 0 [z5] →
         chkD 2 [z5, ((z8 + ((-18446744073709551616) * z13)) + 1), z14] ∧
         ∀ z15 : Int, 0 ≤ z15 → z15 ≤ HB → z15 = fnD 2 [z5, ((z8 + ((-18446744073709551616) * z13)) + 1), z14] →
         ∀ z16 : Int, 0 ≤ z16 → z16 ≤ 1 → S 30 [[z15]] [[z16]] →
         (((decide (z16 = 1)) = true →
          ∀ z17 : Int, 0 ≤ z17 → z17 ≤ 1 → 0 ≤ (z8 + 9223372036854775809) - 18446744073709551616 * z17 → (z8 + 9223372036854775809) - 18446744073709551616 * z17 < 18446744073709551616 →
          ∀ z18 : Int, 0 ≤ z18 → z18 ≤ 9223372036854775807 → z18 = fnD 0 [z5] →
          chkD 2 [z5, ((z8 + ((-18446744073709551616) * z17)) + 1), z18] ∧
          ∀ z19 : Int, 0 ≤ z19 → z19 ≤ HB → z19 = fnD 2 [z5, ((z8 + ((-18446744073709551616) * z17)) + 1), z18] →
          ∀ z20 : Int, 0 ≤ z20 → z20 ≤ 1 → S 31 [[z19], [46]] [[z20]] →
          (((decide (z20 = 1)) = true →
           ∀ z21 : Int, 0 ≤ z21 → z21 ≤ 9223372036854775807 → z21 = fnD 0 [z5] →
           (((decide (z21 ≤ 254)) = true →
            ∀ z22 : Int, 0 ≤ z22 → z22 ≤ HB → S 17 [[z5]] [[z22]] →
            K [[z0]] [[z22], [0]]
           ) ∧ ((decide (z21 ≤ 254)) = false →
            K [[z0]] [[0], [2]]
           ))
          ) ∧ ((decide (z20 = 1)) = false →
           K [[z0]] [[0], [2]]
          ))
         ) ∧ ((decide (z16 = 1)) = false →
          K [[z0]] [[0], [2]]
         ))
        ) ∧ ((decide (z12 = 1)) = false →
         K [[z0]] [[0], [2]]
        ))
       ) ∧ ((decide (z10 = 64)) = false →
        ∀ z11 : Int, 0 ≤ z11 → z11 ≤ 1 → 0 ≤ (z8 + 9223372036854775809) - 18446744073709551616 * z11 → (z8 + 9223372036854775809) - 18446744073709551616 * z11 < 18446744073709551616 →
        chkD 39 [((z8 + ((-18446744073709551616) * z11)) + 1), 0, 9223372036854775807] ∧
        (I7 [[((z8 + ((-18446744073709551616) * z11)) + 1)]] ∧ μ7 [[((z8 + ((-18446744073709551616) * z11)) + 1)]] < μ7 [[z8]])
       ))
      ) ∧ ((decide (z8 < z9)) = false →
       K [[z0]] [[0], [2]]
      ))
     )
    ))
   )
  ))
 )
theorem rtr_cons (p : UInt8 → Bool) (x : UInt8) (r : Tx) : rtr p (x :: r) = cond ((rtr p r).isEmpty) (cond (p x) [] [x]) (x :: rtr p r) := by
  unfold rtr
  rw [List.reverse_cons, List.dropWhile_append]
  cases hd : r.reverse.dropWhile p with
  | nil => cases hp : p x <;> simp [List.dropWhile_cons, hp]
  | cons y t =>
    have e : ((y :: t).reverse).isEmpty = false := by
      cases h : (y :: t).reverse with
      | nil => simp at h
      | cons a b => rfl
    rw [e, if_neg (by simp)]
    simp
theorem rtr_ltr (p : UInt8 → Bool) : ∀ s : Tx, rtr p (ltr p s) = ltr p (rtr p s)
  | [] => rfl
  | x :: r => by
    have ih := rtr_ltr p r
    rw [rtr_cons]
    cases hp : p x with
    | true =>
      have e : ltr p (x :: r) = ltr p r := by simp [ltr, List.dropWhile_cons, hp]
      rw [e, ih]
      cases hr : rtr p r with
      | nil => simp [ltr]
      | cons y t => simp [ltr, List.dropWhile_cons, hp]
    | false =>
      have e : ltr p (x :: r) = x :: r := by simp [ltr, List.dropWhile_cons, hp]
      rw [e, rtr_cons]
      cases hr : rtr p r with
      | nil => simp [ltr, List.dropWhile_cons, hp]
      | cons y t => simp [ltr, List.dropWhile_cons, hp]
theorem idx_at {c : Int} (h0 : 0 ≤ c) (h1 : c ≤ 255) {l : Tx} {i : Nat} (hi : i < l.length) (he : l.getD i 0 = u8 c) (hb : ∀ j, j < i → l.getD j 0 ≠ u8 c) : idx c l = (i : Int) := by
  rcases idx_cases h0 h1 l with ⟨_, h2⟩ | ⟨h2, h3, h4, _, h5⟩
  · refine absurd ?_ h2
    rw [← he]
    simp [List.getD, hi]
  · rcases Nat.lt_trichotomy i (idx c l).toNat with h | h | h
    · exact absurd he (h5 i h)
    · omega
    · exact absurd h4 (hb _ h)
theorem idx_no {c : Int} (h0 : 0 ≤ c) (h1 : c ≤ 255) {l : Tx} (hb : ∀ j, j < l.length → l.getD j 0 ≠ u8 c) : idx c l = -1 := by
  rcases idx_cases h0 h1 l with ⟨h2, _⟩ | ⟨h2, h3, h4, _, h5⟩
  · exact h2
  · exact absurd h4 (hb _ h3)
theorem remail_in {z0 z6 : Int} (a1 : z6 ≤ HB) (hz : emailF (sOf z0) = emailT (sOf z6)) :
       ∃ (I10 : List (List Int) → Prop) (μ10 : List (List Int) → Nat), I10 [[0]] ∧ (∀ z11 : Int, 0 ≤ z11 → z11 ≤ 9223372036854775807 → I10 [[z11]] →
        ∀ z12 : Int, 0 ≤ z12 → z12 ≤ 9223372036854775807 → z12 = fnD 0 [z6] →
        (((decide (z11 < z12)) = true →
         chkD 1 [z6, z11] ∧
         ∀ z13 : Int, 0 ≤ z13 → z13 ≤ 255 → z13 = fnD 1 [z6, z11] →
         (((decide (z13 = 64)) = true →
          chkD 2 [z6, 0, z11] ∧
          ∀ z14 : Int, 0 ≤ z14 → z14 ≤ HB → z14 = fnD 2 [z6, 0, z11] →
          ∀ z15 : Int, 0 ≤ z15 → z15 ≤ 1 → SB 29 [[z14]] [[z15]] →
          (((decide (z15 = 1)) = true →
           ∀ z16 : Int, 0 ≤ z16 → z16 ≤ 1 → 0 ≤ (z11 + 9223372036854775809) - 18446744073709551616 * z16 → (z11 + 9223372036854775809) - 18446744073709551616 * z16 < 18446744073709551616 →
           ∀ z17 : Int, 0 ≤ z17 → z17 ≤ 9223372036854775807 → z17 = fnD 0 [z6] →
           chkD 2 [z6, ((z11 + ((-18446744073709551616) * z16)) + 1), z17] ∧
           ∀ z18 : Int, 0 ≤ z18 → z18 ≤ HB → z18 = fnD 2 [z6, ((z11 + ((-18446744073709551616) * z16)) + 1), z17] →
           ∀ z19 : Int, 0 ≤ z19 → z19 ≤ 1 → SB 30 [[z18]] [[z19]] →
           (((decide (z19 = 1)) = true →
            ∀ z20 : Int, 0 ≤ z20 → z20 ≤ 1 → 0 ≤ (z11 + 9223372036854775809) - 18446744073709551616 * z20 → (z11 + 9223372036854775809) - 18446744073709551616 * z20 < 18446744073709551616 →
            ∀ z21 : Int, 0 ≤ z21 → z21 ≤ 9223372036854775807 → z21 = fnD 0 [z6] →
            chkD 2 [z6, ((z11 + ((-18446744073709551616) * z20)) + 1), z21] ∧
            ∀ z22 : Int, 0 ≤ z22 → z22 ≤ HB → z22 = fnD 2 [z6, ((z11 + ((-18446744073709551616) * z20)) + 1), z21] →
            ∀ z23 : Int, 0 ≤ z23 → z23 ≤ 1 → SB 31 [[z22], [46]] [[z23]] →
            (((decide (z23 = 1)) = true →
             ∀ z24 : Int, 0 ≤ z24 → z24 ≤ 9223372036854775807 → z24 = fnD 0 [z6] →
             (((decide (z24 ≤ 254)) = true →
              ∀ z25 : Int, 0 ≤ z25 → z25 ≤ HB → SB 17 [[z6]] [[z25]] →
              KBv SB [.str, .int .i64 0 21] 11 [[z0]] [[z25], [0]]
             ) ∧ ((decide (z24 ≤ 254)) = false →
              KBv SB [.str, .int .i64 0 21] 11 [[z0]] [[0], [2]]
             ))
            ) ∧ ((decide (z23 = 1)) = false →
             KBv SB [.str, .int .i64 0 21] 11 [[z0]] [[0], [2]]
            ))
           ) ∧ ((decide (z19 = 1)) = false →
            KBv SB [.str, .int .i64 0 21] 11 [[z0]] [[0], [2]]
           ))
          ) ∧ ((decide (z15 = 1)) = false →
           KBv SB [.str, .int .i64 0 21] 11 [[z0]] [[0], [2]]
          ))
         ) ∧ ((decide (z13 = 64)) = false →
          ∀ z14 : Int, 0 ≤ z14 → z14 ≤ 1 → 0 ≤ (z11 + 9223372036854775809) - 18446744073709551616 * z14 → (z11 + 9223372036854775809) - 18446744073709551616 * z14 < 18446744073709551616 →
          chkD 39 [((z11 + ((-18446744073709551616) * z14)) + 1), 0, 9223372036854775807] ∧
          (I10 [[((z11 + ((-18446744073709551616) * z14)) + 1)]] ∧ μ10 [[((z11 + ((-18446744073709551616) * z14)) + 1)]] < μ10 [[z11]])
         ))
        ) ∧ ((decide (z11 < z12)) = false →
         KBv SB [.str, .int .i64 0 21] 11 [[z0]] [[0], [2]]
        ))
       ) := by
  have kk : emailT (sOf z6) = ([], 2) → KBv SB [.str, .int .i64 0 21] 11 [[z0]] [[0], [2]] := fun h => kse (Int.le_refl _) HB_pos (by decide) (by decide) (by
    show (sOf 0, (2 : Int)) = emailF (sOf z0)
    rw [hz, h]; rfl)
  refine ⟨fun bl => ∃ i : Nat, bl = [[(i : Int)]] ∧ i ≤ (sOf z6).length ∧ ∀ j, j < i → (sOf z6).getD j 0 ≠ u8 64, fun bl => (sOf z6).length - ((bl.getD 0 []).getD 0 0).toNat, ⟨0, rfl, Nat.zero_le _, fun j hj => by omega⟩, ?_⟩
  rintro z11 b0 b1 ⟨i, e, hi, hall⟩ z12 c0 c1 h12
  obtain rfl : z11 = i := by simpa using e
  simp only [fnD] at h12
  refine ⟨fun hp => ?_, fun hp => kk ?_⟩
  · have hp : (i : Int) < z12 := by simpa using hp
    have hlt : i < (sOf z6).length := by omega
    refine ⟨⟨b0, by omega⟩, fun z13 d0 d1 h13 => ?_⟩
    rw [byte_eq (n := 64) (k := i) rfl (by decide) (by decide) h13]
    refine ⟨fun h64 => ⟨⟨by omega, b0, by omega⟩, fun z14 e0 e1 h14 z15 f0 f1 h15 => ?_⟩, fun h64 q q0 q1 q2 q3 => ?_⟩
    · have hx : idx 64 (sOf z6) = (i : Int) := idx_at (by decide) (by decide) hlt (beq_iff_eq.1 h64) hall
      have e14 : sOf z14 = (sOf z6).take i := by rw [h14]; simp [fnD, sOf_cOf]
      have h15 : z15 = b01 (localb (sOf z14)) := h15
      rw [b01_dec h15, e14]
      have hd : ∀ q x, 0 ≤ q → 0 ≤ (i : Int) + 9223372036854775809 - 18446744073709551616 * q → z12 = fnD 0 [z6] → x = fnD 2 [z6, ((i : Int) + -18446744073709551616 * q) + 1, z12] → sOf x = (sOf z6).drop (i + 1) := fun q x q0 q2 _ hx => by
        rw [wrap1 (L := z12) hp c1 b0 q0 q2] at hx
        rw [hx]; simp only [fnD, sOf_cOf]
        rw [show ((i : Int) + 1).toNat = i + 1 by omega]
        exact List.take_of_length_le (by simp; omega)
      have hx' : emailT (sOf z6) = cond (Nat.ble (sOf z6).length 254 && localb ((sOf z6).take i) && hostb ((sOf z6).drop (i + 1)) && ((sOf z6).drop (i + 1)).contains 46) (lower (sOf z6), 0) ([], 2) := by
        unfold emailT
        rw [hx, show decide (0 ≤ (i : Int)) = true by simp, Int.toNat_natCast, Bool.true_and]
      refine ⟨fun hl q q0 q1 q2 q3 z17 g0 g1 h17 => ?_, fun hl => kk (by rw [hx', hl]; simp)⟩
      have h17' := h17
      simp only [fnD] at h17'
      have ez : z17 = z12 := by omega
      refine ⟨?_, fun z18 i0 i1 h18 z19 j0 j1 h19 => ?_⟩
      · rw [wrap1 (L := z12) hp c1 b0 q0 q2]; exact ⟨by omega, by omega, by omega⟩
      · have e18 := hd q z18 q0 q2 (by rw [← ez]; exact h17) (by rw [← ez]; exact h18)
        have h19 : z19 = b01 (hostb (sOf z18)) := h19
        rw [b01_dec h19, e18]
        refine ⟨fun hh q' q0' q1' q2' q3' z21 k0 k1 h21 => ?_, fun hh => kk (by rw [hx', hh]; simp)⟩
        have h21' := h21
        simp only [fnD] at h21'
        have ez' : z21 = z12 := by omega
        refine ⟨?_, fun z22 l0 l1 h22 z23 m0 m1 h23 => ?_⟩
        · rw [wrap1 (L := z12) hp c1 b0 q0' q2']; exact ⟨by omega, by omega, by omega⟩
        · have e22 := hd q' z22 q0' q2' (by rw [← ez']; exact h21) (by rw [← ez']; exact h22)
          have h23 : z23 = b01 ((sOf z22).contains (u8 46)) := h23
          rw [b01_dec h23, e22]
          refine ⟨fun hc z24 n0 n1 h24 => ?_, fun hc => kk (by rw [hx', show ((sOf z6).drop (i + 1)).contains 46 = false from hc]; simp)⟩
          rw [len_dec (n := 254) 254 rfl h24]
          refine ⟨fun hq z25 o0 o1 h25 => kse o0 o1 (by decide) (by decide) ?_, fun hq => kk (by rw [hx', hq]; simp)⟩
          have h25 : sOf z25 = lower (sOf z6) := h25
          show (sOf z25, (0 : Int)) = emailF (sOf z0)
          rw [hz, hx', hq, hl, hh, show ((sOf z6).drop (i + 1)).contains 46 = true from hc, h25]; rfl
    · rw [wrap1 (L := z12) hp c1 b0 q0 q2]
      refine ⟨⟨by omega, by omega⟩, ⟨i + 1, by simp, by omega, fun j hj => ?_⟩, ?_⟩
      · by_cases hj' : j = i
        · subst hj'; intro he; rw [he] at h64; simp at h64
        · exact hall j (by omega)
      · show (sOf z6).length - ((i : Int) + 1).toNat < (sOf z6).length - (i : Int).toNat
        omega
  · have hp : ¬ (i : Int) < z12 := by simpa using hp
    have := idx_no (c := 64) (by decide) (by decide) (l := sOf z6) fun j hj => hall j (by omega)
    unfold emailT; rw [this]; rfl
theorem p_remail : B_remail SB (KBv SB [.str, .int .i64 0 21] 11) := by
  intro z0 a0 a1
  -- behind both trims
  have two : ∀ z6 : Int, z6 ≤ HB → sOf z6 = rtr (· == 32) (ltr (· == 32) (sOf z0)) → _ := fun z6 h1 he => remail_in (z0 := z0) (z6 := z6) h1 (by unfold emailF trimS; rw [he, rtr_ltr])
  have one : ∀ z2 : Int, 0 ≤ z2 → z2 ≤ HB → sOf z2 = ltr (· == 32) (sOf z0) →
    ∃ (I5 : List (List Int) → Prop) (μ5 : List (List Int) → Nat), I5 [[z2]] ∧ (∀ z6 : Int, 0 ≤ z6 → z6 ≤ HB → I5 [[z6]] →
     ∀ z7 : Int, 0 ≤ z7 → z7 ≤ 9223372036854775807 → z7 = fnD 0 [z6] →
     (((decide (0 < z7)) = true →
      ∀ z8 : Int, 0 ≤ z8 → z8 ≤ 9223372036854775807 → z8 = fnD 0 [z6] →
      chkD 1 [z6, (z8 + (-1))] ∧
      ∀ z9 : Int, 0 ≤ z9 → z9 ≤ 255 → z9 = fnD 1 [z6, (z8 + (-1))] →
      (((decide (z9 = 32)) = true →
       ∀ z10 : Int, 0 ≤ z10 → z10 ≤ 9223372036854775807 → z10 = fnD 0 [z6] →
       chkD 2 [z6, 0, (z10 + (-1))] ∧
       ∀ z11 : Int, 0 ≤ z11 → z11 ≤ HB → z11 = fnD 2 [z6, 0, (z10 + (-1))] →
       (I5 [[z11]] ∧ μ5 [[z11]] < μ5 [[z6]])
      ) ∧ ((decide (z9 = 32)) = false →
       ∃ (I10 : List (List Int) → Prop) (μ10 : List (List Int) → Nat), I10 [[0]] ∧ (∀ z11 : Int, 0 ≤ z11 → z11 ≤ 9223372036854775807 → I10 [[z11]] →
        ∀ z12 : Int, 0 ≤ z12 → z12 ≤ 9223372036854775807 → z12 = fnD 0 [z6] →
        (((decide (z11 < z12)) = true →
         chkD 1 [z6, z11] ∧
         ∀ z13 : Int, 0 ≤ z13 → z13 ≤ 255 → z13 = fnD 1 [z6, z11] →
         (((decide (z13 = 64)) = true →
          chkD 2 [z6, 0, z11] ∧
          ∀ z14 : Int, 0 ≤ z14 → z14 ≤ HB → z14 = fnD 2 [z6, 0, z11] →
          ∀ z15 : Int, 0 ≤ z15 → z15 ≤ 1 → SB 29 [[z14]] [[z15]] →
          (((decide (z15 = 1)) = true →
           ∀ z16 : Int, 0 ≤ z16 → z16 ≤ 1 → 0 ≤ (z11 + 9223372036854775809) - 18446744073709551616 * z16 → (z11 + 9223372036854775809) - 18446744073709551616 * z16 < 18446744073709551616 →
           ∀ z17 : Int, 0 ≤ z17 → z17 ≤ 9223372036854775807 → z17 = fnD 0 [z6] →
           chkD 2 [z6, ((z11 + ((-18446744073709551616) * z16)) + 1), z17] ∧
           ∀ z18 : Int, 0 ≤ z18 → z18 ≤ HB → z18 = fnD 2 [z6, ((z11 + ((-18446744073709551616) * z16)) + 1), z17] →
           ∀ z19 : Int, 0 ≤ z19 → z19 ≤ 1 → SB 30 [[z18]] [[z19]] →
           (((decide (z19 = 1)) = true →
            ∀ z20 : Int, 0 ≤ z20 → z20 ≤ 1 → 0 ≤ (z11 + 9223372036854775809) - 18446744073709551616 * z20 → (z11 + 9223372036854775809) - 18446744073709551616 * z20 < 18446744073709551616 →
            ∀ z21 : Int, 0 ≤ z21 → z21 ≤ 9223372036854775807 → z21 = fnD 0 [z6] →
            chkD 2 [z6, ((z11 + ((-18446744073709551616) * z20)) + 1), z21] ∧
            ∀ z22 : Int, 0 ≤ z22 → z22 ≤ HB → z22 = fnD 2 [z6, ((z11 + ((-18446744073709551616) * z20)) + 1), z21] →
            ∀ z23 : Int, 0 ≤ z23 → z23 ≤ 1 → SB 31 [[z22], [46]] [[z23]] →
            (((decide (z23 = 1)) = true →
             ∀ z24 : Int, 0 ≤ z24 → z24 ≤ 9223372036854775807 → z24 = fnD 0 [z6] →
             (((decide (z24 ≤ 254)) = true →
              ∀ z25 : Int, 0 ≤ z25 → z25 ≤ HB → SB 17 [[z6]] [[z25]] →
              KBv SB [.str, .int .i64 0 21] 11 [[z0]] [[z25], [0]]
             ) ∧ ((decide (z24 ≤ 254)) = false →
              KBv SB [.str, .int .i64 0 21] 11 [[z0]] [[0], [2]]
             ))
            ) ∧ ((decide (z23 = 1)) = false →
             KBv SB [.str, .int .i64 0 21] 11 [[z0]] [[0], [2]]
            ))
           ) ∧ ((decide (z19 = 1)) = false →
            KBv SB [.str, .int .i64 0 21] 11 [[z0]] [[0], [2]]
           ))
          ) ∧ ((decide (z15 = 1)) = false →
           KBv SB [.str, .int .i64 0 21] 11 [[z0]] [[0], [2]]
          ))
         ) ∧ ((decide (z13 = 64)) = false →
          ∀ z14 : Int, 0 ≤ z14 → z14 ≤ 1 → 0 ≤ (z11 + 9223372036854775809) - 18446744073709551616 * z14 → (z11 + 9223372036854775809) - 18446744073709551616 * z14 < 18446744073709551616 →
          chkD 39 [((z11 + ((-18446744073709551616) * z14)) + 1), 0, 9223372036854775807] ∧
          (I10 [[((z11 + ((-18446744073709551616) * z14)) + 1)]] ∧ μ10 [[((z11 + ((-18446744073709551616) * z14)) + 1)]] < μ10 [[z11]])
         ))
        ) ∧ ((decide (z11 < z12)) = false →
         KBv SB [.str, .int .i64 0 21] 11 [[z0]] [[0], [2]]
        ))
       )
      ))
     ) ∧ ((decide (0 < z7)) = false →
      ∃ (I8 : List (List Int) → Prop) (μ8 : List (List Int) → Nat), I8 [[0]] ∧ (∀ z9 : Int, 0 ≤ z9 → z9 ≤ 9223372036854775807 → I8 [[z9]] →
       ∀ z10 : Int, 0 ≤ z10 → z10 ≤ 9223372036854775807 → z10 = fnD 0 [z6] →
       (((decide (z9 < z10)) = true →
        chkD 1 [z6, z9] ∧
        ∀ z11 : Int, 0 ≤ z11 → z11 ≤ 255 → z11 = fnD 1 [z6, z9] →
        (((decide (z11 = 64)) = true →
         chkD 2 [z6, 0, z9] ∧
         ∀ z12 : Int, 0 ≤ z12 → z12 ≤ HB → z12 = fnD 2 [z6, 0, z9] →
         ∀ z13 : Int, 0 ≤ z13 → z13 ≤ 1 → SB 29 [[z12]] [[z13]] →
         (((decide (z13 = 1)) = true →
          ∀ z14 : Int, 0 ≤ z14 → z14 ≤ 1 → 0 ≤ (z9 + 9223372036854775809) - 18446744073709551616 * z14 → (z9 + 9223372036854775809) - 18446744073709551616 * z14 < 18446744073709551616 →
          ∀ z15 : Int, 0 ≤ z15 → z15 ≤ 9223372036854775807 → z15 = fnD 0 [z6] →
          chkD 2 [z6, ((z9 + ((-18446744073709551616) * z14)) + 1), z15] ∧
          ∀ z16 : Int, 0 ≤ z16 → z16 ≤ HB → z16 = fnD 2 [z6, ((z9 + ((-18446744073709551616) * z14)) + 1), z15] →
          ∀ z17 : Int, 0 ≤ z17 → z17 ≤ 1 → SB 30 [[z16]] [[z17]] →
          (((decide (z17 = 1)) = true →
           ∀ z18 : Int, 0 ≤ z18 → z18 ≤ 1 → 0 ≤ (z9 + 9223372036854775809) - 18446744073709551616 * z18 → (z9 + 9223372036854775809) - 18446744073709551616 * z18 < 18446744073709551616 →
           ∀ z19 : Int, 0 ≤ z19 → z19 ≤ 9223372036854775807 → z19 = fnD 0 [z6] →
           chkD 2 [z6, ((z9 + ((-18446744073709551616) * z18)) + 1), z19] ∧
           ∀ z20 : Int, 0 ≤ z20 → z20 ≤ HB → z20 = fnD 2 [z6, ((z9 + ((-18446744073709551616) * z18)) + 1), z19] →
           ∀ z21 : Int, 0 ≤ z21 → z21 ≤ 1 → SB 31 [[z20], [46]] [[z21]] →
           (((decide (z21 = 1)) = true →
            ∀ z22 : Int, 0 ≤ z22 → z22 ≤ 9223372036854775807 → z22 = fnD 0 [z6] →
            (((decide (z22 ≤ 254)) = true →
             ∀ z23 : Int, 0 ≤ z23 → z23 ≤ HB → SB 17 [[z6]] [[z23]] →
             KBv SB [.str, .int .i64 0 21] 11 [[z0]] [[z23], [0]]
            ) ∧ ((decide (z22 ≤ 254)) = false →
             KBv SB [.str, .int .i64 0 21] 11 [[z0]] [[0], [2]]
            ))
           ) ∧ ((decide (z21 = 1)) = false →
            KBv SB [.str, .int .i64 0 21] 11 [[z0]] [[0], [2]]
           ))
          ) ∧ ((decide (z17 = 1)) = false →
           KBv SB [.str, .int .i64 0 21] 11 [[z0]] [[0], [2]]
          ))
         ) ∧ ((decide (z13 = 1)) = false →
          KBv SB [.str, .int .i64 0 21] 11 [[z0]] [[0], [2]]
         ))
        ) ∧ ((decide (z11 = 64)) = false →
         ∀ z12 : Int, 0 ≤ z12 → z12 ≤ 1 → 0 ≤ (z9 + 9223372036854775809) - 18446744073709551616 * z12 → (z9 + 9223372036854775809) - 18446744073709551616 * z12 < 18446744073709551616 →
         chkD 39 [((z9 + ((-18446744073709551616) * z12)) + 1), 0, 9223372036854775807] ∧
         (I8 [[((z9 + ((-18446744073709551616) * z12)) + 1)]] ∧ μ8 [[((z9 + ((-18446744073709551616) * z12)) + 1)]] < μ8 [[z9]])
        ))
       ) ∧ ((decide (z9 < z10)) = false →
        KBv SB [.str, .int .i64 0 21] 11 [[z0]] [[0], [2]]
       ))
      )
     ))
    ) := fun z2 h0 h1 he => (by
    refine ⟨fun bl => ∃ z, bl = [[z]] ∧ rtr (· == 32) (sOf z) = rtr (· == 32) (sOf z2), fun bl => (sOf ((bl.getD 0 []).getD 0 0)).length, ⟨z2, rfl, rfl⟩, ?_⟩
    rintro z3 c0 c1 ⟨z, e, hz⟩
    obtain rfl : z3 = z := by simpa using e
    intro z4 d0 d1 hz4
    simp only [fnD] at hz4
    by_cases hl : sOf z3 = []
    · rw [hl] at hz4 hz
      simp only [List.length_nil] at hz4
      subst hz4
      refine ⟨fun hp => by simp at hp, fun _ => two z3 c1 ?_⟩
      rw [hl, ← he, ← hz]; rfl
    · obtain ⟨r, x, hl⟩ := snoc_of hl
      rw [hl] at hz4 hz
      simp only [List.length_append, List.length_cons, List.length_nil] at hz4
      refine ⟨fun _ => ?_, fun hp => by simp at hp; omega⟩
      intro z5 e0 e1 hz5
      simp only [fnD, hl, List.length_append, List.length_cons, List.length_nil] at hz5
      refine ⟨⟨by omega, by rw [hl]; simp only [List.length_append, List.length_cons, List.length_nil]; omega⟩, ?_⟩
      intro z6 f0 f1 hz6
      rw [byte_eq (n := 32) (k := r.length) (by omega) (by decide) (by decide) hz6, hl, getD_last]
      refine ⟨fun he' => ?_, fun he' => two z3 c1 ?_⟩
      · have he' : (x == 32) = true := he'
        intro z7 f0 f1 hz7
        simp only [fnD, hl, List.length_append, List.length_cons, List.length_nil] at hz7
        have ht7 : (z7 + -1).toNat = r.length := by omega
        refine ⟨⟨by omega, by omega, by rw [hl]; simp only [List.length_append, List.length_cons, List.length_nil]; omega⟩, ?_⟩
        intro z8 g0 g1 hz8
        have hr : sOf z8 = r := by
          rw [hz8]; simp only [fnD, sOf_cOf, hl, ht7]
          simp
        refine ⟨⟨z8, rfl, ?_⟩, ?_⟩
        · rw [hr, ← hz, rtr_snoc, he', cond_true]
        · show (sOf z8).length < (sOf z3).length
          rw [hr, hl]; simp
      · have he' : (x == 32) = false := he'
        rw [hl, ← he, ← hz, rtr_snoc, he', cond_false])
  refine ⟨fun bl => ∃ z, bl = [[z]] ∧ ltr (· == 32) (sOf z) = ltr (· == 32) (sOf z0), fun bl => (sOf ((bl.getD 0 []).getD 0 0)).length, ⟨z0, rfl, rfl⟩, ?_⟩
  rintro z3 c0 c1 ⟨z, e, hz⟩
  obtain rfl : z3 = z := by simpa using e
  intro z4 d0 d1 hz4
  simp only [fnD] at hz4
  cases hl : sOf z3 with
  | nil =>
    rw [hl] at hz4 hz
    simp only [List.length_nil] at hz4
    subst hz4
    refine ⟨fun hp => by simp at hp, fun _ => one z3 c0 c1 ?_⟩
    rw [hl, ← hz]; rfl
  | cons x r =>
    rw [hl] at hz4 hz
    simp only [List.length_cons] at hz4
    refine ⟨fun _ => ⟨⟨Int.le_refl _, by rw [hl]; simp only [List.length_cons]; omega⟩, ?_⟩, fun hp => by simp at hp; omega⟩
    intro z5 e0 e1 hz5
    rw [byte_eq (n := 32) (k := 0) rfl (by decide) (by decide) hz5, hl]
    refine ⟨fun he => ?_, fun he => one z3 c0 c1 ?_⟩
    · have he : (x == 32) = true := he
      intro z6 f0 f1 hz6
      simp only [fnD, hl, List.length_cons] at hz6
      refine ⟨⟨by omega, by omega, by rw [hl]; simp only [List.length_cons]; omega⟩, ?_⟩
      intro z7 g0 g1 hz7
      have hr : sOf z7 = r := by
        rw [hz7]; simp only [fnD, sOf_cOf, hl]
        rw [show (1 : Int).toNat = 1 from rfl, List.drop_one, List.tail_cons]
        exact List.take_of_length_le (by omega)
      refine ⟨⟨z7, rfl, ?_⟩, ?_⟩
      · rw [hr, ← hz]; simp only [ltr, List.dropWhile_cons, he, if_true]
      · show (sOf z7).length < (sOf z3).length
        rw [hr, hl]; simp
    · have he : (x == 32) = false := he
      rw [hl, ← hz]; simp [ltr, List.dropWhile_cons, he]
end Go.Ad
