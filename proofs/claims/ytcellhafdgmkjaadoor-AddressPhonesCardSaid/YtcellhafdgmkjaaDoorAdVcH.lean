/- AdVcH: a part of the proof of statements of this seat. -/
import Derived.Test.YtcellhafdgmkjaaDoorAdVcG
import Derived.Test.YtcellhafdgmkjaaDoorAdBase
set_option maxRecDepth 100000
set_option linter.unusedVariables false
set_option linter.unusedSimpArgs false
namespace Go.Ad
open Go Go.Rx
def B_rhost (S : Nat → List (List Int) → List (List Int) → Prop) (K : List (List Int) → List (List Int) → Prop) : Prop :=
 ∀ z0 : Int, 0 ≤ z0 → z0 ≤ HB → 
 ∀ z1 : Int, 0 ≤ z1 → z1 ≤ 9223372036854775807 → z1 = fnD 0 [z0] →
 (((decide (z1 < 1)) = true →
  K [[z0]] [[(cond (false) 1 0)]]
 ) ∧ ((decide (z1 < 1)) = false →
  ∀ z2 : Int, 0 ≤ z2 → z2 ≤ 9223372036854775807 → z2 = fnD 0 [z0] →
  (((decide (230 < z2)) = true →
   K [[z0]] [[(cond (false) 1 0)]]
  ) ∧ ((decide (230 < z2)) = false →
   ∃ (I3 : List (List Int) → Prop) (μ3 : List (List Int) → Nat), I3 [[0]] ∧ (∀ z4 : Int, 0 ≤ z4 → z4 ≤ 9223372036854775807 → I3 [[z4]] →
    ∀ z5 : Int, 0 ≤ z5 → z5 ≤ 9223372036854775807 → z5 = fnD 0 [z0] →
    (((decide (z4 < z5)) = true →
     chkD 1 [z0, z4] ∧
     ∀ z6 : Int, 0 ≤ z6 → z6 ≤ 255 → z6 = fnD 1 [z0, z4] →
     (((decide (z6 = 46)) = true →
      chkD 1 [z0, z4] ∧
      ∀ z7 : Int, 0 ≤ z7 → z7 ≤ 255 → z7 = fnD 1 [z0, z4] →
      ∀ z8 : Int, 0 ≤ z8 → z8 ≤ 1 → S 50 [[z7]] [[z8]] →
      ((((!(decide (z8 = 1)))) = true →
       chkD 1 [z0, z4] ∧
       ∀ z9 : Int, 0 ≤ z9 → z9 ≤ 255 → z9 = fnD 1 [z0, z4] →
       ∀ z10 : Int, 0 ≤ z10 → z10 ≤ 1 → S 51 [[z9]] [[z10]] →
       ((((!(decide (z10 = 1)))) = true →
        chkD 1 [z0, z4] ∧
        ∀ z11 : Int, 0 ≤ z11 → z11 ≤ 255 → z11 = fnD 1 [z0, z4] →
        ∀ z12 : Int, 0 ≤ z12 → z12 ≤ 1 → S 52 [[z11]] [[z12]] →
        ((((!(decide (z12 = 1)))) = true →
         (((decide (z4 = 0)) = true →
          K [[z0]] [[(cond (false) 1 0)]]
         ) ∧ ((decide (z4 = 0)) = false →
          ∀ z13 : Int, 0 ≤ z13 → z13 ≤ 9223372036854775807 → z13 = fnD 0 [z0] →
          (((decide (z4 = (z13 + (-1)))) = true →
           K [[z0]] [[(cond (false) 1 0)]]
          ) ∧ ((decide (z4 = (z13 + (-1)))) = false →
           chkD 1 [z0, z4] ∧
           ∀ z14 : Int, 0 ≤ z14 → z14 ≤ 255 → z14 = fnD 1 [z0, z4] →
           (((decide (z14 = 46)) = true →
            chkD 1 [z0, (z4 + (-1))] ∧
            ∀ z15 : Int, 0 ≤ z15 → z15 ≤ 255 → z15 = fnD 1 [z0, (z4 + (-1))] →
            (((decide (z15 = 46)) = true →
             K [[z0]] [[(cond (false) 1 0)]]
            ) ∧ ((decide (z15 = 46)) = false →
             ∀ z16 : Int, 0 ≤ z16 → z16 ≤ 1 → 0 ≤ (z4 + 9223372036854775809) - 18446744073709551616 * z16 → (z4 + 9223372036854775809) - 18446744073709551616 * z16 < 18446744073709551616 →
             chkD 39 [((z4 + ((-18446744073709551616) * z16)) + 1), 0, 9223372036854775807] ∧
             (I3 [[((z4 + ((-18446744073709551616) * z16)) + 1)]] ∧ μ3 [[((z4 + ((-18446744073709551616) * z16)) + 1)]] < μ3 [[z4]])
            ))
           ) ∧ ((decide (z14 = 46)) = false →
            ∀ z15 : Int, 0 ≤ z15 → z15 ≤ 1 → 0 ≤ (z4 + 9223372036854775809) - 18446744073709551616 * z15 → (z4 + 9223372036854775809) - 18446744073709551616 * z15 < 18446744073709551616 →
            chkD 39 [((z4 + ((-18446744073709551616) * z15)) + 1), 0, 9223372036854775807] ∧
            (I3 [[((z4 + ((-18446744073709551616) * z15)) + 1)]] ∧ μ3 [[((z4 + ((-18446744073709551616) * z15)) + 1)]] < μ3 [[z4]])
           ))
          ))
         ))
        ) ∧ (((!(decide (z12 = 1)))) = false →
         (((decide (z4 = 0)) = true →
          K [[z0]] [[(cond (false) 1 0)]]
         ) ∧ ((decide (z4 = 0)) = false →
          ∀ z13 : Int, 0 ≤ z13 → z13 ≤ 9223372036854775807 → z13 = fnD 0 [z0] →
          (((decide (z4 = (z13 + (-1)))) = true →
           K [[z0]] [[(cond (false) 1 0)]]
          ) ∧ ((decide (z4 = (z13 + (-1)))) = false →
           chkD 1 [z0, z4] ∧
           ∀ z14 : Int, 0 ≤ z14 → z14 ≤ 255 → z14 = fnD 1 [z0, z4] →
           (((decide (z14 = 46)) = true →
            chkD 1 [z0, (z4 + (-1))] ∧
            ∀ z15 : Int, 0 ≤ z15 → z15 ≤ 255 → z15 = fnD 1 [z0, (z4 + (-1))] →
            (((decide (z15 = 46)) = true →
             K [[z0]] [[(cond (false) 1 0)]]
            ) ∧ ((decide (z15 = 46)) = false →
             ∀ z16 : Int, 0 ≤ z16 → z16 ≤ 1 → 0 ≤ (z4 + 9223372036854775809) - 18446744073709551616 * z16 → (z4 + 9223372036854775809) - 18446744073709551616 * z16 < 18446744073709551616 →
             chkD 39 [((z4 + ((-18446744073709551616) * z16)) + 1), 0, 9223372036854775807] ∧
             (I3 [[((z4 + ((-18446744073709551616) * z16)) + 1)]] ∧ μ3 [[((z4 + ((-18446744073709551616) * z16)) + 1)]] < μ3 [[z4]])
            ))
           ) ∧ ((decide (z14 = 46)) = false →
            ∀ z15 : Int, 0 ≤ z15 → z15 ≤ 1 → 0 ≤ (z4 + 9223372036854775809) - 18446744073709551616 * z15 → (z4 + 9223372036854775809) - 18446744073709551616 * z15 < 18446744073709551616 →
            chkD 39 [((z4 + ((-18446744073709551616) * z15)) + 1), 0, 9223372036854775807] ∧
            (I3 [[((z4 + ((-18446744073709551616) * z15)) + 1)]] ∧ μ3 [[((z4 + ((-18446744073709551616) * z15)) + 1)]] < μ3 [[z4]])
           ))
          ))
         ))
        ))
       ) ∧ (((!(decide (z10 = 1)))) = false →
        (((decide (z4 = 0)) = true →
         K [[z0]] [[(cond (false) 1 0)]]
        ) ∧ ((decide (z4 = 0)) = false →
         ∀ z11 : Int, 0 ≤ z11 → z11 ≤ 9223372036854775807 → z11 = fnD 0 [z0] →
         (((decide (z4 = (z11 + (-1)))) = true →
          K [[z0]] [[(cond (false) 1 0)]]
         ) ∧ ((decide (z4 = (z11 + (-1)))) = false →
          chkD 1 [z0, z4] ∧
          ∀ z12 : Int, 0 ≤ z12 → z12 ≤ 255 → z12 = fnD 1 [z0, z4] →
          (((decide (z12 = 46)) = true →
           chkD 1 [z0, (z4 + (-1))] ∧
           ∀ z13 : Int, 0 ≤ z13 → z13 ≤ 255 → z13 = fnD 1 [z0, (z4 + (-1))] →
           (((decide (z13 = 46)) = true →
            K [[z0]] [[(cond (false) 1 0)]]
           ) ∧ ((decide (z13 = 46)) = false →
            ∀ z14 : Int, 0 ≤ z14 → z14 ≤ 1 → 0 ≤ (z4 + 9223372036854775809) - 18446744073709551616 * z14 → (z4 + 9223372036854775809) - 18446744073709551616 * z14 < 18446744073709551616 →
            chkD 39 [((z4 + ((-18446744073709551616) * z14)) + 1), 0, 9223372036854775807] ∧
            (I3 [[((z4 + ((-18446744073709551616) * z14)) + 1)]] ∧ μ3 [[((z4 + ((-18446744073709551616) * z14)) + 1)]] < μ3 [[z4]])
           ))
          ) ∧ ((decide (z12 = 46)) = false →
           ∀ z13 : Int, 0 ≤ z13 → z13 ≤ 1 → 0 ≤ (z4 + 9223372036854775809) - 18446744073709551616 * z13 → (z4 + 9223372036854775809) - 18446744073709551616 * z13 < 18446744073709551616 →
           chkD 39 [((z4 + ((-18446744073709551616) * z13)) + 1), 0, 9223372036854775807] ∧
           (I3 [[((z4 + ((-18446744073709551616) * z13)) + 1)]] ∧ μ3 [[((z4 + ((-18446744073709551616) * z13)) + 1)]] < μ3 [[z4]])
          ))
         ))
        ))
       ))
      ) ∧ (((!(decide (z8 = 1)))) = false →
       (((decide (z4 = 0)) = true →
        K [[z0]] [[(cond (false) 1 0)]]
       ) ∧ ((decide (z4 = 0)) = false →
        ∀ z9 : Int, 0 ≤ z9 → z9 ≤ 9223372036854775807 → z9 = fnD 0 [z0] →
        (((decide (z4 = (z9 + (-1)))) = true →
         K [[z0]] [[(cond (false) 1 0)]]
        ) ∧ ((decide (z4 = (z9 + (-1)))) = false →
         chkD 1 [z0, z4] ∧
         ∀ z10 : Int, 0 ≤ z10 → z10 ≤ 255 → z10 = fnD 1 [z0, z4] →
         (((decide (z10 = 46)) = true →
          chkD 1 [z0, (z4 + (-1))] ∧
          ∀ z11 : Int, 0 ≤ z11 → z11 ≤ 255 → z11 = fnD 1 [z0, (z4 + (-1))] →
          (((decide (z11 = 46)) = true →
           K [[z0]] [[(cond (false) 1 0)]]
          ) ∧ ((decide (z11 = 46)) = false →
           ∀ z12 : Int, 0 ≤ z12 → z12 ≤ 1 → 0 ≤ (z4 + 9223372036854775809) - 18446744073709551616 * z12 → (z4 + 9223372036854775809) - 18446744073709551616 * z12 < 18446744073709551616 →
           chkD 39 [((z4 + ((-18446744073709551616) * z12)) + 1), 0, 9223372036854775807] ∧
           (I3 [[((z4 + ((-18446744073709551616) * z12)) + 1)]] ∧ μ3 [[((z4 + ((-18446744073709551616) * z12)) + 1)]] < μ3 [[z4]])
          ))
         ) ∧ ((decide (z10 = 46)) = false →
          ∀ z11 : Int, 0 ≤ z11 → z11 ≤ 1 → 0 ≤ (z4 + 9223372036854775809) - 18446744073709551616 * z11 → (z4 + 9223372036854775809) - 18446744073709551616 * z11 < 18446744073709551616 →
          chkD 39 [((z4 + ((-18446744073709551616) * z11)) + 1), 0, 9223372036854775807] ∧
          (I3 [[((z4 + ((-18446744073709551616) * z11)) + 1)]] ∧ μ3 [[((z4 + ((-18446744073709551616) * z11)) + 1)]] < μ3 [[z4]])
         ))
        ))
       ))
      ))
     ) ∧ ((decide (z6 = 46)) = false →
      chkD 1 [z0, z4] ∧
      ∀ z7 : Int, 0 ≤ z7 → z7 ≤ 255 → z7 = fnD 1 [z0, z4] →
      chkD 1 [z0, z4] ∧
      ∀ z8 : Int, 0 ≤ z8 → z8 ≤ 255 → z8 = fnD 1 [z0, z4] →
      ∀ z9 : Int, 0 ≤ z9 → z9 ≤ 1 → S 50 [[z8]] [[z9]] →
      ((((!(decide (z9 = 1)))) = true →
       chkD 1 [z0, z4] ∧
       ∀ z10 : Int, 0 ≤ z10 → z10 ≤ 255 → z10 = fnD 1 [z0, z4] →
       ∀ z11 : Int, 0 ≤ z11 → z11 ≤ 1 → S 51 [[z10]] [[z11]] →
       ((((!(decide (z11 = 1)))) = true →
        chkD 1 [z0, z4] ∧
        ∀ z12 : Int, 0 ≤ z12 → z12 ≤ 255 → z12 = fnD 1 [z0, z4] →
        ∀ z13 : Int, 0 ≤ z13 → z13 ≤ 1 → S 52 [[z12]] [[z13]] →
        ((((!(decide (z13 = 1)))) = true →
         ((((!(decide (z7 = 45)))) = true →
          K [[z0]] [[(cond (false) 1 0)]]
         ) ∧ (((!(decide (z7 = 45)))) = false →
          (((decide (z7 = 45)) = true →
           (((decide (z4 = 0)) = true →
            K [[z0]] [[(cond (false) 1 0)]]
           ) ∧ ((decide (z4 = 0)) = false →
            ∀ z14 : Int, 0 ≤ z14 → z14 ≤ 9223372036854775807 → z14 = fnD 0 [z0] →
            (((decide (z4 = (z14 + (-1)))) = true →
             K [[z0]] [[(cond (false) 1 0)]]
            ) ∧ ((decide (z4 = (z14 + (-1)))) = false →
             chkD 1 [z0, z4] ∧
             ∀ z15 : Int, 0 ≤ z15 → z15 ≤ 255 → z15 = fnD 1 [z0, z4] →
             (((decide (z15 = 46)) = true →
              chkD 1 [z0, (z4 + (-1))] ∧
              ∀ z16 : Int, 0 ≤ z16 → z16 ≤ 255 → z16 = fnD 1 [z0, (z4 + (-1))] →
              (((decide (z16 = 46)) = true →
               K [[z0]] [[(cond (false) 1 0)]]
              ) ∧ ((decide (z16 = 46)) = false →
               ∀ z17 : Int, 0 ≤ z17 → z17 ≤ 1 → 0 ≤ (z4 + 9223372036854775809) - 18446744073709551616 * z17 → (z4 + 9223372036854775809) - 18446744073709551616 * z17 < 18446744073709551616 →
               chkD 39 [((z4 + ((-18446744073709551616) * z17)) + 1), 0, 9223372036854775807] ∧
               (I3 [[((z4 + ((-18446744073709551616) * z17)) + 1)]] ∧ μ3 [[((z4 + ((-18446744073709551616) * z17)) + 1)]] < μ3 [[z4]])
              ))
             ) ∧ ((decide (z15 = 46)) = false →
              ∀ z16 : Int, 0 ≤ z16 → z16 ≤ 1 → 0 ≤ (z4 + 9223372036854775809) - 18446744073709551616 * z16 → (z4 + 9223372036854775809) - 18446744073709551616 * z16 < 18446744073709551616 →
              chkD 39 [((z4 + ((-18446744073709551616) * z16)) + 1), 0, 9223372036854775807] ∧
              (I3 [[((z4 + ((-18446744073709551616) * z16)) + 1)]] ∧ μ3 [[((z4 + ((-18446744073709551616) * z16)) + 1)]] < μ3 [[z4]])
             ))
            ))
           ))
          ) ∧ ((decide (z7 = 45)) = false →
           ∀ z14 : Int, 0 ≤ z14 → z14 ≤ 1 → 0 ≤ (z4 + 9223372036854775809) - 18446744073709551616 * z14 → (z4 + 9223372036854775809) - 18446744073709551616 * z14 < 18446744073709551616 →
           chkD 39 [((z4 + ((-18446744073709551616) * z14)) + 1), 0, 9223372036854775807] ∧
           (I3 [[((z4 + ((-18446744073709551616) * z14)) + 1)]] ∧ μ3 [[((z4 + ((-18446744073709551616) * z14)) + 1)]] < μ3 [[z4]])
          ))
         ))
        ) ∧ (((!(decide (z13 = 1)))) = false →
         (((decide (z7 = 45)) = true →
          (((decide (z4 = 0)) = true →
           K [[z0]] [[(cond (false) 1 0)]]
          ) ∧ ((decide (z4 = 0)) = false →
           ∀ z14 : Int, 0 ≤ z14 → z14 ≤ 9223372036854775807 → z14 = fnD 0 [z0] →
           (((decide (z4 = (z14 + (-1)))) = true →
            K [[z0]] [[(cond (false) 1 0)]]
           ) ∧ ((decide (z4 = (z14 + (-1)))) = false →
            chkD 1 [z0, z4] ∧
            ∀ z15 : Int, 0 ≤ z15 → z15 ≤ 255 → z15 = fnD 1 [z0, z4] →
            (((decide (z15 = 46)) = true →
             chkD 1 [z0, (z4 + (-1))] ∧
             ∀ z16 : Int, 0 ≤ z16 → z16 ≤ 255 → z16 = fnD 1 [z0, (z4 + (-1))] →
             (((decide (z16 = 46)) = true →
              K [[z0]] [[(cond (false) 1 0)]]
             ) ∧ ((decide (z16 = 46)) = false →
              ∀ z17 : Int, 0 ≤ z17 → z17 ≤ 1 → 0 ≤ (z4 + 9223372036854775809) - 18446744073709551616 * z17 → (z4 + 9223372036854775809) - 18446744073709551616 * z17 < 18446744073709551616 →
              chkD 39 [((z4 + ((-18446744073709551616) * z17)) + 1), 0, 9223372036854775807] ∧
              (I3 [[((z4 + ((-18446744073709551616) * z17)) + 1)]] ∧ μ3 [[((z4 + ((-18446744073709551616) * z17)) + 1)]] < μ3 [[z4]])
             ))
            ) ∧ ((decide (z15 = 46)) = false →
             ∀ z16 : Int, 0 ≤ z16 → z16 ≤ 1 → 0 ≤ (z4 + 9223372036854775809) - 18446744073709551616 * z16 → (z4 + 9223372036854775809) - 18446744073709551616 * z16 < 18446744073709551616 →
             chkD 39 [((z4 + ((-18446744073709551616) * z16)) + 1), 0, 9223372036854775807] ∧
             (I3 [[((z4 + ((-18446744073709551616) * z16)) + 1)]] ∧ μ3 [[((z4 + ((-18446744073709551616) * z16)) + 1)]] < μ3 [[z4]])
            ))
           ))
          ))
         ) ∧ ((decide (z7 = 45)) = false →
          ∀ z14 : Int, 0 ≤ z14 → z14 ≤ 1 → 0 ≤ (z4 + 9223372036854775809) - 18446744073709551616 * z14 → (z4 + 9223372036854775809) - 18446744073709551616 * z14 < 18446744073709551616 →
          chkD 39 [((z4 + ((-18446744073709551616) * z14)) + 1), 0, 9223372036854775807] ∧
          (I3 [[((z4 + ((-18446744073709551616) * z14)) + 1)]] ∧ μ3 [[((z4 + ((-18446744073709551616) * z14)) + 1)]] < μ3 [[z4]])
         ))
        ))
       ) ∧ (((!(decide (z11 = 1)))) = false →
        (((decide (z7 = 45)) = true →
         (((decide (z4 = 0)) = true →
          K [[z0]] [[(cond (false) 1 0)]]
         ) ∧ ((decide (z4 = 0)) = false →
          ∀ z12 : Int, 0 ≤ z12 → z12 ≤ 9223372036854775807 → z12 = fnD 0 [z0] →
          (((decide (z4 = (z12 + (-1)))) = true →
           K [[z0]] [[(cond (false) 1 0)]]
          ) ∧ ((decide (z4 = (z12 + (-1)))) = false →
           chkD 1 [z0, z4] ∧
           ∀ z13 : Int, 0 ≤ z13 → z13 ≤ 255 → z13 = fnD 1 [z0, z4] →
           (((decide (z13 = 46)) = true →
            chkD 1 [z0, (z4 + (-1))] ∧
            ∀ z14 : Int, 0 ≤ z14 → z14 ≤ 255 → z14 = fnD 1 [z0, (z4 + (-1))] →
            (((decide (z14 = 46)) = true →
             K [[z0]] [[(cond (false) 1 0)]]
            ) ∧ ((decide (z14 = 46)) = false →
             ∀ z15 : Int, 0 ≤ z15 → z15 ≤ 1 → 0 ≤ (z4 + 9223372036854775809) - 18446744073709551616 * z15 → (z4 + 9223372036854775809) - 18446744073709551616 * z15 < 18446744073709551616 →
             chkD 39 [((z4 + ((-18446744073709551616) * z15)) + 1), 0, 9223372036854775807] ∧
             (I3 [[((z4 + ((-18446744073709551616) * z15)) + 1)]] ∧ μ3 [[((z4 + ((-18446744073709551616) * z15)) + 1)]] < μ3 [[z4]])
            ))
           ) ∧ ((decide (z13 = 46)) = false →
            ∀ z14 : Int, 0 ≤ z14 → z14 ≤ 1 → 0 ≤ (z4 + 9223372036854775809) - 18446744073709551616 * z14 → (z4 + 9223372036854775809) - 18446744073709551616 * z14 < 18446744073709551616 →
            chkD 39 [((z4 + ((-18446744073709551616) * z14)) + 1), 0, 9223372036854775807] ∧
            (I3 [[((z4 + ((-18446744073709551616) * z14)) + 1)]] ∧ μ3 [[((z4 + ((-18446744073709551616) * z14)) + 1)]] < μ3 [[z4]])
           ))
          ))
         ))
        ) ∧ ((decide (z7 = 45)) = false →
         ∀ z12 : Int, 0 ≤ z12 → z12 ≤ 1 → 0 ≤ (z4 + 9223372036854775809) - 18446744073709551616 * z12 → (z4 + 9223372036854775809) - 18446744073709551616 * z12 < 18446744073709551616 →
         chkD 39 [((z4 + ((-18446744073709551616) * z12)) + 1), 0, 9223372036854775807] ∧
         (I3 [[((z4 + ((-18446744073709551616) * z12)) + 1)]] ∧ μ3 [[((z4 + ((-18446744073709551616) * z12)) + 1)]] < μ3 [[z4]])
        ))
       ))
      ) ∧ (((!(decide (z9 = 1)))) = false →
       (((decide (z7 = 45)) = true →
        (((decide (z4 = 0)) = true →
         K [[z0]] [[(cond (false) 1 0)]]
        ) ∧ ((decide (z4 = 0)) = false →
         ∀ z10 : Int, 0 ≤ z10 → z10 ≤ 9223372036854775807 → z10 = fnD 0 [z0] →
         (((decide (z4 = (z10 + (-1)))) = true →
          K [[z0]] [[(cond (false) 1 0)]]
         ) ∧ ((decide (z4 = (z10 + (-1)))) = false →
          chkD 1 [z0, z4] ∧
          ∀ z11 : Int, 0 ≤ z11 → z11 ≤ 255 → z11 = fnD 1 [z0, z4] →
          (((decide (z11 = 46)) = true →
           chkD 1 [z0, (z4 + (-1))] ∧
           ∀ z12 : Int, 0 ≤ z12 → z12 ≤ 255 → z12 = fnD 1 [z0, (z4 + (-1))] →
           (((decide (z12 = 46)) = true →
            K [[z0]] [[(cond (false) 1 0)]]
           ) ∧ ((decide (z12 = 46)) = false →
            ∀ z13 : Int, 0 ≤ z13 → z13 ≤ 1 → 0 ≤ (z4 + 9223372036854775809) - 18446744073709551616 * z13 → (z4 + 9223372036854775809) - 18446744073709551616 * z13 < 18446744073709551616 →
            chkD 39 [((z4 + ((-18446744073709551616) * z13)) + 1), 0, 9223372036854775807] ∧
            (I3 [[((z4 + ((-18446744073709551616) * z13)) + 1)]] ∧ μ3 [[((z4 + ((-18446744073709551616) * z13)) + 1)]] < μ3 [[z4]])
           ))
          ) ∧ ((decide (z11 = 46)) = false →
           ∀ z12 : Int, 0 ≤ z12 → z12 ≤ 1 → 0 ≤ (z4 + 9223372036854775809) - 18446744073709551616 * z12 → (z4 + 9223372036854775809) - 18446744073709551616 * z12 < 18446744073709551616 →
           chkD 39 [((z4 + ((-18446744073709551616) * z12)) + 1), 0, 9223372036854775807] ∧
           (I3 [[((z4 + ((-18446744073709551616) * z12)) + 1)]] ∧ μ3 [[((z4 + ((-18446744073709551616) * z12)) + 1)]] < μ3 [[z4]])
          ))
         ))
        ))
       ) ∧ ((decide (z7 = 45)) = false →
        ∀ z10 : Int, 0 ≤ z10 → z10 ≤ 1 → 0 ≤ (z4 + 9223372036854775809) - 18446744073709551616 * z10 → (z4 + 9223372036854775809) - 18446744073709551616 * z10 < 18446744073709551616 →
        chkD 39 [((z4 + ((-18446744073709551616) * z10)) + 1), 0, 9223372036854775807] ∧
        (I3 [[((z4 + ((-18446744073709551616) * z10)) + 1)]] ∧ μ3 [[((z4 + ((-18446744073709551616) * z10)) + 1)]] < μ3 [[z4]])
       ))
      ))
     ))
    ) ∧ ((decide (z4 < z5)) = false →
     K [[z0]] [[(cond (true) 1 0)]]
    ))
   )
  ))
 ))
def okAt (inn edge : UInt8 → Bool) (s : Tx) (i : Nat) : Prop := inn (s.getD i 0) = true ∧ (edge (s.getD i 0) = true → 0 < i ∧ i + 1 < s.length) ∧ ¬ (s.getD i 0 = 46 ∧ 0 < i ∧ s.getD (i - 1) 0 = 46)
theorem okP_at (inn edge : UInt8 → Bool) (s : Tx) : okP inn edge s = true ↔ ∀ i, i < s.length → okAt inn edge s i := okP_iff inn edge s
theorem okP_bad {inn edge : UInt8 → Bool} {s : Tx} {i : Nat} (hi : i < s.length) (h : ¬ okAt inn edge s i) : okP inn edge s = false := by
  cases ho : okP inn edge s with
  | false => rfl
  | true => exact absurd ((okP_at inn edge s).1 ho i hi) h
def PI (inn edge : UInt8 → Bool) (z0 : Int) (bl : List (List Int)) : Prop := ∃ i : Nat, bl = [[(i : Int)]] ∧ i ≤ (sOf z0).length ∧ ∀ j, j < i → okAt inn edge (sOf z0) j
def PM (z0 : Int) (bl : List (List Int)) : Nat := (sOf z0).length - ((bl.getD 0 []).getD 0 0).toNat
def AdvT (I : List (List Int) → Prop) (M : List (List Int) → Nat) (i : Int) : Prop := ∀ z16 : Int, 0 ≤ z16 → z16 ≤ 1 → 0 ≤ (i + 9223372036854775809) - 18446744073709551616 * z16 → (i + 9223372036854775809) - 18446744073709551616 * z16 < 18446744073709551616 →
  chkD 39 [((i + ((-18446744073709551616) * z16)) + 1), 0, 9223372036854775807] ∧ (I [[((i + ((-18446744073709551616) * z16)) + 1)]] ∧ M [[((i + ((-18446744073709551616) * z16)) + 1)]] < M [[i]])
theorem adv {inn edge : UInt8 → Bool} {z0 : Int} {i : Nat} (h1 : z0 ≤ HB) (hi : i < (sOf z0).length) (hall : ∀ j, j < i → okAt inn edge (sOf z0) j) (h : okAt inn edge (sOf z0) i) : AdvT (PI inn edge z0) (PM z0) i := by
  intro q q0 q1 q2 q3
  have hL := len_lt h1
  rw [wrap1 (L := ((sOf z0).length : Int)) (by omega) hL (Int.natCast_nonneg _) q0 q2]
  refine ⟨⟨by omega, by omega⟩, ⟨i + 1, by simp, by omega, fun j hj => ?_⟩, ?_⟩
  · by_cases hj' : j = i
    · subst hj'; exact h
    · exact hall j (by omega)
  · show (sOf z0).length - ((i : Int) + 1).toNat < (sOf z0).length - (i : Int).toNat
    omega
theorem byte_eq {z0 z i n : Int} {k : Nat} (hi : i = (k : Int)) (hn : 0 ≤ n) (hn1 : n ≤ 255) (h : z = fnD 1 [z0, i]) : decide (z = n) = ((sOf z0).getD k 0 == u8 n) := by
  rw [h, hi]; simp only [fnD, Int.toNat_natCast]
  rw [Bool.eq_iff_iff, decide_eq_true_eq, u8_eq hn hn1]
/-- Behind a dot or a dash. -/
theorem signT {K : Prop} {A : Prop} {z0 : Int} {i : Nat} (hi : i < (sOf z0).length) (he : edgeH ((sOf z0).getD i 0) = true) (hin : inHost ((sOf z0).getD i 0) = true)
    (hK : ¬ okAt inHost edgeH (sOf z0) i → K) (hA : okAt inHost edgeH (sOf z0) i → A) :
         (((decide ((i : Int) = 0)) = true →
          K
         ) ∧ ((decide ((i : Int) = 0)) = false →
          ∀ z13 : Int, 0 ≤ z13 → z13 ≤ 9223372036854775807 → z13 = fnD 0 [z0] →
          (((decide ((i : Int) = (z13 + (-1)))) = true →
           K
          ) ∧ ((decide ((i : Int) = (z13 + (-1)))) = false →
           chkD 1 [z0, (i : Int)] ∧
           ∀ z14 : Int, 0 ≤ z14 → z14 ≤ 255 → z14 = fnD 1 [z0, (i : Int)] →
           (((decide (z14 = 46)) = true →
            chkD 1 [z0, ((i : Int) + (-1))] ∧
            ∀ z15 : Int, 0 ≤ z15 → z15 ≤ 255 → z15 = fnD 1 [z0, ((i : Int) + (-1))] →
            (((decide (z15 = 46)) = true →
             K
            ) ∧ ((decide (z15 = 46)) = false →
             A
            ))
           ) ∧ ((decide (z14 = 46)) = false →
            A
           ))
          ))
         )) := by
  refine ⟨fun h => hK fun ho => ?_, fun h z13 a0 a1 h13 => ?_⟩
  · have := (ho.2.1 he).1
    have : (i : Int) = 0 := by simpa using h
    omega
  · have h0 : ¬ (i : Int) = 0 := by simpa using h
    simp only [fnD] at h13
    refine ⟨fun h => hK fun ho => ?_, fun h => ⟨⟨Int.natCast_nonneg _, by omega⟩, fun z14 b0 b1 h14 => ?_⟩⟩
    · have := (ho.2.1 he).2
      have : (i : Int) = z13 + -1 := by simpa using h
      omega
    · have h1 : ¬ (i : Int) = z13 + -1 := by simpa using h
      rw [byte_eq (n := 46) (k := i) rfl (by decide) (by decide) h14]
      refine ⟨fun h => ⟨⟨by omega, by omega⟩, fun z15 c0 c1 h15 => ?_⟩, fun h => hA ⟨hin, fun _ => ⟨by omega, by omega⟩, fun hh => ?_⟩⟩
      · rw [byte_eq (n := 46) (k := i - 1) (by omega) (by decide) (by decide) h15]
        have h : (sOf z0).getD i 0 = 46 := beq_iff_eq.1 h
        refine ⟨fun h' => hK fun ho => ho.2.2 ⟨h, by omega, beq_iff_eq.1 h'⟩, fun h' => hA ⟨hin, fun _ => ⟨by omega, by omega⟩, fun hh => ?_⟩⟩
        have : ((sOf z0).getD (i - 1) 0 == u8 46) = true := beq_iff_eq.2 hh.2.2
        rw [this] at h'; cases h'
      · have : ((sOf z0).getD i 0 == u8 46) = true := beq_iff_eq.2 hh.1
        rw [this] at h; cases h
theorem at_class {z0 i z q : Int} {k : Nat} {f : UInt8 → Bool} (hi : i = (k : Int)) (h : z = fnD 1 [z0, i]) (hq : q = b01 (f (u8 z))) : decide (q = 1) = f ((sOf z0).getD k 0) := by
  rw [b01_dec hq, h, hi]; simp only [fnD, Int.toNat_natCast, u8_of]
theorem one_le {z1 z0 : Int} (h : z1 = fnD 0 [z0]) : decide (z1 < 1) = !Nat.blt 0 (sOf z0).length := by
  rw [h]; simp only [fnD]
  rw [Bool.eq_iff_iff, decide_eq_true_eq, Bool.not_eq_true', ← Bool.not_eq_true, Nat.blt_eq]; omega
theorem p_rhost : B_rhost SB (KBv SB [.bool] 30) := by
  intro z0 a0 a1 z1 b0 b1 h1
  have kk : ∀ b : Bool, hostb (sOf z0) = b → KBv SB [.bool] 30 [[z0]] [[b01 b]] := fun b h => kb (by show b01 b = b01 (hostb (sOf z0)); rw [h])
  rw [one_le h1]
  refine ⟨fun h => kk false ?_, fun h z2 c0 c1 h2 => ?_⟩
  · rw [Bool.not_eq_true'] at h; unfold hostb; rw [h]; rfl
  rw [Bool.not_eq_false'] at h
  rw [len_gt (n := 230) 230 rfl h2]
  refine ⟨fun h' => kk false ?_, fun h' => ⟨PI inHost edgeH z0, PM z0, ⟨0, rfl, Nat.zero_le _, fun j hj => by omega⟩, ?_⟩⟩
  · rw [Bool.not_eq_true'] at h'; unfold hostb; rw [h']; simp
  rw [Bool.not_eq_false'] at h'
  rintro z4 d0 d1 ⟨i, e, hi, hall⟩ z5 e0 e1 h5
  obtain rfl : z4 = i := by simpa using e
  simp only [fnD] at h5
  refine ⟨fun hp => ?_, fun hp => kk true ?_⟩
  · have hp : (i : Int) < z5 := by simpa using hp
    have hlt : i < (sOf z0).length := by omega
    have hc1 : chkD 1 [z0, (i : Int)] := ⟨d0, by omega⟩
    have hK : ¬ okAt inHost edgeH (sOf z0) i → KBv SB [.bool] 30 [[z0]] [[b01 false]] := fun hn => kk false (by unfold hostb; rw [okP_bad hlt hn]; simp)
    have hA : okAt inHost edgeH (sOf z0) i → AdvT (PI inHost edgeH z0) (PM z0) i := adv a1 hlt hall
    have hS : edgeH ((sOf z0).getD i 0) = true → _ := fun he => signT hlt he (by unfold inHost; rw [he]; simp) hK hA
    refine ⟨hc1, fun z6 f0 f1 h6 => ?_⟩
    rw [byte_eq (n := 46) (k := i) rfl (by decide) (by decide) h6]
    refine ⟨fun h46 => ?_, fun h46 => ?_⟩
    · have hs := hS (by unfold edgeH; rw [show ((sOf z0).getD i 0 == 46) = true from h46]; rfl)
      refine ⟨hc1, fun z7 g0 g1 h7 z8 i0 i1 h8 => ⟨fun _ => ⟨hc1, fun z9 j0 j1 h9 z10 k0 k1 h10 => ⟨fun _ => ⟨hc1, fun z11 l0 l1 h11 z12 m0 m1 h12 => ⟨fun _ => hs, fun _ => hs⟩⟩, fun _ => hs⟩⟩, fun _ => hs⟩⟩
    · refine ⟨hc1, fun z7 g0 g1 h7 => ⟨hc1, fun z8 i0 i1 h8 z9 j0 j1 h9 => ?_⟩⟩
      have n46 : ¬ (sOf z0).getD i 0 = 46 := fun e => by
        have : ((sOf z0).getD i 0 == u8 46) = true := beq_iff_eq.2 e
        rw [this] at h46; cases h46
      have e45 := byte_eq (n := 45) (k := i) rfl (by decide) (by decide) h7
      rw [e45]
      have hmid : (isS ((sOf z0).getD i 0) = true ∨ isG ((sOf z0).getD i 0) = true ∨ isD ((sOf z0).getD i 0) = true) → _ := fun hcl => And.intro (fun h45 : ((sOf z0).getD i 0 == u8 45) = true => hS (by unfold edgeH; rw [show ((sOf z0).getD i 0 == 45) = true from h45]; simp)) (fun h45 : ((sOf z0).getD i 0 == u8 45) = false => hA ⟨(by
          unfold inHost
          rcases hcl with h | h | h <;> rw [h] <;> simp), (fun he => by
          unfold edgeH at he
          rw [show ((sOf z0).getD i 0 == 45) = false from h45, show ((sOf z0).getD i 0 == 46) = false from h46] at he
          cases he), fun hh => n46 hh.1⟩)
      rw [at_class (f := isS) (k := i) rfl h8 h9]
      refine ⟨fun nS => ⟨hc1, fun z10 k0 k1 h10 z11 l0 l1 h11 => ?_⟩, fun hS' => hmid (.inl (by simpa using hS'))⟩
      rw [at_class (f := isG) (k := i) rfl h10 h11]
      refine ⟨fun nG => ⟨hc1, fun z12 m0 m1 h12 z13 n0 n1 h13 => ?_⟩, fun hG' => hmid (.inr (.inl (by simpa using hG')))⟩
      rw [at_class (f := isD) (k := i) rfl h12 h13]
      refine ⟨fun nD => ⟨fun n45 => hK fun ho => ?_, fun h45 => ?_⟩, fun hD' => hmid (.inr (.inr (by simpa using hD')))⟩
      · have hin := ho.1
        unfold inHost edgeH at hin
        rw [show isS ((sOf z0).getD i 0) = false by simpa using nS, show isG ((sOf z0).getD i 0) = false by simpa using nG, show isD ((sOf z0).getD i 0) = false by simpa using nD, show ((sOf z0).getD i 0 == 45) = false from by rw [Bool.not_eq_true'] at n45; exact n45, show ((sOf z0).getD i 0 == 46) = false from h46] at hin
        cases hin
      · rw [Bool.not_eq_false'] at h45
        have hs := hS (by unfold edgeH; rw [show ((sOf z0).getD i 0 == 45) = true from h45]; simp)
        exact ⟨fun _ => hs, fun h => by rw [h45] at h; cases h⟩
  · have hp : ¬ (i : Int) < z5 := by simpa using hp
    unfold hostb
    rw [h, h', (okP_at inHost edgeH (sOf z0)).2 fun j hj => hall j (by omega)]; rfl
end Go.Ad
