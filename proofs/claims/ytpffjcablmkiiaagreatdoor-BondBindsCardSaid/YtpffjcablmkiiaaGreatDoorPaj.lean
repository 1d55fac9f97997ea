/- Paj: a part of the proof of statements of this seat. -/
import Derived.Test.YtpffjcablmkiiaaGreatDoorPai
set_option maxRecDepth 100000
set_option linter.unusedVariables false
set_option linter.unusedSimpArgs false
namespace Go.Ad
open Go Go.Rx
def B_tus (S : Nat → List (List Int) → List (List Int) → Prop) (K : List (List Int) → List (List Int) → Prop) : Prop :=
 ∀ z0 : Int, 0 ≤ z0 → z0 ≤ HB → 
 ∀ z1 : Int, 0 ≤ z1 → z1 ≤ 1 → z1 = fnD 4 [z0, 0] →
 (((decide (z1 = 1)) = true →
  K [[z0]] [[z0]]
 ) ∧ ((decide (z1 = 1)) = false →
  ∃ (I2 : List (List Int) → Prop) (μ2 : List (List Int) → Nat), I2 [[z0]] ∧ (∀ z3 : Int, 0 ≤ z3 → z3 ≤ HB → I2 [[z3]] →
   ∀ z4 : Int, 0 ≤ z4 → z4 ≤ 9223372036854775807 → z4 = fnD 0 [z3] →
   (((decide (0 < z4)) = true →
    ∀ z5 : Int, 0 ≤ z5 → z5 ≤ 9223372036854775807 → z5 = fnD 0 [z3] →
    chkD 1 [z3, (z5 + (-1))] ∧
    ∀ z6 : Int, 0 ≤ z6 → z6 ≤ 255 → z6 = fnD 1 [z3, (z5 + (-1))] →
    ∀ z7 : Int, 0 ≤ z7 → z7 ≤ 1 → z7 = fnD 43 [79221403731691789204265450354666987086070872538664503581038852739373042335165977954796146613462291367, z6] →
    ((((!(decide (z7 = 1)))) = true →
     ∃ (I8 : List (List Int) → Prop) (μ8 : List (List Int) → Nat), I8 [[z3]] ∧ (∀ z9 : Int, 0 ≤ z9 → z9 ≤ HB → I8 [[z9]] →
      ∀ z10 : Int, 0 ≤ z10 → z10 ≤ 9223372036854775807 → z10 = fnD 0 [z9] →
      (((decide (0 < z10)) = true →
       chkD 1 [z9, 0] ∧
       ∀ z11 : Int, 0 ≤ z11 → z11 ≤ 255 → z11 = fnD 1 [z9, 0] →
       ∀ z12 : Int, 0 ≤ z12 → z12 ≤ 1 → z12 = fnD 43 [79221403731691789204265450354666987086070872538664503581038852739373042335165977954796146613462291367, z11] →
       ((((!(decide (z12 = 1)))) = true →
        K [[z0]] [[z9]]
       ) ∧ (((!(decide (z12 = 1)))) = false →
        ∀ z13 : Int, 0 ≤ z13 → z13 ≤ 9223372036854775807 → z13 = fnD 0 [z9] →
        chkD 2 [z9, 1, z13] ∧
        ∀ z14 : Int, 0 ≤ z14 → z14 ≤ HB → z14 = fnD 2 [z9, 1, z13] →
        (I8 [[z14]] ∧ μ8 [[z14]] < μ8 [[z9]])
       ))
      ) ∧ ((decide (0 < z10)) = false →
       K [[z0]] [[z9]]
      ))
     )
    ) ∧ (((!(decide (z7 = 1)))) = false →
     ∀ z8 : Int, 0 ≤ z8 → z8 ≤ 9223372036854775807 → z8 = fnD 0 [z3] →
     chkD 2 [z3, 0, (z8 + (-1))] ∧
     ∀ z9 : Int, 0 ≤ z9 → z9 ≤ HB → z9 = fnD 2 [z3, 0, (z8 + (-1))] →
     (I2 [[z9]] ∧ μ2 [[z9]] < μ2 [[z3]])
    ))
   ) ∧ ((decide (0 < z4)) = false →
    ∃ (I5 : List (List Int) → Prop) (μ5 : List (List Int) → Nat), I5 [[z3]] ∧ (∀ z6 : Int, 0 ≤ z6 → z6 ≤ HB → I5 [[z6]] →
     ∀ z7 : Int, 0 ≤ z7 → z7 ≤ 9223372036854775807 → z7 = fnD 0 [z6] →
     (((decide (0 < z7)) = true →
      chkD 1 [z6, 0] ∧
      ∀ z8 : Int, 0 ≤ z8 → z8 ≤ 255 → z8 = fnD 1 [z6, 0] →
      ∀ z9 : Int, 0 ≤ z9 → z9 ≤ 1 → z9 = fnD 43 [79221403731691789204265450354666987086070872538664503581038852739373042335165977954796146613462291367, z8] →
      ((((!(decide (z9 = 1)))) = true →
       K [[z0]] [[z6]]
      ) ∧ (((!(decide (z9 = 1)))) = false →
       ∀ z10 : Int, 0 ≤ z10 → z10 ≤ 9223372036854775807 → z10 = fnD 0 [z6] →
       chkD 2 [z6, 1, z10] ∧
       ∀ z11 : Int, 0 ≤ z11 → z11 ≤ HB → z11 = fnD 2 [z6, 1, z10] →
       (I5 [[z11]] ∧ μ5 [[z11]] < μ5 [[z6]])
      ))
     ) ∧ ((decide (0 < z7)) = false →
      K [[z0]] [[z6]]
     ))
    )
   ))
  )
 ))
def B_colon (S : Nat → List (List Int) → List (List Int) → Prop) (K : List (List Int) → List (List Int) → Prop) : Prop :=
 ∀ z0 : Int, 0 ≤ z0 → z0 ≤ HB → 
 ∃ (I1 : List (List Int) → Prop) (μ1 : List (List Int) → Nat), I1 [[0]] ∧ (∀ z2 : Int, 0 ≤ z2 → z2 ≤ 9223372036854775807 → I1 [[z2]] →
  ∀ z3 : Int, 0 ≤ z3 → z3 ≤ 9223372036854775807 → z3 = fnD 0 [z0] →
  (((decide (z2 < z3)) = true →
   chkD 1 [z0, z2] ∧
   ∀ z4 : Int, 0 ≤ z4 → z4 ≤ 255 → z4 = fnD 1 [z0, z2] →
   (((decide (z4 = 58)) = true →
    K [[z0]] [[z2]]
   ) ∧ ((decide (z4 = 58)) = false →
    ∀ z5 : Int, 0 ≤ z5 → z5 ≤ 1 → 0 ≤ (z2 + 9223372036854775809) - 18446744073709551616 * z5 → (z2 + 9223372036854775809) - 18446744073709551616 * z5 < 18446744073709551616 →
    chkD 39 [((z2 + ((-18446744073709551616) * z5)) + 1), 0, 9223372036854775807] ∧
    (I1 [[((z2 + ((-18446744073709551616) * z5)) + 1)]] ∧ μ1 [[((z2 + ((-18446744073709551616) * z5)) + 1)]] < μ1 [[z2]])
   ))
  ) ∧ ((decide (z2 < z3)) = false →
   K [[z0]] [[(-1)]]
  ))
 )
def B_rserver (S : Nat → List (List Int) → List (List Int) → Prop) (K : List (List Int) → List (List Int) → Prop) : Prop :=
 ∀ z0 : Int, 0 ≤ z0 → z0 ≤ HB → 
 ∀ z1 : Int, (-1) ≤ z1 → z1 ≤ 9223372036854775807 → S 204 [[z0]] [[z1]] →
 (((decide (z1 < 0)) = true →
  ∀ z2 : Int, 0 ≤ z2 → z2 ≤ 1 → S 30 [[z0]] [[z2]] →
  K [[z0]] [[(cond (decide (z2 = 1)) 1 0)]]
 ) ∧ ((decide (z1 < 0)) = false →
  ∀ z2 : Int, 0 ≤ z2 → z2 ≤ 1 → 0 ≤ (z1 + 9223372036854775809) - 18446744073709551616 * z2 → (z1 + 9223372036854775809) - 18446744073709551616 * z2 < 18446744073709551616 →
  ∀ z3 : Int, 0 ≤ z3 → z3 ≤ 9223372036854775807 → z3 = fnD 0 [z0] →
  chkD 2 [z0, ((z1 + ((-18446744073709551616) * z2)) + 1), z3] ∧
  ∀ z4 : Int, 0 ≤ z4 → z4 ≤ HB → z4 = fnD 2 [z0, ((z1 + ((-18446744073709551616) * z2)) + 1), z3] →
  ∃ (I5 : List (List Int) → Prop) (μ5 : List (List Int) → Nat), I5 [[0]] ∧ (∀ z6 : Int, 0 ≤ z6 → z6 ≤ 9223372036854775807 → I5 [[z6]] →
   ∀ z7 : Int, 0 ≤ z7 → z7 ≤ 9223372036854775807 → z7 = fnD 0 [z4] →
   (((decide (z6 < z7)) = true →
    chkD 1 [z4, z6] ∧
    ∀ z8 : Int, 0 ≤ z8 → z8 ≤ 255 → z8 = fnD 1 [z4, z6] →
    ∀ z9 : Int, 0 ≤ z9 → z9 ≤ 1 → S 52 [[z8]] [[z9]] →
    ((((!(decide (z9 = 1)))) = true →
     K [[z0]] [[(cond (false) 1 0)]]
    ) ∧ (((!(decide (z9 = 1)))) = false →
     ∀ z10 : Int, 0 ≤ z10 → z10 ≤ 1 → 0 ≤ (z6 + 9223372036854775809) - 18446744073709551616 * z10 → (z6 + 9223372036854775809) - 18446744073709551616 * z10 < 18446744073709551616 →
     chkD 39 [((z6 + ((-18446744073709551616) * z10)) + 1), 0, 9223372036854775807] ∧
     (I5 [[((z6 + ((-18446744073709551616) * z10)) + 1)]] ∧ μ5 [[((z6 + ((-18446744073709551616) * z10)) + 1)]] < μ5 [[z6]])
    ))
   ) ∧ ((decide (z6 < z7)) = false →
    chkD 2 [z0, 0, z1] ∧
    ∀ z8 : Int, 0 ≤ z8 → z8 ≤ HB → z8 = fnD 2 [z0, 0, z1] →
    ∀ z9 : Int, 0 ≤ z9 → z9 ≤ 1 → S 30 [[z8]] [[z9]] →
    (((decide (z9 = 1)) = true →
     ∀ z10 : Int, 0 ≤ z10 → z10 ≤ 9223372036854775807 → z10 = fnD 0 [z4] →
     (((decide (1 ≤ z10)) = true →
      ∀ z11 : Int, 0 ≤ z11 → z11 ≤ 9223372036854775807 → z11 = fnD 0 [z4] →
      K [[z0]] [[(cond (decide (z11 ≤ 5)) 1 0)]]
     ) ∧ ((decide (1 ≤ z10)) = false →
      K [[z0]] [[(cond (false) 1 0)]]
     ))
    ) ∧ ((decide (z9 = 1)) = false →
     K [[z0]] [[(cond (false) 1 0)]]
    ))
   ))
  )
 ))
def B_partsu (S : Nat → List (List Int) → List (List Int) → Prop) (K : List (List Int) → List (List Int) → Prop) : Prop :=
 ∀ z0 : Int, 0 ≤ z0 → z0 ≤ HB → ∀ z1 : Int, 64 ≤ z1 → z1 ≤ 64 → 
 ∀ z2 : Int, 0 ≤ z2 → z2 ≤ 9223372036854775807 → z2 = fnD 0 [z0] →
 (((decide (z2 = 0)) = true →
  K [[z0], [z1]] [[0], [0], [(cond (false) 1 0)]]
 ) ∧ ((decide (z2 = 0)) = false →
  ∀ z3 : Int, 0 ≤ z3 → z3 ≤ 9223372036854775807 → z3 = fnD 0 [z0] →
  (((decide (255 < z3)) = true →
   K [[z0], [z1]] [[0], [0], [(cond (false) 1 0)]]
  ) ∧ ((decide (255 < z3)) = false →
   chkD 1 [z0, 0] ∧
   ∀ z4 : Int, 0 ≤ z4 → z4 ≤ 255 → z4 = fnD 1 [z0, 0] →
   ((((!(decide (z4 = z1)))) = true →
    K [[z0], [z1]] [[0], [0], [(cond (false) 1 0)]]
   ) ∧ (((!(decide (z4 = z1)))) = false →
    ∀ z5 : Int, (-1) ≤ z5 → z5 ≤ 9223372036854775807 → S 204 [[z0]] [[z5]] →
    (((decide (z5 < 0)) = true →
     K [[z0], [z1]] [[0], [0], [(cond (false) 1 0)]]
    ) ∧ ((decide (z5 < 0)) = false →
     ∀ z6 : Int, 0 ≤ z6 → z6 ≤ 1 → 0 ≤ (z5 + 9223372036854775809) - 18446744073709551616 * z6 → (z5 + 9223372036854775809) - 18446744073709551616 * z6 < 18446744073709551616 →
     ∀ z7 : Int, 0 ≤ z7 → z7 ≤ 9223372036854775807 → z7 = fnD 0 [z0] →
     chkD 2 [z0, ((z5 + ((-18446744073709551616) * z6)) + 1), z7] ∧
     ∀ z8 : Int, 0 ≤ z8 → z8 ≤ HB → z8 = fnD 2 [z0, ((z5 + ((-18446744073709551616) * z6)) + 1), z7] →
     ∀ z9 : Int, 0 ≤ z9 → z9 ≤ 1 → S 205 [[z8]] [[z9]] →
     ((((!(decide (z9 = 1)))) = true →
      K [[z0], [z1]] [[0], [0], [(cond (false) 1 0)]]
     ) ∧ (((!(decide (z9 = 1)))) = false →
      chkD 2 [z0, 1, z5] ∧
      ∀ z10 : Int, 0 ≤ z10 → z10 ≤ HB → z10 = fnD 2 [z0, 1, z5] →
      ∀ z11 : Int, 0 ≤ z11 → z11 ≤ 1 → 0 ≤ (z5 + 9223372036854775809) - 18446744073709551616 * z11 → (z5 + 9223372036854775809) - 18446744073709551616 * z11 < 18446744073709551616 →
      ∀ z12 : Int, 0 ≤ z12 → z12 ≤ 9223372036854775807 → z12 = fnD 0 [z0] →
      chkD 2 [z0, ((z5 + ((-18446744073709551616) * z11)) + 1), z12] ∧
      ∀ z13 : Int, 0 ≤ z13 → z13 ≤ HB → z13 = fnD 2 [z0, ((z5 + ((-18446744073709551616) * z11)) + 1), z12] →
      K [[z0], [z1]] [[z10], [z13], [(cond (true) 1 0)]]
     ))
    ))
   ))
  ))
 ))
def B_ruser (S : Nat → List (List Int) → List (List Int) → Prop) (K : List (List Int) → List (List Int) → Prop) : Prop :=
 ∀ z0 : Int, 0 ≤ z0 → z0 ≤ HB → 
 ∀ z1 : Int, 0 ≤ z1 → z1 ≤ HB → ∀ z2 : Int, 0 ≤ z2 → z2 ≤ HB → ∀ z3 : Int, 0 ≤ z3 → z3 ≤ 1 → S 206 [[z0], [64]] [[z1], [z2], [z3]] →
 ∃ (I4 : List (List Int) → Prop) (μ4 : List (List Int) → Nat), I4 [[0]] ∧ (∀ z5 : Int, 0 ≤ z5 → z5 ≤ 9223372036854775807 → I4 [[z5]] →
  ∀ z6 : Int, 0 ≤ z6 → z6 ≤ 9223372036854775807 → z6 = fnD 0 [z1] →
  (((decide (z5 < z6)) = true →
   chkD 1 [z1, z5] ∧
   ∀ z7 : Int, 0 ≤ z7 → z7 ≤ 255 → z7 = fnD 1 [z1, z5] →
   ∀ z8 : Int, 0 ≤ z8 → z8 ≤ 1 → S 50 [[z7]] [[z8]] →
   ((((!(decide (z8 = 1)))) = true →
    ∀ z9 : Int, 0 ≤ z9 → z9 ≤ 1 → S 52 [[z7]] [[z9]] →
    ((((!(decide (z9 = 1)))) = true →
     ((((!(decide (z7 = 46)))) = true →
      ((((!(decide (z7 = 95)))) = true →
       ((((!(decide (z7 = 61)))) = true →
        ((((!(decide (z7 = 47)))) = true →
         ((((!(decide (z7 = 43)))) = true →
          ((((!(decide (z7 = 45)))) = true →
           K [[z0]] [[(cond (false) 1 0)]]
          ) ∧ (((!(decide (z7 = 45)))) = false →
           ∀ z10 : Int, 0 ≤ z10 → z10 ≤ 1 → 0 ≤ (z5 + 9223372036854775809) - 18446744073709551616 * z10 → (z5 + 9223372036854775809) - 18446744073709551616 * z10 < 18446744073709551616 →
           chkD 39 [((z5 + ((-18446744073709551616) * z10)) + 1), 0, 9223372036854775807] ∧
           (I4 [[((z5 + ((-18446744073709551616) * z10)) + 1)]] ∧ μ4 [[((z5 + ((-18446744073709551616) * z10)) + 1)]] < μ4 [[z5]])
          ))
         ) ∧ (((!(decide (z7 = 43)))) = false →
          ∀ z10 : Int, 0 ≤ z10 → z10 ≤ 1 → 0 ≤ (z5 + 9223372036854775809) - 18446744073709551616 * z10 → (z5 + 9223372036854775809) - 18446744073709551616 * z10 < 18446744073709551616 →
          chkD 39 [((z5 + ((-18446744073709551616) * z10)) + 1), 0, 9223372036854775807] ∧
          (I4 [[((z5 + ((-18446744073709551616) * z10)) + 1)]] ∧ μ4 [[((z5 + ((-18446744073709551616) * z10)) + 1)]] < μ4 [[z5]])
         ))
        ) ∧ (((!(decide (z7 = 47)))) = false →
         ∀ z10 : Int, 0 ≤ z10 → z10 ≤ 1 → 0 ≤ (z5 + 9223372036854775809) - 18446744073709551616 * z10 → (z5 + 9223372036854775809) - 18446744073709551616 * z10 < 18446744073709551616 →
         chkD 39 [((z5 + ((-18446744073709551616) * z10)) + 1), 0, 9223372036854775807] ∧
         (I4 [[((z5 + ((-18446744073709551616) * z10)) + 1)]] ∧ μ4 [[((z5 + ((-18446744073709551616) * z10)) + 1)]] < μ4 [[z5]])
        ))
       ) ∧ (((!(decide (z7 = 61)))) = false →
        ∀ z10 : Int, 0 ≤ z10 → z10 ≤ 1 → 0 ≤ (z5 + 9223372036854775809) - 18446744073709551616 * z10 → (z5 + 9223372036854775809) - 18446744073709551616 * z10 < 18446744073709551616 →
        chkD 39 [((z5 + ((-18446744073709551616) * z10)) + 1), 0, 9223372036854775807] ∧
        (I4 [[((z5 + ((-18446744073709551616) * z10)) + 1)]] ∧ μ4 [[((z5 + ((-18446744073709551616) * z10)) + 1)]] < μ4 [[z5]])
       ))
      ) ∧ (((!(decide (z7 = 95)))) = false →
       ∀ z10 : Int, 0 ≤ z10 → z10 ≤ 1 → 0 ≤ (z5 + 9223372036854775809) - 18446744073709551616 * z10 → (z5 + 9223372036854775809) - 18446744073709551616 * z10 < 18446744073709551616 →
       chkD 39 [((z5 + ((-18446744073709551616) * z10)) + 1), 0, 9223372036854775807] ∧
       (I4 [[((z5 + ((-18446744073709551616) * z10)) + 1)]] ∧ μ4 [[((z5 + ((-18446744073709551616) * z10)) + 1)]] < μ4 [[z5]])
      ))
     ) ∧ (((!(decide (z7 = 46)))) = false →
      ∀ z10 : Int, 0 ≤ z10 → z10 ≤ 1 → 0 ≤ (z5 + 9223372036854775809) - 18446744073709551616 * z10 → (z5 + 9223372036854775809) - 18446744073709551616 * z10 < 18446744073709551616 →
      chkD 39 [((z5 + ((-18446744073709551616) * z10)) + 1), 0, 9223372036854775807] ∧
      (I4 [[((z5 + ((-18446744073709551616) * z10)) + 1)]] ∧ μ4 [[((z5 + ((-18446744073709551616) * z10)) + 1)]] < μ4 [[z5]])
     ))
    ) ∧ (((!(decide (z9 = 1)))) = false →
     ∀ z10 : Int, 0 ≤ z10 → z10 ≤ 1 → 0 ≤ (z5 + 9223372036854775809) - 18446744073709551616 * z10 → (z5 + 9223372036854775809) - 18446744073709551616 * z10 < 18446744073709551616 →
     chkD 39 [((z5 + ((-18446744073709551616) * z10)) + 1), 0, 9223372036854775807] ∧
     (I4 [[((z5 + ((-18446744073709551616) * z10)) + 1)]] ∧ μ4 [[((z5 + ((-18446744073709551616) * z10)) + 1)]] < μ4 [[z5]])
    ))
   ) ∧ (((!(decide (z8 = 1)))) = false →
    ∀ z9 : Int, 0 ≤ z9 → z9 ≤ 1 → 0 ≤ (z5 + 9223372036854775809) - 18446744073709551616 * z9 → (z5 + 9223372036854775809) - 18446744073709551616 * z9 < 18446744073709551616 →
    chkD 39 [((z5 + ((-18446744073709551616) * z9)) + 1), 0, 9223372036854775807] ∧
    (I4 [[((z5 + ((-18446744073709551616) * z9)) + 1)]] ∧ μ4 [[((z5 + ((-18446744073709551616) * z9)) + 1)]] < μ4 [[z5]])
   ))
  ) ∧ ((decide (z5 < z6)) = false →
   (((decide (z3 = 1)) = true →
    ∀ z7 : Int, 0 ≤ z7 → z7 ≤ 9223372036854775807 → z7 = fnD 0 [z1] →
    (((decide (1 ≤ z7)) = true →
     ∀ z8 : Int, 0 ≤ z8 → z8 ≤ 9223372036854775807 → z8 = fnD 0 [z1] →
     K [[z0]] [[(cond (decide (z8 ≤ 200)) 1 0)]]
    ) ∧ ((decide (1 ≤ z7)) = false →
     K [[z0]] [[(cond (false) 1 0)]]
    ))
   ) ∧ ((decide (z3 = 1)) = false →
    K [[z0]] [[(cond (false) 1 0)]]
   ))
  ))
 )
theorem p_tus : B_tus SB (KBv SB [.str] 202) := p_trimB (n := 79221403731691789204265450354666987086070872538664503581038852739373042335165977954796146613462291367) (p := inUser) (allB256 (by decide +kernel)) fun _ _ => rfl
/-- A round's end: one on. -/
theorem adv1 {I : List (List Int) → Prop} {M : List (List Int) → Nat} {L : Int} {i : Nat} (hlt : (i : Int) < L) (hL : L ≤ 9223372036854775807) (hI : I [[((i + 1 : Nat) : Int)]]) (hM : M [[((i + 1 : Nat) : Int)]] < M [[(i : Int)]]) :
   ∀ q : Int, 0 ≤ q → q ≤ 1 → 0 ≤ ((i : Int) + 9223372036854775809) - 18446744073709551616 * q → ((i : Int) + 9223372036854775809) - 18446744073709551616 * q < 18446744073709551616 →
    chkD 39 [(((i : Int) + ((-18446744073709551616) * q)) + 1), 0, 9223372036854775807] ∧
    (I [[(((i : Int) + ((-18446744073709551616) * q)) + 1)]] ∧ M [[(((i : Int) + ((-18446744073709551616) * q)) + 1)]] < M [[(i : Int)]]) := by
  intro q q0 q1 q2 q3
  rw [wrap1 (L := L) hlt hL (Int.natCast_nonneg _) q0 q2]
  exact ⟨⟨by omega, by omega⟩, by simpa using hI, by simpa using hM⟩
def cntM (n : Nat) (bl : List (List Int)) : Nat := n - ((bl.getD 0 []).getD 0 0).toNat
theorem cntM_lt {n i : Nat} (h : i < n) : cntM n [[((i + 1 : Nat) : Int)]] < cntM n [[(i : Int)]] := by
  show n - (((i + 1 : Nat) : Int)).toNat < n - ((i : Int)).toNat
  omega
theorem p_colon : B_colon SB (KBv SB [.int .i64 (-1) 9223372036854775807] 204) := by
  intro z0 a0 a1
  have hL := len_lt a1
  refine ⟨fun bl => ∃ i : Nat, bl = [[(i : Int)]] ∧ i ≤ (sOf z0).length ∧ ∀ j, j < i → (sOf z0).getD j 0 ≠ u8 58, cntM (sOf z0).length, ⟨0, rfl, Nat.zero_le _, fun j h => by omega⟩, ?_⟩
  rintro z2 b0 b1 ⟨i, e, hi, hb⟩ z3 c0 c1 h3
  obtain rfl : z2 = i := by simpa using e
  simp only [fnD] at h3
  have fin : ∀ r : Int, -1 ≤ r → r ≤ 9223372036854775807 → r = idx 58 (sOf z0) → KBv SB [.int .i64 (-1) 9223372036854775807] 204 [[z0]] [[r]] := fun r r0 r1 h => ⟨⟨r0, r1, trivial⟩, h⟩
  refine ⟨fun hp => ?_, fun hp => fin _ (by decide) (by decide) ?_⟩
  · have hp : (i : Int) < z3 := by simpa using hp
    refine ⟨⟨b0, by omega⟩, fun z4 d0 d1 h4 => ?_⟩
    simp only [fnD, Int.toNat_natCast] at h4
    have hu := u8_eq (b := (sOf z0).getD i 0) (z := 58) (by decide) (by decide)
    rw [← h4] at hu
    refine ⟨fun hq => fin _ (by omega) (by omega) ?_, fun hq => adv1 (I := fun bl => ∃ i : Nat, bl = [[(i : Int)]] ∧ i ≤ (sOf z0).length ∧ ∀ j, j < i → (sOf z0).getD j 0 ≠ u8 58) (M := cntM (sOf z0).length) (L := z3) hp c1 ⟨i + 1, rfl, by omega, fun j hj => ?_⟩ (cntM_lt (by omega))⟩
    · exact (idx_at (by decide) (by decide) (by omega) (beq_iff_eq.1 (hu.1 (of_decide_eq_true hq))) hb).symm
    · by_cases he : j = i
      · subst he
        intro h
        have := hu.2 (by rw [h]; simp)
        exact of_decide_eq_false hq this
      · exact hb j (by omega)
  · have hp : ¬ (i : Int) < z3 := by simpa using hp
    exact (idx_no (by decide) (by decide) fun j hj => hb j (by omega)).symm
theorem sub_to {s z L : Int} {n : Nat} (hz : z = (n : Int)) (h : n ≤ (sOf s).length) (hL : L = fnD 0 [s]) : (0 ≤ z ∧ z ≤ L ∧ L ≤ ((sOf s).length : Int)) ∧ ∀ y, y = fnD 2 [s, z, L] → sOf y = (sOf s).drop n := by
  subst hz
  simp only [fnD] at hL
  refine ⟨⟨by omega, by omega, by omega⟩, fun y hy => ?_⟩
  rw [hy]; simp only [fnD, sOf_cOf]
  rw [show ((n : Int)).toNat = n by omega]
  exact List.take_of_length_le (by simp; omega)
theorem p_rserver : B_rserver SB (KBv SB [.bool] 205) := by
  intro z0 a0 a1 z1 b0 b1 h1
  have hL := len_lt a1
  have h1 : z1 = idx 58 (sOf z0) := h1
  have kk : ∀ b : Bool, serverb (sOf z0) = b → KBv SB [.bool] 205 [[z0]] [[b01 b]] := fun b h => kb (by show b01 b = b01 (serverb (sOf z0)); rw [h])
  have hr := idx_range 58 (sOf z0)
  refine ⟨fun hn z2 c0 c1 h2 => ?_, fun hn z2 c0 c1 c2 c3 z3 d0 d1 h3 => ?_⟩
  · have h2 : z2 = b01 (hostb (sOf z0)) := h2
    have hn : z1 < 0 := of_decide_eq_true hn
    rw [b01_dec h2]
    exact kk _ (serverb_host (by omega))
  · have hn : ¬ z1 < 0 := of_decide_eq_false hn
    have hw : z1 + -18446744073709551616 * z2 + 1 = ((z1.toNat + 1 : Nat) : Int) := by omega
    rw [hw]
    obtain ⟨s1, s2⟩ := sub_to (s := z0) (z := ((z1.toNat + 1 : Nat) : Int)) (L := z3) (n := z1.toNat + 1) rfl (by omega) h3
    refine ⟨s1, fun z4 e0 e1 h4 => ?_⟩
    have e4 := s2 z4 h4
    have hlen4 := len_lt e1
    have hsv : serverb (sOf z0) = (hostb ((sOf z0).take z1.toNat) && portb (sOf z4)) := by
      unfold serverb cutF
      have : decide (0 ≤ idx 58 (sOf z0)) = true := decide_eq_true (by omega)
      rw [this, e4, h1]
      simp
    refine ⟨fun bl => ∃ i : Nat, bl = [[(i : Int)]] ∧ i ≤ (sOf z4).length ∧ ((sOf z4).take i).all isD = true, cntM (sOf z4).length, ⟨0, rfl, Nat.zero_le _, rfl⟩, ?_⟩
    rintro z6 f0 f1 ⟨i, e, hi, hall⟩ z7 g0 g1 h7
    obtain rfl : z6 = i := by simpa using e
    simp only [fnD] at h7
    refine ⟨fun hp => ?_, fun hp => ?_⟩
    · have hp : (i : Int) < z7 := by simpa using hp
      refine ⟨⟨f0, by omega⟩, fun z8 i0 i1 h8 z9 j0 j1 h9 => ?_⟩
      simp only [fnD, Int.toNat_natCast] at h8
      have h9 : z9 = b01 (isD (u8 z8)) := h9
      rw [h8, u8_of] at h9
      rw [b01_dec h9]
      refine ⟨fun hd => kk false ?_, fun hd => adv1 (I := fun bl => ∃ i : Nat, bl = [[(i : Int)]] ∧ i ≤ (sOf z4).length ∧ ((sOf z4).take i).all isD = true) (M := cntM (sOf z4).length) (L := z7) hp g1 ⟨i + 1, rfl, by omega, ?_⟩ (cntM_lt (by omega))⟩
      · have hd : isD ((sOf z4).getD i 0) = false := by simpa using hd
        rw [hsv]; unfold portb; rw [all_false_of isD _ i (by omega) hd]; simp
      · have hd : isD ((sOf z4).getD i 0) = true := by simpa using hd
        rw [all_take _ _ _ (by omega), hall, hd]; rfl
    · have hp : ¬ (i : Int) < z7 := by simpa using hp
      rw [List.take_of_length_le (by omega)] at hall
      refine ⟨⟨Int.le_refl _, by omega, by omega⟩, fun z8 i0 i1 h8 z9 j0 j1 h9 => ?_⟩
      have e8 : sOf z8 = (sOf z0).take z1.toNat := by
        rw [h8]; simp only [fnD, sOf_cOf]
        rw [show (0 : Int).toNat = 0 from rfl, List.drop_zero]; rfl
      have h9 : z9 = b01 (hostb (sOf z8)) := h9
      rw [b01_dec h9, e8]
      have hport : portb (sOf z4) = (Nat.blt 0 (sOf z4).length && Nat.ble (sOf z4).length 5) := by unfold portb; rw [hall, Bool.and_true]
      rw [hport] at hsv
      refine ⟨fun hh z10 k0 k1 h10 => ?_, fun hh => kk false (by rw [hsv, hh]; rfl)⟩
      simp only [fnD] at h10
      refine ⟨fun hq z11 l0 l1 h11 => ?_, fun hq => kk false ?_⟩
      · simp only [fnD] at h11
        have hq : 1 ≤ z10 := of_decide_eq_true hq
        refine kk _ ?_
        rw [hsv, hh, show Nat.blt 0 (sOf z4).length = true by rw [Nat.blt_eq]; omega, Bool.true_and, Bool.true_and, Bool.eq_iff_iff, decide_eq_true_eq, Nat.ble_eq]; omega
      · have hq : ¬ 1 ≤ z10 := of_decide_eq_false hq
        rw [hsv, show Nat.blt 0 (sOf z4).length = false by
          cases hb : Nat.blt 0 (sOf z4).length with
          | false => rfl
          | true => rw [Nat.blt_eq] at hb; omega]; simp
theorem kp {id : Nat} {zs : List (List Int)} {a b : Int} {c : Bool} (a0 : 0 ≤ a) (a1 : a ≤ HB) (b0 : 0 ≤ b) (b1 : b ≤ HB) (h : SB id zs [[a], [b], [b01 c]]) : KBv SB [.str, .str, .bool] id zs [[a], [b], [b01 c]] := ⟨⟨a0, a1, b0, b1, (b01_bd c).1, (b01_bd c).2, trivial⟩, h⟩
theorem partsF_no {k : UInt8} {s : Tx} (h : (Nat.blt 0 s.length && Nat.ble s.length 255 && s.getD 0 0 == k && decide (0 ≤ idx 58 s) && serverb (s.drop ((idx 58 s).toNat + 1))) = false) : partsF k s = ([], [], 0) := by unfold partsF; rw [h]; rfl
theorem p_parts {k : Int} (k0 : 0 ≤ k) (k1 : k ≤ 255) (hk : k ≠ 58) {id : Nat} (hid : ∀ z a b c, SB id [[z], [k]] [[a], [b], [c]] = ((sOf a, sOf b, c) = partsF (u8 k) (sOf z))) :
 (∀ z0 : Int, 0 ≤ z0 → z0 ≤ HB → ∀ z1 : Int, k ≤ z1 → z1 ≤ k → 
 ∀ z2 : Int, 0 ≤ z2 → z2 ≤ 9223372036854775807 → z2 = fnD 0 [z0] →
 (((decide (z2 = 0)) = true →
  KBv SB [.str, .str, .bool] id [[z0], [z1]] [[0], [0], [(cond (false) 1 0)]]
 ) ∧ ((decide (z2 = 0)) = false →
  ∀ z3 : Int, 0 ≤ z3 → z3 ≤ 9223372036854775807 → z3 = fnD 0 [z0] →
  (((decide (255 < z3)) = true →
   KBv SB [.str, .str, .bool] id [[z0], [z1]] [[0], [0], [(cond (false) 1 0)]]
  ) ∧ ((decide (255 < z3)) = false →
   chkD 1 [z0, 0] ∧
   ∀ z4 : Int, 0 ≤ z4 → z4 ≤ 255 → z4 = fnD 1 [z0, 0] →
   ((((!(decide (z4 = z1)))) = true →
    KBv SB [.str, .str, .bool] id [[z0], [z1]] [[0], [0], [(cond (false) 1 0)]]
   ) ∧ (((!(decide (z4 = z1)))) = false →
    ∀ z5 : Int, (-1) ≤ z5 → z5 ≤ 9223372036854775807 → SB 204 [[z0]] [[z5]] →
    (((decide (z5 < 0)) = true →
     KBv SB [.str, .str, .bool] id [[z0], [z1]] [[0], [0], [(cond (false) 1 0)]]
    ) ∧ ((decide (z5 < 0)) = false →
     ∀ z6 : Int, 0 ≤ z6 → z6 ≤ 1 → 0 ≤ (z5 + 9223372036854775809) - 18446744073709551616 * z6 → (z5 + 9223372036854775809) - 18446744073709551616 * z6 < 18446744073709551616 →
     ∀ z7 : Int, 0 ≤ z7 → z7 ≤ 9223372036854775807 → z7 = fnD 0 [z0] →
     chkD 2 [z0, ((z5 + ((-18446744073709551616) * z6)) + 1), z7] ∧
     ∀ z8 : Int, 0 ≤ z8 → z8 ≤ HB → z8 = fnD 2 [z0, ((z5 + ((-18446744073709551616) * z6)) + 1), z7] →
     ∀ z9 : Int, 0 ≤ z9 → z9 ≤ 1 → SB 205 [[z8]] [[z9]] →
     ((((!(decide (z9 = 1)))) = true →
      KBv SB [.str, .str, .bool] id [[z0], [z1]] [[0], [0], [(cond (false) 1 0)]]
     ) ∧ (((!(decide (z9 = 1)))) = false →
      chkD 2 [z0, 1, z5] ∧
      ∀ z10 : Int, 0 ≤ z10 → z10 ≤ HB → z10 = fnD 2 [z0, 1, z5] →
      ∀ z11 : Int, 0 ≤ z11 → z11 ≤ 1 → 0 ≤ (z5 + 9223372036854775809) - 18446744073709551616 * z11 → (z5 + 9223372036854775809) - 18446744073709551616 * z11 < 18446744073709551616 →
      ∀ z12 : Int, 0 ≤ z12 → z12 ≤ 9223372036854775807 → z12 = fnD 0 [z0] →
      chkD 2 [z0, ((z5 + ((-18446744073709551616) * z11)) + 1), z12] ∧
      ∀ z13 : Int, 0 ≤ z13 → z13 ≤ HB → z13 = fnD 2 [z0, ((z5 + ((-18446744073709551616) * z11)) + 1), z12] →
      KBv SB [.str, .str, .bool] id [[z0], [z1]] [[z10], [z13], [(cond (true) 1 0)]]
     ))
    ))
   ))
  ))
 ))) := by
  intro z0 a0 a1 z1 b0 b1 z2 c0 c1 h2
  have hL := len_lt a1
  obtain rfl : z1 = k := by omega
  simp only [fnD] at h2
  have kno : partsF (u8 z1) (sOf z0) = ([], [], 0) → KBv SB [.str, .str, .bool] id [[z0], [z1]] [[0], [0], [(cond (false) 1 0)]] := fun h => kp (c := false) (Int.le_refl _) HB_pos (Int.le_refl _) HB_pos (by rw [hid, h]; rfl)
  have hpos : Nat.blt 0 (sOf z0).length = !decide (z2 = 0) := by
    rw [Bool.eq_iff_iff, Nat.blt_eq]; simp; omega
  refine ⟨fun h => kno (partsF_no (by rw [hpos, h]; rfl)), fun h z3 d0 d1 h3 => ?_⟩
  have hz2 : ¬ z2 = 0 := of_decide_eq_false h
  rw [h] at hpos
  have hb255 := len_gt (n := 255) 255 rfl h3
  refine ⟨fun h' => kno (partsF_no (by
    rw [h'] at hb255
    have : Nat.ble (sOf z0).length 255 = false := by simpa using hb255.symm
    rw [this]; simp)), fun h' => ⟨⟨Int.le_refl _, by omega⟩, fun z4 e0 e1 h4 => ?_⟩⟩
  rw [h'] at hb255
  have hb255 : Nat.ble (sOf z0).length 255 = true := by simpa using hb255.symm
  have hk4 : decide (z4 = z1) = ((sOf z0).getD 0 0 == u8 z1) := by
    rw [h4]; simp only [fnD, Int.toNat_zero]
    rw [Bool.eq_iff_iff, decide_eq_true_eq, u8_eq k0 k1]
  rw [hk4]
  refine ⟨fun hk => kno (partsF_no (by
    have : ((sOf z0).getD 0 0 == u8 z1) = false := by simpa using hk
    rw [this]; simp)), fun hkk z5 f0 f1 h5 => ?_⟩
  have hkk : ((sOf z0).getD 0 0 == u8 z1) = true := by simpa using hkk
  have h5 : z5 = idx 58 (sOf z0) := h5
  have hr := idx_range 58 (sOf z0)
  refine ⟨fun hn => kno (partsF_no (by
    have hn : z5 < 0 := of_decide_eq_true hn
    rw [show decide (0 ≤ idx 58 (sOf z0)) = false from decide_eq_false (by omega)]; simp)), fun hn z6 g0 g1 g2 g3 z7 i0 i1 h7 => ?_⟩
  have hn : ¬ z5 < 0 := of_decide_eq_false hn
  have h1 : 1 ≤ z5 := by
    rcases idx_cases (c := 58) (by decide) (by decide) (sOf z0) with ⟨q, _⟩ | ⟨q1, q2, q3, _⟩
    · omega
    · by_cases h0 : z5 = 0
      · rw [← h5, h0] at q3
        have q3 : (sOf z0).getD 0 0 = u8 58 := q3
        rw [q3] at hkk
        have := beq_iff_eq.1 hkk
        have := congrArg UInt8.toNat this
        have e1 := u8_toNat k0 k1
        have e2 := u8_toNat (z := 58) (by decide) (by decide)
        omega
      · omega
  have hw : ∀ q : Int, 0 ≤ q → q ≤ 1 → 0 ≤ (z5 + 9223372036854775809) - 18446744073709551616 * q → z5 + -18446744073709551616 * q + 1 = ((z5.toNat + 1 : Nat) : Int) := fun q q0 q1 q2 => by omega
  rw [hw z6 g0 g1 g2]
  obtain ⟨s1, s2⟩ := sub_to (s := z0) (z := ((z5.toNat + 1 : Nat) : Int)) (L := z7) (n := z5.toNat + 1) rfl (by omega) h7
  refine ⟨s1, fun z8 j0 j1 h8 z9 l0 l1 h9 => ?_⟩
  have e8 := s2 z8 h8
  have h9 : z9 = b01 (serverb (sOf z8)) := h9
  rw [b01_dec h9, e8]
  have hi : decide (0 ≤ idx 58 (sOf z0)) = true := decide_eq_true (by omega)
  refine ⟨fun hs => kno (partsF_no (by
    have hs : serverb ((sOf z0).drop (z5.toNat + 1)) = false := by simpa using hs
    rw [← h5, hs]; simp)), fun hs => ⟨⟨by decide, by omega, by omega⟩, fun z10 m0 m1 h10 z11 n0 n1 n2 n3 z12 o0 o1 h12 => ?_⟩⟩
  have hs : serverb ((sOf z0).drop (z5.toNat + 1)) = true := by simpa using hs
  rw [hw z11 n0 n1 n2]
  obtain ⟨t1, t2⟩ := sub_to (s := z0) (z := ((z5.toNat + 1 : Nat) : Int)) (L := z12) (n := z5.toNat + 1) rfl (by omega) h12
  refine ⟨t1, fun z13 p0 p1 h13 => kp (c := true) m0 m1 p0 p1 ?_⟩
  rw [hid, t2 z13 h13]
  have e10 : sOf z10 = ((sOf z0).take z5.toNat).drop 1 := by
    rw [h10]; simp only [fnD, sOf_cOf]
    rw [List.drop_take]; rfl
  have hbl : Nat.blt 0 (sOf z0).length = true := by rw [hpos]; rfl
  unfold partsF
  rw [hbl, hb255, hkk, hi, ← h5, hs, e10]
  rfl
theorem p_partsu : B_partsu SB (KBv SB [.str, .str, .bool] 206) := p_parts (k := 64) (by decide) (by decide) (by decide) fun _ _ _ _ => rfl
theorem name_end {z0 z1 z3 : Int} {k : UInt8} {inn : UInt8 → Bool} {most : Nat} {mz : Int} (hm : mz = (most : Int)) {id : Nat} (hid : ∀ r, SB id [[z0]] [[r]] = (r = b01 (nameb k inn most (sOf z0)))) (h3 : 0 ≤ z3 ∧ z3 ≤ 1) (hp : (partsF k (sOf z0)).1 = sOf z1) (hp3 : (partsF k (sOf z0)).2.2 = z3) (hall : (sOf z1).all inn = true) :
   (((decide (z3 = 1)) = true →
    ∀ z7 : Int, 0 ≤ z7 → z7 ≤ 9223372036854775807 → z7 = fnD 0 [z1] →
    (((decide (1 ≤ z7)) = true →
     ∀ z8 : Int, 0 ≤ z8 → z8 ≤ 9223372036854775807 → z8 = fnD 0 [z1] →
     KBv SB [.bool] id [[z0]] [[(cond (decide (z8 ≤ mz)) 1 0)]]
    ) ∧ ((decide (1 ≤ z7)) = false →
     KBv SB [.bool] id [[z0]] [[(cond (false) 1 0)]]
    ))
   ) ∧ ((decide (z3 = 1)) = false →
    KBv SB [.bool] id [[z0]] [[(cond (false) 1 0)]]
   )) := by
  have kk : ∀ b : Bool, nameb k inn most (sOf z0) = b → KBv SB [.bool] id [[z0]] [[b01 b]] := fun b h => kb (by rw [hid, h])
  have hv : nameb k inn most (sOf z0) = (decide (z3 = 1) && Nat.blt 0 (sOf z1).length && Nat.ble (sOf z1).length most) := by
    unfold nameb; rw [hp, hp3, hall, Bool.and_true]
  refine ⟨fun h z7 a0 a1 h7 => ?_, fun h => kk false (by rw [hv, h]; rfl)⟩
  simp only [fnD] at h7
  refine ⟨fun h1 z8 b0 b1 h8 => kk _ ?_, fun h1 => kk false ?_⟩
  · have h1 : 1 ≤ z7 := of_decide_eq_true h1
    rw [hv, h, show Nat.blt 0 (sOf z1).length = true by rw [Nat.blt_eq]; omega, len_dec most hm h8]; rfl
  · have h1 : ¬ 1 ≤ z7 := of_decide_eq_false h1
    rw [hv, show Nat.blt 0 (sOf z1).length = false by
      cases hb : Nat.blt 0 (sOf z1).length with
      | false => rfl
      | true => rw [Nat.blt_eq] at hb; omega]; simp
theorem name_no {k : UInt8} {inn : UInt8 → Bool} {most : Nat} {s l : Tx} (hp : (partsF k s).1 = l) {i : Nat} (hi : i < l.length) (hf : inn (l.getD i 0) = false) : nameb k inn most s = false := by
  unfold nameb; rw [hp, all_false_of inn l i hi hf]; simp
theorem p_ruser : B_ruser SB (KBv SB [.bool] 207) := by
  intro z0 a0 a1 z1 b0 b1 z2 c0 c1 z3 d0 d1 hP
  have hP : (sOf z1, sOf z2, z3) = partsF 64 (sOf z0) := hP
  have hp : (partsF 64 (sOf z0)).1 = sOf z1 := by rw [← hP]
  have hp3 : (partsF 64 (sOf z0)).2.2 = z3 := by rw [← hP]
  have hL := len_lt b1
  have kk : ∀ b : Bool, userb (sOf z0) = b → KBv SB [.bool] 207 [[z0]] [[b01 b]] := fun b h => kb (by show b01 b = b01 (userb (sOf z0)); rw [h])
  refine ⟨fun bl => ∃ i : Nat, bl = [[(i : Int)]] ∧ i ≤ (sOf z1).length ∧ ((sOf z1).take i).all inUser = true, cntM (sOf z1).length, ⟨0, rfl, Nat.zero_le _, rfl⟩, ?_⟩
  rintro z5 e0 e1 ⟨i, e, hi, hall⟩ z6 f0 f1 h6
  obtain rfl : z5 = i := by simpa using e
  simp only [fnD] at h6
  refine ⟨fun hlt => ?_, fun hge => ?_⟩
  · have hlt : (i : Int) < z6 := by simpa using hlt
    refine ⟨⟨e0, by omega⟩, fun z7 g0 g1 h7 z8 i0 i1 h8 => ?_⟩
    simp only [fnD, Int.toNat_natCast] at h7
    have h8 : z8 = b01 (isS (u8 z7)) := h8
    have e7 : u8 z7 = (sOf z1).getD i 0 := by rw [h7, u8_of]
    rw [e7] at h8
    have on : inUser ((sOf z1).getD i 0) = true → _ := fun h => adv1 (I := fun bl => ∃ i : Nat, bl = [[(i : Int)]] ∧ i ≤ (sOf z1).length ∧ ((sOf z1).take i).all inUser = true) (M := cntM (sOf z1).length) (L := z6) hlt f1 ⟨i + 1, rfl, by omega, by rw [all_take _ _ _ (by omega), hall, h]; rfl⟩ (cntM_lt (by omega))
    have ee : ∀ n : Int, 0 ≤ n → n ≤ 255 → decide (z7 = n) = ((sOf z1).getD i 0 == u8 n) := fun n h0 h1 => by
      rw [Bool.eq_iff_iff, decide_eq_true_eq, h7, u8_eq h0 h1]
    rw [b01_dec h8, ee 46 (by decide) (by decide), ee 95 (by decide) (by decide), ee 61 (by decide) (by decide), ee 47 (by decide) (by decide), ee 43 (by decide) (by decide), ee 45 (by decide) (by decide)]
    have hin : inUser ((sOf z1).getD i 0) = (isS ((sOf z1).getD i 0) || isD ((sOf z1).getD i 0) || ((sOf z1).getD i 0 == u8 46 || ((sOf z1).getD i 0 == u8 95 || ((sOf z1).getD i 0 == u8 61 || ((sOf z1).getD i 0 == u8 47 || ((sOf z1).getD i 0 == u8 43 || ((sOf z1).getD i 0 == u8 45 || false))))))) := rfl
    refine ⟨fun hs z9 j0 j1 h9 => ?_, fun hs => on (by rw [hin, show isS ((sOf z1).getD i 0) = true by simpa using hs]; rfl)⟩
    have hs : isS ((sOf z1).getD i 0) = false := by simpa using hs
    have h9 : z9 = b01 (isD (u8 z7)) := h9
    rw [e7] at h9
    rw [b01_dec h9]
    refine ⟨fun hd => ?_, fun hd => on (by rw [hin, show isD ((sOf z1).getD i 0) = true by simpa using hd]; simp)⟩
    have hd : isD ((sOf z1).getD i 0) = false := by simpa using hd
    rw [hs, hd] at hin
    refine ⟨fun q1 => ⟨fun q2 => ⟨fun q3 => ⟨fun q4 => ⟨fun q5 => ⟨fun q6 => kk false (name_no (k := 64) (inn := inUser) (most := 200) hp (i := i) (by omega) ?_), fun q6 => on ?_⟩, fun q5 => on ?_⟩, fun q4 => on ?_⟩, fun q3 => on ?_⟩, fun q2 => on ?_⟩, fun q1 => on ?_⟩
    · simp only [Bool.not_eq_true'] at q1 q2 q3 q4 q5 q6
      rw [hin, q1, q2, q3, q4, q5, q6]; rfl
    all_goals rw [hin]
    · simp only [Bool.not_eq_false'] at q6; rw [q6]; simp
    · simp only [Bool.not_eq_false'] at q5; rw [q5]; simp
    · simp only [Bool.not_eq_false'] at q4; rw [q4]; simp
    · simp only [Bool.not_eq_false'] at q3; rw [q3]; simp
    · simp only [Bool.not_eq_false'] at q2; rw [q2]; simp
    · simp only [Bool.not_eq_false'] at q1; rw [q1]; simp
  · have hge : ¬ (i : Int) < z6 := by simpa using hge
    rw [List.take_of_length_le (by omega)] at hall
    exact name_end (k := 64) (inn := inUser) (most := 200) rfl (fun _ => rfl) ⟨d0, d1⟩ hp hp3 hall
end Go.Ad

set_option maxRecDepth 100000
set_option linter.unusedVariables false
set_option linter.unusedSimpArgs false
namespace Go.Ad
open Go Go.Rx
def B_user (S : Nat → List (List Int) → List (List Int) → Prop) (K : List (List Int) → List (List Int) → Prop) : Prop :=
 ∀ z0 : Int, 0 ≤ z0 → z0 ≤ HB → 
 ∀ z1 : Int, 0 ≤ z1 → z1 ≤ 9223372036854775807 → z1 = fnD 0 [z0] →
 (((decide (255 < z1)) = true →
  K [[z0]] [[(cond (false) 1 0)]]
 ) ∧ ((decide (255 < z1)) = false →
  ∀ z2 : Int, 0 ≤ z2 → z2 ≤ 9223372036854775807 → z2 = fnD 0 [z0] →
  (((decide (1 ≤ z2)) = true →
   chkD 2 [z0, 0, 1] ∧
   ∀ z3 : Int, 0 ≤ z3 → z3 ≤ HB → z3 = fnD 2 [z0, 0, 1] →
   ∀ z4 : Int, 0 ≤ z4 → z4 ≤ 1 → z4 = fnD 4 [z3, 65] →
   ((((!(decide (z4 = 1)))) = true →
    K [[z0]] [[(cond (false) 1 0)]]
   ) ∧ (((!(decide (z4 = 1)))) = false →
    ∀ z5 : Int, 0 ≤ z5 → z5 ≤ 9223372036854775807 → z5 = fnD 0 [z0] →
    chkD 2 [z0, 1, z5] ∧
    ∀ z6 : Int, 0 ≤ z6 → z6 ≤ HB → z6 = fnD 2 [z0, 1, z5] →
    ∀ z7 : Int, 0 ≤ z7 → z7 ≤ HB → ∀ z8 : Int, 0 ≤ z8 → z8 ≤ HB → ∀ z9 : Int, 0 ≤ z9 → z9 ≤ 1 → S 126 [[z6]] [[z7], [z8], [z9]] →
    (((decide (z9 = 1)) = true →
     ∀ z10 : Int, 0 ≤ z10 → z10 ≤ 1 → z10 = fnD 4 [z7, 0] →
     ((((!(decide (z10 = 1)))) = true →
      ∀ z11 : Int, 0 ≤ z11 → z11 ≤ 9223372036854775807 → z11 = fnD 0 [z7] →
      (((decide (z11 ≤ 200)) = true →
       ∀ z12 : Int, 0 ≤ z12 → z12 ≤ HB → S 202 [[z7]] [[z12]] →
       ∀ z13 : Int, 0 ≤ z13 → z13 ≤ 1 → z13 = fnD 4 [z12, 0] →
       (((decide (z13 = 1)) = true →
        ∀ z14 : Int, 0 ≤ z14 → z14 ≤ 1 → S 65 [[z7], [29623484903295033747957742255491238963424329677582429956179748554116486405127370353604394274421496743]] [[z14]] →
        (((decide (z14 = 1)) = true →
         ∀ z15 : Int, 0 ≤ z15 → z15 ≤ 1 → S 27 [[z8]] [[z15]] →
         K [[z0]] [[(cond (decide (z15 = 1)) 1 0)]]
        ) ∧ ((decide (z14 = 1)) = false →
         K [[z0]] [[(cond (false) 1 0)]]
        ))
       ) ∧ ((decide (z13 = 1)) = false →
        K [[z0]] [[(cond (false) 1 0)]]
       ))
      ) ∧ ((decide (z11 ≤ 200)) = false →
       K [[z0]] [[(cond (false) 1 0)]]
      ))
     ) ∧ (((!(decide (z10 = 1)))) = false →
      K [[z0]] [[(cond (false) 1 0)]]
     ))
    ) ∧ ((decide (z9 = 1)) = false →
     K [[z0]] [[(cond (false) 1 0)]]
    ))
   ))
  ) ∧ ((decide (1 ≤ z2)) = false →
   K [[z0]] [[(cond (false) 1 0)]]
  ))
 ))
theorem idx_cons58 {c : UInt8} {t : Tx} (h : c ≠ 58) : idx 58 (c :: t) = if idx 58 t < 0 then -1 else idx 58 t + 1 := by
  have : ¬ (c.toNat : Int) = 58 := fun e => h (by rw [← UInt8.toNat_inj]; show c.toNat = 58; omega)
  show (if (c.toNat : Int) = 58 then 0 else if idx 58 t < 0 then -1 else idx 58 t + 1) = _
  rw [if_neg this]
theorem partsF_cons {k : UInt8} (hk : k ≠ 58) {t : Tx} (hl : t.length + 1 ≤ 255) : partsF k (k :: t) = cond (decide (0 ≤ idx 58 t) && serverb (t.drop ((idx 58 t).toNat + 1))) (t.take (idx 58 t).toNat, t.drop ((idx 58 t).toNat + 1), 1) ([], [], 0) := by
  unfold partsF
  rw [idx_cons58 hk, show Nat.blt 0 (k :: t).length = true by rw [Nat.blt_eq]; simp, show Nat.ble (k :: t).length 255 = true by rw [Nat.ble_eq]; simpa using hl]
  have hr := idx_range 58 t
  have hb : ((k :: t).getD 0 0 == k) = true := by show (k == k) = true; simp
  rw [hb]
  by_cases hn : idx 58 t < 0
  · rw [if_pos hn, show decide (0 ≤ idx 58 t) = false from decide_eq_false (by omega)]
    simp
  · rw [if_neg hn, show decide (0 ≤ idx 58 t) = true from decide_eq_true (by omega), show decide (0 ≤ idx 58 t + 1) = true from decide_eq_true (by omega), show (idx 58 t + 1).toNat = (idx 58 t).toNat + 1 by omega]
    simp
theorem partsF_ne {k : UInt8} {s : Tx} (h : s.getD 0 0 ≠ k ∨ s = []) : (partsF k s).2.2 = 0 := by
  rw [partsF_no]
  rcases h with h | h
  · rw [show (s.getD 0 0 == k) = false by simpa using h]; simp
  · rw [h]; rfl
theorem partsF_long {k : UInt8} {s : Tx} (h : Nat.ble s.length 255 = false) : (partsF k s).2.2 = 0 := by
  rw [partsF_no]
  rw [h]; simp
theorem nameb_no {k : UInt8} {inn : UInt8 → Bool} {most : Nat} {s : Tx} (h : (partsF k s).2.2 = 0) : nameb k inn most s = false := by unfold nameb; rw [h]; rfl
theorem only_in (inn : UInt8 → Bool) (s : Tx) {n : Int} (hn : ∀ c, (sOf n).contains c = inn c) : (s.all fun c => (sOf n).contains c) = s.all inn := by
  congr 1; funext c; exact hn c
theorem p_name {k : UInt8} {kc cn mz : Int} {inn : UInt8 → Bool} {most tid : Nat} (hk : k ≠ 58) (hkc : sOf kc = [k]) (hcn : ∀ c, (sOf cn).contains c = inn c) (hm : mz = (most : Int)) (ht : ∀ z r, SB tid [[z]] [[r]] = (sOf r = trimS inn (sOf z))) {id : Nat} (hid : ∀ z r, SB id [[z]] [[r]] = (r = b01 (nameb k inn most (sOf z)))) :
( ∀ z0 : Int, 0 ≤ z0 → z0 ≤ HB → 
 ∀ z1 : Int, 0 ≤ z1 → z1 ≤ 9223372036854775807 → z1 = fnD 0 [z0] →
 (((decide (255 < z1)) = true →
  KBv SB [.bool] id [[z0]] [[(cond (false) 1 0)]]
 ) ∧ ((decide (255 < z1)) = false →
  ∀ z2 : Int, 0 ≤ z2 → z2 ≤ 9223372036854775807 → z2 = fnD 0 [z0] →
  (((decide (1 ≤ z2)) = true →
   chkD 2 [z0, 0, 1] ∧
   ∀ z3 : Int, 0 ≤ z3 → z3 ≤ HB → z3 = fnD 2 [z0, 0, 1] →
   ∀ z4 : Int, 0 ≤ z4 → z4 ≤ 1 → z4 = fnD 4 [z3, kc] →
   ((((!(decide (z4 = 1)))) = true →
    KBv SB [.bool] id [[z0]] [[(cond (false) 1 0)]]
   ) ∧ (((!(decide (z4 = 1)))) = false →
    ∀ z5 : Int, 0 ≤ z5 → z5 ≤ 9223372036854775807 → z5 = fnD 0 [z0] →
    chkD 2 [z0, 1, z5] ∧
    ∀ z6 : Int, 0 ≤ z6 → z6 ≤ HB → z6 = fnD 2 [z0, 1, z5] →
    ∀ z7 : Int, 0 ≤ z7 → z7 ≤ HB → ∀ z8 : Int, 0 ≤ z8 → z8 ≤ HB → ∀ z9 : Int, 0 ≤ z9 → z9 ≤ 1 → SB 126 [[z6]] [[z7], [z8], [z9]] →
    (((decide (z9 = 1)) = true →
     ∀ z10 : Int, 0 ≤ z10 → z10 ≤ 1 → z10 = fnD 4 [z7, 0] →
     ((((!(decide (z10 = 1)))) = true →
      ∀ z11 : Int, 0 ≤ z11 → z11 ≤ 9223372036854775807 → z11 = fnD 0 [z7] →
      (((decide (z11 ≤ mz)) = true →
       ∀ z12 : Int, 0 ≤ z12 → z12 ≤ HB → SB tid [[z7]] [[z12]] →
       ∀ z13 : Int, 0 ≤ z13 → z13 ≤ 1 → z13 = fnD 4 [z12, 0] →
       (((decide (z13 = 1)) = true →
        ∀ z14 : Int, 0 ≤ z14 → z14 ≤ 1 → SB 65 [[z7], [cn]] [[z14]] →
        (((decide (z14 = 1)) = true →
         ∀ z15 : Int, 0 ≤ z15 → z15 ≤ 1 → SB 27 [[z8]] [[z15]] →
         KBv SB [.bool] id [[z0]] [[(cond (decide (z15 = 1)) 1 0)]]
        ) ∧ ((decide (z14 = 1)) = false →
         KBv SB [.bool] id [[z0]] [[(cond (false) 1 0)]]
        ))
       ) ∧ ((decide (z13 = 1)) = false →
        KBv SB [.bool] id [[z0]] [[(cond (false) 1 0)]]
       ))
      ) ∧ ((decide (z11 ≤ mz)) = false →
       KBv SB [.bool] id [[z0]] [[(cond (false) 1 0)]]
      ))
     ) ∧ (((!(decide (z10 = 1)))) = false →
      KBv SB [.bool] id [[z0]] [[(cond (false) 1 0)]]
     ))
    ) ∧ ((decide (z9 = 1)) = false →
     KBv SB [.bool] id [[z0]] [[(cond (false) 1 0)]]
    ))
   ))
  ) ∧ ((decide (1 ≤ z2)) = false →
   KBv SB [.bool] id [[z0]] [[(cond (false) 1 0)]]
  ))
 ))) := by
  intro z0 a0 a1 z1 b0 b1 h1
  have kk : ∀ b : Bool, nameb k inn most (sOf z0) = b → KBv SB [.bool] id [[z0]] [[b01 b]] := fun b h => kb (by rw [hid, h])
  have h255 := len_gt (n := 255) 255 rfl h1
  refine ⟨fun hb => kk false (nameb_no (partsF_long (by rw [hb] at h255; simpa using h255.symm))), fun hb z2 c0 c1 h2 => ?_⟩
  rw [hb] at h255
  have hlen : (sOf z0).length ≤ 255 := by
    have : Nat.ble (sOf z0).length 255 = true := by simpa using h255.symm
    exact Nat.le_of_ble_eq_true this
  simp only [fnD] at h2
  refine ⟨fun hp => ⟨⟨Int.le_refl _, by decide, by have := of_decide_eq_true hp; omega⟩, fun z3 d0 d1 h3 z4 e0 e1 h4 => ?_⟩, fun hp => kk false (nameb_no (partsF_ne (.inr ?_)))⟩
  · cases hs : sOf z0 with
    | nil => rw [hs] at h2; have := of_decide_eq_true hp; simp at h2; omega
    | cons c t =>
      have e3 : sOf z3 = [c] := by rw [h3]; simp only [fnD, sOf_cOf, hs]; rfl
      rw [eq_dec h4, e3, hkc]
      refine ⟨fun hne => kk false (nameb_no (partsF_ne (.inl ?_))), fun heq z5 f0 f1 h5 => ?_⟩
      · rw [hs]; intro h
        have h : c = k := h
        rw [h] at hne; simp at hne
      · have hck : c = k := by simpa using heq
        subst hck
        have hl' : t.length + 1 ≤ 255 := by rw [hs] at hlen; simpa using hlen
        obtain ⟨s1, s2⟩ := sub_to (s := z0) (z := 1) (L := z5) (n := 1) rfl (by rw [hs]; simp) h5
        refine ⟨s1, fun z6 g0 g1 h6 z7 i0 i1 z8 j0 j1 z9 k0 k1 hC => ?_⟩
        have e6 : sOf z6 = t := by rw [s2 z6 h6, hs]; rfl
        have hC : (sOf z7, sOf z8, z9) = cutF 58 (sOf z6) := hC
        rw [e6] at hC
        have hP := partsF_cons hk hl'
        unfold cutF at hC
        cases hi : decide (0 ≤ idx 58 t) with
        | false =>
          rw [hi] at hC hP
          simp only [cond_false, Prod.mk.injEq] at hC
          obtain ⟨_, _, rfl⟩ := hC
          exact ⟨fun h => by simp at h, fun _ => kk false (nameb_no (by rw [hs, hP]; rfl))⟩
        | true =>
          rw [hi] at hC hP
          simp only [cond_true, Prod.mk.injEq] at hC
          obtain ⟨e7, e8, rfl⟩ := hC
          rw [Bool.true_and] at hP
          have hv : nameb c inn most (sOf z0) = (serverb (sOf z8) && Nat.blt 0 (sOf z7).length && Nat.ble (sOf z7).length most && (sOf z7).all inn) := by
            unfold nameb
            rw [hs, hP, ← e7, ← e8]
            cases serverb (sOf z8) <;> rfl
          refine ⟨fun _ z10 l0 l1 h10 => ?_, fun h => by simp at h⟩
          have hn := nn_dec h10
          refine ⟨fun hq z11 m0 m1 h11 => ?_, fun hq => kk false (by rw [hq] at hn; rw [hv, ← hn]; simp)⟩
          rw [hq] at hn
          rw [len_dec most hm h11]
          refine ⟨fun hr z12 n0 n1 h12 z13 o0 o1 h13 => ?_, fun hr => kk false (by rw [hv, hr]; simp)⟩
          rw [ht] at h12
          rw [eq_nil h13, h12]
          refine ⟨fun hs z14 p0 p1 h14 => ?_, fun hs => kk false ?_⟩
          · have h14 : z14 = b01 ((sOf z7).all fun c => (sOf cn).contains c) := h14
            rw [only_in inn _ hcn] at h14
            rw [b01_dec h14]
            refine ⟨fun ha z15 q0 q1 h15 => ?_, fun ha => kk false (by rw [hv, ha]; simp)⟩
            have h15 : z15 = b01 (serverb (sOf z8)) := h15
            rw [b01_dec h15]
            refine kk _ ?_
            rw [hv, ← hn, hr, ha]; simp
          · rw [hv]
            cases ha : (sOf z7).all inn with
            | false => simp
            | true => rw [trimS_all ha] at hs; simp at hs
  · have hp : ¬ 1 ≤ z2 := of_decide_eq_false hp
    exact List.length_eq_zero_iff.1 (by omega)
theorem p_user : B_user SB (KBv SB [.bool] 200) := p_name (k := 64) (inn := inUser) (most := 200) (tid := 202) (by decide) (by decide) (allB256 (by decide +kernel)) rfl (fun _ _ => rfl) (fun _ _ => rfl)
theorem nameb_head {k : UInt8} {inn : UInt8 → Bool} {most : Nat} {s : Tx} (h : nameb k inn most s = true) : ∃ t, s = k :: t ∧ t.length + 1 ≤ 255 ∧ 0 ≤ idx 58 t := by
  unfold nameb at h
  simp only [Bool.and_eq_true, decide_eq_true_eq] at h
  have h1 := h.1.1.1
  unfold partsF at h1
  cases hc : (Nat.blt 0 s.length && Nat.ble s.length 255 && s.getD 0 0 == k && decide (0 ≤ idx 58 s) && serverb (s.drop ((idx 58 s).toNat + 1))) with
  | false => rw [hc] at h1; simp at h1
  | true =>
    simp only [Bool.and_eq_true, decide_eq_true_eq, beq_iff_eq, Nat.blt_eq] at hc
    obtain ⟨⟨⟨⟨q1, q2⟩, q3⟩, q4⟩, _⟩ := hc
    have q2 := Nat.le_of_ble_eq_true q2
    cases s with
    | nil => simp at q1
    | cons c t =>
      have q3 : c = k := q3
      subst q3
      refine ⟨t, rfl, by simpa using q2, ?_⟩
      rcases Int.lt_or_le (idx 58 t) 0 with hn | hn
      · exfalso
        have hp : 58 = c ∨ c ≠ 58 := by by_cases e : c = 58; exact .inl e.symm; exact .inr e
        rcases hp with e | e
        · subst e
          have h2 := h.1.1.2
          unfold partsF at h2
          have : idx 58 (58 :: t) = 0 := rfl
          rw [this] at h2
          cases hcc : (Nat.blt 0 (58 :: t).length && Nat.ble (58 :: t).length 255 && (58 :: t).getD 0 0 == 58 && decide ((0 : Int) ≤ 0) && serverb ((58 :: t).drop ((0 : Int).toNat + 1))) with
          | false => rw [hcc] at h2; simp at h2
          | true => rw [hcc] at h2; simp at h2
        · rw [idx_cons58 e, if_pos hn] at q4
          omega
      · exact hn
end Go.Ad

set_option maxRecDepth 100000
set_option linter.unusedVariables false
set_option linter.unusedSimpArgs false
namespace Go.Ad
open Go Go.Rx
def B_bright (S : Nat → List (List Int) → List (List Int) → Prop) (K : List (List Int) → List (List Int) → Prop) : Prop :=
 ∀ r0 : List Int, inB [(0, HB), (0, HB), (0, HB), ((-9223372036854775808), 9223372036854775807)] r0 → 
 (((decide (0 ≤ (List.getD r0 3 0))) = true →
  (((decide ((List.getD r0 3 0) ≤ 1099511627776)) = true →
   ∀ z4 : Int, 0 ≤ z4 → z4 ≤ 1 → S 16 [[(List.getD r0 0 0), (List.getD r0 1 0)]] [[z4]] →
   (((decide (z4 = 1)) = true →
    ∀ z5 : Int, 0 ≤ z5 → z5 ≤ 1 → S 200 [[(List.getD r0 2 0)]] [[z5]] →
    K [r0] [[(cond (decide (z5 = 1)) 1 0)]]
   ) ∧ ((decide (z4 = 1)) = false →
    K [r0] [[(cond (false) 1 0)]]
   ))
  ) ∧ ((decide ((List.getD r0 3 0) ≤ 1099511627776)) = false →
   K [r0] [[(cond (false) 1 0)]]
  ))
 ) ∧ ((decide (0 ≤ (List.getD r0 3 0))) = false →
  K [r0] [[(cond (false) 1 0)]]
 ))
def B_bcmp (S : Nat → List (List Int) → List (List Int) → Prop) (K : List (List Int) → List (List Int) → Prop) : Prop :=
 ∀ r0 : List Int, inB [(0, HB), (0, HB), (0, HB), ((-9223372036854775808), 9223372036854775807)] r0 → ∀ r4 : List Int, inB (repB 0 HB 2) r4 → 
 ∀ z6 : Int, 0 ≤ z6 → z6 ≤ 1 → z6 = fnD 4 [(List.getD r0 0 0), (List.getD r4 0 0)] →
 ∀ z7 : Int, 0 ≤ z7 → z7 ≤ 1 → z7 = fnD 4 [(List.getD r0 1 0), (List.getD r4 1 0)] →
 (((decide ([z6, z7] = [1, 1])) = true →
  K [r0, r4] [[0]]
 ) ∧ ((decide ([z6, z7] = [1, 1])) = false →
  ∀ z8 : Int, 0 ≤ z8 → z8 ≤ 1 → S 14 [[(List.getD r0 0 0), (List.getD r0 1 0)], r4] [[z8]] →
  (((decide (z8 = 1)) = true →
   K [r0, r4] [[(-1)]]
  ) ∧ ((decide (z8 = 1)) = false →
   K [r0, r4] [[1]]
  ))
 ))
/-! ### Bonds -/
theorem inB4 {r : List Int} {a b c d : Int × Int} (h : inB [a, b, c, d] r) : ∃ x y z w, r = [x, y, z, w] ∧ (a.1 ≤ x ∧ x ≤ a.2) ∧ (b.1 ≤ y ∧ y ≤ b.2) ∧ (c.1 ≤ z ∧ z ≤ c.2) ∧ (d.1 ≤ w ∧ w ≤ d.2) := by
  match r, h with
  | [x, y, z, w], h => exact ⟨x, y, z, w, rfl, ⟨h.1, h.2.1⟩, ⟨h.2.2.1, h.2.2.2.1⟩, ⟨h.2.2.2.2.1, h.2.2.2.2.2.1⟩, ⟨h.2.2.2.2.2.2.1, h.2.2.2.2.2.2.2.1⟩⟩
theorem inB2 {r : List Int} (h : inB (repB 0 HB 2) r) : ∃ x y, r = [x, y] ∧ (0 ≤ x ∧ x ≤ HB) ∧ (0 ≤ y ∧ y ≤ HB) := by
  match r, h with
  | [x, y], h => exact ⟨x, y, rfl, ⟨h.1, h.2.1⟩, ⟨h.2.2.1, h.2.2.2.1⟩⟩
theorem p_bright : B_bright SB (KBv SB [.bool] 300) := by
  intro r0 hr
  have kk : ∀ b : Bool, bOk (bdOf r0) = b → KBv SB [.bool] 300 [r0] [[b01 b]] := fun b h => kb (by show b01 b = b01 (bOk (bdOf r0)); rw [h])
  have e0 : bOk (bdOf r0) = (decide (0 ≤ r0.getD 3 0) && (decide (r0.getD 3 0 ≤ 1099511627776) && (rightF (sOf (r0.getD 0 0)) (sOf (r0.getD 1 0)) && userb (sOf (r0.getD 2 0))))) := rfl
  refine ⟨fun h1 => ⟨fun h2 z4 a0 a1 hS => ⟨fun h3 z5 b0 b1 hT => ?_, fun h3 => ?_⟩, fun h2 => ?_⟩, fun h1 => ?_⟩
  · have hS : z4 = b01 (rightF (sOf (r0.getD 0 0)) (sOf (r0.getD 1 0))) := hS
    have hT : z5 = b01 (userb (sOf (r0.getD 2 0))) := hT
    have := b01_dec hS
    rw [h3] at this
    exact kk (decide (z5 = 1)) (by rw [e0, h1, h2, ← this, b01_dec hT]; rfl)
  · have hS : z4 = b01 (rightF (sOf (r0.getD 0 0)) (sOf (r0.getD 1 0))) := hS
    have := b01_dec hS
    rw [h3] at this
    exact kk false (by rw [e0, ← this]; simp)
  · exact kk false (by rw [e0, h2]; simp)
  · exact kk false (by rw [e0, h1]; simp)
theorem p_bcmp : B_bcmp SB (KBv SB [.int .i64 (-1) 1] 301) := by
  intro r0 hr r4 hr4 z6 a0 a1 h6 z7 b0 b1 h7
  obtain ⟨x, y, rfl, _, _⟩ := inB2 hr4
  have kc : ∀ c : Int, (-1 ≤ c ∧ c ≤ 1) → c = cmpA (whoOf r0) (whoOf [x, y]) → KBv SB [.int .i64 (-1) 1] 301 [r0, [x, y]] [[c]] := fun c hc h => ⟨⟨hc.1, hc.2, trivial⟩, h⟩
  have h6 := eq_dec h6
  have h7 := eq_dec h7
  have heq : (whoOf r0 == whoOf [x, y]) = decide ([z6, z7] = [1, 1]) := by
    have e : ∀ a b c d : Tx, ((a, b) == (c, d)) = (decide (a = c) && decide (b = d)) := fun a b c d => by
      rw [Bool.eq_iff_iff]; simp
    show ((sOf (r0.getD 0 0), sOf (r0.getD 1 0)) == (sOf x, sOf y)) = _
    have h6' : decide (z6 = 1) = decide (sOf (r0.getD 0 0) = sOf x) := h6
    have h7' : decide (z7 = 1) = decide (sOf (r0.getD 1 0) = sOf y) := h7
    rw [e, ← h6', ← h7', Bool.eq_iff_iff]; simp
  refine ⟨fun h => kc 0 (by decide) (by unfold cmpA; rw [heq, h]; rfl), fun h z8 c0 c1 hS => ?_⟩
  have hS : z8 = b01 (lessF (sOf (r0.getD 0 0)) (sOf (r0.getD 1 0)) (sOf x) (sOf y)) := hS
  have hl : lessA (whoOf r0) (whoOf [x, y]) = decide (z8 = 1) := (b01_dec hS).symm
  exact ⟨fun h2 => kc (-1) (by decide) (by unfold cmpA; rw [heq, h, hl, h2]; rfl), fun h2 => kc 1 (by decide) (by unfold cmpA; rw [heq, h, hl, h2]; rfl)⟩

end Go.Ad

set_option maxRecDepth 100000
set_option linter.unusedVariables false
set_option linter.unusedSimpArgs false
namespace Go.Ad
open Go Go.Rx
theorem less_cons (a b : UInt8) (x y : Tx) : Op.bytesLess (a :: x) (b :: y) = true ↔ a.toNat < b.toNat ∨ (a = b ∧ Op.bytesLess x y = true) := by
  simp only [Op.bytesLess, Bool.or_eq_true, Bool.and_eq_true, beq_iff_eq, decide_eq_true_eq, UInt8.lt_iff_toNat_lt]
theorem less_nil (x : Tx) : Op.bytesLess x [] = false := by cases x <;> rfl
theorem less_asym : ∀ x y : Tx, Op.bytesLess x y = true → Op.bytesLess y x = true → False
  | x, [], h, _ => by rw [less_nil] at h; cases h
  | [], _ :: _, _, h => by cases h
  | a :: x, b :: y, h, h' => by
    rw [less_cons] at h h'
    rcases h with h | ⟨rfl, h⟩
    · rcases h' with h' | ⟨e, _⟩
      · omega
      · rw [e] at h; omega
    · rcases h' with h' | ⟨_, h'⟩
      · omega
      · exact less_asym x y h h'
theorem less_tot : ∀ x y : Tx, Op.bytesLess x y = true ∨ Op.bytesLess y x = true ∨ x = y
  | [], [] => .inr (.inr rfl)
  | [], _ :: _ => .inl rfl
  | _ :: _, [] => .inr (.inl rfl)
  | a :: x, b :: y => by
    rw [less_cons, less_cons]
    rcases Nat.lt_trichotomy a.toNat b.toNat with h | h | h
    · exact .inl (.inl h)
    · have e : a = b := UInt8.toNat_inj.1 h
      subst e
      rcases less_tot x y with h | h | h
      · exact .inl (.inr ⟨rfl, h⟩)
      · exact .inr (.inl (.inr ⟨rfl, h⟩))
      · exact .inr (.inr (by rw [h]))
    · exact .inr (.inl (.inl h))
theorem less_trans : ∀ x y z : Tx, Op.bytesLess x y = true → Op.bytesLess y z = true → Op.bytesLess x z = true
  | _, [], _, h, _ => by rw [less_nil] at h; cases h
  | _, _ :: _, [], _, h => by rw [less_nil] at h; cases h
  | [], _ :: _, _ :: _, _, _ => rfl
  | a :: x, b :: y, c :: z, h, h' => by
    rw [less_cons] at h h' ⊢
    rcases h with h | ⟨rfl, h⟩
    · rcases h' with h' | ⟨rfl, _⟩
      · exact .inl (by omega)
      · exact .inl h
    · rcases h' with h' | ⟨rfl, h'⟩
      · exact .inl h'
      · exact .inr ⟨rfl, less_trans x y z h h'⟩
theorem lessF_iff (a b c d : Tx) : lessF a b c d = true ↔ Op.bytesLess a c = true ∨ (a = c ∧ Op.bytesLess b d = true) := by
  unfold lessF
  by_cases h : a = c
  · subst h; simp [less_irr]
  · rw [show (a == c) = false by simpa using h]; simp [h]
theorem lessF_asym {a b c d : Tx} (h : lessF a b c d = true) (h' : lessF c d a b = true) : False := by
  rw [lessF_iff] at h h'
  rcases h with h | ⟨rfl, h⟩
  · rcases h' with h' | ⟨rfl, _⟩
    · exact less_asym _ _ h h'
    · rw [less_irr] at h; cases h
  · rcases h' with h' | ⟨_, h'⟩
    · rw [less_irr] at h'; cases h'
    · exact less_asym _ _ h h'
theorem lessF_tot (a b c d : Tx) : lessF a b c d = true ∨ lessF c d a b = true ∨ (a = c ∧ b = d) := by
  rw [lessF_iff, lessF_iff]
  rcases less_tot a c with h | h | rfl
  · exact .inl (.inl h)
  · exact .inr (.inl (.inl h))
  · rcases less_tot b d with h | h | rfl
    · exact .inl (.inr ⟨rfl, h⟩)
    · exact .inr (.inl (.inr ⟨rfl, h⟩))
    · exact .inr (.inr ⟨rfl, rfl⟩)
theorem lessF_trans {a b c d e f : Tx} (h : lessF a b c d = true) (h' : lessF c d e f = true) : lessF a b e f = true := by
  rw [lessF_iff] at h h' ⊢
  rcases h with h | ⟨rfl, h⟩
  · rcases h' with h' | ⟨rfl, _⟩
    · exact .inl (less_trans _ _ _ h h')
    · exact .inl h
  · rcases h' with h' | ⟨rfl, h'⟩
    · exact .inl h'
    · exact .inr ⟨rfl, less_trans _ _ _ h h'⟩

def B_bplace (S : Nat → List (List Int) → List (List Int) → Prop) (K : List (List Int) → List (List Int) → Prop) : Prop :=
 ∀ z0 : Int, 0 ≤ z0 → z0 ≤ RB → ∀ r1 : List Int, inB (repB 0 HB 2) r1 → 
 ∀ z3 : Int, 0 ≤ z3 →
 ∀ z4 : Int, (-1) ≤ z4 → z4 ≤ 9223372036854775807 → 
 ∀ z5 : Int, 0 ≤ z5 → z5 ≤ 9223372036854775807 → z5 = fnD 20 [z0] →
 ∃ (I6 : List (List Int) → Prop) (μ6 : List (List Int) → Nat), I6 [[0], [z5]] ∧ (∀ z7 : Int, 0 ≤ z7 → z7 ≤ 9223372036854775807 → ∀ z8 : Int, 0 ≤ z8 → z8 ≤ 9223372036854775807 → I6 [[z7], [z8]] →
  (((decide (z7 < z8)) = true →
   ∀ z9 : Int, 0 ≤ z9 → z9 ≤ 1 → 0 ≤ ((z7 + z8) + 9223372036854775808) - 18446744073709551616 * z9 → ((z7 + z8) + 9223372036854775808) - 18446744073709551616 * z9 < 18446744073709551616 →
   ∀ z10 : Int, (-1) ≤ z10 → z10 ≤ 0 → 0 ≤ (z7 + (z8 + ((-18446744073709551616) * z9))) - 18446744073709551616 * z10 → (z7 + (z8 + ((-18446744073709551616) * z9))) - 18446744073709551616 * z10 < 18446744073709551616 →
   ∀ z11 : Int, 0 ≤ z11 → z11 ≤ 9223372036854775807 → 0 ≤ (z7 + (z8 + (((-18446744073709551616) * z9) + ((-18446744073709551616) * z10)))) - 2 * z11 → (z7 + (z8 + (((-18446744073709551616) * z9) + ((-18446744073709551616) * z10)))) - 2 * z11 < 2 →
   chkD 30 [z11, z5] ∧
   chkD 21 [z0, z11] ∧
   ∀ z12 : Int, 0 ≤ z12 → z12 ≤ HB → z12 = fnD 21 [z0, z11, 0] →
   ∀ z13 : Int, 0 ≤ z13 → z13 ≤ HB → z13 = fnD 21 [z0, z11, 1] →
   ∀ z14 : Int, 0 ≤ z14 → z14 ≤ HB → z14 = fnD 21 [z0, z11, 2] →
   ∀ z15 : Int, (-9223372036854775808) ≤ z15 → z15 ≤ 9223372036854775807 → z15 = fnD 21 [z0, z11, 3] →
   ∀ z16 : Int, (-1) ≤ z16 → z16 ≤ 1 → S 301 [[z12, z13, z14, z15], r1] [[z16]] →
   (((decide (z16 < 0)) = true →
    ∀ z17 : Int, 0 ≤ z17 → z17 ≤ 1 → 0 ≤ (z11 + 9223372036854775809) - 18446744073709551616 * z17 → (z11 + 9223372036854775809) - 18446744073709551616 * z17 < 18446744073709551616 →
    chkD 39 [((z11 + ((-18446744073709551616) * z17)) + 1), 0, 9223372036854775807] ∧
    (I6 [[((z11 + ((-18446744073709551616) * z17)) + 1)], [z8]] ∧ μ6 [[((z11 + ((-18446744073709551616) * z17)) + 1)], [z8]] < μ6 [[z7], [z8]])
   ) ∧ ((decide (z16 < 0)) = false →
    (I6 [[z7], [z11]] ∧ μ6 [[z7], [z11]] < μ6 [[z7], [z8]])
   ))
  ) ∧ ((decide (z7 < z8)) = false →
   (((decide (z7 < z5)) = true →
    chkD 30 [z7, z5] ∧
    chkD 21 [z0, z7] ∧
    ∀ z9 : Int, 0 ≤ z9 → z9 ≤ HB → z9 = fnD 21 [z0, z7, 0] →
    ∀ z10 : Int, 0 ≤ z10 → z10 ≤ HB → z10 = fnD 21 [z0, z7, 1] →
    ∀ z11 : Int, 0 ≤ z11 → z11 ≤ HB → z11 = fnD 21 [z0, z7, 2] →
    ∀ z12 : Int, (-9223372036854775808) ≤ z12 → z12 ≤ 9223372036854775807 → z12 = fnD 21 [z0, z7, 3] →
    ∀ z13 : Int, (-1) ≤ z13 → z13 ≤ 1 → S 301 [[z9, z10, z11, z12], r1] [[z13]] →
    K [[z0], r1] [[z7], [(cond (decide (z13 = 0)) 1 0)]]
   ) ∧ ((decide (z7 < z5)) = false →
    K [[z0], r1] [[z7], [(cond (false) 1 0)]]
   ))
  ))
 )
/-! ### The order of addresses -/
theorem lessA_irr (a : Tx × Tx) : lessA a a = false := by
  cases h : lessA a a with
  | false => rfl
  | true => exact (lessF_asym h h).elim
theorem lessA_trans {a b c : Tx × Tx} (h : lessA a b = true) (h' : lessA b c = true) : lessA a c = true := lessF_trans h h'
theorem lessA_tot (a b : Tx × Tx) : lessA a b = true ∨ lessA b a = true ∨ a = b := by
  rcases lessF_tot a.1 a.2 b.1 b.2 with h | h | ⟨h, h2⟩
  · exact .inl h
  · exact .inr (.inl h)
  · exact .inr (.inr (by cases a; cases b; simp at h h2; rw [h, h2]))
theorem lessA_asym {a b : Tx × Tx} (h : lessA a b = true) : lessA b a = false := by
  cases h2 : lessA b a with
  | false => rfl
  | true => exact (lessF_asym h h2).elim
theorem cmpA_neg {a b : Tx × Tx} : cmpA a b < 0 ↔ lessA a b = true := by
  unfold cmpA
  by_cases h : a = b
  · subst h; rw [beq_self_eq_true, lessA_irr]; simp
  · rw [beq_false_of_ne h]
    cases lessA a b <;> simp
theorem cmpA_zero {a b : Tx × Tx} : cmpA a b = 0 ↔ a = b := by
  unfold cmpA
  by_cases h : a = b
  · subst h; rw [beq_self_eq_true]; simp
  · rw [beq_false_of_ne h]
    cases lessA a b <;> simp [h]
theorem cmpA_nn {a b : Tx × Tx} : 0 ≤ cmpA a b ↔ lessA a b = false := by
  have := cmpA_neg (a := a) (b := b)
  cases h : lessA a b with
  | true => rw [h] at this; have := this.2 rfl; constructor <;> intro h2 <;> first | omega | cases h2
  | false => rw [h] at this; constructor <;> intro h2 <;> first | rfl | (by_cases h3 : cmpA a b < 0 <;> first | (have := this.1 h3; cases this) | omega)
theorem sorted_head {a : Bd} : ∀ {l : List Bd}, sortedB (a :: l) = true → ∀ b ∈ l, lessA a.1 b.1 = true
  | [], _, b, h => by cases h
  | c :: l, hs, b, h => by
    simp only [sortedB, Bool.and_eq_true] at hs
    rcases List.mem_cons.1 h with rfl | h
    · exact hs.1
    · exact lessA_trans hs.1 (sorted_head hs.2 b h)
theorem sorted_tail {a : Bd} {l : List Bd} (h : sortedB (a :: l) = true) : sortedB l = true := by
  cases l with
  | nil => rfl
  | cons b l => simp only [sortedB, Bool.and_eq_true] at h; exact h.2
theorem sorted_get : ∀ {l : List Bd}, sortedB l = true → ∀ i j : Nat, i < j → j < l.length → lessA (l.getD i bd0).1 (l.getD j bd0).1 = true
  | [], _, _, j, _, h => by simp at h
  | a :: l, hs, 0, j + 1, _, h => sorted_head hs _ (by
      have h : j < l.length := by simpa using h
      simp only [List.getD_cons_succ]
      simp [List.getD, h])
  | a :: l, hs, i + 1, j + 1, hij, h => sorted_get (sorted_tail hs) i j (by omega) (by simpa using h)
theorem right_sorted {l : List Bd} (h : rightL l = true) : sortedB l = true := by
  unfold rightL at h; simp only [Bool.and_eq_true] at h; exact h.2
theorem low_all {l : List Bd} {w : Tx × Tx} {k : Nat} (hr : rightL l = true) (hk : k < l.length) (h : cmpA (l.getD k bd0).1 w < 0) : ∀ j : Nat, j ≤ k → cmpA (l.getD j bd0).1 w < 0 := fun j hj => by
  rcases Nat.lt_or_ge j k with hlt | hge
  · exact cmpA_neg.2 (lessA_trans (sorted_get (right_sorted hr) j k hlt hk) (cmpA_neg.1 h))
  · rw [show j = k by omega]; exact h
theorem high_all {l : List Bd} {w : Tx × Tx} {k : Nat} (hr : rightL l = true) (h : 0 ≤ cmpA (l.getD k bd0).1 w) : ∀ j : Nat, k ≤ j → j < l.length → 0 ≤ cmpA (l.getD j bd0).1 w := fun j hj hl => by
  rcases Nat.lt_or_ge k j with hlt | hge
  · rw [cmpA_nn] at h ⊢
    have h2 := sorted_get (right_sorted hr) k j hlt hl
    cases h3 : lessA (l.getD j bd0).1 w with
    | false => rfl
    | true => rw [lessA_trans h2 h3] at h; cases h
  · rw [show j = k by omega]; exact h
theorem bds_len (z : Int) : (bds z).length = (rOf z).length := by simp [bds]
theorem bds_get {z : Int} {i : Nat} (h : i < (rOf z).length) : (bds z).getD i bd0 = bdOf ((rOf z).getD i []) := by
  simp [bds, List.getD, h]
def PlI (z0 : Int) (w : Tx × Tx) (bl : List (List Int)) : Prop := ∃ lo hi : Nat, bl = [[(lo : Int)], [(hi : Int)]] ∧ lo ≤ hi ∧ hi ≤ (bds z0).length ∧ (rightL (bds z0) = true → (∀ j : Nat, j < lo → cmpA ((bds z0).getD j bd0).1 w < 0) ∧ ∀ j : Nat, hi ≤ j → j < (bds z0).length → 0 ≤ cmpA ((bds z0).getD j bd0).1 w)
def PlM (bl : List (List Int)) : Nat := ((bl.getD 1 []).getD 0 0).toNat - ((bl.getD 0 []).getD 0 0).toNat
theorem row_cmp {z0 i a b c d z : Int} {k : Nat} {w : List Int} (hi : i = (k : Int)) (ha : a = fnD 21 [z0, i, 0]) (hb : b = fnD 21 [z0, i, 1]) (hk : k < (rOf z0).length) (h : SB 301 [[a, b, c, d], w] [[z]]) : z = cmpA ((bds z0).getD k bd0).1 (whoOf w) := by
  have h : z = cmpA (sOf a, sOf b) (whoOf w) := h
  rw [h, bds_get hk, ha, hb, hi]; rfl
theorem p_bplace : B_bplace SB (KBb SB [.d (.int .i64 0 9223372036854775807), .d .bool] 302) := by
  intro z0 a0 a1 r1 hr1 z3 _ z4 _ _ z5 b0 b1 h5
  have h5 : z5 = ((rOf z0).length : Int) := h5
  have hlen := bds_len z0
  refine ⟨PlI z0 (whoOf r1), PlM, ⟨0, (rOf z0).length, by rw [h5]; rfl, Nat.zero_le _, by omega, fun _ => ⟨fun j h => absurd h (Nat.not_lt_zero j), fun j h h2 => by omega⟩⟩, ?_⟩
  rintro z7 c0 c1 z8 d0 d1 ⟨lo, hi, e, hlh, hhl, hI⟩
  obtain ⟨rfl, rfl⟩ : z7 = lo ∧ z8 = hi := by simpa using e
  refine ⟨fun hlt z9 e0 e1 e2 e3 z10 f0 f1 f2 f3 z11 g0 g1 g2 g3 => ?_, fun hge => ?_⟩
  · have hlt := of_decide_eq_true hlt
    have hz9 : z9 + z10 = 0 := by omega
    have h11 : z11 = (((lo + hi) / 2 : Nat) : Int) := by omega
    generalize hk : (lo + hi) / 2 = k at h11
    have hk1 : lo ≤ k := by omega
    have hk2 : k < hi := by omega
    subst h11
    have hkl : k < (rOf z0).length := by omega
    have hkb : k < (bds z0).length := by omega
    refine ⟨⟨by omega, by omega⟩, ⟨by omega, by omega⟩, fun z12 _ _ h12 z13 _ _ h13 z14 _ _ h14 z15 _ _ h15 z16 _ _ h16 => ?_⟩
    have h16 := row_cmp (k := k) rfl h12 h13 hkl h16
    refine ⟨fun hn z17 i0 i1 i2 i3 => ⟨⟨by omega, by omega⟩, ⟨k + 1, hi, by rw [show ((k : Int) + (-18446744073709551616) * z17) + 1 = ((k + 1 : Nat) : Int) by omega], by omega, hhl, fun hr => ⟨fun j hj => low_all (k := k) hr hkb (by rw [← h16]; exact of_decide_eq_true hn) j (by omega), (hI hr).2⟩⟩, ?_⟩, fun hn => ⟨⟨lo, k, rfl, hk1, by omega, fun hr => ⟨(hI hr).1, high_all hr (by rw [← h16]; have := of_decide_eq_false hn; omega)⟩⟩, ?_⟩⟩
    · show ((hi : Int)).toNat - (((k : Int) + (-18446744073709551616) * z17) + 1).toNat < ((hi : Int)).toNat - ((lo : Int)).toNat; omega
    · show ((k : Int)).toNat - ((lo : Int)).toNat < ((hi : Int)).toNat - ((lo : Int)).toNat; omega
  · have hge := of_decide_eq_false hge
    have hh : hi = lo := by omega
    subst hh
    have kk : ∀ f : Bool, (f = true → hi < (bds z0).length) → (rightL (bds z0) = true → (f = true ↔ hi < (bds z0).length ∧ cmpA ((bds z0).getD hi bd0).1 (whoOf r1) = 0)) → KBb SB [.d (.int .i64 0 9223372036854775807), .d .bool] 302 [[z0], r1] [[(hi : Int)], [cond f 1 0]] := fun f hf hf2 => by
      refine ⟨⟨by omega, c1, by cases f <;> decide, by cases f <;> decide, trivial⟩, ⟨⟨by omega, by omega⟩, ?_, fun hr => ⟨fun j hj => (hI hr).1 j (by omega), fun j h1 h2 => (hI hr).2 j (by omega) h2, ?_⟩⟩⟩
      · intro h
        have : f = true := by cases f with | true => rfl | false => cases h
        have := hf this; omega
      · have h3 := hf2 hr
        rw [Int.toNat_natCast]
        cases f with
        | true => exact ⟨fun _ => ⟨by have := (h3.1 rfl).1; omega, (h3.1 rfl).2⟩, fun _ => rfl⟩
        | false => exact ⟨fun h => (by cases h), fun h => (by have := h3.2 ⟨by omega, h.2⟩; cases this)⟩
    refine ⟨fun hl => ?_, fun hl => ?_⟩
    · have hl := of_decide_eq_true hl
      have hkl : hi < (rOf z0).length := by omega
      refine ⟨⟨by omega, by omega⟩, ⟨by omega, by omega⟩, fun z9 _ _ h9 z10 _ _ h10 z11 _ _ h11 z12 _ _ h12 z13 _ _ h13 => ?_⟩
      have h13 := row_cmp (k := hi) rfl h9 h10 hkl h13
      refine kk (decide (z13 = 0)) (fun _ => by omega) (fun _ => ?_)
      rw [decide_eq_true_eq, ← h13]
      exact ⟨fun h => ⟨by omega, h⟩, fun h => h.2⟩
    · have hl := of_decide_eq_false hl
      exact kk false (fun h => by cases h) (fun _ => ⟨fun h => (by cases h), fun h => (by omega)⟩)

end Go.Ad

set_option maxRecDepth 100000
set_option linter.unusedVariables false
set_option linter.unusedSimpArgs false
namespace Go.Ad
open Go Go.Rx
def B_bRight (S : Nat → List (List Int) → List (List Int) → Prop) (K : List (List Int) → List (List Int) → Prop) : Prop :=
 ∀ z0 : Int, 0 ≤ z0 → z0 ≤ RB → 
 ∀ z1 : Int, 0 ≤ z1 →
 ∀ z2 : Int, (-1) ≤ z2 → z2 ≤ 9223372036854775807 → 
 ∀ z3 : Int, 0 ≤ z3 → z3 ≤ 9223372036854775807 → z3 = fnD 20 [z0] →
 (((decide (64 < z3)) = true →
  K [[z0]] [[(cond (false) 1 0)]]
 ) ∧ ((decide (64 < z3)) = false →
  ∃ (I4 : List (List Int) → Prop) (μ4 : List (List Int) → Nat), I4 [[0]] ∧ (∀ z5 : Int, 0 ≤ z5 → z5 ≤ 9223372036854775807 → I4 [[z5]] →
   (((decide (z5 < z3)) = true →
    chkD 30 [z5, z3] ∧
    chkD 21 [z0, z5] ∧
    ∀ z6 : Int, 0 ≤ z6 → z6 ≤ HB → z6 = fnD 21 [z0, z5, 0] →
    ∀ z7 : Int, 0 ≤ z7 → z7 ≤ HB → z7 = fnD 21 [z0, z5, 1] →
    ∀ z8 : Int, 0 ≤ z8 → z8 ≤ HB → z8 = fnD 21 [z0, z5, 2] →
    ∀ z9 : Int, (-9223372036854775808) ≤ z9 → z9 ≤ 9223372036854775807 → z9 = fnD 21 [z0, z5, 3] →
    ∀ z10 : Int, 0 ≤ z10 → z10 ≤ 1 → S 300 [[z6, z7, z8, z9]] [[z10]] →
    ((((!(decide (z10 = 1)))) = true →
     K [[z0]] [[(cond (false) 1 0)]]
    ) ∧ (((!(decide (z10 = 1)))) = false →
     (((decide (0 < z5)) = true →
      chkD 30 [(z5 + (-1)), z3] ∧
      chkD 21 [z0, (z5 + (-1))] ∧
      ∀ z11 : Int, 0 ≤ z11 → z11 ≤ HB → z11 = fnD 21 [z0, (z5 + (-1)), 0] →
      ∀ z12 : Int, 0 ≤ z12 → z12 ≤ HB → z12 = fnD 21 [z0, (z5 + (-1)), 1] →
      ∀ z13 : Int, 0 ≤ z13 → z13 ≤ HB → z13 = fnD 21 [z0, (z5 + (-1)), 2] →
      ∀ z14 : Int, (-9223372036854775808) ≤ z14 → z14 ≤ 9223372036854775807 → z14 = fnD 21 [z0, (z5 + (-1)), 3] →
      ∀ z15 : Int, (-1) ≤ z15 → z15 ≤ 1 → S 301 [[z11, z12, z13, z14], [z6, z7]] [[z15]] →
      (((decide (0 ≤ z15)) = true →
       K [[z0]] [[(cond (false) 1 0)]]
      ) ∧ ((decide (0 ≤ z15)) = false →
       ∀ z16 : Int, 0 ≤ z16 → z16 ≤ 1 → 0 ≤ (z5 + 9223372036854775809) - 18446744073709551616 * z16 → (z5 + 9223372036854775809) - 18446744073709551616 * z16 < 18446744073709551616 →
       chkD 39 [((z5 + ((-18446744073709551616) * z16)) + 1), 0, 9223372036854775807] ∧
       (I4 [[((z5 + ((-18446744073709551616) * z16)) + 1)]] ∧ μ4 [[((z5 + ((-18446744073709551616) * z16)) + 1)]] < μ4 [[z5]])
      ))
     ) ∧ ((decide (0 < z5)) = false →
      (I4 [[1]] ∧ μ4 [[1]] < μ4 [[z5]])
     ))
    ))
   ) ∧ ((decide (z5 < z3)) = false →
    K [[z0]] [[(cond (true) 1 0)]]
   ))
  )
 ))
/-! ### Lists as they must be -/
theorem sortedB_iff : ∀ l : List Bd, sortedB l = true ↔ ∀ j, j + 1 < l.length → lessA (l.getD j bd0).1 (l.getD (j + 1) bd0).1 = true
  | [] => by simp [sortedB]
  | [a] => by simp [sortedB]
  | a :: b :: r => by
    simp only [sortedB, Bool.and_eq_true]
    rw [sortedB_iff (b :: r)]
    constructor
    · rintro ⟨h1, h2⟩ j hj
      cases j with
      | zero => exact h1
      | succ j => exact h2 j (by simpa using hj)
    · intro h
      exact ⟨h 0 (by simp), fun j hj => h (j + 1) (by simpa using hj)⟩
theorem rightL_iff (l : List Bd) : rightL l = true ↔ l.length ≤ 64 ∧ ∀ j, j < l.length → bOk (l.getD j bd0) = true ∧ (0 < j → lessA (l.getD (j - 1) bd0).1 (l.getD j bd0).1 = true) := by
  unfold rightL
  simp only [Bool.and_eq_true]
  rw [sortedB_iff, List.all_eq_true, Nat.ble_eq]
  constructor
  · rintro ⟨⟨h1, h2⟩, h3⟩
    refine ⟨h1, fun j hj => ⟨h2 _ (by simp [List.getD, hj]), fun h0 => ?_⟩⟩
    have := h3 (j - 1) (by omega)
    rwa [show j - 1 + 1 = j by omega] at this
  · rintro ⟨h1, h2⟩
    refine ⟨⟨h1, fun b hb => ?_⟩, fun j hj => ?_⟩
    · obtain ⟨j, hj, rfl⟩ := List.mem_iff_getElem.1 hb
      have := (h2 j hj).1
      simpa [List.getD, hj] using this
    · have := (h2 (j + 1) hj).2 (by omega)
      simpa using this
theorem row_bd {z0 i a b c d : Int} {k : Nat} (hi : i = (k : Int)) (ha : a = fnD 21 [z0, i, 0]) (hb : b = fnD 21 [z0, i, 1]) (hc : c = fnD 21 [z0, i, 2]) (hd : d = fnD 21 [z0, i, 3]) (hk : k < (rOf z0).length) : bdOf [a, b, c, d] = (bds z0).getD k bd0 := by
  rw [bds_get hk, ha, hb, hc, hd, hi]; rfl
theorem row_who {z0 i a b : Int} {k : Nat} (hi : i = (k : Int)) (ha : a = fnD 21 [z0, i, 0]) (hb : b = fnD 21 [z0, i, 1]) (hk : k < (rOf z0).length) : whoOf [a, b] = ((bds z0).getD k bd0).1 := by
  rw [bds_get hk, ha, hb, hi]; rfl
def RiI (z0 : Int) (bl : List (List Int)) : Prop := ∃ i : Nat, bl = [[(i : Int)]] ∧ i ≤ (bds z0).length ∧ ∀ j, j < i → bOk ((bds z0).getD j bd0) = true ∧ (0 < j → lessA ((bds z0).getD (j - 1) bd0).1 ((bds z0).getD j bd0).1 = true)
def RiM (z0 : Int) (bl : List (List Int)) : Nat := (bds z0).length - ((bl.getD 0 []).getD 0 0).toNat
theorem p_bRight : B_bRight SB (KBb SB [.d .bool] 303) := by
  intro z0 a0 a1 z1 _ z2 _ _ z3 b0 b1 h3
  have h3 : z3 = ((rOf z0).length : Int) := h3
  have hlen := bds_len z0
  have kk : ∀ b : Bool, rightL (bds z0) = b → KBb SB [.d .bool] 303 [[z0]] [[cond b 1 0]] := fun b h => ⟨by cases b <;> exact ⟨by decide, by decide, trivial⟩, by show cond b (1 : Int) 0 = b01 (rightL (bds z0)); rw [h]; rfl⟩
  have kno : (¬ ((bds z0).length ≤ 64 ∧ ∀ j, j < (bds z0).length → bOk ((bds z0).getD j bd0) = true ∧ (0 < j → lessA ((bds z0).getD (j - 1) bd0).1 ((bds z0).getD j bd0).1 = true))) → KBb SB [.d .bool] 303 [[z0]] [[cond false 1 0]] := fun h => kk false (by
    cases hr : rightL (bds z0) with
    | false => rfl
    | true => exact absurd ((rightL_iff _).1 hr) h)
  refine ⟨fun h => kno (fun h2 => by have := of_decide_eq_true h; have := h2.1; omega), fun h64 => ?_⟩
  have h64 := of_decide_eq_false h64
  refine ⟨RiI z0, RiM z0, ⟨0, rfl, Nat.zero_le _, fun j h => absurd h (Nat.not_lt_zero j)⟩, ?_⟩
  rintro z5 c0 c1 ⟨i, e, hi, hI⟩
  obtain rfl : z5 = i := by simpa using e
  refine ⟨fun hlt => ?_, fun hge => kk true ((rightL_iff _).2 ⟨by omega, fun j hj => hI j (by have := of_decide_eq_false hge; omega)⟩)⟩
  have hlt := of_decide_eq_true hlt
  have hil : i < (rOf z0).length := by omega
  refine ⟨⟨by omega, by omega⟩, ⟨by omega, by omega⟩, fun z6 _ _ h6 z7 _ _ h7 z8 _ _ h8 z9 _ _ h9 z10 _ _ h10 => ?_⟩
  have hrow := row_bd (k := i) rfl h6 h7 h8 h9 hil
  have h10 : z10 = b01 (bOk (bdOf [z6, z7, z8, z9])) := h10
  rw [hrow] at h10
  have hd := b01_dec h10
  refine ⟨fun hb => kno (fun h2 => ?_), fun hb => ?_⟩
  · rw [hd, (h2.2 i (by omega)).1] at hb; cases hb
  have hok : bOk ((bds z0).getD i bd0) = true := by
    rw [hd] at hb
    cases hx : bOk ((bds z0).getD i bd0) with
    | true => rfl
    | false => rw [hx] at hb; cases hb
  refine ⟨fun hp => ?_, fun hp => ?_⟩
  · have hp := of_decide_eq_true hp
    have hi1 : (i : Int) + (-1) = ((i - 1 : Nat) : Int) := by omega
    refine ⟨⟨by omega, by omega⟩, ⟨by omega, by omega⟩, fun z11 _ _ h11 z12 _ _ h12 z13 _ _ h13 z14 _ _ h14 z15 _ _ h15 => ?_⟩
    have h15 := row_cmp (k := i - 1) hi1 h11 h12 (by omega) h15
    rw [row_who (k := i) rfl h6 h7 hil] at h15
    refine ⟨fun hc => kno (fun h2 => ?_), fun hc z16 d0 d1 d2 d3 => ⟨⟨by omega, by omega⟩, ⟨i + 1, by rw [show ((i : Int) + (-18446744073709551616) * z16) + 1 = ((i + 1 : Nat) : Int) by omega], by omega, fun j hj => ?_⟩, ?_⟩⟩
    · have h4 := (h2.2 i (by omega)).2 (by omega)
      have h5 := cmpA_neg.2 h4
      have := of_decide_eq_true hc
      omega
    · rcases Nat.lt_or_ge j i with h | h
      · exact hI j h
      · obtain rfl : j = i := by omega
        exact ⟨hok, fun _ => cmpA_neg.1 (by rw [← h15]; have := of_decide_eq_false hc; omega)⟩
    · show (bds z0).length - (((i : Int) + (-18446744073709551616) * z16) + 1).toNat < (bds z0).length - ((i : Int)).toNat; omega
  · have hp := of_decide_eq_false hp
    obtain rfl : i = 0 := by omega
    refine ⟨⟨1, rfl, by omega, fun j hj => ?_⟩, ?_⟩
    · obtain rfl : j = 0 := by omega
      exact ⟨hok, fun h => absurd h (Nat.lt_irrefl 0)⟩
    · show (bds z0).length - (1 : Int).toNat < (bds z0).length - ((0 : Nat) : Int).toNat; omega
theorem whole_bds {z n y : Int} (hn : n = ((rOf z).length : Int)) : (0 ≤ (0 : Int) ∧ 0 ≤ n ∧ n ≤ ((rOf z).length : Int)) ∧ (y = fnD 22 [z, 0, n] → rOf y = rOf z) := by
  refine ⟨⟨Int.le_refl _, by omega, by omega⟩, fun hy => ?_⟩
  rw [hy]; simp only [fnD, rOf_rc]
  rw [show (0 : Int).toNat = 0 from rfl, List.drop_zero, List.take_of_length_le (by omega)]
theorem bds_same {y z : Int} (h : rOf y = rOf z) : bds y = bds z := by unfold bds; rw [h]
theorem find_at {l : List Bd} {w : Tx × Tx} {i : Nat} (hi : i < l.length) (he : (l.getD i bd0).1 = w) (hb : ∀ j, j < i → (l.getD j bd0).1 ≠ w) : l.find? (fun b => b.1 == w) = some (l.getD i bd0) := by
  induction l generalizing i with
  | nil => simp at hi
  | cons a r ih =>
    cases i with
    | zero =>
      have he : a.1 = w := he
      simp [List.find?, he]
    | succ i =>
      have h0 : ¬ a.1 = w := hb 0 (by omega)
      rw [List.find?, show (a.1 == w) = false from beq_false_of_ne h0]
      exact ih (by simpa using hi) (by simpa using he) (fun j hj => by have := hb (j + 1) (by omega); simpa using this)
theorem find_no {l : List Bd} {w : Tx × Tx} (h : ∀ j, j < l.length → (l.getD j bd0).1 ≠ w) : l.find? (fun b => b.1 == w) = none := by
  rw [List.find?_eq_none]
  intro b hb
  obtain ⟨j, hj, rfl⟩ := List.mem_iff_getElem.1 hb
  have := h j hj
  simpa [List.getD, hj] using this
/-- Where it is found, it is the one. -/
theorem place_find {l : List Bd} {w : Tx × Tx} {i f : Int} (h : PlaceS l w i f) (hr : rightL l = true) : (f = 1 → l.find? (fun b => b.1 == w) = some (l.getD i.toNat bd0)) ∧ (f ≠ 1 → l.find? (fun b => b.1 == w) = none) := by
  obtain ⟨⟨h1, h2⟩, h3, h4⟩ := h
  obtain ⟨k1, k2, k3⟩ := h4 hr
  constructor
  · intro hf
    obtain ⟨m1, m2⟩ := k3.1 hf
    exact find_at (by omega) (cmpA_zero.1 m2) (fun j hj he => by
      have := k1 j (by omega)
      rw [cmpA_zero.2 he] at this; omega)
  · intro hf
    refine find_no (fun j hj he => hf (k3.2 ?_))
    have hc := cmpA_zero.2 he
    by_cases hji : (j : Int) < i
    · have := k1 j hji; omega
    · have h0 := k2 j (by omega) hj
      refine ⟨by omega, ?_⟩
      by_cases hje : i.toNat = j
      · rw [hje]; exact hc
      · have hs := sorted_get (right_sorted hr) i.toNat j (by omega) hj
        have h5 := k2 i.toNat (by omega) (by omega)
        rw [he] at hs
        have := cmpA_neg.2 hs
        omega

end Go.Ad

set_option maxRecDepth 100000
set_option linter.unusedVariables false
set_option linter.unusedSimpArgs false
namespace Go.Ad
open Go Go.Rx
def B_bFind (S : Nat → List (List Int) → List (List Int) → Prop) (K : List (List Int) → List (List Int) → Prop) : Prop :=
 ∀ z0 : Int, 0 ≤ z0 → z0 ≤ RB → ∀ r1 : List Int, inB (repB 0 HB 2) r1 → 
 ∀ z3 : Int, 0 ≤ z3 →
 ∀ z4 : Int, (-1) ≤ z4 → z4 ≤ 9223372036854775807 → 
 ∀ z5 : Int, 0 ≤ z5 → z5 ≤ 9223372036854775807 → z5 = fnD 20 [z0] →
 chkD 22 [z0, 0, z5] ∧
 ∀ z6 : Int, 0 ≤ z6 → z6 ≤ RB → z6 = fnD 22 [z0, 0, z5] →
 ∀ z7 : Int, 0 ≤ z7 → z7 ≤ 1 → S 303 [[z6]] [[z7]] →
 ((((!(decide (z7 = 1)))) = true →
  K [[z0], r1] [[0, 0, 0, 0], [(cond (false) 1 0)]]
 ) ∧ (((!(decide (z7 = 1)))) = false →
  chkD 22 [z0, 0, z5] ∧
  ∀ z8 : Int, 0 ≤ z8 → z8 ≤ RB → z8 = fnD 22 [z0, 0, z5] →
  ∀ z9 : Int, 0 ≤ z9 → z9 ≤ 9223372036854775807 → ∀ z10 : Int, 0 ≤ z10 → z10 ≤ 1 → S 302 [[z8], r1] [[z9], [z10]] →
  ((((!(decide (z10 = 1)))) = true →
   K [[z0], r1] [[0, 0, 0, 0], [(cond (false) 1 0)]]
  ) ∧ (((!(decide (z10 = 1)))) = false →
   chkD 30 [z9, z5] ∧
   chkD 21 [z0, z9] ∧
   ∀ z11 : Int, 0 ≤ z11 → z11 ≤ HB → z11 = fnD 21 [z0, z9, 0] →
   ∀ z12 : Int, 0 ≤ z12 → z12 ≤ HB → z12 = fnD 21 [z0, z9, 1] →
   ∀ z13 : Int, 0 ≤ z13 → z13 ≤ HB → z13 = fnD 21 [z0, z9, 2] →
   ∀ z14 : Int, (-9223372036854775808) ≤ z14 → z14 ≤ 9223372036854775807 → z14 = fnD 21 [z0, z9, 3] →
   K [[z0], r1] [[z11, z12, z13, z14], [(cond (true) 1 0)]]
  ))
 ))
def B_bOf (S : Nat → List (List Int) → List (List Int) → Prop) (K : List (List Int) → List (List Int) → Prop) : Prop :=
 ∀ z0 : Int, 0 ≤ z0 → z0 ≤ RB → ∀ z1 : Int, 0 ≤ z1 → z1 ≤ HB → 
 ∀ z2 : Int, 0 ≤ z2 →
 ∀ z3 : Int, (-1) ≤ z3 → z3 ≤ 9223372036854775807 → 
 ∀ z4 : Int, 0 ≤ z4 → z4 ≤ 9223372036854775807 → z4 = fnD 20 [z0] →
 chkD 22 [z0, 0, z4] ∧
 ∀ z5 : Int, 0 ≤ z5 → z5 ≤ RB → z5 = fnD 22 [z0, 0, z4] →
 ∀ z6 : Int, 0 ≤ z6 → z6 ≤ 1 → S 303 [[z5]] [[z6]] →
 ((((!(decide (z6 = 1)))) = true →
  K [[z0], [z1]] [[0]]
 ) ∧ (((!(decide (z6 = 1)))) = false →
  ∃ (I7 : List (List Int) → Prop) (μ7 : List (List Int) → Nat), I7 [[0], [0], [0], [(-1)]] ∧ (∀ z8 : Int, 0 ≤ z8 → z8 ≤ 9223372036854775807 → ∀ z9 : Int, 0 ≤ z9 → z9 ≤ RB → ∀ z10 : Int, 0 ≤ z10 → z10 ≤ 9223372036854775807 → ∀ z11 : Int, (-1) ≤ z11 → z11 ≤ 9223372036854775807 → I7 [[z8], [z9], [z10], [z11]] →
   (((decide (z8 < z4)) = true →
    chkD 30 [z8, z4] ∧
    chkD 21 [z0, z8] ∧
    ∀ z12 : Int, 0 ≤ z12 → z12 ≤ HB → z12 = fnD 21 [z0, z8, 0] →
    ∀ z13 : Int, 0 ≤ z13 → z13 ≤ HB → z13 = fnD 21 [z0, z8, 1] →
    ∀ z14 : Int, 0 ≤ z14 → z14 ≤ HB → z14 = fnD 21 [z0, z8, 2] →
    ∀ z15 : Int, (-9223372036854775808) ≤ z15 → z15 ≤ 9223372036854775807 → z15 = fnD 21 [z0, z8, 3] →
    ∀ z16 : Int, 0 ≤ z16 → z16 ≤ 1 → z16 = fnD 4 [z14, z1] →
    (((decide (z16 = 1)) = true →
     chkD 31 [z9, z10] ∧
     chkD 23 [z9, 1] ∧
     ∀ z17 : Int, 0 ≤ z17 → z17 ≤ RB → z17 = fnD 23 [z9, z12, z13] →
     ∀ z18 : Int, (-1) ≤ z18 → z18 ≤ 9223372036854775807 → 
     ∀ z19 : Int, 0 ≤ z19 → z19 ≤ 1 → 0 ≤ (z8 + 9223372036854775809) - 18446744073709551616 * z19 → (z8 + 9223372036854775809) - 18446744073709551616 * z19 < 18446744073709551616 →
     chkD 39 [((z8 + ((-18446744073709551616) * z19)) + 1), 0, 9223372036854775807] ∧
     (I7 [[((z8 + ((-18446744073709551616) * z19)) + 1)], [z17], [(z10 + 1)], [z18]] ∧ μ7 [[((z8 + ((-18446744073709551616) * z19)) + 1)], [z17], [(z10 + 1)], [z18]] < μ7 [[z8], [z9], [z10], [z11]])
    ) ∧ ((decide (z16 = 1)) = false →
     ∀ z17 : Int, 0 ≤ z17 → z17 ≤ 1 → 0 ≤ (z8 + 9223372036854775809) - 18446744073709551616 * z17 → (z8 + 9223372036854775809) - 18446744073709551616 * z17 < 18446744073709551616 →
     chkD 39 [((z8 + ((-18446744073709551616) * z17)) + 1), 0, 9223372036854775807] ∧
     (I7 [[((z8 + ((-18446744073709551616) * z17)) + 1)], [z9], [z10], [z11]] ∧ μ7 [[((z8 + ((-18446744073709551616) * z17)) + 1)], [z9], [z10], [z11]] < μ7 [[z8], [z9], [z10], [z11]])
    ))
   ) ∧ ((decide (z8 < z4)) = false →
    chkD 22 [z9, 0, z10] ∧
    ∀ z12 : Int, 0 ≤ z12 → z12 ≤ RB → z12 = fnD 22 [z9, 0, z10] →
    K [[z0], [z1]] [[z12]]
   ))
  )
 ))
abbrev dBB : BD := .d (.mix [.str, .str, .str, .int .i64 (-9223372036854775808) 9223372036854775807])
theorem p_bFind : B_bFind SB (KBb SB [dBB, .d .bool] 304) := by
  intro z0 a0 a1 r1 hr1 z3 _ z4 _ _ z5 b0 b1 h5
  have h5 : z5 = ((rOf z0).length : Int) := h5
  have hlen := bds_len z0
  have kno : findL (bds z0) (whoOf r1) = none → KBb SB [dBB, .d .bool] 304 [[z0], r1] [[0, 0, 0, 0], [cond false 1 0]] := fun h => by
    refine ⟨⟨Int.le_refl _, HB_pos, Int.le_refl _, HB_pos, Int.le_refl _, HB_pos, by decide, by decide, by decide, by decide, trivial⟩, ?_⟩
    show (match findL (bds z0) (whoOf r1) with | some b => bdOf [0, 0, 0, 0] = b ∧ (0 : Int) = 1 | none => bdOf [0, 0, 0, 0] = bd0 ∧ (0 : Int) = 0)
    rw [h]; exact ⟨by decide, rfl⟩
  have W := fun y => whole_bds (z := z0) (y := y) h5
  refine ⟨(W 0).1, fun z6 _ _ h6 z7 _ _ h7 => ?_⟩
  have h6 := bds_same ((W z6).2 h6)
  have h7 : z7 = b01 (rightL (bds z6)) := h7
  rw [h6] at h7
  have hd := b01_dec h7
  refine ⟨fun hn => kno ?_, fun hn => ⟨(W 0).1, fun z8 _ _ h8 z9 c0 c1 z10 d0 d1 hS => ?_⟩⟩
  · unfold findL
    rw [hd] at hn
    cases hx : rightL (bds z0) with
    | false => rfl
    | true => rw [hx] at hn; cases hn
  have hr : rightL (bds z0) = true := by
    rw [hd] at hn
    cases hx : rightL (bds z0) with
    | true => rfl
    | false => rw [hx] at hn; cases hn
  have hS : PlaceS (bds z8) (whoOf r1) z9 z10 := hS
  rw [bds_same ((W z8).2 h8)] at hS
  obtain ⟨p1, p2⟩ := place_find hS hr
  refine ⟨fun hf => kno ?_, fun hf => ?_⟩
  · unfold findL; rw [hr]
    refine p2 (fun h => ?_)
    rw [h] at hf; cases hf
  have hf1 : z10 = 1 := by
    cases hx : decide (z10 = 1) with
    | true => exact of_decide_eq_true hx
    | false => rw [hx] at hf; cases hf
  have hil := hS.2.1 hf1
  refine ⟨⟨c0, by omega⟩, ⟨c0, by omega⟩, fun z11 e0 e1 h11 z12 f0 f1 h12 z13 g0 g1 h13 z14 i0 i1 h14 => ⟨⟨e0, e1, f0, f1, g0, g1, i0, i1, by decide, by decide, trivial⟩, ?_⟩⟩
  show (match findL (bds z0) (whoOf r1) with | some b => bdOf [z11, z12, z13, z14] = b ∧ (1 : Int) = 1 | none => bdOf [z11, z12, z13, z14] = bd0 ∧ (1 : Int) = 0)
  unfold findL
  rw [hr, cond_true, p1 hf1]
  exact ⟨row_bd (k := z9.toNat) (by omega) h11 h12 h13 h14 (by omega), rfl⟩
def OfI (z0 : Int) (x : Tx) (bl : List (List Int)) : Prop := ∃ (i : Nat) (r n c : Int), bl = [[(i : Int)], [r], [n], [c]] ∧ i ≤ (bds z0).length ∧ n = ((rOf r).length : Int) ∧ (rOf r).length ≤ i ∧ whos r = (((bds z0).take i).filter (·.2.1 == x)).map (·.1)
theorem p_bOf : B_bOf SB (KBb SB [.ow [.str, .str] 0] 305) := by
  intro z0 a0 a1 z1 _ _ z2 _ z3 _ _ z4 b0 b1 h4
  have h4 : z4 = ((rOf z0).length : Int) := h4
  have hlen := bds_len z0
  have W := fun y => whole_bds (z := z0) (y := y) h4
  refine ⟨(W 0).1, fun z5 _ _ h5 z6 _ _ h6 => ?_⟩
  have h5 := bds_same ((W z5).2 h5)
  have h6 : z6 = b01 (rightL (bds z5)) := h6
  rw [h5] at h6
  have hd := b01_dec h6
  refine ⟨fun hn => ⟨⟨Int.le_refl _, RB_nonneg, trivial⟩, ?_⟩, fun hn => ?_⟩
  · show whos 0 = ofL (bds z0) (sOf z1)
    have hx : rightL (bds z0) = false := by
      rw [hd] at hn
      cases hx : rightL (bds z0) with
      | false => rfl
      | true => rw [hx] at hn; cases hn
    unfold ofL; rw [hx]; unfold whos; rw [Go.Rx.rOf_zero]; rfl
  have hr : rightL (bds z0) = true := by
    rw [hd] at hn
    cases hx : rightL (bds z0) with
    | true => rfl
    | false => rw [hx] at hn; cases hn
  have h64 := ((rightL_iff _).1 hr).1
  refine ⟨OfI z0 (sOf z1), RiM z0, ⟨0, 0, 0, -1, rfl, Nat.zero_le _, by rw [Go.Rx.rOf_zero]; rfl, by rw [Go.Rx.rOf_zero]; exact Nat.le_refl _, by unfold whos; rw [Go.Rx.rOf_zero]; rfl⟩, ?_⟩
  rintro z8 c0 c1 z9 d0 d1 z10 e0 e1 z11 f0 f1 ⟨i, r, n, c, e, hi, hn, hni, hI⟩
  obtain ⟨rfl, rfl, rfl, rfl⟩ : z8 = i ∧ z9 = r ∧ z10 = n ∧ z11 = c := by simpa using e
  refine ⟨fun hlt => ?_, fun hge => ?_⟩
  · have hlt := of_decide_eq_true hlt
    have hil : i < (rOf z0).length := by omega
    have htk : (bds z0).take (i + 1) = (bds z0).take i ++ [(bds z0).getD i bd0] := by
      rw [List.take_add_one, List.getElem?_eq_getElem (by omega)]; simp [List.getD, show i < (bds z0).length by omega]
    refine ⟨⟨by omega, by omega⟩, ⟨by omega, by omega⟩, fun z12 g0 g1 h12 z13 i0 i1 h13 z14 _ _ h14 z15 _ _ h15 z16 _ _ h16 => ?_⟩
    have hrow := row_bd (k := i) rfl h12 h13 h14 h15 hil
    have h16 := eq_dec h16
    have hx : sOf z14 = ((bds z0).getD i bd0).2.1 := by rw [← hrow]; rfl
    have hw : whoOf [z12, z13] = ((bds z0).getD i bd0).1 := row_who (k := i) rfl h12 h13 hil
    have hnw : ∀ z17 : Int, 0 ≤ z17 → z17 ≤ 1 → 0 ≤ ((i : Int) + 9223372036854775809) - 18446744073709551616 * z17 → ((i : Int) + 9223372036854775809) - 18446744073709551616 * z17 < 18446744073709551616 → ((i : Int) + (-18446744073709551616) * z17) + 1 = ((i + 1 : Nat) : Int) := fun z17 x0 x1 x2 x3 => by omega
    have hms : RiM z0 [[((i + 1 : Nat) : Int)]] < RiM z0 [[(i : Int)]] := by
      show (bds z0).length - (((i + 1 : Nat) : Int)).toNat < (bds z0).length - ((i : Int)).toNat; omega
    refine ⟨fun hq => ⟨hn, by show ((rOf z9).length : Int) + 1 ≤ 1073741824; omega, fun z17 j0 j1 h17 z18 k0 k1 z19 l0 l1 l2 l3 => ?_⟩, fun hq z17 l0 l1 l2 l3 => ?_⟩
    · rw [hnw z19 l0 l1 l2 l3]
      have hr17 : rOf z17 = rOf z9 ++ [[z12, z13]] := by rw [h17]; simp only [fnD, rOf_rc]
      refine ⟨⟨by omega, by omega⟩, ⟨i + 1, z17, z10 + 1, z18, rfl, by omega, by rw [hr17, hn]; simp, by rw [hr17]; simp; omega, ?_⟩, hms⟩
      have hq' : (((bds z0).getD i bd0).2.1 == sOf z1) = true := by
        rw [hq] at h16
        have := of_decide_eq_true h16.symm
        rw [← hx, this]; exact beq_self_eq_true _
      rw [htk, List.filter_append, List.map_append, ← hI]
      unfold whos
      rw [hr17, List.map_append, List.filter_cons_of_pos (by simpa using hq')]
      simp [hw]
    · rw [hnw z17 l0 l1 l2 l3]
      refine ⟨⟨by omega, by omega⟩, ⟨i + 1, z9, z10, z11, rfl, by omega, hn, by omega, ?_⟩, hms⟩
      have hq' : ¬ (((bds z0).getD i bd0).2.1 == sOf z1) = true := by
        rw [hq] at h16
        have := of_decide_eq_false h16.symm
        rw [← hx]; simpa using this
      rw [htk, List.filter_append, List.map_append, ← hI, List.filter_cons_of_neg (by simpa using hq')]
      simp
  · have hge := of_decide_eq_false hge
    obtain ⟨w1, w2⟩ : (0 ≤ (0 : Int) ∧ 0 ≤ z10 ∧ z10 ≤ ((rOf z9).length : Int)) ∧ ∀ y, y = fnD 22 [z9, 0, z10] → rOf y = rOf z9 := ⟨(whole_bds (y := 0) hn).1, fun y => (whole_bds (y := y) hn).2⟩
    refine ⟨w1, fun z12 g0 g1 h12 => ⟨⟨g0, g1, trivial⟩, ?_⟩⟩
    show whos z12 = ofL (bds z0) (sOf z1)
    unfold ofL
    rw [hr, cond_true]
    have : whos z12 = whos z9 := by unfold whos; rw [w2 z12 h12]
    rw [this, hI, List.take_of_length_le (by omega)]

end Go.Ad

set_option maxRecDepth 100000
set_option linter.unusedVariables false
set_option linter.unusedSimpArgs false
namespace Go.Ad
open Go Go.Rx
def B_bUnbind (S : Nat → List (List Int) → List (List Int) → Prop) (K : List (List Int) → List (List Int) → Prop) : Prop :=
 ∀ z0 : Int, 0 ≤ z0 → z0 ≤ RB → ∀ r1 : List Int, inB [(0, HB), (0, HB), (0, HB), ((-9223372036854775808), 9223372036854775807)] r1 → 
 ∀ z5 : Int, 0 ≤ z5 →
 ∀ z6 : Int, (-1) ≤ z6 → z6 ≤ 9223372036854775807 → 
 ∀ z7 : Int, 0 ≤ z7 → z7 ≤ 9223372036854775807 → z7 = fnD 20 [z0] →
 chkD 22 [z0, 0, z7] ∧
 ∀ z8 : Int, 0 ≤ z8 → z8 ≤ RB → z8 = fnD 22 [z0, 0, z7] →
 ∀ z9 : Int, 0 ≤ z9 → z9 ≤ 1 → S 303 [[z8]] [[z9]] →
 ((((!(decide (z9 = 1)))) = true →
  chkD 22 [z0, 0, z7] ∧
  ∀ z10 : Int, 0 ≤ z10 → z10 ≤ RB → z10 = fnD 22 [z0, 0, z7] →
  K [[z0], r1] [[z10], [1]]
 ) ∧ (((!(decide (z9 = 1)))) = false →
  chkD 22 [z0, 0, z7] ∧
  ∀ z10 : Int, 0 ≤ z10 → z10 ≤ RB → z10 = fnD 22 [z0, 0, z7] →
  ∀ z11 : Int, 0 ≤ z11 → z11 ≤ 9223372036854775807 → ∀ z12 : Int, 0 ≤ z12 → z12 ≤ 1 → S 302 [[z10], [(List.getD r1 0 0), (List.getD r1 1 0)]] [[z11], [z12]] →
  ((((!(decide (z12 = 1)))) = true →
   chkD 22 [z0, 0, z7] ∧
   ∀ z13 : Int, 0 ≤ z13 → z13 ≤ RB → z13 = fnD 22 [z0, 0, z7] →
   K [[z0], r1] [[z13], [7]]
  ) ∧ (((!(decide (z12 = 1)))) = false →
   chkD 30 [z11, z7] ∧
   chkD 21 [z0, z11] ∧
   ∀ z13 : Int, 0 ≤ z13 → z13 ≤ HB → z13 = fnD 21 [z0, z11, 2] →
   ∀ z14 : Int, 0 ≤ z14 → z14 ≤ 1 → z14 = fnD 4 [z13, (List.getD r1 2 0)] →
   ((((!(decide (z14 = 1)))) = true →
    chkD 22 [z0, 0, z7] ∧
    ∀ z15 : Int, 0 ≤ z15 → z15 ≤ RB → z15 = fnD 22 [z0, 0, z7] →
    K [[z0], r1] [[z15], [14]]
   ) ∧ (((!(decide (z14 = 1)))) = false →
    chkD 53 [z6, z7] →
    (((decide (z6 < 0)) = true →
     ∀ z15 : Int, 0 ≤ z15 → z15 ≤ 1 → 0 ≤ (z11 + 9223372036854775809) - 18446744073709551616 * z15 → (z11 + 9223372036854775809) - 18446744073709551616 * z15 < 18446744073709551616 →
     chkD 39 [((z11 + ((-18446744073709551616) * z15)) + 1), 0, 9223372036854775807] ∧
     chkD 52 [0, z11, ((z11 + ((-18446744073709551616) * z15)) + 1)] ∧
     ∀ z16 : Int, 0 ≤ z16 → z16 ≤ RB → S 307 [[0], [z11], [((z11 + ((-18446744073709551616) * z15)) + 1)]] [[z16]] →
     ∀ z17 : Int, (-1) ≤ z17 → z17 ≤ 9223372036854775807 → 
     ∀ z18 : Int, 0 ≤ z18 → z18 ≤ 9223372036854775807 → z18 = fnD 20 [z16] →
     chkD 22 [z16, 0, z18] ∧
     ∀ z19 : Int, 0 ≤ z19 → z19 ≤ RB → z19 = fnD 22 [z16, 0, z18] →
     K [[z0], r1] [[z19], [0]]
    ) ∧ ((decide (z6 < 0)) = false →
     chkD 22 [z0, 0, z7] ∧
     chkD 23 [0, z7] ∧
     ∀ z15 : Int, 0 ≤ z15 → z15 ≤ RB → z15 = fnD 22 [z0, 0, z7] →
     ∀ z16 : Int, 0 ≤ z16 → z16 ≤ RB → z16 = fnD 24 [0, z15] →
     (((decide (z7 ≤ 0)) = true →
      ∀ z17 : Int, 0 ≤ z17 → z17 ≤ 1 → 0 ≤ (z11 + 9223372036854775809) - 18446744073709551616 * z17 → (z11 + 9223372036854775809) - 18446744073709551616 * z17 < 18446744073709551616 →
      chkD 39 [((z11 + ((-18446744073709551616) * z17)) + 1), 0, 9223372036854775807] ∧
      chkD 52 [0, z11, ((z11 + ((-18446744073709551616) * z17)) + 1)] ∧
      ∀ z18 : Int, 0 ≤ z18 → z18 ≤ RB → S 307 [[0], [z11], [((z11 + ((-18446744073709551616) * z17)) + 1)]] [[z18]] →
      ∀ z19 : Int, (-1) ≤ z19 → z19 ≤ 9223372036854775807 → 
      ∀ z20 : Int, 0 ≤ z20 → z20 ≤ 9223372036854775807 → z20 = fnD 20 [z18] →
      chkD 22 [z18, 0, z20] ∧
      ∀ z21 : Int, 0 ≤ z21 → z21 ≤ RB → z21 = fnD 22 [z18, 0, z20] →
      K [[z0], r1] [[z21], [0]]
     ) ∧ ((decide (z7 ≤ 0)) = false →
      ∀ z17 : Int, (-1) ≤ z17 → z17 ≤ 9223372036854775807 → 
      ∀ z18 : Int, 0 ≤ z18 → z18 ≤ 1 → 0 ≤ (z11 + 9223372036854775809) - 18446744073709551616 * z18 → (z11 + 9223372036854775809) - 18446744073709551616 * z18 < 18446744073709551616 →
      chkD 31 [z16, z7] ∧
      chkD 39 [((z11 + ((-18446744073709551616) * z18)) + 1), 0, 9223372036854775807] ∧
      chkD 52 [z16, z11, ((z11 + ((-18446744073709551616) * z18)) + 1)] ∧
      ∀ z19 : Int, 0 ≤ z19 → z19 ≤ RB → S 307 [[z16], [z11], [((z11 + ((-18446744073709551616) * z18)) + 1)]] [[z19]] →
      ∀ z20 : Int, (-1) ≤ z20 → z20 ≤ 9223372036854775807 → 
      ∀ z21 : Int, 0 ≤ z21 → z21 ≤ 9223372036854775807 → z21 = fnD 20 [z19] →
      chkD 22 [z19, 0, z21] ∧
      ∀ z22 : Int, 0 ≤ z22 → z22 ≤ RB → z22 = fnD 22 [z19, 0, z21] →
      K [[z0], r1] [[z22], [0]]
     ))
    ))
   ))
  ))
 ))
/-! ### Bonds freed -/
theorem K2 {id : Nat} {zs : List (List Int)} {y e : Int} (y0 : 0 ≤ y) (y1 : y ≤ RB) (e0 : 0 ≤ e) (e1 : e ≤ 21) (h : SB id zs [[y], [e]]) : KBb SB [.rd [.str, .str, .str, .int .i64 (-9223372036854775808) 9223372036854775807], .d (.int .i64 0 21)] id zs [[y], [e]] := ⟨⟨y0, y1, e0, e1, trivial⟩, h⟩
theorem bds_del {c y : Int} {i j : Nat} (h : rOf y = (rOf c).take i ++ (rOf c).drop j) : bds y = (bds c).take i ++ (bds c).drop j := by
  unfold bds; rw [h, List.map_append, List.map_take, List.map_drop]
/-- What is left without the one at a place. -/
theorem del_filter : ∀ {l : List Bd} {i : Nat}, sortedB l = true → i < l.length → l.take i ++ l.drop (i + 1) = l.filter (fun b => !(b.1 == (l.getD i bd0).1))
  | [], i, _, h => by simp at h
  | a :: l, 0, hs, _ => by
    simp only [List.take_zero, List.nil_append, List.drop_succ_cons, List.drop_zero, List.getD_cons_zero]
    rw [List.filter_cons_of_neg (by simp)]
    refine (List.filter_eq_self.2 fun b hb => ?_).symm
    have h1 := sorted_head hs b hb
    have : ¬ b.1 = a.1 := fun e => by rw [e, lessA_irr] at h1; cases h1
    simpa using this
  | a :: l, i + 1, hs, h => by
    have hi : i < l.length := by simpa using h
    have hm : l.getD i bd0 ∈ l := by
      simp [List.getD, hi]
    have h1 := sorted_head hs _ hm
    have h2 : ¬ a.1 = (l.getD i bd0).1 := fun e => by rw [← e, lessA_irr] at h1; cases h1
    simp only [List.take_succ_cons, List.drop_succ_cons, List.getD_cons_succ, List.cons_append]
    rw [List.filter_cons_of_pos (by simpa using h2), ← del_filter (sorted_tail hs) hi]
theorem find_mem {l : List Bd} {w : Tx × Tx} {b : Bd} (h : l.find? (fun b => b.1 == w) = some b) : b.1 = w := by
  have := List.find?_some h
  simpa using this
theorem p_bUnbind : B_bUnbind SB (KBb SB [.rd [.str, .str, .str, .int .i64 (-9223372036854775808) 9223372036854775807], .d (.int .i64 0 21)] 309) := by
  intro z0 a0 a1 r1 hr1 z5 _ z6 _ _ z7 b0 b1 h7
  obtain ⟨w0, w1, w2, w3, rfl, _⟩ := inB4 hr1
  have h7 : z7 = ((rOf z0).length : Int) := h7
  have hlen := bds_len z0
  have W := fun y => whole_bds (z := z0) (y := y) h7
  have kk : ∀ y e : Int, 0 ≤ y → y ≤ RB → 0 ≤ e → e ≤ 21 → (bds y, e) = unbindF (bds z0) (bdOf [w0, w1, w2, w3]) → KBb SB [.rd [.str, .str, .str, .int .i64 (-9223372036854775808) 9223372036854775807], .d (.int .i64 0 21)] 309 [[z0], [w0, w1, w2, w3]] [[y], [e]] := fun y e y0 y1 e0 e1 h => K2 y0 y1 e0 e1 h
  refine ⟨(W 0).1, fun z8 _ _ h8 z9 _ _ h9 => ?_⟩
  have h9 : z9 = b01 (rightL (bds z8)) := h9
  rw [bds_same ((W z8).2 h8)] at h9
  have hd := b01_dec h9
  refine ⟨fun hn => ⟨(W 0).1, fun z10 c0 c1 h10 => kk z10 1 c0 c1 (by decide) (by decide) ?_⟩, fun hn => ⟨(W 0).1, fun z10 _ _ h10 z11 c0 c1 z12 d0 d1 hS => ?_⟩⟩
  · have hx : rightL (bds z0) = false := by
      rw [hd] at hn
      cases hx : rightL (bds z0) with
      | false => rfl
      | true => rw [hx] at hn; cases hn
    unfold unbindF; rw [hx, bds_same ((W z10).2 h10)]; rfl
  have hr : rightL (bds z0) = true := by
    rw [hd] at hn
    cases hx : rightL (bds z0) with
    | true => rfl
    | false => rw [hx] at hn; cases hn
  have hS : PlaceS (bds z10) (whoOf [w0, w1]) z11 z12 := hS
  rw [bds_same ((W z10).2 h10)] at hS
  obtain ⟨p1, p2⟩ := place_find hS hr
  have h64 := ((rightL_iff _).1 hr).1
  have ew : (bdOf [w0, w1, w2, w3]).1 = whoOf [w0, w1] := rfl
  refine ⟨fun hf => ⟨(W 0).1, fun z13 e0 e1 h13 => kk z13 7 e0 e1 (by decide) (by decide) ?_⟩, fun hf => ?_⟩
  · have : z12 ≠ 1 := fun h => by rw [h] at hf; cases hf
    unfold unbindF; rw [hr, cond_true, ew, p2 this, bds_same ((W z13).2 h13)]
  have hf1 : z12 = 1 := by
    cases hx : decide (z12 = 1) with
    | true => exact of_decide_eq_true hx
    | false => rw [hx] at hf; cases hf
  have hil := hS.2.1 hf1
  have hfd := p1 hf1
  have hu : unbindF (bds z0) (bdOf [w0, w1, w2, w3]) = cond (((bds z0).getD z11.toNat bd0).2.1 == sOf w2) ((bds z0).filter (fun b => !(b.1 == whoOf [w0, w1])), 0) (bds z0, 14) := by
    unfold unbindF; rw [hr, cond_true, ew, hfd]; rfl
  refine ⟨⟨c0, by omega⟩, ⟨c0, by omega⟩, fun z13 _ _ h13 z14 _ _ h14 => ?_⟩
  have h14 := eq_dec h14
  have hmx : sOf z13 = ((bds z0).getD z11.toNat bd0).2.1 := by
    rw [bds_get (by omega), h13]; rfl
  have hq : (((bds z0).getD z11.toNat bd0).2.1 == sOf w2) = decide (z14 = 1) := by
    have h14' : decide (z14 = 1) = decide (sOf z13 = sOf w2) := h14
    rw [h14', hmx, Bool.eq_iff_iff]; simp
  refine ⟨fun hm => ⟨(W 0).1, fun z15 e0 e1 h15 => kk z15 14 e0 e1 (by decide) (by decide) ?_⟩, fun hm => ?_⟩
  · rw [hu, hq, bds_same ((W z15).2 h15)]
    cases hx : decide (z14 = 1) with
    | true => rw [hx] at hm; cases hm
    | false => rfl
  have hmt : decide (z14 = 1) = true := by
    cases hx : decide (z14 = 1) with
    | true => rfl
    | false => rw [hx] at hm; cases hm
  rw [hq, hmt, cond_true] at hu
  have hfin : ∀ y : Int, 0 ≤ y → y ≤ RB → rOf y = (rOf z0).take z11.toNat ++ (rOf z0).drop (z11.toNat + 1) → KBb SB [.rd [.str, .str, .str, .int .i64 (-9223372036854775808) 9223372036854775807], .d (.int .i64 0 21)] 309 [[z0], [w0, w1, w2, w3]] [[y], [0]] := fun y y0 y1 h => kk y 0 y0 y1 (by decide) (by decide) (by
    rw [hu, bds_del h, del_filter (right_sorted hr) (by omega), find_mem hfd])
  intro has
  refine ⟨fun hc => ?_, fun hc => ⟨(W 0).1, by show (rOf 0).length + z7 ≤ 1073741824; rw [Go.Rx.rOf_zero]; simp; omega, fun z15 _ _ h15 z16 _ _ h16 => ⟨fun hz => ?_, fun hz z17 _ _ z18 i0 i1 i2 i3 => ?_⟩⟩⟩
  · have has : z6 < 0 → z7 = 0 := has
    have := has (of_decide_eq_true hc)
    omega
  · have := of_decide_eq_true hz; omega
  · have e1 : ((z11 + ((-18446744073709551616) * z18)) + 1) = z11 + 1 := by omega
    rw [e1]
    have hr16 : rOf z16 = rOf z0 := by rw [h16]; simp only [fnD, rOf_rc, Go.Rx.rOf_zero, List.nil_append]; exact (W z15).2 h15
    refine ⟨by show z7 = _; rw [hr16]; exact h7, ⟨by omega, by omega⟩, ⟨c0, by omega, by rw [hr16]; omega, by rw [hr16]; omega⟩, fun z19 j0 j1 h19 z20 _ _ z21 _ _ h21 => ?_⟩
    have h19 : rOf z19 = (rOf z16).take z11.toNat ++ (rOf z16).drop (z11 + 1).toNat := h19
    rw [hr16, show (z11 + 1).toNat = z11.toNat + 1 by omega] at h19
    refine ⟨(whole_bds (z := z19) (y := 0) h21).1, fun z22 k0 k1 h22 => hfin z22 k0 k1 ?_⟩
    rw [(whole_bds (z := z19) h21).2 h22, h19]

end Go.Ad

set_option maxRecDepth 100000
set_option linter.unusedVariables false
set_option linter.unusedSimpArgs false
namespace Go.Ad
open Go Go.Rx
def B_bBind (S : Nat → List (List Int) → List (List Int) → Prop) (K : List (List Int) → List (List Int) → Prop) : Prop :=
 ∀ z0 : Int, 0 ≤ z0 → z0 ≤ RB → ∀ r1 : List Int, inB [(0, HB), (0, HB), (0, HB), ((-9223372036854775808), 9223372036854775807)] r1 → 
 ∀ z5 : Int, 0 ≤ z5 →
 ∀ z6 : Int, (-1) ≤ z6 → z6 ≤ 9223372036854775807 → 
 ∀ z7 : Int, 0 ≤ z7 → z7 ≤ 9223372036854775807 → z7 = fnD 20 [z0] →
 ∀ z8 : Int, 0 ≤ z8 → z8 ≤ 1 → S 300 [r1] [[z8]] →
 ((((!(decide (z8 = 1)))) = true →
  chkD 22 [z0, 0, z7] ∧
  ∀ z9 : Int, 0 ≤ z9 → z9 ≤ RB → z9 = fnD 22 [z0, 0, z7] →
  K [[z0], r1] [[z9], [1]]
 ) ∧ (((!(decide (z8 = 1)))) = false →
  chkD 22 [z0, 0, z7] ∧
  ∀ z9 : Int, 0 ≤ z9 → z9 ≤ RB → z9 = fnD 22 [z0, 0, z7] →
  ∀ z10 : Int, 0 ≤ z10 → z10 ≤ 1 → S 303 [[z9]] [[z10]] →
  ((((!(decide (z10 = 1)))) = true →
   chkD 22 [z0, 0, z7] ∧
   ∀ z11 : Int, 0 ≤ z11 → z11 ≤ RB → z11 = fnD 22 [z0, 0, z7] →
   K [[z0], r1] [[z11], [1]]
  ) ∧ (((!(decide (z10 = 1)))) = false →
   chkD 22 [z0, 0, z7] ∧
   ∀ z11 : Int, 0 ≤ z11 → z11 ≤ RB → z11 = fnD 22 [z0, 0, z7] →
   ∀ z12 : Int, 0 ≤ z12 → z12 ≤ 9223372036854775807 → ∀ z13 : Int, 0 ≤ z13 → z13 ≤ 1 → S 302 [[z11], [(List.getD r1 0 0), (List.getD r1 1 0)]] [[z12], [z13]] →
   ((((!(decide (z13 = 1)))) = true →
    (((decide (z7 = 64)) = true →
     chkD 22 [z0, 0, z7] ∧
     ∀ z14 : Int, 0 ≤ z14 → z14 ≤ RB → z14 = fnD 22 [z0, 0, z7] →
     K [[z0], r1] [[z14], [10]]
    ) ∧ ((decide (z7 = 64)) = false →
     chkD 53 [z6, z7] →
     (((decide (z6 < 0)) = true →
      ((((!(decide (z13 = 1)))) = true →
       ∀ z14 : Int, 0 ≤ z14 → z14 ≤ RB → z14 = fnD 23 [0, (List.getD r1 0 0), (List.getD r1 1 0), (List.getD r1 2 0), (List.getD r1 3 0)] →
       chkD 51 [0, z12, z14] ∧
       ∀ z15 : Int, 0 ≤ z15 → z15 ≤ RB → S 306 [[0], [z12], [z14]] [[z15]] →
       ∀ z16 : Int, (-1) ≤ z16 → z16 ≤ 9223372036854775807 → 
       ∀ z17 : Int, 0 ≤ z17 → z17 ≤ 9223372036854775807 → z17 = fnD 20 [z15] →
       chkD 30 [z12, z17] ∧
       chkD 21 [z15, z12] ∧
       ∀ z18 : Int, 0 ≤ z18 → z18 ≤ RB → z18 = fnD 42 [z15, z12, 0, (List.getD r1 0 0), (List.getD r1 1 0), (List.getD r1 2 0), (List.getD r1 3 0)] →
       chkD 22 [z18, 0, z17] ∧
       ∀ z19 : Int, 0 ≤ z19 → z19 ≤ RB → z19 = fnD 22 [z18, 0, z17] →
       K [[z0], r1] [[z19], [0]]
      ) ∧ (((!(decide (z13 = 1)))) = false →
       False
      ))
     ) ∧ ((decide (z6 < 0)) = false →
      chkD 22 [z0, 0, z7] ∧
      chkD 23 [0, z7] ∧
      ∀ z14 : Int, 0 ≤ z14 → z14 ≤ RB → z14 = fnD 22 [z0, 0, z7] →
      ∀ z15 : Int, 0 ≤ z15 → z15 ≤ RB → z15 = fnD 24 [0, z14] →
      (((decide (z7 ≤ 0)) = true →
       ((((!(decide (z13 = 1)))) = true →
        ∀ z16 : Int, 0 ≤ z16 → z16 ≤ RB → z16 = fnD 23 [0, (List.getD r1 0 0), (List.getD r1 1 0), (List.getD r1 2 0), (List.getD r1 3 0)] →
        chkD 51 [0, z12, z16] ∧
        ∀ z17 : Int, 0 ≤ z17 → z17 ≤ RB → S 306 [[0], [z12], [z16]] [[z17]] →
        ∀ z18 : Int, (-1) ≤ z18 → z18 ≤ 9223372036854775807 → 
        ∀ z19 : Int, 0 ≤ z19 → z19 ≤ 9223372036854775807 → z19 = fnD 20 [z17] →
        chkD 30 [z12, z19] ∧
        chkD 21 [z17, z12] ∧
        ∀ z20 : Int, 0 ≤ z20 → z20 ≤ RB → z20 = fnD 42 [z17, z12, 0, (List.getD r1 0 0), (List.getD r1 1 0), (List.getD r1 2 0), (List.getD r1 3 0)] →
        chkD 22 [z20, 0, z19] ∧
        ∀ z21 : Int, 0 ≤ z21 → z21 ≤ RB → z21 = fnD 22 [z20, 0, z19] →
        K [[z0], r1] [[z21], [0]]
       ) ∧ (((!(decide (z13 = 1)))) = false →
        False
       ))
      ) ∧ ((decide (z7 ≤ 0)) = false →
       ∀ z16 : Int, (-1) ≤ z16 → z16 ≤ 9223372036854775807 → 
       ((((!(decide (z13 = 1)))) = true →
        chkD 31 [z15, z7] ∧
        ∀ z17 : Int, 0 ≤ z17 → z17 ≤ RB → z17 = fnD 23 [0, (List.getD r1 0 0), (List.getD r1 1 0), (List.getD r1 2 0), (List.getD r1 3 0)] →
        chkD 51 [z15, z12, z17] ∧
        ∀ z18 : Int, 0 ≤ z18 → z18 ≤ RB → S 306 [[z15], [z12], [z17]] [[z18]] →
        ∀ z19 : Int, (-1) ≤ z19 → z19 ≤ 9223372036854775807 → 
        ∀ z20 : Int, 0 ≤ z20 → z20 ≤ 9223372036854775807 → z20 = fnD 20 [z18] →
        chkD 30 [z12, z20] ∧
        chkD 21 [z18, z12] ∧
        ∀ z21 : Int, 0 ≤ z21 → z21 ≤ RB → z21 = fnD 42 [z18, z12, 0, (List.getD r1 0 0), (List.getD r1 1 0), (List.getD r1 2 0), (List.getD r1 3 0)] →
        chkD 22 [z21, 0, z20] ∧
        ∀ z22 : Int, 0 ≤ z22 → z22 ≤ RB → z22 = fnD 22 [z21, 0, z20] →
        K [[z0], r1] [[z22], [0]]
       ) ∧ (((!(decide (z13 = 1)))) = false →
        chkD 30 [z12, z7] ∧
        chkD 21 [z15, z12] ∧
        ∀ z17 : Int, 0 ≤ z17 → z17 ≤ RB → z17 = fnD 42 [z15, z12, 0, (List.getD r1 0 0), (List.getD r1 1 0), (List.getD r1 2 0), (List.getD r1 3 0)] →
        chkD 22 [z17, 0, z7] ∧
        ∀ z18 : Int, 0 ≤ z18 → z18 ≤ RB → z18 = fnD 22 [z17, 0, z7] →
        K [[z0], r1] [[z18], [0]]
       ))
      ))
     ))
    ))
   ) ∧ (((!(decide (z13 = 1)))) = false →
    chkD 53 [z6, z7] →
    (((decide (z6 < 0)) = true →
     ((((!(decide (z13 = 1)))) = true →
      ∀ z14 : Int, 0 ≤ z14 → z14 ≤ RB → z14 = fnD 23 [0, (List.getD r1 0 0), (List.getD r1 1 0), (List.getD r1 2 0), (List.getD r1 3 0)] →
      chkD 51 [0, z12, z14] ∧
      ∀ z15 : Int, 0 ≤ z15 → z15 ≤ RB → S 306 [[0], [z12], [z14]] [[z15]] →
      ∀ z16 : Int, (-1) ≤ z16 → z16 ≤ 9223372036854775807 → 
      ∀ z17 : Int, 0 ≤ z17 → z17 ≤ 9223372036854775807 → z17 = fnD 20 [z15] →
      chkD 30 [z12, z17] ∧
      chkD 21 [z15, z12] ∧
      ∀ z18 : Int, 0 ≤ z18 → z18 ≤ RB → z18 = fnD 42 [z15, z12, 0, (List.getD r1 0 0), (List.getD r1 1 0), (List.getD r1 2 0), (List.getD r1 3 0)] →
      chkD 22 [z18, 0, z17] ∧
      ∀ z19 : Int, 0 ≤ z19 → z19 ≤ RB → z19 = fnD 22 [z18, 0, z17] →
      K [[z0], r1] [[z19], [0]]
     ) ∧ (((!(decide (z13 = 1)))) = false →
      False
     ))
    ) ∧ ((decide (z6 < 0)) = false →
     chkD 22 [z0, 0, z7] ∧
     chkD 23 [0, z7] ∧
     ∀ z14 : Int, 0 ≤ z14 → z14 ≤ RB → z14 = fnD 22 [z0, 0, z7] →
     ∀ z15 : Int, 0 ≤ z15 → z15 ≤ RB → z15 = fnD 24 [0, z14] →
     (((decide (z7 ≤ 0)) = true →
      ((((!(decide (z13 = 1)))) = true →
       ∀ z16 : Int, 0 ≤ z16 → z16 ≤ RB → z16 = fnD 23 [0, (List.getD r1 0 0), (List.getD r1 1 0), (List.getD r1 2 0), (List.getD r1 3 0)] →
       chkD 51 [0, z12, z16] ∧
       ∀ z17 : Int, 0 ≤ z17 → z17 ≤ RB → S 306 [[0], [z12], [z16]] [[z17]] →
       ∀ z18 : Int, (-1) ≤ z18 → z18 ≤ 9223372036854775807 → 
       ∀ z19 : Int, 0 ≤ z19 → z19 ≤ 9223372036854775807 → z19 = fnD 20 [z17] →
       chkD 30 [z12, z19] ∧
       chkD 21 [z17, z12] ∧
       ∀ z20 : Int, 0 ≤ z20 → z20 ≤ RB → z20 = fnD 42 [z17, z12, 0, (List.getD r1 0 0), (List.getD r1 1 0), (List.getD r1 2 0), (List.getD r1 3 0)] →
       chkD 22 [z20, 0, z19] ∧
       ∀ z21 : Int, 0 ≤ z21 → z21 ≤ RB → z21 = fnD 22 [z20, 0, z19] →
       K [[z0], r1] [[z21], [0]]
      ) ∧ (((!(decide (z13 = 1)))) = false →
       False
      ))
     ) ∧ ((decide (z7 ≤ 0)) = false →
      ∀ z16 : Int, (-1) ≤ z16 → z16 ≤ 9223372036854775807 → 
      ((((!(decide (z13 = 1)))) = true →
       chkD 31 [z15, z7] ∧
       ∀ z17 : Int, 0 ≤ z17 → z17 ≤ RB → z17 = fnD 23 [0, (List.getD r1 0 0), (List.getD r1 1 0), (List.getD r1 2 0), (List.getD r1 3 0)] →
       chkD 51 [z15, z12, z17] ∧
       ∀ z18 : Int, 0 ≤ z18 → z18 ≤ RB → S 306 [[z15], [z12], [z17]] [[z18]] →
       ∀ z19 : Int, (-1) ≤ z19 → z19 ≤ 9223372036854775807 → 
       ∀ z20 : Int, 0 ≤ z20 → z20 ≤ 9223372036854775807 → z20 = fnD 20 [z18] →
       chkD 30 [z12, z20] ∧
       chkD 21 [z18, z12] ∧
       ∀ z21 : Int, 0 ≤ z21 → z21 ≤ RB → z21 = fnD 42 [z18, z12, 0, (List.getD r1 0 0), (List.getD r1 1 0), (List.getD r1 2 0), (List.getD r1 3 0)] →
       chkD 22 [z21, 0, z20] ∧
       ∀ z22 : Int, 0 ≤ z22 → z22 ≤ RB → z22 = fnD 22 [z21, 0, z20] →
       K [[z0], r1] [[z22], [0]]
      ) ∧ (((!(decide (z13 = 1)))) = false →
       chkD 30 [z12, z7] ∧
       chkD 21 [z15, z12] ∧
       ∀ z17 : Int, 0 ≤ z17 → z17 ≤ RB → z17 = fnD 42 [z15, z12, 0, (List.getD r1 0 0), (List.getD r1 1 0), (List.getD r1 2 0), (List.getD r1 3 0)] →
       chkD 22 [z17, 0, z7] ∧
       ∀ z18 : Int, 0 ≤ z18 → z18 ≤ RB → z18 = fnD 22 [z17, 0, z7] →
       K [[z0], r1] [[z18], [0]]
      ))
     ))
    ))
   ))
  ))
 ))
/-! ### Bonds bound -/
theorem filter_take {p : Bd → Bool} : ∀ {l : List Bd} {i : Nat}, i ≤ l.length → (∀ j, j < i → p (l.getD j bd0) = true) → (∀ j, i ≤ j → j < l.length → p (l.getD j bd0) = false) → l.filter p = l.take i
  | [], i, h, _, _ => by simp
  | a :: l, 0, h, _, h2 => by
    rw [List.take_zero, List.filter_eq_nil_iff]
    intro b hb
    obtain ⟨j, hj, rfl⟩ := List.mem_iff_getElem.1 hb
    have := h2 j (Nat.zero_le _) hj
    simp only [List.getD, List.getElem?_eq_getElem hj, Option.getD_some] at this
    rw [this]; decide
  | a :: l, i + 1, h, h1, h2 => by
    have h10 : p a = true := h1 0 (by omega)
    rw [List.filter_cons_of_pos h10, List.take_succ_cons, filter_take (i := i) (by simpa using h) (fun j hj => by have := h1 (j + 1) (by omega); simpa using this) (fun j hj hl => by have := h2 (j + 1) (by omega) (by simpa using hl); simpa using this)]
theorem filter_drop {p : Bd → Bool} : ∀ {l : List Bd} {i : Nat}, i ≤ l.length → (∀ j, j < i → p (l.getD j bd0) = false) → (∀ j, i ≤ j → j < l.length → p (l.getD j bd0) = true) → l.filter p = l.drop i
  | [], i, h, _, _ => by simp
  | a :: l, 0, h, _, h2 => by
    rw [List.drop_zero, List.filter_eq_self]
    intro b hb
    obtain ⟨j, hj, rfl⟩ := List.mem_iff_getElem.1 hb
    have := h2 j (Nat.zero_le _) hj
    simpa only [List.getD, List.getElem?_eq_getElem hj, Option.getD_some] using this
  | a :: l, i + 1, h, h1, h2 => by
    have h0 := h1 0 (by omega)
    rw [List.filter_cons_of_neg (by rw [show p a = false from h0]; decide), List.drop_succ_cons, filter_drop (i := i) (by simpa using h) (fun j hj => by have := h1 (j + 1) (by omega); simpa using this) (fun j hj hl => by have := h2 (j + 1) (by omega) (by simpa using hl); simpa using this)]
theorem set_map {w : Bd} : ∀ {l : List Bd} {i : Nat}, sortedB l = true → i < l.length → (l.getD i bd0).1 = w.1 → l.set i w = l.map (fun b => cond (b.1 == w.1) w b)
  | [], i, _, h, _ => by simp at h
  | a :: l, 0, hs, _, he => by
    have he : a.1 = w.1 := he
    rw [List.set_cons_zero, List.map_cons, he, beq_self_eq_true, cond_true]
    congr 1
    refine (List.map_id l).symm.trans (List.map_congr_left fun b hb => ?_)
    have h1 := sorted_head hs b hb
    have : ¬ b.1 = w.1 := fun e => by rw [e, ← he, lessA_irr] at h1; cases h1
    rw [beq_false_of_ne this]; rfl
  | a :: l, i + 1, hs, h, he => by
    have hi : i < l.length := by simpa using h
    have he : (l.getD i bd0).1 = w.1 := by simpa using he
    have hm : l.getD i bd0 ∈ l := by simp [List.getD, hi]
    have h1 := sorted_head hs _ hm
    have h2 : ¬ a.1 = w.1 := fun e => by rw [he, ← e, lessA_irr] at h1; cases h1
    rw [List.set_cons_succ, List.map_cons, beq_false_of_ne h2, set_map (sorted_tail hs) hi he]; rfl
theorem any_find {l : List Bd} {w : Tx × Tx} : l.any (·.1 == w) = (l.find? (fun b => b.1 == w)).isSome := by
  rw [Bool.eq_iff_iff, List.any_eq_true, List.find?_isSome]
abbrev rBB : BD := .rd [.str, .str, .str, .int .i64 (-9223372036854775808) 9223372036854775807]
theorem p_bBind : B_bBind SB (KBb SB [rBB, .d (.int .i64 0 21)] 308) := by
  intro z0 a0 a1 r1 hr1 z5 _ z6 _ _ z7 b0 b1 h7 z8 _ _ h8
  obtain ⟨w0, w1, w2, w3, rfl, _⟩ := inB4 hr1
  have h7 : z7 = ((rOf z0).length : Int) := h7
  have hlen := bds_len z0
  have W := fun y => whole_bds (z := z0) (y := y) h7
  have h8 : z8 = b01 (bOk (bdOf [w0, w1, w2, w3])) := h8
  have hd8 := b01_dec h8
  have kk : ∀ y e : Int, 0 ≤ y → y ≤ RB → 0 ≤ e → e ≤ 21 → (bds y, e) = bindF (bds z0) (bdOf [w0, w1, w2, w3]) → KBb SB [rBB, .d (.int .i64 0 21)] 308 [[z0], [w0, w1, w2, w3]] [[y], [e]] := fun y e y0 y1 e0 e1 h => K2 y0 y1 e0 e1 h
  have nt : ∀ {z : Int} {b : Bool}, decide (z = 1) = b → (!(decide (z = 1))) = true → b = false := fun h h2 => by rw [h] at h2; simpa using h2
  have nf : ∀ {z : Int} {b : Bool}, decide (z = 1) = b → (!(decide (z = 1))) = false → b = true := fun h h2 => by rw [h] at h2; simpa using h2
  refine ⟨fun hn => ⟨(W 0).1, fun z9 c0 c1 h9 => kk z9 1 c0 c1 (by decide) (by decide) ?_⟩, fun hn => ⟨(W 0).1, fun z9 _ _ h9 z10 _ _ h10 => ?_⟩⟩
  · unfold bindF; rw [nt hd8 hn, bds_same ((W z9).2 h9)]; rfl
  have hok := nf hd8 hn
  have h10 : z10 = b01 (rightL (bds z9)) := h10
  rw [bds_same ((W z9).2 h9)] at h10
  have hd := b01_dec h10
  refine ⟨fun hn => ⟨(W 0).1, fun z11 c0 c1 h11 => kk z11 1 c0 c1 (by decide) (by decide) ?_⟩, fun hn => ⟨(W 0).1, fun z11 _ _ h11 z12 c0 c1 z13 d0 d1 hS => ?_⟩⟩
  · unfold bindF; rw [nt hd hn, Bool.and_false, bds_same ((W z11).2 h11)]; rfl
  have hr := nf hd hn
  have hS : PlaceS (bds z11) (whoOf [w0, w1]) z12 z13 := hS
  rw [bds_same ((W z11).2 h11)] at hS
  obtain ⟨p1, p2⟩ := place_find hS hr
  have h64 := ((rightL_iff _).1 hr).1
  obtain ⟨⟨s1, s2⟩, s3, s4⟩ := hS
  obtain ⟨k1, k2, k3⟩ := s4 hr
  have ew : (bdOf [w0, w1, w2, w3]).1 = whoOf [w0, w1] := rfl
  have hB : bindF (bds z0) (bdOf [w0, w1, w2, w3]) = cond ((bds z0).find? (fun b => b.1 == whoOf [w0, w1])).isSome ((bds z0).map (fun b => cond (b.1 == whoOf [w0, w1]) (bdOf [w0, w1, w2, w3]) b), 0) (cond (decide ((bds z0).length = 64)) (bds z0, 10) ((bds z0).filter (fun b => lessA b.1 (whoOf [w0, w1])) ++ bdOf [w0, w1, w2, w3] :: (bds z0).filter (fun b => lessA (whoOf [w0, w1]) b.1), 0)) := by
    unfold bindF; rw [hok, hr, ← any_find]; rfl
  -- a bond more
  have INS : ∀ c : Int, z13 ≠ 1 → ¬ z7 = 64 → rOf c = rOf z0 → ∀ z14 : Int, 0 ≤ z14 → z14 ≤ RB → z14 = fnD 23 [0, w0, w1, w2, w3] → chkD 51 [c, z12, z14] ∧ ∀ z15 : Int, 0 ≤ z15 → z15 ≤ RB → SB 306 [[c], [z12], [z14]] [[z15]] → ∀ z16 : Int, (-1) ≤ z16 → z16 ≤ 9223372036854775807 → ∀ z17 : Int, 0 ≤ z17 → z17 ≤ 9223372036854775807 → z17 = fnD 20 [z15] → chkD 30 [z12, z17] ∧ chkD 21 [z15, z12] ∧ ∀ z18 : Int, 0 ≤ z18 → z18 ≤ RB → z18 = fnD 42 [z15, z12, 0, w0, w1, w2, w3] → chkD 22 [z18, 0, z17] ∧ ∀ z19 : Int, 0 ≤ z19 → z19 ≤ RB → z19 = fnD 22 [z18, 0, z17] → KBb SB [rBB, .d (.int .i64 0 21)] 308 [[z0], [w0, w1, w2, w3]] [[z19], [0]] := by
    intro c hnf hn64 hc z14 _ _ h14
    have hr14 : rOf z14 = [[w0, w1, w2, w3]] := by rw [h14]; simp only [fnD, rOf_rc, Go.Rx.rOf_zero, List.nil_append]
    refine ⟨⟨⟨c0, by rw [hc]; omega⟩, by rw [hr14]; rfl, by rw [hc]; omega⟩, fun z15 _ _ h15 z16 _ _ z17 _ _ h17 => ?_⟩
    have h15 : rOf z15 = (rOf c).take z12.toNat ++ rOf z14 ++ (rOf c).drop z12.toNat := h15
    rw [hc, hr14] at h15
    have h17 : z17 = ((rOf z15).length : Int) := h17
    have hl15 : (rOf z15).length = (rOf z0).length + 1 := by rw [h15]; simp; omega
    have hi0 : z12.toNat ≤ (rOf z0).length := by omega
    refine ⟨⟨c0, by omega⟩, ⟨c0, by omega⟩, fun z18 _ _ h18 => ?_⟩
    have hgi : (rOf z15).getD z12.toNat [] = [w0, w1, w2, w3] := by
      rw [h15, List.append_assoc]
      simp only [List.getD]
      rw [List.getElem?_append_right (by rw [List.length_take]; exact Nat.min_le_left _ _), List.length_take, Nat.min_eq_left hi0, Nat.sub_self]
      rfl
    have h18 : rOf z18 = rOf z15 := by
      rw [h18]
      simp only [fnD, rOf_rc, hgi]
      rw [show ([w0, w1, w2, w3].take (0 : Int).toNat ++ [w0, w1, w2, w3] ++ [w0, w1, w2, w3].drop ((0 : Int).toNat + [w0, w1, w2, w3].length)) = [w0, w1, w2, w3] from rfl]
      refine List.ext_getElem? fun j => ?_
      rw [List.getElem?_set]
      by_cases hj : z12.toNat = j
      · subst hj
        rw [if_pos rfl, if_pos (by omega)]
        have : (rOf z15)[z12.toNat]? = some ((rOf z15)[z12.toNat]'(by omega)) := List.getElem?_eq_getElem (by omega)
        rw [this]
        simp only [List.getD, this, Option.getD_some] at hgi
        rw [hgi]
      · rw [if_neg hj]
    have hw := whole_bds (z := z18) (n := z17) (y := 0) (by rw [h18]; exact h17)
    refine ⟨hw.1, fun z19 e0 e1 h19 => kk z19 0 e0 e1 (by decide) (by decide) ?_⟩
    have h19 := (whole_bds (z := z18) (n := z17) (y := z19) (by rw [h18]; exact h17)).2 h19
    have hlt : ∀ j, j < z12.toNat → lessA ((bds z0).getD j bd0).1 (whoOf [w0, w1]) = true := fun j hj => cmpA_neg.1 (k1 j (by omega))
    have hge : ∀ j, z12.toNat ≤ j → j < (bds z0).length → lessA ((bds z0).getD j bd0).1 (whoOf [w0, w1]) = false := fun j hj hl => cmpA_nn.1 (k2 j (by omega) hl)
    have hgt : ∀ j, z12.toNat ≤ j → j < (bds z0).length → lessA (whoOf [w0, w1]) ((bds z0).getD j bd0).1 = true := fun j hj hl => by
      rcases lessA_tot ((bds z0).getD j bd0).1 (whoOf [w0, w1]) with h | h | h
      · rw [hge j hj hl] at h; cases h
      · exact h
      · have hno := List.find?_eq_none.1 (p2 hnf) ((bds z0).getD j bd0) (by simp [List.getD, hl])
        exact absurd (by simpa using h) (by simpa using hno)
    rw [hB, p2 hnf]
    simp only [Option.isSome_none, cond_false]
    rw [decide_eq_false (by omega), cond_false, filter_take (p := fun b => lessA b.1 (whoOf [w0, w1])) (i := z12.toNat) (by omega) hlt hge, filter_drop (p := fun b => lessA (whoOf [w0, w1]) b.1) (i := z12.toNat) (by omega) (fun j hj => lessA_asym (hlt j hj)) hgt]
    unfold bds
    rw [h19, h18, h15]
    simp [List.map_take, List.map_drop]
  -- the same address
  have FND : ∀ c : Int, z13 = 1 → rOf c = rOf z0 → chkD 30 [z12, z7] ∧ chkD 21 [c, z12] ∧ ∀ z17 : Int, 0 ≤ z17 → z17 ≤ RB → z17 = fnD 42 [c, z12, 0, w0, w1, w2, w3] → chkD 22 [z17, 0, z7] ∧ ∀ z18 : Int, 0 ≤ z18 → z18 ≤ RB → z18 = fnD 22 [z17, 0, z7] → KBb SB [rBB, .d (.int .i64 0 21)] 308 [[z0], [w0, w1, w2, w3]] [[z18], [0]] := by
    intro c hf hc
    have hil := s3 hf
    have hfd := p1 hf
    refine ⟨⟨c0, by omega⟩, ⟨c0, by rw [hc]; omega⟩, fun z17 _ _ h17 => ?_⟩
    have h17 : rOf z17 = (rOf z0).set z12.toNat ([w0, w1, w2, w3] ++ ((rOf z0).getD z12.toNat []).drop 4) := by
      rw [h17]; simp only [fnD, rOf_rc, hc]; rfl
    have hw := whole_bds (z := z17) (n := z7) (y := 0) (by rw [h17]; simp; exact h7)
    refine ⟨hw.1, fun z18 e0 e1 h18 => kk z18 0 e0 e1 (by decide) (by decide) ?_⟩
    have h18 := (whole_bds (z := z17) (n := z7) (y := z18) (by rw [h17]; simp; exact h7)).2 h18
    rw [hB, hfd]
    simp only [Option.isSome_some, cond_true]
    have hs := set_map (w := bdOf [w0, w1, w2, w3]) (right_sorted hr) (i := z12.toNat) (by omega) (find_mem hfd)
    rw [ew] at hs
    rw [← hs]
    have : bds z18 = (bds z0).set z12.toNat (bdOf [w0, w1, w2, w3]) := by
      unfold bds
      rw [h18, h17, List.map_set]; rfl
    rw [this]
  have hz0 : z7 ≤ 0 → rOf 0 = rOf z0 := fun h => by rw [Go.Rx.rOf_zero]; exact (List.eq_nil_of_length_eq_zero (by omega)).symm
  have hcl : ∀ z14 z15 : Int, z14 = fnD 22 [z0, 0, z7] → z15 = fnD 24 [0, z14] → rOf z15 = rOf z0 := fun z14 z15 h14 h15 => by
    rw [h15]; simp only [fnD, rOf_rc, Go.Rx.rOf_zero, List.nil_append]; exact (W z14).2 h14
  have hck : chkD 23 [0, z7] := by show (rOf 0).length + z7 ≤ 1073741824; rw [Go.Rx.rOf_zero]; simp; omega
  have fal : ∀ {P : Prop}, (!(decide (z13 = 1))) = true → (!(decide (z13 = 1))) = false → P := fun h h2 => by rw [h] at h2; cases h2
  have n1 : (!(decide (z13 = 1))) = true → z13 ≠ 1 := fun h e => by rw [e] at h; cases h
  have y1 : (!(decide (z13 = 1))) = false → z13 = 1 := fun h => by
    cases hx : decide (z13 = 1) with
    | true => exact of_decide_eq_true hx
    | false => rw [hx] at h; cases h
  have ILEN : z13 = 1 → 0 < z7 := fun h => by have := s3 h; omega
  refine ⟨fun hf => ⟨fun h => ⟨(W 0).1, fun z14 e0 e1 h14 => kk z14 10 e0 e1 (by decide) (by decide) ?_⟩, fun h has => ?_⟩, fun hf has => ?_⟩
  · have h := of_decide_eq_true h
    rw [hB, p2 (n1 hf)]
    simp only [Option.isSome_none, cond_false]
    rw [decide_eq_true (by omega), cond_true, bds_same ((W z14).2 h14)]
  · have h := of_decide_eq_false h
    have has : z6 < 0 → z7 = 0 := has
    refine ⟨fun hneg => ⟨fun _ => INS 0 (n1 hf) h (hz0 (by have := has (of_decide_eq_true hneg); omega)), fun h2 => fal hf h2⟩, fun _ => ⟨(W 0).1, hck, fun z14 _ _ h14 z15 _ _ h15 => ⟨fun hz => ⟨fun _ => INS 0 (n1 hf) h (hz0 (of_decide_eq_true hz)), fun h2 => fal hf h2⟩, fun _ z16 _ _ => ⟨fun _ => ⟨by show z7 = _; rw [hcl z14 z15 h14 h15]; exact h7, INS z15 (n1 hf) h (hcl z14 z15 h14 h15)⟩, fun h2 => fal hf h2⟩⟩⟩⟩
  · have has : z6 < 0 → z7 = 0 := has
    have hl := ILEN (y1 hf)
    refine ⟨fun hneg => absurd (has (of_decide_eq_true hneg)) (by omega), fun _ => ⟨(W 0).1, hck, fun z14 _ _ h14 z15 _ _ h15 => ⟨fun hz => absurd (of_decide_eq_true hz) (by omega), fun _ z16 _ _ => ⟨fun h2 => fal h2 hf, fun _ => FND z15 (y1 hf) (hcl z14 z15 h14 h15)⟩⟩⟩⟩

end Go.Ad

set_option maxRecDepth 100000
set_option linter.unusedVariables false
set_option linter.unusedSimpArgs false
namespace Go.Ad
open Go Go.Rx
def B_balive (S : Nat → List (List Int) → List (List Int) → Prop) (K : List (List Int) → List (List Int) → Prop) : Prop :=
 
 ∀ z0 : Int, 0 ≤ z0 → z0 ≤ RB → ∀ z1 : Int, 0 ≤ z1 → z1 ≤ 21 → S 308 [[0], [477315081741, 437051401625, 1786254407, 0]] [[z0], [z1]] →
 ∀ z2 : Int, 0 ≤ z2 →
 ∀ z3 : Int, (-1) ≤ z3 → z3 ≤ 9223372036854775807 → 
 ∀ z4 : Int, 0 ≤ z4 → z4 ≤ 9223372036854775807 → z4 = fnD 20 [z0] →
 chkD 22 [z0, 0, z4] ∧
 ∀ z5 : Int, 0 ≤ z5 → z5 ≤ RB → z5 = fnD 22 [z0, 0, z4] →
 ∀ z6 : Int, 0 ≤ z6 → z6 ≤ RB → ∀ z7 : Int, 0 ≤ z7 → z7 ≤ 21 → S 308 [[z5], [477315081741, 437051401625, 1786254664, 5]] [[z6], [z7]] →
 ∀ z8 : Int, 0 ≤ z8 →
 ∀ z9 : Int, (-1) ≤ z9 → z9 ≤ 9223372036854775807 → 
 ∀ z10 : Int, 0 ≤ z10 → z10 ≤ 9223372036854775807 → z10 = fnD 20 [z6] →
 chkD 22 [z6, 0, z10] ∧
 ∀ z11 : Int, 0 ≤ z11 → z11 ≤ RB → z11 = fnD 22 [z6, 0, z10] →
 ∀ z12 : Int, 0 ≤ z12 → z12 ≤ RB → ∀ z13 : Int, 0 ≤ z13 → z13 ≤ 21 → S 309 [[z11], [477315081741, 437051401625, 1786254407, 0]] [[z12], [z13]] →
 ∀ z14 : Int, 0 ≤ z14 →
 ∀ z15 : Int, (-1) ≤ z15 → z15 ≤ 9223372036854775807 → 
 ∀ z16 : Int, 0 ≤ z16 → z16 ≤ 9223372036854775807 → z16 = fnD 20 [z12] →
 chkD 22 [z6, 0, z10] ∧
 ∀ z17 : Int, 0 ≤ z17 → z17 ≤ RB → z17 = fnD 22 [z6, 0, z10] →
 ∀ r18 : List Int, inB [(0, HB), (0, HB), (0, HB), ((-9223372036854775808), 9223372036854775807)] r18 → ∀ z22 : Int, 0 ≤ z22 → z22 ≤ 1 → S 304 [[z17], [477315081741, 437051401625]] [r18, [z22]] →
 (((decide (z1 = 0)) = true →
  (((decide (z7 = 0)) = true →
   (((decide (z13 = 14)) = true →
    (((decide (z22 = 1)) = true →
     ∀ z23 : Int, 0 ≤ z23 → z23 ≤ 1 → z23 = fnD 4 [(List.getD r18 2 0), 1786254664] →
     (((decide (z23 = 1)) = true →
      chkD 22 [z6, 0, z10] ∧
      ∀ z24 : Int, 0 ≤ z24 → z24 ≤ RB → z24 = fnD 22 [z6, 0, z10] →
      ∀ z25 : Int, 0 ≤ z25 → z25 ≤ RB → S 305 [[z24], [1786254664]] [[z25]] →
      ∀ z26 : Int, (-1) ≤ z26 → z26 ≤ 9223372036854775807 → 
      ∀ z27 : Int, 0 ≤ z27 → z27 ≤ 9223372036854775807 → z27 = fnD 20 [z25] →
      K [] [[(cond (decide (z27 = 1)) 1 0)]]
     ) ∧ ((decide (z23 = 1)) = false →
      K [] [[(cond (false) 1 0)]]
     ))
    ) ∧ ((decide (z22 = 1)) = false →
     K [] [[(cond (false) 1 0)]]
    ))
   ) ∧ ((decide (z13 = 14)) = false →
    K [] [[(cond (false) 1 0)]]
   ))
  ) ∧ ((decide (z7 = 0)) = false →
   K [] [[(cond (false) 1 0)]]
  ))
 ) ∧ ((decide (z1 = 0)) = false →
  K [] [[(cond (false) 1 0)]]
 ))
/-! ### A fixed fact -/
def aB1 : Bd := (([101, 109, 97, 105, 108], [97, 64, 98, 46, 99]), [64, 97, 58, 104], 0)
def aB2 : Bd := (([101, 109, 97, 105, 108], [97, 64, 98, 46, 99]), [64, 98, 58, 104], 5)
theorem bds_zero : bds 0 = [] := by unfold bds; rw [Go.Rx.rOf_zero]; rfl
theorem p_balive : B_balive SB (KBb SB [.d .bool] 310) := by
  have kk : ∀ b : Bool, b = true → KBb SB [.d .bool] 310 [] [[cond b 1 0]] := fun b h => by subst h; exact ⟨⟨by decide, by decide, trivial⟩, rfl⟩
  have e1 : bdOf [477315081741, 437051401625, 1786254407, 0] = aB1 := by decide +kernel
  have e2 : bdOf [477315081741, 437051401625, 1786254664, 5] = aB2 := by decide +kernel
  have ew : whoOf [477315081741, 437051401625] = aB1.1 := by decide +kernel
  intro z0 _ _ z1 _ _ hA z2 _ z3 _ _ z4 _ _ h4
  have hA : (bds z0, z1) = bindF (bds 0) (bdOf [477315081741, 437051401625, 1786254407, 0]) := hA
  rw [bds_zero, e1, show bindF [] aB1 = ([aB1], 0) by decide +kernel] at hA
  simp only [Prod.mk.injEq] at hA
  obtain ⟨a1, a2⟩ := hA
  have W := fun y => whole_bds (z := z0) (y := y) h4
  refine ⟨(W 0).1, fun z5 _ _ h5 z6 _ _ z7 _ _ hB z8 _ z9 _ _ z10 _ _ h10 => ?_⟩
  have hB : (bds z6, z7) = bindF (bds z5) (bdOf [477315081741, 437051401625, 1786254664, 5]) := hB
  rw [bds_same ((W z5).2 h5), a1, e2, show bindF [aB1] aB2 = ([aB2], 0) by decide +kernel] at hB
  simp only [Prod.mk.injEq] at hB
  obtain ⟨b1, b2⟩ := hB
  have V := fun y => whole_bds (z := z6) (y := y) h10
  refine ⟨(V 0).1, fun z11 _ _ h11 z12 _ _ z13 _ _ hC z14 _ z15 _ _ z16 _ _ h16 => ?_⟩
  have hC : (bds z12, z13) = unbindF (bds z11) (bdOf [477315081741, 437051401625, 1786254407, 0]) := hC
  rw [bds_same ((V z11).2 h11), b1, e1, show unbindF [aB2] aB1 = ([aB2], 14) by decide +kernel] at hC
  simp only [Prod.mk.injEq] at hC
  obtain ⟨c1, c2⟩ := hC
  refine ⟨(V 0).1, fun z17 _ _ h17 r18 _ z22 _ _ hD => ?_⟩
  have hD : (match findL (bds z17) (whoOf [477315081741, 437051401625]) with | some b => bdOf r18 = b ∧ z22 = 1 | none => bdOf r18 = bd0 ∧ z22 = 0) := hD
  rw [bds_same ((V z17).2 h17), b1, ew, show findL [aB2] aB1.1 = some aB2 by decide +kernel] at hD
  obtain ⟨d1, d2⟩ := hD
  have d3 : sOf (r18.getD 2 0) = [64, 98, 58, 104] := congrArg (fun b : Bd => b.2.1) d1
  refine ⟨fun _ => ⟨fun _ => ⟨fun _ => ⟨fun _ z23 _ _ h23 => ?_, fun h => absurd d2 (of_decide_eq_false h)⟩, fun h => absurd c2 (of_decide_eq_false h)⟩, fun h => absurd b2 (of_decide_eq_false h)⟩, fun h => absurd a2 (of_decide_eq_false h)⟩
  have h23 := eq_dec h23
  rw [show decide (sOf (r18.getD 2 0) = sOf 1786254664) = true from decide_eq_true (by rw [d3]; decide +kernel)] at h23
  refine ⟨fun _ => ⟨(V 0).1, fun z24 _ _ h24 z25 _ _ hE z26 _ _ z27 _ _ h27 => kk _ ?_⟩, fun h => by rw [h23] at h; cases h⟩
  have hE : whos z25 = ofL (bds z24) (sOf 1786254664) := hE
  rw [bds_same ((V z24).2 h24), b1, show ofL [aB2] (sOf 1786254664) = [aB2.1] by decide +kernel] at hE
  have hl := congrArg List.length hE
  have h27 : z27 = ((rOf z25).length : Int) := h27
  simp [whos] at hl
  exact decide_eq_true (by omega)

end Go.Ad

set_option maxRecDepth 100000
set_option linter.unusedVariables false
set_option linter.unusedSimpArgs false
namespace Go.Ad
open Go Go.Rx
/-! ### Bonds: what binding and freeing leave -/
theorem sorted_cons {a : Bd} {l : List Bd} (h : ∀ b ∈ l, lessA a.1 b.1 = true) (hl : sortedB l = true) : sortedB (a :: l) = true := by
  cases l with
  | nil => rfl
  | cons b r => show (lessA a.1 b.1 && sortedB (b :: r)) = true; rw [h b (by simp), hl]; rfl
theorem sorted_filter {p : Bd → Bool} : ∀ {l : List Bd}, sortedB l = true → sortedB (l.filter p) = true
  | [], _ => rfl
  | a :: l, h => by
    have ih := sorted_filter (p := p) (sorted_tail h)
    rw [List.filter_cons]
    split
    · exact sorted_cons (fun b hb => sorted_head h b (List.mem_filter.1 hb).1) ih
    · exact ih
theorem sorted_append : ∀ {l r : List Bd}, sortedB l = true → sortedB r = true → (∀ a ∈ l, ∀ b ∈ r, lessA a.1 b.1 = true) → sortedB (l ++ r) = true
  | [], r, _, hr, _ => hr
  | a :: l, r, hl, hr, h => by
    have ih := sorted_append (sorted_tail hl) hr fun x hx b hb => h x (List.mem_cons_of_mem _ hx) b hb
    exact sorted_cons (fun b hb => (List.mem_append.1 hb).elim (fun hb => sorted_head hl b hb) fun hb => h a (by simp) b hb) ih
theorem sorted_map {f : Bd → Bd} (hf : ∀ b, (f b).1 = b.1) : ∀ {l : List Bd}, sortedB l = true → sortedB (l.map f) = true
  | [], _ => rfl
  | a :: l, h => by
    refine sorted_cons (fun b hb => ?_) (sorted_map hf (sorted_tail h))
    obtain ⟨c, hc, rfl⟩ := List.mem_map.1 hb
    rw [hf, hf]; exact sorted_head h c hc
theorem filter_two {p q : Bd → Bool} (h : ∀ b, p b = true → q b = false) : ∀ l : List Bd, (l.filter p).length + (l.filter q).length ≤ l.length
  | [] => Nat.le_refl _
  | a :: l => by
    have ih := filter_two h l
    rw [List.filter_cons, List.filter_cons]
    have := h a
    cases hp : p a <;> cases hq : q a <;> simp <;> first | omega | (rw [hp, hq] at this; simp at this)
theorem rightL_parts {l : List Bd} : rightL l = true ↔ l.length ≤ 64 ∧ (∀ b ∈ l, bOk b = true) ∧ sortedB l = true := by
  unfold rightL
  rw [Bool.and_eq_true, Bool.and_eq_true, Nat.ble_eq, List.all_eq_true]
  exact ⟨fun h => ⟨h.1.1, h.1.2, h.2⟩, fun h => ⟨⟨h.1, h.2.1⟩, h.2.2⟩⟩
theorem bind_ok {l : List Bd} {w : Bd} (hr : rightL l = true) (hw : bOk w = true) (hl : l.any (·.1 == w.1) = true ∨ l.length < 64) : (bindF l w).2 = 0 ∧ rightL (bindF l w).1 = true ∧ ∀ b, b ∈ (bindF l w).1 ↔ b = w ∨ (b ∈ l ∧ b.1 ≠ w.1) := by
  obtain ⟨r1, r2, r3⟩ := rightL_parts.1 hr
  unfold bindF
  rw [hw, hr]
  simp only [Bool.and_self, cond_true]
  cases ha : l.any (·.1 == w.1) with
  | true =>
    simp only [cond_true]
    obtain ⟨x, hx, hxw⟩ := List.any_eq_true.1 ha
    have hxw : x.1 = w.1 := by simpa using hxw
    refine ⟨by trivial, rightL_parts.2 ⟨by simpa using r1, fun b hb => ?_, sorted_map (fun b => ?_) r3⟩, fun b => ?_⟩
    · obtain ⟨c, hc, rfl⟩ := List.mem_map.1 hb
      cases hcw : (c.1 == w.1) with
      | true => exact hw
      | false => exact r2 c hc
    · cases hcw : (b.1 == w.1) with
      | true => simp only [cond_true]; exact (by simpa using hcw : b.1 = w.1).symm
      | false => rfl
    · rw [List.mem_map]
      constructor
      · rintro ⟨c, hc, rfl⟩
        cases hcw : (c.1 == w.1) with
        | true => exact .inl rfl
        | false => exact .inr ⟨hc, by simpa using hcw⟩
      · rintro (rfl | ⟨hb, hne⟩)
        · exact ⟨x, hx, by rw [show (x.1 == b.1) = true by simpa using hxw]; rfl⟩
        · exact ⟨b, hb, by rw [show (b.1 == w.1) = false by simpa using hne]; rfl⟩
  | false =>
    simp only [cond_false]
    have hl : l.length < 64 := hl.resolve_left (fun h => by rw [ha] at h; cases h)
    have hn : ∀ b ∈ l, b.1 ≠ w.1 := fun b hb he => by
      have := List.any_eq_false.1 ha b hb
      exact this (by simpa using he)
    rw [show decide (l.length = 64) = false from decide_eq_false (by omega)]
    simp only [cond_false]
    refine ⟨by trivial, rightL_parts.2 ⟨?_, fun b hb => ?_, ?_⟩, fun b => ?_⟩
    · have := filter_two (p := fun b => lessA b.1 w.1) (q := fun b => lessA w.1 b.1) (fun b h => lessA_asym h) l
      simp only [List.length_append, List.length_cons]; omega
    · rcases List.mem_append.1 hb with hb | hb
      · exact r2 b (List.mem_filter.1 hb).1
      · rcases List.mem_cons.1 hb with rfl | hb
        · exact hw
        · exact r2 b (List.mem_filter.1 hb).1
    · refine sorted_append (sorted_filter r3) (sorted_cons (fun b hb => (List.mem_filter.1 hb).2) (sorted_filter r3)) fun a ha b hb => ?_
      have h1 := (List.mem_filter.1 ha).2
      rcases List.mem_cons.1 hb with rfl | hb
      · exact h1
      · exact lessA_trans h1 (List.mem_filter.1 hb).2
    · rw [List.mem_append, List.mem_cons, List.mem_filter, List.mem_filter]
      constructor
      · rintro (⟨h1, _⟩ | rfl | ⟨h1, _⟩)
        · exact .inr ⟨h1, hn b h1⟩
        · exact .inl rfl
        · exact .inr ⟨h1, hn b h1⟩
      · rintro (rfl | ⟨h1, h2⟩)
        · exact .inr (.inl rfl)
        · rcases lessA_tot b.1 w.1 with h3 | h3 | h3
          · exact .inl ⟨h1, h3⟩
          · exact .inr (.inr ⟨h1, h3⟩)
          · exact absurd h3 h2
/-! ### BondLast -/
theorem getD_set_ne {W : List Tx} {k j : Nat} {x : Tx} (h : k ≠ j) : (W.set k x).getD j [] = W.getD j [] := by simp [List.getD, List.getElem?_set_ne h]

end Go.Ad
