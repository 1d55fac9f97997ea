/- AdI1: a part of the proof of statements of this seat. -/
import Derived.Test.YtlecfjcooglpoaaDoorAdV3
set_option maxRecDepth 100000
set_option linter.unusedVariables false
set_option linter.unusedSimpArgs false
namespace Go.Ad
open Go Go.Rx
def B_tus (S : Nat → List (List Int) → List (List Int) → Prop) (K : List (List Int) → List (List Int) → Prop) : Prop :=
 ∀ z0 : Int, 0 ≤ z0 → z0 ≤ HB → 
 ∀ z1 : Int, 0 ≤ z1 → z1 ≤ 1 → z1 = fnD 4 [z0, 0] →
 (((decide (z1 = 1)) = true →
  K [[z0]] [[z0]]
 ) ∧ ((decide (z1 = 1)) = false →
  ∃ (I2 : List (List Int) → Prop) (μ2 : List (List Int) → Nat), I2 [[z0]] ∧ (∀ z3 : Int, 0 ≤ z3 → z3 ≤ HB → I2 [[z3]] →
   ∀ z4 : Int, 0 ≤ z4 → z4 ≤ 9223372036854775807 → z4 = fnD 0 [z3] →
   (((decide (0 < z4)) = true →
    ∀ z5 : Int, 0 ≤ z5 → z5 ≤ 9223372036854775807 → z5 = fnD 0 [z3] →
    chkD 1 [z3, (z5 + (-1))] ∧
    ∀ z6 : Int, 0 ≤ z6 → z6 ≤ 255 → z6 = fnD 1 [z3, (z5 + (-1))] →
    ∀ z7 : Int, 0 ≤ z7 → z7 ≤ 1 → z7 = fnD 43 [79221403731691789204265450354666987086070872538664503581038852739373042335165977954796146613462291367, z6] →
    ((((!(decide (z7 = 1)))) = true →
     ∃ (I8 : List (List Int) → Prop) (μ8 : List (List Int) → Nat), I8 [[z3]] ∧ (∀ z9 : Int, 0 ≤ z9 → z9 ≤ HB → I8 [[z9]] →
      ∀ z10 : Int, 0 ≤ z10 → z10 ≤ 9223372036854775807 → z10 = fnD 0 [z9] →
      (((decide (0 < z10)) = true →
       chkD 1 [z9, 0] ∧
       ∀ z11 : Int, 0 ≤ z11 → z11 ≤ 255 → z11 = fnD 1 [z9, 0] →
       ∀ z12 : Int, 0 ≤ z12 → z12 ≤ 1 → z12 = fnD 43 [79221403731691789204265450354666987086070872538664503581038852739373042335165977954796146613462291367, z11] →
       ((((!(decide (z12 = 1)))) = true →
        K [[z0]] [[z9]]
       ) ∧ (((!(decide (z12 = 1)))) = false →
        ∀ z13 : Int, 0 ≤ z13 → z13 ≤ 9223372036854775807 → z13 = fnD 0 [z9] →
        chkD 2 [z9, 1, z13] ∧
        ∀ z14 : Int, 0 ≤ z14 → z14 ≤ HB → z14 = fnD 2 [z9, 1, z13] →
        (I8 [[z14]] ∧ μ8 [[z14]] < μ8 [[z9]])
       ))
      ) ∧ ((decide (0 < z10)) = false →
       K [[z0]] [[z9]]
      ))
     )
    ) ∧ (((!(decide (z7 = 1)))) = false →
     ∀ z8 : Int, 0 ≤ z8 → z8 ≤ 9223372036854775807 → z8 = fnD 0 [z3] →
     chkD 2 [z3, 0, (z8 + (-1))] ∧
     ∀ z9 : Int, 0 ≤ z9 → z9 ≤ HB → z9 = fnD 2 [z3, 0, (z8 + (-1))] →
     (I2 [[z9]] ∧ μ2 [[z9]] < μ2 [[z3]])
    ))
   ) ∧ ((decide (0 < z4)) = false →
    ∃ (I5 : List (List Int) → Prop) (μ5 : List (List Int) → Nat), I5 [[z3]] ∧ (∀ z6 : Int, 0 ≤ z6 → z6 ≤ HB → I5 [[z6]] →
     ∀ z7 : Int, 0 ≤ z7 → z7 ≤ 9223372036854775807 → z7 = fnD 0 [z6] →
     (((decide (0 < z7)) = true →
      chkD 1 [z6, 0] ∧
      ∀ z8 : Int, 0 ≤ z8 → z8 ≤ 255 → z8 = fnD 1 [z6, 0] →
      ∀ z9 : Int, 0 ≤ z9 → z9 ≤ 1 → z9 = fnD 43 [79221403731691789204265450354666987086070872538664503581038852739373042335165977954796146613462291367, z8] →
      ((((!(decide (z9 = 1)))) = true →
       K [[z0]] [[z6]]
      ) ∧ (((!(decide (z9 = 1)))) = false →
       ∀ z10 : Int, 0 ≤ z10 → z10 ≤ 9223372036854775807 → z10 = fnD 0 [z6] →
       chkD 2 [z6, 1, z10] ∧
       ∀ z11 : Int, 0 ≤ z11 → z11 ≤ HB → z11 = fnD 2 [z6, 1, z10] →
       (I5 [[z11]] ∧ μ5 [[z11]] < μ5 [[z6]])
      ))
     ) ∧ ((decide (0 < z7)) = false →
      K [[z0]] [[z6]]
     ))
    )
   ))
  )
 ))
def B_trs (S : Nat → List (List Int) → List (List Int) → Prop) (K : List (List Int) → List (List Int) → Prop) : Prop :=
 ∀ z0 : Int, 0 ≤ z0 → z0 ≤ HB → 
 ∀ z1 : Int, 0 ≤ z1 → z1 ≤ 1 → z1 = fnD 4 [z0, 0] →
 (((decide (z1 = 1)) = true →
  K [[z0]] [[z0]]
 ) ∧ ((decide (z1 = 1)) = false →
  ∃ (I2 : List (List Int) → Prop) (μ2 : List (List Int) → Nat), I2 [[z0]] ∧ (∀ z3 : Int, 0 ≤ z3 → z3 ≤ HB → I2 [[z3]] →
   ∀ z4 : Int, 0 ≤ z4 → z4 ≤ 9223372036854775807 → z4 = fnD 0 [z3] →
   (((decide (0 < z4)) = true →
    ∀ z5 : Int, 0 ≤ z5 → z5 ≤ 9223372036854775807 → z5 = fnD 0 [z3] →
    chkD 1 [z3, (z5 + (-1))] ∧
    ∀ z6 : Int, 0 ≤ z6 → z6 ≤ 255 → z6 = fnD 1 [z3, (z5 + (-1))] →
    ∀ z7 : Int, 0 ≤ z7 → z7 ≤ 1 → z7 = fnD 43 [125171368403152129163724030630095823892214485118700356753273476726430036133312942901998522965911142354738647179312425756528940035478207487514564356937, z6] →
    ((((!(decide (z7 = 1)))) = true →
     ∃ (I8 : List (List Int) → Prop) (μ8 : List (List Int) → Nat), I8 [[z3]] ∧ (∀ z9 : Int, 0 ≤ z9 → z9 ≤ HB → I8 [[z9]] →
      ∀ z10 : Int, 0 ≤ z10 → z10 ≤ 9223372036854775807 → z10 = fnD 0 [z9] →
      (((decide (0 < z10)) = true →
       chkD 1 [z9, 0] ∧
       ∀ z11 : Int, 0 ≤ z11 → z11 ≤ 255 → z11 = fnD 1 [z9, 0] →
       ∀ z12 : Int, 0 ≤ z12 → z12 ≤ 1 → z12 = fnD 43 [125171368403152129163724030630095823892214485118700356753273476726430036133312942901998522965911142354738647179312425756528940035478207487514564356937, z11] →
       ((((!(decide (z12 = 1)))) = true →
        K [[z0]] [[z9]]
       ) ∧ (((!(decide (z12 = 1)))) = false →
        ∀ z13 : Int, 0 ≤ z13 → z13 ≤ 9223372036854775807 → z13 = fnD 0 [z9] →
        chkD 2 [z9, 1, z13] ∧
        ∀ z14 : Int, 0 ≤ z14 → z14 ≤ HB → z14 = fnD 2 [z9, 1, z13] →
        (I8 [[z14]] ∧ μ8 [[z14]] < μ8 [[z9]])
       ))
      ) ∧ ((decide (0 < z10)) = false →
       K [[z0]] [[z9]]
      ))
     )
    ) ∧ (((!(decide (z7 = 1)))) = false →
     ∀ z8 : Int, 0 ≤ z8 → z8 ≤ 9223372036854775807 → z8 = fnD 0 [z3] →
     chkD 2 [z3, 0, (z8 + (-1))] ∧
     ∀ z9 : Int, 0 ≤ z9 → z9 ≤ HB → z9 = fnD 2 [z3, 0, (z8 + (-1))] →
     (I2 [[z9]] ∧ μ2 [[z9]] < μ2 [[z3]])
    ))
   ) ∧ ((decide (0 < z4)) = false →
    ∃ (I5 : List (List Int) → Prop) (μ5 : List (List Int) → Nat), I5 [[z3]] ∧ (∀ z6 : Int, 0 ≤ z6 → z6 ≤ HB → I5 [[z6]] →
     ∀ z7 : Int, 0 ≤ z7 → z7 ≤ 9223372036854775807 → z7 = fnD 0 [z6] →
     (((decide (0 < z7)) = true →
      chkD 1 [z6, 0] ∧
      ∀ z8 : Int, 0 ≤ z8 → z8 ≤ 255 → z8 = fnD 1 [z6, 0] →
      ∀ z9 : Int, 0 ≤ z9 → z9 ≤ 1 → z9 = fnD 43 [125171368403152129163724030630095823892214485118700356753273476726430036133312942901998522965911142354738647179312425756528940035478207487514564356937, z8] →
      ((((!(decide (z9 = 1)))) = true →
       K [[z0]] [[z6]]
      ) ∧ (((!(decide (z9 = 1)))) = false →
       ∀ z10 : Int, 0 ≤ z10 → z10 ≤ 9223372036854775807 → z10 = fnD 0 [z6] →
       chkD 2 [z6, 1, z10] ∧
       ∀ z11 : Int, 0 ≤ z11 → z11 ≤ HB → z11 = fnD 2 [z6, 1, z10] →
       (I5 [[z11]] ∧ μ5 [[z11]] < μ5 [[z6]])
      ))
     ) ∧ ((decide (0 < z7)) = false →
      K [[z0]] [[z6]]
     ))
    )
   ))
  )
 ))
def B_colon (S : Nat → List (List Int) → List (List Int) → Prop) (K : List (List Int) → List (List Int) → Prop) : Prop :=
 ∀ z0 : Int, 0 ≤ z0 → z0 ≤ HB → 
 ∃ (I1 : List (List Int) → Prop) (μ1 : List (List Int) → Nat), I1 [[0]] ∧ (∀ z2 : Int, 0 ≤ z2 → z2 ≤ 9223372036854775807 → I1 [[z2]] →
  ∀ z3 : Int, 0 ≤ z3 → z3 ≤ 9223372036854775807 → z3 = fnD 0 [z0] →
  (((decide (z2 < z3)) = true →
   chkD 1 [z0, z2] ∧
   ∀ z4 : Int, 0 ≤ z4 → z4 ≤ 255 → z4 = fnD 1 [z0, z2] →
   (((decide (z4 = 58)) = true →
    K [[z0]] [[z2]]
   ) ∧ ((decide (z4 = 58)) = false →
    ∀ z5 : Int, 0 ≤ z5 → z5 ≤ 1 → 0 ≤ (z2 + 9223372036854775809) - 18446744073709551616 * z5 → (z2 + 9223372036854775809) - 18446744073709551616 * z5 < 18446744073709551616 →
    chkD 39 [((z2 + ((-18446744073709551616) * z5)) + 1), 0, 9223372036854775807] ∧
    (I1 [[((z2 + ((-18446744073709551616) * z5)) + 1)]] ∧ μ1 [[((z2 + ((-18446744073709551616) * z5)) + 1)]] < μ1 [[z2]])
   ))
  ) ∧ ((decide (z2 < z3)) = false →
   K [[z0]] [[(-1)]]
  ))
 )
def B_rserver (S : Nat → List (List Int) → List (List Int) → Prop) (K : List (List Int) → List (List Int) → Prop) : Prop :=
 ∀ z0 : Int, 0 ≤ z0 → z0 ≤ HB → 
 ∀ z1 : Int, (-1) ≤ z1 → z1 ≤ 9223372036854775807 → S 204 [[z0]] [[z1]] →
 (((decide (z1 < 0)) = true →
  ∀ z2 : Int, 0 ≤ z2 → z2 ≤ 1 → S 30 [[z0]] [[z2]] →
  K [[z0]] [[(cond (decide (z2 = 1)) 1 0)]]
 ) ∧ ((decide (z1 < 0)) = false →
  ∀ z2 : Int, 0 ≤ z2 → z2 ≤ 1 → 0 ≤ (z1 + 9223372036854775809) - 18446744073709551616 * z2 → (z1 + 9223372036854775809) - 18446744073709551616 * z2 < 18446744073709551616 →
  ∀ z3 : Int, 0 ≤ z3 → z3 ≤ 9223372036854775807 → z3 = fnD 0 [z0] →
  chkD 2 [z0, ((z1 + ((-18446744073709551616) * z2)) + 1), z3] ∧
  ∀ z4 : Int, 0 ≤ z4 → z4 ≤ HB → z4 = fnD 2 [z0, ((z1 + ((-18446744073709551616) * z2)) + 1), z3] →
  ∃ (I5 : List (List Int) → Prop) (μ5 : List (List Int) → Nat), I5 [[0]] ∧ (∀ z6 : Int, 0 ≤ z6 → z6 ≤ 9223372036854775807 → I5 [[z6]] →
   ∀ z7 : Int, 0 ≤ z7 → z7 ≤ 9223372036854775807 → z7 = fnD 0 [z4] →
   (((decide (z6 < z7)) = true →
    chkD 1 [z4, z6] ∧
    ∀ z8 : Int, 0 ≤ z8 → z8 ≤ 255 → z8 = fnD 1 [z4, z6] →
    ∀ z9 : Int, 0 ≤ z9 → z9 ≤ 1 → S 52 [[z8]] [[z9]] →
    ((((!(decide (z9 = 1)))) = true →
     K [[z0]] [[(cond (false) 1 0)]]
    ) ∧ (((!(decide (z9 = 1)))) = false →
     ∀ z10 : Int, 0 ≤ z10 → z10 ≤ 1 → 0 ≤ (z6 + 9223372036854775809) - 18446744073709551616 * z10 → (z6 + 9223372036854775809) - 18446744073709551616 * z10 < 18446744073709551616 →
     chkD 39 [((z6 + ((-18446744073709551616) * z10)) + 1), 0, 9223372036854775807] ∧
     (I5 [[((z6 + ((-18446744073709551616) * z10)) + 1)]] ∧ μ5 [[((z6 + ((-18446744073709551616) * z10)) + 1)]] < μ5 [[z6]])
    ))
   ) ∧ ((decide (z6 < z7)) = false →
    chkD 2 [z0, 0, z1] ∧
    ∀ z8 : Int, 0 ≤ z8 → z8 ≤ HB → z8 = fnD 2 [z0, 0, z1] →
    ∀ z9 : Int, 0 ≤ z9 → z9 ≤ 1 → S 30 [[z8]] [[z9]] →
    (((decide (z9 = 1)) = true →
     ∀ z10 : Int, 0 ≤ z10 → z10 ≤ 9223372036854775807 → z10 = fnD 0 [z4] →
     (((decide (1 ≤ z10)) = true →
      ∀ z11 : Int, 0 ≤ z11 → z11 ≤ 9223372036854775807 → z11 = fnD 0 [z4] →
      K [[z0]] [[(cond (decide (z11 ≤ 5)) 1 0)]]
     ) ∧ ((decide (1 ≤ z10)) = false →
      K [[z0]] [[(cond (false) 1 0)]]
     ))
    ) ∧ ((decide (z9 = 1)) = false →
     K [[z0]] [[(cond (false) 1 0)]]
    ))
   ))
  )
 ))
def B_partsu (S : Nat → List (List Int) → List (List Int) → Prop) (K : List (List Int) → List (List Int) → Prop) : Prop :=
 ∀ z0 : Int, 0 ≤ z0 → z0 ≤ HB → ∀ z1 : Int, 64 ≤ z1 → z1 ≤ 64 → 
 ∀ z2 : Int, 0 ≤ z2 → z2 ≤ 9223372036854775807 → z2 = fnD 0 [z0] →
 (((decide (z2 = 0)) = true →
  K [[z0], [z1]] [[0], [0], [(cond (false) 1 0)]]
 ) ∧ ((decide (z2 = 0)) = false →
  ∀ z3 : Int, 0 ≤ z3 → z3 ≤ 9223372036854775807 → z3 = fnD 0 [z0] →
  (((decide (255 < z3)) = true →
   K [[z0], [z1]] [[0], [0], [(cond (false) 1 0)]]
  ) ∧ ((decide (255 < z3)) = false →
   chkD 1 [z0, 0] ∧
   ∀ z4 : Int, 0 ≤ z4 → z4 ≤ 255 → z4 = fnD 1 [z0, 0] →
   ((((!(decide (z4 = z1)))) = true →
    K [[z0], [z1]] [[0], [0], [(cond (false) 1 0)]]
   ) ∧ (((!(decide (z4 = z1)))) = false →
    ∀ z5 : Int, (-1) ≤ z5 → z5 ≤ 9223372036854775807 → S 204 [[z0]] [[z5]] →
    (((decide (z5 < 0)) = true →
     K [[z0], [z1]] [[0], [0], [(cond (false) 1 0)]]
    ) ∧ ((decide (z5 < 0)) = false →
     ∀ z6 : Int, 0 ≤ z6 → z6 ≤ 1 → 0 ≤ (z5 + 9223372036854775809) - 18446744073709551616 * z6 → (z5 + 9223372036854775809) - 18446744073709551616 * z6 < 18446744073709551616 →
     ∀ z7 : Int, 0 ≤ z7 → z7 ≤ 9223372036854775807 → z7 = fnD 0 [z0] →
     chkD 2 [z0, ((z5 + ((-18446744073709551616) * z6)) + 1), z7] ∧
     ∀ z8 : Int, 0 ≤ z8 → z8 ≤ HB → z8 = fnD 2 [z0, ((z5 + ((-18446744073709551616) * z6)) + 1), z7] →
     ∀ z9 : Int, 0 ≤ z9 → z9 ≤ 1 → S 205 [[z8]] [[z9]] →
     ((((!(decide (z9 = 1)))) = true →
      K [[z0], [z1]] [[0], [0], [(cond (false) 1 0)]]
     ) ∧ (((!(decide (z9 = 1)))) = false →
      chkD 2 [z0, 1, z5] ∧
      ∀ z10 : Int, 0 ≤ z10 → z10 ≤ HB → z10 = fnD 2 [z0, 1, z5] →
      ∀ z11 : Int, 0 ≤ z11 → z11 ≤ 1 → 0 ≤ (z5 + 9223372036854775809) - 18446744073709551616 * z11 → (z5 + 9223372036854775809) - 18446744073709551616 * z11 < 18446744073709551616 →
      ∀ z12 : Int, 0 ≤ z12 → z12 ≤ 9223372036854775807 → z12 = fnD 0 [z0] →
      chkD 2 [z0, ((z5 + ((-18446744073709551616) * z11)) + 1), z12] ∧
      ∀ z13 : Int, 0 ≤ z13 → z13 ≤ HB → z13 = fnD 2 [z0, ((z5 + ((-18446744073709551616) * z11)) + 1), z12] →
      K [[z0], [z1]] [[z10], [z13], [(cond (true) 1 0)]]
     ))
    ))
   ))
  ))
 ))
def B_partsr (S : Nat → List (List Int) → List (List Int) → Prop) (K : List (List Int) → List (List Int) → Prop) : Prop :=
 ∀ z0 : Int, 0 ≤ z0 → z0 ≤ HB → ∀ z1 : Int, 33 ≤ z1 → z1 ≤ 33 → 
 ∀ z2 : Int, 0 ≤ z2 → z2 ≤ 9223372036854775807 → z2 = fnD 0 [z0] →
 (((decide (z2 = 0)) = true →
  K [[z0], [z1]] [[0], [0], [(cond (false) 1 0)]]
 ) ∧ ((decide (z2 = 0)) = false →
  ∀ z3 : Int, 0 ≤ z3 → z3 ≤ 9223372036854775807 → z3 = fnD 0 [z0] →
  (((decide (255 < z3)) = true →
   K [[z0], [z1]] [[0], [0], [(cond (false) 1 0)]]
  ) ∧ ((decide (255 < z3)) = false →
   chkD 1 [z0, 0] ∧
   ∀ z4 : Int, 0 ≤ z4 → z4 ≤ 255 → z4 = fnD 1 [z0, 0] →
   ((((!(decide (z4 = z1)))) = true →
    K [[z0], [z1]] [[0], [0], [(cond (false) 1 0)]]
   ) ∧ (((!(decide (z4 = z1)))) = false →
    ∀ z5 : Int, (-1) ≤ z5 → z5 ≤ 9223372036854775807 → S 204 [[z0]] [[z5]] →
    (((decide (z5 < 0)) = true →
     K [[z0], [z1]] [[0], [0], [(cond (false) 1 0)]]
    ) ∧ ((decide (z5 < 0)) = false →
     ∀ z6 : Int, 0 ≤ z6 → z6 ≤ 1 → 0 ≤ (z5 + 9223372036854775809) - 18446744073709551616 * z6 → (z5 + 9223372036854775809) - 18446744073709551616 * z6 < 18446744073709551616 →
     ∀ z7 : Int, 0 ≤ z7 → z7 ≤ 9223372036854775807 → z7 = fnD 0 [z0] →
     chkD 2 [z0, ((z5 + ((-18446744073709551616) * z6)) + 1), z7] ∧
     ∀ z8 : Int, 0 ≤ z8 → z8 ≤ HB → z8 = fnD 2 [z0, ((z5 + ((-18446744073709551616) * z6)) + 1), z7] →
     ∀ z9 : Int, 0 ≤ z9 → z9 ≤ 1 → S 205 [[z8]] [[z9]] →
     ((((!(decide (z9 = 1)))) = true →
      K [[z0], [z1]] [[0], [0], [(cond (false) 1 0)]]
     ) ∧ (((!(decide (z9 = 1)))) = false →
      chkD 2 [z0, 1, z5] ∧
      ∀ z10 : Int, 0 ≤ z10 → z10 ≤ HB → z10 = fnD 2 [z0, 1, z5] →
      ∀ z11 : Int, 0 ≤ z11 → z11 ≤ 1 → 0 ≤ (z5 + 9223372036854775809) - 18446744073709551616 * z11 → (z5 + 9223372036854775809) - 18446744073709551616 * z11 < 18446744073709551616 →
      ∀ z12 : Int, 0 ≤ z12 → z12 ≤ 9223372036854775807 → z12 = fnD 0 [z0] →
      chkD 2 [z0, ((z5 + ((-18446744073709551616) * z11)) + 1), z12] ∧
      ∀ z13 : Int, 0 ≤ z13 → z13 ≤ HB → z13 = fnD 2 [z0, ((z5 + ((-18446744073709551616) * z11)) + 1), z12] →
      K [[z0], [z1]] [[z10], [z13], [(cond (true) 1 0)]]
     ))
    ))
   ))
  ))
 ))
def B_ruser (S : Nat → List (List Int) → List (List Int) → Prop) (K : List (List Int) → List (List Int) → Prop) : Prop :=
 ∀ z0 : Int, 0 ≤ z0 → z0 ≤ HB → 
 ∀ z1 : Int, 0 ≤ z1 → z1 ≤ HB → ∀ z2 : Int, 0 ≤ z2 → z2 ≤ HB → ∀ z3 : Int, 0 ≤ z3 → z3 ≤ 1 → S 206 [[z0], [64]] [[z1], [z2], [z3]] →
 ∃ (I4 : List (List Int) → Prop) (μ4 : List (List Int) → Nat), I4 [[0]] ∧ (∀ z5 : Int, 0 ≤ z5 → z5 ≤ 9223372036854775807 → I4 [[z5]] →
  ∀ z6 : Int, 0 ≤ z6 → z6 ≤ 9223372036854775807 → z6 = fnD 0 [z1] →
  (((decide (z5 < z6)) = true →
   chkD 1 [z1, z5] ∧
   ∀ z7 : Int, 0 ≤ z7 → z7 ≤ 255 → z7 = fnD 1 [z1, z5] →
   ∀ z8 : Int, 0 ≤ z8 → z8 ≤ 1 → S 50 [[z7]] [[z8]] →
   ((((!(decide (z8 = 1)))) = true →
    ∀ z9 : Int, 0 ≤ z9 → z9 ≤ 1 → S 52 [[z7]] [[z9]] →
    ((((!(decide (z9 = 1)))) = true →
     ((((!(decide (z7 = 46)))) = true →
      ((((!(decide (z7 = 95)))) = true →
       ((((!(decide (z7 = 61)))) = true →
        ((((!(decide (z7 = 47)))) = true →
         ((((!(decide (z7 = 43)))) = true →
          ((((!(decide (z7 = 45)))) = true →
           K [[z0]] [[(cond (false) 1 0)]]
          ) ∧ (((!(decide (z7 = 45)))) = false →
           ∀ z10 : Int, 0 ≤ z10 → z10 ≤ 1 → 0 ≤ (z5 + 9223372036854775809) - 18446744073709551616 * z10 → (z5 + 9223372036854775809) - 18446744073709551616 * z10 < 18446744073709551616 →
           chkD 39 [((z5 + ((-18446744073709551616) * z10)) + 1), 0, 9223372036854775807] ∧
           (I4 [[((z5 + ((-18446744073709551616) * z10)) + 1)]] ∧ μ4 [[((z5 + ((-18446744073709551616) * z10)) + 1)]] < μ4 [[z5]])
          ))
         ) ∧ (((!(decide (z7 = 43)))) = false →
          ∀ z10 : Int, 0 ≤ z10 → z10 ≤ 1 → 0 ≤ (z5 + 9223372036854775809) - 18446744073709551616 * z10 → (z5 + 9223372036854775809) - 18446744073709551616 * z10 < 18446744073709551616 →
          chkD 39 [((z5 + ((-18446744073709551616) * z10)) + 1), 0, 9223372036854775807] ∧
          (I4 [[((z5 + ((-18446744073709551616) * z10)) + 1)]] ∧ μ4 [[((z5 + ((-18446744073709551616) * z10)) + 1)]] < μ4 [[z5]])
         ))
        ) ∧ (((!(decide (z7 = 47)))) = false →
         ∀ z10 : Int, 0 ≤ z10 → z10 ≤ 1 → 0 ≤ (z5 + 9223372036854775809) - 18446744073709551616 * z10 → (z5 + 9223372036854775809) - 18446744073709551616 * z10 < 18446744073709551616 →
         chkD 39 [((z5 + ((-18446744073709551616) * z10)) + 1), 0, 9223372036854775807] ∧
         (I4 [[((z5 + ((-18446744073709551616) * z10)) + 1)]] ∧ μ4 [[((z5 + ((-18446744073709551616) * z10)) + 1)]] < μ4 [[z5]])
        ))
       ) ∧ (((!(decide (z7 = 61)))) = false →
        ∀ z10 : Int, 0 ≤ z10 → z10 ≤ 1 → 0 ≤ (z5 + 9223372036854775809) - 18446744073709551616 * z10 → (z5 + 9223372036854775809) - 18446744073709551616 * z10 < 18446744073709551616 →
        chkD 39 [((z5 + ((-18446744073709551616) * z10)) + 1), 0, 9223372036854775807] ∧
        (I4 [[((z5 + ((-18446744073709551616) * z10)) + 1)]] ∧ μ4 [[((z5 + ((-18446744073709551616) * z10)) + 1)]] < μ4 [[z5]])
       ))
      ) ∧ (((!(decide (z7 = 95)))) = false →
       ∀ z10 : Int, 0 ≤ z10 → z10 ≤ 1 → 0 ≤ (z5 + 9223372036854775809) - 18446744073709551616 * z10 → (z5 + 9223372036854775809) - 18446744073709551616 * z10 < 18446744073709551616 →
       chkD 39 [((z5 + ((-18446744073709551616) * z10)) + 1), 0, 9223372036854775807] ∧
       (I4 [[((z5 + ((-18446744073709551616) * z10)) + 1)]] ∧ μ4 [[((z5 + ((-18446744073709551616) * z10)) + 1)]] < μ4 [[z5]])
      ))
     ) ∧ (((!(decide (z7 = 46)))) = false →
      ∀ z10 : Int, 0 ≤ z10 → z10 ≤ 1 → 0 ≤ (z5 + 9223372036854775809) - 18446744073709551616 * z10 → (z5 + 9223372036854775809) - 18446744073709551616 * z10 < 18446744073709551616 →
      chkD 39 [((z5 + ((-18446744073709551616) * z10)) + 1), 0, 9223372036854775807] ∧
      (I4 [[((z5 + ((-18446744073709551616) * z10)) + 1)]] ∧ μ4 [[((z5 + ((-18446744073709551616) * z10)) + 1)]] < μ4 [[z5]])
     ))
    ) ∧ (((!(decide (z9 = 1)))) = false →
     ∀ z10 : Int, 0 ≤ z10 → z10 ≤ 1 → 0 ≤ (z5 + 9223372036854775809) - 18446744073709551616 * z10 → (z5 + 9223372036854775809) - 18446744073709551616 * z10 < 18446744073709551616 →
     chkD 39 [((z5 + ((-18446744073709551616) * z10)) + 1), 0, 9223372036854775807] ∧
     (I4 [[((z5 + ((-18446744073709551616) * z10)) + 1)]] ∧ μ4 [[((z5 + ((-18446744073709551616) * z10)) + 1)]] < μ4 [[z5]])
    ))
   ) ∧ (((!(decide (z8 = 1)))) = false →
    ∀ z9 : Int, 0 ≤ z9 → z9 ≤ 1 → 0 ≤ (z5 + 9223372036854775809) - 18446744073709551616 * z9 → (z5 + 9223372036854775809) - 18446744073709551616 * z9 < 18446744073709551616 →
    chkD 39 [((z5 + ((-18446744073709551616) * z9)) + 1), 0, 9223372036854775807] ∧
    (I4 [[((z5 + ((-18446744073709551616) * z9)) + 1)]] ∧ μ4 [[((z5 + ((-18446744073709551616) * z9)) + 1)]] < μ4 [[z5]])
   ))
  ) ∧ ((decide (z5 < z6)) = false →
   (((decide (z3 = 1)) = true →
    ∀ z7 : Int, 0 ≤ z7 → z7 ≤ 9223372036854775807 → z7 = fnD 0 [z1] →
    (((decide (1 ≤ z7)) = true →
     ∀ z8 : Int, 0 ≤ z8 → z8 ≤ 9223372036854775807 → z8 = fnD 0 [z1] →
     K [[z0]] [[(cond (decide (z8 ≤ 200)) 1 0)]]
    ) ∧ ((decide (1 ≤ z7)) = false →
     K [[z0]] [[(cond (false) 1 0)]]
    ))
   ) ∧ ((decide (z3 = 1)) = false →
    K [[z0]] [[(cond (false) 1 0)]]
   ))
  ))
 )
def B_rroom (S : Nat → List (List Int) → List (List Int) → Prop) (K : List (List Int) → List (List Int) → Prop) : Prop :=
 ∀ z0 : Int, 0 ≤ z0 → z0 ≤ HB → 
 ∀ z1 : Int, 0 ≤ z1 → z1 ≤ HB → ∀ z2 : Int, 0 ≤ z2 → z2 ≤ HB → ∀ z3 : Int, 0 ≤ z3 → z3 ≤ 1 → S 211 [[z0], [33]] [[z1], [z2], [z3]] →
 ∃ (I4 : List (List Int) → Prop) (μ4 : List (List Int) → Nat), I4 [[0]] ∧ (∀ z5 : Int, 0 ≤ z5 → z5 ≤ 9223372036854775807 → I4 [[z5]] →
  ∀ z6 : Int, 0 ≤ z6 → z6 ≤ 9223372036854775807 → z6 = fnD 0 [z1] →
  (((decide (z5 < z6)) = true →
   chkD 1 [z1, z5] ∧
   ∀ z7 : Int, 0 ≤ z7 → z7 ≤ 255 → z7 = fnD 1 [z1, z5] →
   ∀ z8 : Int, 0 ≤ z8 → z8 ≤ 1 → S 50 [[z7]] [[z8]] →
   ((((!(decide (z8 = 1)))) = true →
    chkD 1 [z1, z5] ∧
    ∀ z9 : Int, 0 ≤ z9 → z9 ≤ 255 → z9 = fnD 1 [z1, z5] →
    ∀ z10 : Int, 0 ≤ z10 → z10 ≤ 1 → S 51 [[z9]] [[z10]] →
    ((((!(decide (z10 = 1)))) = true →
     chkD 1 [z1, z5] ∧
     ∀ z11 : Int, 0 ≤ z11 → z11 ≤ 255 → z11 = fnD 1 [z1, z5] →
     ∀ z12 : Int, 0 ≤ z12 → z12 ≤ 1 → S 52 [[z11]] [[z12]] →
     ((((!(decide (z12 = 1)))) = true →
      K [[z0]] [[(cond (false) 1 0)]]
     ) ∧ (((!(decide (z12 = 1)))) = false →
      ∀ z13 : Int, 0 ≤ z13 → z13 ≤ 1 → 0 ≤ (z5 + 9223372036854775809) - 18446744073709551616 * z13 → (z5 + 9223372036854775809) - 18446744073709551616 * z13 < 18446744073709551616 →
      chkD 39 [((z5 + ((-18446744073709551616) * z13)) + 1), 0, 9223372036854775807] ∧
      (I4 [[((z5 + ((-18446744073709551616) * z13)) + 1)]] ∧ μ4 [[((z5 + ((-18446744073709551616) * z13)) + 1)]] < μ4 [[z5]])
     ))
    ) ∧ (((!(decide (z10 = 1)))) = false →
     ∀ z11 : Int, 0 ≤ z11 → z11 ≤ 1 → 0 ≤ (z5 + 9223372036854775809) - 18446744073709551616 * z11 → (z5 + 9223372036854775809) - 18446744073709551616 * z11 < 18446744073709551616 →
     chkD 39 [((z5 + ((-18446744073709551616) * z11)) + 1), 0, 9223372036854775807] ∧
     (I4 [[((z5 + ((-18446744073709551616) * z11)) + 1)]] ∧ μ4 [[((z5 + ((-18446744073709551616) * z11)) + 1)]] < μ4 [[z5]])
    ))
   ) ∧ (((!(decide (z8 = 1)))) = false →
    ∀ z9 : Int, 0 ≤ z9 → z9 ≤ 1 → 0 ≤ (z5 + 9223372036854775809) - 18446744073709551616 * z9 → (z5 + 9223372036854775809) - 18446744073709551616 * z9 < 18446744073709551616 →
    chkD 39 [((z5 + ((-18446744073709551616) * z9)) + 1), 0, 9223372036854775807] ∧
    (I4 [[((z5 + ((-18446744073709551616) * z9)) + 1)]] ∧ μ4 [[((z5 + ((-18446744073709551616) * z9)) + 1)]] < μ4 [[z5]])
   ))
  ) ∧ ((decide (z5 < z6)) = false →
   (((decide (z3 = 1)) = true →
    ∀ z7 : Int, 0 ≤ z7 → z7 ≤ 9223372036854775807 → z7 = fnD 0 [z1] →
    (((decide (1 ≤ z7)) = true →
     ∀ z8 : Int, 0 ≤ z8 → z8 ≤ 9223372036854775807 → z8 = fnD 0 [z1] →
     K [[z0]] [[(cond (decide (z8 ≤ 64)) 1 0)]]
    ) ∧ ((decide (1 ≤ z7)) = false →
     K [[z0]] [[(cond (false) 1 0)]]
    ))
   ) ∧ ((decide (z3 = 1)) = false →
    K [[z0]] [[(cond (false) 1 0)]]
   ))
  ))
 )
theorem p_tus : B_tus SB (KBv SB [.str] 202) := p_trimB (n := 79221403731691789204265450354666987086070872538664503581038852739373042335165977954796146613462291367) (p := inUser) (allB256 (by decide +kernel)) fun _ _ => rfl
theorem p_trs : B_trs SB (KBv SB [.str] 203) := p_trimB (n := 125171368403152129163724030630095823892214485118700356753273476726430036133312942901998522965911142354738647179312425756528940035478207487514564356937) (p := inRoom) (allB256 (by decide +kernel)) fun _ _ => rfl
/-- A round's end: one on. -/
theorem adv1 {I : List (List Int) → Prop} {M : List (List Int) → Nat} {L : Int} {i : Nat} (hlt : (i : Int) < L) (hL : L ≤ 9223372036854775807) (hI : I [[((i + 1 : Nat) : Int)]]) (hM : M [[((i + 1 : Nat) : Int)]] < M [[(i : Int)]]) :
   ∀ q : Int, 0 ≤ q → q ≤ 1 → 0 ≤ ((i : Int) + 9223372036854775809) - 18446744073709551616 * q → ((i : Int) + 9223372036854775809) - 18446744073709551616 * q < 18446744073709551616 →
    chkD 39 [(((i : Int) + ((-18446744073709551616) * q)) + 1), 0, 9223372036854775807] ∧
    (I [[(((i : Int) + ((-18446744073709551616) * q)) + 1)]] ∧ M [[(((i : Int) + ((-18446744073709551616) * q)) + 1)]] < M [[(i : Int)]]) := by
  intro q q0 q1 q2 q3
  rw [wrap1 (L := L) hlt hL (Int.natCast_nonneg _) q0 q2]
  exact ⟨⟨by omega, by omega⟩, by simpa using hI, by simpa using hM⟩
def cntM (n : Nat) (bl : List (List Int)) : Nat := n - ((bl.getD 0 []).getD 0 0).toNat
theorem cntM_lt {n i : Nat} (h : i < n) : cntM n [[((i + 1 : Nat) : Int)]] < cntM n [[(i : Int)]] := by
  show n - (((i + 1 : Nat) : Int)).toNat < n - ((i : Int)).toNat
  omega
theorem p_colon : B_colon SB (KBv SB [.int .i64 (-1) 9223372036854775807] 204) := by
  intro z0 a0 a1
  have hL := len_lt a1
  refine ⟨fun bl => ∃ i : Nat, bl = [[(i : Int)]] ∧ i ≤ (sOf z0).length ∧ ∀ j, j < i → (sOf z0).getD j 0 ≠ u8 58, cntM (sOf z0).length, ⟨0, rfl, Nat.zero_le _, fun j h => by omega⟩, ?_⟩
  rintro z2 b0 b1 ⟨i, e, hi, hb⟩ z3 c0 c1 h3
  obtain rfl : z2 = i := by simpa using e
  simp only [fnD] at h3
  have fin : ∀ r : Int, -1 ≤ r → r ≤ 9223372036854775807 → r = idx 58 (sOf z0) → KBv SB [.int .i64 (-1) 9223372036854775807] 204 [[z0]] [[r]] := fun r r0 r1 h => ⟨⟨r0, r1, trivial⟩, h⟩
  refine ⟨fun hp => ?_, fun hp => fin _ (by decide) (by decide) ?_⟩
  · have hp : (i : Int) < z3 := by simpa using hp
    refine ⟨⟨b0, by omega⟩, fun z4 d0 d1 h4 => ?_⟩
    simp only [fnD, Int.toNat_natCast] at h4
    have hu := u8_eq (b := (sOf z0).getD i 0) (z := 58) (by decide) (by decide)
    rw [← h4] at hu
    refine ⟨fun hq => fin _ (by omega) (by omega) ?_, fun hq => adv1 (I := fun bl => ∃ i : Nat, bl = [[(i : Int)]] ∧ i ≤ (sOf z0).length ∧ ∀ j, j < i → (sOf z0).getD j 0 ≠ u8 58) (M := cntM (sOf z0).length) (L := z3) hp c1 ⟨i + 1, rfl, by omega, fun j hj => ?_⟩ (cntM_lt (by omega))⟩
    · exact (idx_at (by decide) (by decide) (by omega) (beq_iff_eq.1 (hu.1 (of_decide_eq_true hq))) hb).symm
    · by_cases he : j = i
      · subst he
        intro h
        have := hu.2 (by rw [h]; simp)
        exact of_decide_eq_false hq this
      · exact hb j (by omega)
  · have hp : ¬ (i : Int) < z3 := by simpa using hp
    exact (idx_no (by decide) (by decide) fun j hj => hb j (by omega)).symm
theorem sub_to {s z L : Int} {n : Nat} (hz : z = (n : Int)) (h : n ≤ (sOf s).length) (hL : L = fnD 0 [s]) : (0 ≤ z ∧ z ≤ L ∧ L ≤ ((sOf s).length : Int)) ∧ ∀ y, y = fnD 2 [s, z, L] → sOf y = (sOf s).drop n := by
  subst hz
  simp only [fnD] at hL
  refine ⟨⟨by omega, by omega, by omega⟩, fun y hy => ?_⟩
  rw [hy]; simp only [fnD, sOf_cOf]
  rw [show ((n : Int)).toNat = n by omega]
  exact List.take_of_length_le (by simp; omega)
theorem p_rserver : B_rserver SB (KBv SB [.bool] 205) := by
  intro z0 a0 a1 z1 b0 b1 h1
  have hL := len_lt a1
  have h1 : z1 = idx 58 (sOf z0) := h1
  have kk : ∀ b : Bool, serverb (sOf z0) = b → KBv SB [.bool] 205 [[z0]] [[b01 b]] := fun b h => kb (by show b01 b = b01 (serverb (sOf z0)); rw [h])
  have hr := idx_range 58 (sOf z0)
  refine ⟨fun hn z2 c0 c1 h2 => ?_, fun hn z2 c0 c1 c2 c3 z3 d0 d1 h3 => ?_⟩
  · have h2 : z2 = b01 (hostb (sOf z0)) := h2
    have hn : z1 < 0 := of_decide_eq_true hn
    rw [b01_dec h2]
    exact kk _ (serverb_host (by omega))
  · have hn : ¬ z1 < 0 := of_decide_eq_false hn
    have hw : z1 + -18446744073709551616 * z2 + 1 = ((z1.toNat + 1 : Nat) : Int) := by omega
    rw [hw]
    obtain ⟨s1, s2⟩ := sub_to (s := z0) (z := ((z1.toNat + 1 : Nat) : Int)) (L := z3) (n := z1.toNat + 1) rfl (by omega) h3
    refine ⟨s1, fun z4 e0 e1 h4 => ?_⟩
    have e4 := s2 z4 h4
    have hlen4 := len_lt e1
    have hsv : serverb (sOf z0) = (hostb ((sOf z0).take z1.toNat) && portb (sOf z4)) := by
      unfold serverb cutF
      have : decide (0 ≤ idx 58 (sOf z0)) = true := decide_eq_true (by omega)
      rw [this, e4, h1]
      simp
    refine ⟨fun bl => ∃ i : Nat, bl = [[(i : Int)]] ∧ i ≤ (sOf z4).length ∧ ((sOf z4).take i).all isD = true, cntM (sOf z4).length, ⟨0, rfl, Nat.zero_le _, rfl⟩, ?_⟩
    rintro z6 f0 f1 ⟨i, e, hi, hall⟩ z7 g0 g1 h7
    obtain rfl : z6 = i := by simpa using e
    simp only [fnD] at h7
    refine ⟨fun hp => ?_, fun hp => ?_⟩
    · have hp : (i : Int) < z7 := by simpa using hp
      refine ⟨⟨f0, by omega⟩, fun z8 i0 i1 h8 z9 j0 j1 h9 => ?_⟩
      simp only [fnD, Int.toNat_natCast] at h8
      have h9 : z9 = b01 (isD (u8 z8)) := h9
      rw [h8, u8_of] at h9
      rw [b01_dec h9]
      refine ⟨fun hd => kk false ?_, fun hd => adv1 (I := fun bl => ∃ i : Nat, bl = [[(i : Int)]] ∧ i ≤ (sOf z4).length ∧ ((sOf z4).take i).all isD = true) (M := cntM (sOf z4).length) (L := z7) hp g1 ⟨i + 1, rfl, by omega, ?_⟩ (cntM_lt (by omega))⟩
      · have hd : isD ((sOf z4).getD i 0) = false := by simpa using hd
        rw [hsv]; unfold portb; rw [all_false_of isD _ i (by omega) hd]; simp
      · have hd : isD ((sOf z4).getD i 0) = true := by simpa using hd
        rw [all_take _ _ _ (by omega), hall, hd]; rfl
    · have hp : ¬ (i : Int) < z7 := by simpa using hp
      rw [List.take_of_length_le (by omega)] at hall
      refine ⟨⟨Int.le_refl _, by omega, by omega⟩, fun z8 i0 i1 h8 z9 j0 j1 h9 => ?_⟩
      have e8 : sOf z8 = (sOf z0).take z1.toNat := by
        rw [h8]; simp only [fnD, sOf_cOf]
        rw [show (0 : Int).toNat = 0 from rfl, List.drop_zero]; rfl
      have h9 : z9 = b01 (hostb (sOf z8)) := h9
      rw [b01_dec h9, e8]
      have hport : portb (sOf z4) = (Nat.blt 0 (sOf z4).length && Nat.ble (sOf z4).length 5) := by unfold portb; rw [hall, Bool.and_true]
      rw [hport] at hsv
      refine ⟨fun hh z10 k0 k1 h10 => ?_, fun hh => kk false (by rw [hsv, hh]; rfl)⟩
      simp only [fnD] at h10
      refine ⟨fun hq z11 l0 l1 h11 => ?_, fun hq => kk false ?_⟩
      · simp only [fnD] at h11
        have hq : 1 ≤ z10 := of_decide_eq_true hq
        refine kk _ ?_
        rw [hsv, hh, show Nat.blt 0 (sOf z4).length = true by rw [Nat.blt_eq]; omega, Bool.true_and, Bool.true_and, Bool.eq_iff_iff, decide_eq_true_eq, Nat.ble_eq]; omega
      · have hq : ¬ 1 ≤ z10 := of_decide_eq_false hq
        rw [hsv, show Nat.blt 0 (sOf z4).length = false by
          cases hb : Nat.blt 0 (sOf z4).length with
          | false => rfl
          | true => rw [Nat.blt_eq] at hb; omega]; simp
theorem kp {id : Nat} {zs : List (List Int)} {a b : Int} {c : Bool} (a0 : 0 ≤ a) (a1 : a ≤ HB) (b0 : 0 ≤ b) (b1 : b ≤ HB) (h : SB id zs [[a], [b], [b01 c]]) : KBv SB [.str, .str, .bool] id zs [[a], [b], [b01 c]] := ⟨⟨a0, a1, b0, b1, (b01_bd c).1, (b01_bd c).2, trivial⟩, h⟩
theorem partsF_no {k : UInt8} {s : Tx} (h : (Nat.blt 0 s.length && Nat.ble s.length 255 && s.getD 0 0 == k && decide (0 ≤ idx 58 s) && serverb (s.drop ((idx 58 s).toNat + 1))) = false) : partsF k s = ([], [], 0) := by unfold partsF; rw [h]; rfl
theorem p_parts {k : Int} (k0 : 0 ≤ k) (k1 : k ≤ 255) (hk : k ≠ 58) {id : Nat} (hid : ∀ z a b c, SB id [[z], [k]] [[a], [b], [c]] = ((sOf a, sOf b, c) = partsF (u8 k) (sOf z))) :
 (∀ z0 : Int, 0 ≤ z0 → z0 ≤ HB → ∀ z1 : Int, k ≤ z1 → z1 ≤ k → 
 ∀ z2 : Int, 0 ≤ z2 → z2 ≤ 9223372036854775807 → z2 = fnD 0 [z0] →
 (((decide (z2 = 0)) = true →
  KBv SB [.str, .str, .bool] id [[z0], [z1]] [[0], [0], [(cond (false) 1 0)]]
 ) ∧ ((decide (z2 = 0)) = false →
  ∀ z3 : Int, 0 ≤ z3 → z3 ≤ 9223372036854775807 → z3 = fnD 0 [z0] →
  (((decide (255 < z3)) = true →
   KBv SB [.str, .str, .bool] id [[z0], [z1]] [[0], [0], [(cond (false) 1 0)]]
  ) ∧ ((decide (255 < z3)) = false →
   chkD 1 [z0, 0] ∧
   ∀ z4 : Int, 0 ≤ z4 → z4 ≤ 255 → z4 = fnD 1 [z0, 0] →
   ((((!(decide (z4 = z1)))) = true →
    KBv SB [.str, .str, .bool] id [[z0], [z1]] [[0], [0], [(cond (false) 1 0)]]
   ) ∧ (((!(decide (z4 = z1)))) = false →
    ∀ z5 : Int, (-1) ≤ z5 → z5 ≤ 9223372036854775807 → SB 204 [[z0]] [[z5]] →
    (((decide (z5 < 0)) = true →
     KBv SB [.str, .str, .bool] id [[z0], [z1]] [[0], [0], [(cond (false) 1 0)]]
    ) ∧ ((decide (z5 < 0)) = false →
     ∀ z6 : Int, 0 ≤ z6 → z6 ≤ 1 → 0 ≤ (z5 + 9223372036854775809) - 18446744073709551616 * z6 → (z5 + 9223372036854775809) - 18446744073709551616 * z6 < 18446744073709551616 →
     ∀ z7 : Int, 0 ≤ z7 → z7 ≤ 9223372036854775807 → z7 = fnD 0 [z0] →
     chkD 2 [z0, ((z5 + ((-18446744073709551616) * z6)) + 1), z7] ∧
     ∀ z8 : Int, 0 ≤ z8 → z8 ≤ HB → z8 = fnD 2 [z0, ((z5 + ((-18446744073709551616) * z6)) + 1), z7] →
     ∀ z9 : Int, 0 ≤ z9 → z9 ≤ 1 → SB 205 [[z8]] [[z9]] →
     ((((!(decide (z9 = 1)))) = true →
      KBv SB [.str, .str, .bool] id [[z0], [z1]] [[0], [0], [(cond (false) 1 0)]]
     ) ∧ (((!(decide (z9 = 1)))) = false →
      chkD 2 [z0, 1, z5] ∧
      ∀ z10 : Int, 0 ≤ z10 → z10 ≤ HB → z10 = fnD 2 [z0, 1, z5] →
      ∀ z11 : Int, 0 ≤ z11 → z11 ≤ 1 → 0 ≤ (z5 + 9223372036854775809) - 18446744073709551616 * z11 → (z5 + 9223372036854775809) - 18446744073709551616 * z11 < 18446744073709551616 →
      ∀ z12 : Int, 0 ≤ z12 → z12 ≤ 9223372036854775807 → z12 = fnD 0 [z0] →
      chkD 2 [z0, ((z5 + ((-18446744073709551616) * z11)) + 1), z12] ∧
      ∀ z13 : Int, 0 ≤ z13 → z13 ≤ HB → z13 = fnD 2 [z0, ((z5 + ((-18446744073709551616) * z11)) + 1), z12] →
      KBv SB [.str, .str, .bool] id [[z0], [z1]] [[z10], [z13], [(cond (true) 1 0)]]
     ))
    ))
   ))
  ))
 ))) := by
  intro z0 a0 a1 z1 b0 b1 z2 c0 c1 h2
  have hL := len_lt a1
  obtain rfl : z1 = k := by omega
  simp only [fnD] at h2
  have kno : partsF (u8 z1) (sOf z0) = ([], [], 0) → KBv SB [.str, .str, .bool] id [[z0], [z1]] [[0], [0], [(cond (false) 1 0)]] := fun h => kp (c := false) (Int.le_refl _) HB_pos (Int.le_refl _) HB_pos (by rw [hid, h]; rfl)
  have hpos : Nat.blt 0 (sOf z0).length = !decide (z2 = 0) := by
    rw [Bool.eq_iff_iff, Nat.blt_eq]; simp; omega
  refine ⟨fun h => kno (partsF_no (by rw [hpos, h]; rfl)), fun h z3 d0 d1 h3 => ?_⟩
  have hz2 : ¬ z2 = 0 := of_decide_eq_false h
  rw [h] at hpos
  have hb255 := len_gt (n := 255) 255 rfl h3
  refine ⟨fun h' => kno (partsF_no (by
    rw [h'] at hb255
    have : Nat.ble (sOf z0).length 255 = false := by simpa using hb255.symm
    rw [this]; simp)), fun h' => ⟨⟨Int.le_refl _, by omega⟩, fun z4 e0 e1 h4 => ?_⟩⟩
  rw [h'] at hb255
  have hb255 : Nat.ble (sOf z0).length 255 = true := by simpa using hb255.symm
  have hk4 : decide (z4 = z1) = ((sOf z0).getD 0 0 == u8 z1) := by
    rw [h4]; simp only [fnD, Int.toNat_zero]
    rw [Bool.eq_iff_iff, decide_eq_true_eq, u8_eq k0 k1]
  rw [hk4]
  refine ⟨fun hk => kno (partsF_no (by
    have : ((sOf z0).getD 0 0 == u8 z1) = false := by simpa using hk
    rw [this]; simp)), fun hkk z5 f0 f1 h5 => ?_⟩
  have hkk : ((sOf z0).getD 0 0 == u8 z1) = true := by simpa using hkk
  have h5 : z5 = idx 58 (sOf z0) := h5
  have hr := idx_range 58 (sOf z0)
  refine ⟨fun hn => kno (partsF_no (by
    have hn : z5 < 0 := of_decide_eq_true hn
    rw [show decide (0 ≤ idx 58 (sOf z0)) = false from decide_eq_false (by omega)]; simp)), fun hn z6 g0 g1 g2 g3 z7 i0 i1 h7 => ?_⟩
  have hn : ¬ z5 < 0 := of_decide_eq_false hn
  have h1 : 1 ≤ z5 := by
    rcases idx_cases (c := 58) (by decide) (by decide) (sOf z0) with ⟨q, _⟩ | ⟨q1, q2, q3, _⟩
    · omega
    · by_cases h0 : z5 = 0
      · rw [← h5, h0] at q3
        have q3 : (sOf z0).getD 0 0 = u8 58 := q3
        rw [q3] at hkk
        have := beq_iff_eq.1 hkk
        have := congrArg UInt8.toNat this
        have e1 := u8_toNat k0 k1
        have e2 := u8_toNat (z := 58) (by decide) (by decide)
        omega
      · omega
  have hw : ∀ q : Int, 0 ≤ q → q ≤ 1 → 0 ≤ (z5 + 9223372036854775809) - 18446744073709551616 * q → z5 + -18446744073709551616 * q + 1 = ((z5.toNat + 1 : Nat) : Int) := fun q q0 q1 q2 => by omega
  rw [hw z6 g0 g1 g2]
  obtain ⟨s1, s2⟩ := sub_to (s := z0) (z := ((z5.toNat + 1 : Nat) : Int)) (L := z7) (n := z5.toNat + 1) rfl (by omega) h7
  refine ⟨s1, fun z8 j0 j1 h8 z9 l0 l1 h9 => ?_⟩
  have e8 := s2 z8 h8
  have h9 : z9 = b01 (serverb (sOf z8)) := h9
  rw [b01_dec h9, e8]
  have hi : decide (0 ≤ idx 58 (sOf z0)) = true := decide_eq_true (by omega)
  refine ⟨fun hs => kno (partsF_no (by
    have hs : serverb ((sOf z0).drop (z5.toNat + 1)) = false := by simpa using hs
    rw [← h5, hs]; simp)), fun hs => ⟨⟨by decide, by omega, by omega⟩, fun z10 m0 m1 h10 z11 n0 n1 n2 n3 z12 o0 o1 h12 => ?_⟩⟩
  have hs : serverb ((sOf z0).drop (z5.toNat + 1)) = true := by simpa using hs
  rw [hw z11 n0 n1 n2]
  obtain ⟨t1, t2⟩ := sub_to (s := z0) (z := ((z5.toNat + 1 : Nat) : Int)) (L := z12) (n := z5.toNat + 1) rfl (by omega) h12
  refine ⟨t1, fun z13 p0 p1 h13 => kp (c := true) m0 m1 p0 p1 ?_⟩
  rw [hid, t2 z13 h13]
  have e10 : sOf z10 = ((sOf z0).take z5.toNat).drop 1 := by
    rw [h10]; simp only [fnD, sOf_cOf]
    rw [List.drop_take]; rfl
  have hbl : Nat.blt 0 (sOf z0).length = true := by rw [hpos]; rfl
  unfold partsF
  rw [hbl, hb255, hkk, hi, ← h5, hs, e10]
  rfl
theorem p_partsu : B_partsu SB (KBv SB [.str, .str, .bool] 206) := p_parts (k := 64) (by decide) (by decide) (by decide) fun _ _ _ _ => rfl
theorem p_partsr : B_partsr SB (KBv SB [.str, .str, .bool] 211) := p_parts (k := 33) (by decide) (by decide) (by decide) fun _ _ _ _ => rfl
theorem name_end {z0 z1 z3 : Int} {k : UInt8} {inn : UInt8 → Bool} {most : Nat} {mz : Int} (hm : mz = (most : Int)) {id : Nat} (hid : ∀ r, SB id [[z0]] [[r]] = (r = b01 (nameb k inn most (sOf z0)))) (h3 : 0 ≤ z3 ∧ z3 ≤ 1) (hp : (partsF k (sOf z0)).1 = sOf z1) (hp3 : (partsF k (sOf z0)).2.2 = z3) (hall : (sOf z1).all inn = true) :
   (((decide (z3 = 1)) = true →
    ∀ z7 : Int, 0 ≤ z7 → z7 ≤ 9223372036854775807 → z7 = fnD 0 [z1] →
    (((decide (1 ≤ z7)) = true →
     ∀ z8 : Int, 0 ≤ z8 → z8 ≤ 9223372036854775807 → z8 = fnD 0 [z1] →
     KBv SB [.bool] id [[z0]] [[(cond (decide (z8 ≤ mz)) 1 0)]]
    ) ∧ ((decide (1 ≤ z7)) = false →
     KBv SB [.bool] id [[z0]] [[(cond (false) 1 0)]]
    ))
   ) ∧ ((decide (z3 = 1)) = false →
    KBv SB [.bool] id [[z0]] [[(cond (false) 1 0)]]
   )) := by
  have kk : ∀ b : Bool, nameb k inn most (sOf z0) = b → KBv SB [.bool] id [[z0]] [[b01 b]] := fun b h => kb (by rw [hid, h])
  have hv : nameb k inn most (sOf z0) = (decide (z3 = 1) && Nat.blt 0 (sOf z1).length && Nat.ble (sOf z1).length most) := by
    unfold nameb; rw [hp, hp3, hall, Bool.and_true]
  refine ⟨fun h z7 a0 a1 h7 => ?_, fun h => kk false (by rw [hv, h]; rfl)⟩
  simp only [fnD] at h7
  refine ⟨fun h1 z8 b0 b1 h8 => kk _ ?_, fun h1 => kk false ?_⟩
  · have h1 : 1 ≤ z7 := of_decide_eq_true h1
    rw [hv, h, show Nat.blt 0 (sOf z1).length = true by rw [Nat.blt_eq]; omega, len_dec most hm h8]; rfl
  · have h1 : ¬ 1 ≤ z7 := of_decide_eq_false h1
    rw [hv, show Nat.blt 0 (sOf z1).length = false by
      cases hb : Nat.blt 0 (sOf z1).length with
      | false => rfl
      | true => rw [Nat.blt_eq] at hb; omega]; simp
theorem name_no {k : UInt8} {inn : UInt8 → Bool} {most : Nat} {s l : Tx} (hp : (partsF k s).1 = l) {i : Nat} (hi : i < l.length) (hf : inn (l.getD i 0) = false) : nameb k inn most s = false := by
  unfold nameb; rw [hp, all_false_of inn l i hi hf]; simp
theorem p_ruser : B_ruser SB (KBv SB [.bool] 207) := by
  intro z0 a0 a1 z1 b0 b1 z2 c0 c1 z3 d0 d1 hP
  have hP : (sOf z1, sOf z2, z3) = partsF 64 (sOf z0) := hP
  have hp : (partsF 64 (sOf z0)).1 = sOf z1 := by rw [← hP]
  have hp3 : (partsF 64 (sOf z0)).2.2 = z3 := by rw [← hP]
  have hL := len_lt b1
  have kk : ∀ b : Bool, userb (sOf z0) = b → KBv SB [.bool] 207 [[z0]] [[b01 b]] := fun b h => kb (by show b01 b = b01 (userb (sOf z0)); rw [h])
  refine ⟨fun bl => ∃ i : Nat, bl = [[(i : Int)]] ∧ i ≤ (sOf z1).length ∧ ((sOf z1).take i).all inUser = true, cntM (sOf z1).length, ⟨0, rfl, Nat.zero_le _, rfl⟩, ?_⟩
  rintro z5 e0 e1 ⟨i, e, hi, hall⟩ z6 f0 f1 h6
  obtain rfl : z5 = i := by simpa using e
  simp only [fnD] at h6
  refine ⟨fun hlt => ?_, fun hge => ?_⟩
  · have hlt : (i : Int) < z6 := by simpa using hlt
    refine ⟨⟨e0, by omega⟩, fun z7 g0 g1 h7 z8 i0 i1 h8 => ?_⟩
    simp only [fnD, Int.toNat_natCast] at h7
    have h8 : z8 = b01 (isS (u8 z7)) := h8
    have e7 : u8 z7 = (sOf z1).getD i 0 := by rw [h7, u8_of]
    rw [e7] at h8
    have on : inUser ((sOf z1).getD i 0) = true → _ := fun h => adv1 (I := fun bl => ∃ i : Nat, bl = [[(i : Int)]] ∧ i ≤ (sOf z1).length ∧ ((sOf z1).take i).all inUser = true) (M := cntM (sOf z1).length) (L := z6) hlt f1 ⟨i + 1, rfl, by omega, by rw [all_take _ _ _ (by omega), hall, h]; rfl⟩ (cntM_lt (by omega))
    have ee : ∀ n : Int, 0 ≤ n → n ≤ 255 → decide (z7 = n) = ((sOf z1).getD i 0 == u8 n) := fun n h0 h1 => by
      rw [Bool.eq_iff_iff, decide_eq_true_eq, h7, u8_eq h0 h1]
    rw [b01_dec h8, ee 46 (by decide) (by decide), ee 95 (by decide) (by decide), ee 61 (by decide) (by decide), ee 47 (by decide) (by decide), ee 43 (by decide) (by decide), ee 45 (by decide) (by decide)]
    have hin : inUser ((sOf z1).getD i 0) = (isS ((sOf z1).getD i 0) || isD ((sOf z1).getD i 0) || ((sOf z1).getD i 0 == u8 46 || ((sOf z1).getD i 0 == u8 95 || ((sOf z1).getD i 0 == u8 61 || ((sOf z1).getD i 0 == u8 47 || ((sOf z1).getD i 0 == u8 43 || ((sOf z1).getD i 0 == u8 45 || false))))))) := rfl
    refine ⟨fun hs z9 j0 j1 h9 => ?_, fun hs => on (by rw [hin, show isS ((sOf z1).getD i 0) = true by simpa using hs]; rfl)⟩
    have hs : isS ((sOf z1).getD i 0) = false := by simpa using hs
    have h9 : z9 = b01 (isD (u8 z7)) := h9
    rw [e7] at h9
    rw [b01_dec h9]
    refine ⟨fun hd => ?_, fun hd => on (by rw [hin, show isD ((sOf z1).getD i 0) = true by simpa using hd]; simp)⟩
    have hd : isD ((sOf z1).getD i 0) = false := by simpa using hd
    rw [hs, hd] at hin
    refine ⟨fun q1 => ⟨fun q2 => ⟨fun q3 => ⟨fun q4 => ⟨fun q5 => ⟨fun q6 => kk false (name_no (k := 64) (inn := inUser) (most := 200) hp (i := i) (by omega) ?_), fun q6 => on ?_⟩, fun q5 => on ?_⟩, fun q4 => on ?_⟩, fun q3 => on ?_⟩, fun q2 => on ?_⟩, fun q1 => on ?_⟩
    · simp only [Bool.not_eq_true'] at q1 q2 q3 q4 q5 q6
      rw [hin, q1, q2, q3, q4, q5, q6]; rfl
    all_goals rw [hin]
    · simp only [Bool.not_eq_false'] at q6; rw [q6]; simp
    · simp only [Bool.not_eq_false'] at q5; rw [q5]; simp
    · simp only [Bool.not_eq_false'] at q4; rw [q4]; simp
    · simp only [Bool.not_eq_false'] at q3; rw [q3]; simp
    · simp only [Bool.not_eq_false'] at q2; rw [q2]; simp
    · simp only [Bool.not_eq_false'] at q1; rw [q1]; simp
  · have hge : ¬ (i : Int) < z6 := by simpa using hge
    rw [List.take_of_length_le (by omega)] at hall
    exact name_end (k := 64) (inn := inUser) (most := 200) rfl (fun _ => rfl) ⟨d0, d1⟩ hp hp3 hall
theorem p_rroom : B_rroom SB (KBv SB [.bool] 208) := by
  intro z0 a0 a1 z1 b0 b1 z2 c0 c1 z3 d0 d1 hP
  have hP : (sOf z1, sOf z2, z3) = partsF 33 (sOf z0) := hP
  have hp : (partsF 33 (sOf z0)).1 = sOf z1 := by rw [← hP]
  have hp3 : (partsF 33 (sOf z0)).2.2 = z3 := by rw [← hP]
  have hL := len_lt b1
  have kk : ∀ b : Bool, roomb (sOf z0) = b → KBv SB [.bool] 208 [[z0]] [[b01 b]] := fun b h => kb (by show b01 b = b01 (roomb (sOf z0)); rw [h])
  refine ⟨fun bl => ∃ i : Nat, bl = [[(i : Int)]] ∧ i ≤ (sOf z1).length ∧ ((sOf z1).take i).all inRoom = true, cntM (sOf z1).length, ⟨0, rfl, Nat.zero_le _, rfl⟩, ?_⟩
  rintro z5 e0 e1 ⟨i, e, hi, hall⟩ z6 f0 f1 h6
  obtain rfl : z5 = i := by simpa using e
  simp only [fnD] at h6
  refine ⟨fun hlt => ?_, fun hge => ?_⟩
  · have hlt : (i : Int) < z6 := by simpa using hlt
    have k1 : chkD 1 [z1, (i : Int)] := ⟨e0, by omega⟩
    refine ⟨k1, fun z7 g0 g1 h7 z8 i0 i1 h8 => ?_⟩
    have e7 : u8 z7 = (sOf z1).getD i 0 := by rw [h7]; simp only [fnD, Int.toNat_natCast, u8_of]
    have h8 : z8 = b01 (isS (u8 z7)) := h8
    rw [e7] at h8
    have on : inRoom ((sOf z1).getD i 0) = true → _ := fun h => adv1 (I := fun bl => ∃ i : Nat, bl = [[(i : Int)]] ∧ i ≤ (sOf z1).length ∧ ((sOf z1).take i).all inRoom = true) (M := cntM (sOf z1).length) (L := z6) hlt f1 ⟨i + 1, rfl, by omega, by rw [all_take _ _ _ (by omega), hall, h]; rfl⟩ (cntM_lt (by omega))
    have hin : inRoom ((sOf z1).getD i 0) = (isS ((sOf z1).getD i 0) || isG ((sOf z1).getD i 0) || isD ((sOf z1).getD i 0)) := rfl
    rw [b01_dec h8]
    refine ⟨fun hs => ⟨k1, fun z9 j0 j1 h9 z10 l0 l1 h10 => ?_⟩, fun hs => on (by rw [hin, show isS ((sOf z1).getD i 0) = true by simpa using hs]; rfl)⟩
    have hs : isS ((sOf z1).getD i 0) = false := by simpa using hs
    have e9 : u8 z9 = (sOf z1).getD i 0 := by rw [h9]; simp only [fnD, Int.toNat_natCast, u8_of]
    have h10 : z10 = b01 (isG (u8 z9)) := h10
    rw [e9] at h10
    rw [b01_dec h10]
    refine ⟨fun hg => ⟨k1, fun z11 m0 m1 h11 z12 n0 n1 h12 => ?_⟩, fun hg => on (by rw [hin, show isG ((sOf z1).getD i 0) = true by simpa using hg]; simp)⟩
    have hg : isG ((sOf z1).getD i 0) = false := by simpa using hg
    have e11 : u8 z11 = (sOf z1).getD i 0 := by rw [h11]; simp only [fnD, Int.toNat_natCast, u8_of]
    have h12 : z12 = b01 (isD (u8 z11)) := h12
    rw [e11] at h12
    rw [b01_dec h12]
    refine ⟨fun hd => kk false (name_no (k := 33) (inn := inRoom) (most := 64) hp (i := i) (by omega) ?_), fun hd => on (by rw [hin, show isD ((sOf z1).getD i 0) = true by simpa using hd]; simp)⟩
    rw [hin, hs, hg, show isD ((sOf z1).getD i 0) = false by simpa using hd]; rfl
  · have hge : ¬ (i : Int) < z6 := by simpa using hge
    rw [List.take_of_length_le (by omega)] at hall
    exact name_end (k := 33) (inn := inRoom) (most := 64) rfl (fun _ => rfl) ⟨d0, d1⟩ hp hp3 hall
end Go.Ad
