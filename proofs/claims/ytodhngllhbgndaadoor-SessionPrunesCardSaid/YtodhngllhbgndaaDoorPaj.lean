/- Paj: a part of the proof of statements of this seat. -/
import Derived.Test.YtodhngllhbgndaaDoorPai
import Derived.Test.YtodhngllhbgndaaDoorPag
import Derived.Test.YtodhngllhbgndaaDoorProg
import Derived.KernelRfl
set_option maxRecDepth 100000
set_option linter.unusedVariables false
set_option linter.unusedSimpArgs false
namespace Go.Ad
open Go Go.Rx
def B_sask (S : Nat → List (List Int) → List (List Int) → Prop) (K : List (List Int) → List (List Int) → Prop) : Prop :=
 
 K [] [[5, 116, 477315081741, 437051401625, 117, 1, 100, 0, (cond (false) 1 0), 0]]
def B_salive (S : Nat → List (List Int) → List (List Int) → Prop) (K : List (List Int) → List (List Int) → Prop) : Prop :=
 
 ∀ r0 : List Int, inB [((-9223372036854775808), 9223372036854775807), (0, HB), (0, HB), (0, HB), (0, HB), ((-9223372036854775808), 9223372036854775807), ((-9223372036854775808), 9223372036854775807), ((-9223372036854775808), 9223372036854775807), (0, 1), ((-9223372036854775808), 9223372036854775807)] r0 → S 418 [] [r0] →
 ∀ z10 : Int, 0 ≤ z10 → z10 ≤ 1 → decide ((List.getD r0 8 0) = 1) = decide (z10 = 1) →
 ∀ z11 : Int, 0 ≤ z11 → z11 ≤ RB → ∀ z12 : Int, (-9223372036854775808) ≤ z12 → z12 ≤ 9223372036854775807 → ∀ z13 : Int, 0 ≤ z13 → z13 ≤ 1 → ∀ z14 : Int, 0 ≤ z14 → z14 ≤ 21 → S 412 [[0], [(List.getD r0 0 0), (List.getD r0 1 0), (List.getD r0 2 0), (List.getD r0 3 0), (List.getD r0 4 0), (List.getD r0 5 0), (List.getD r0 6 0), (List.getD r0 7 0), z10, (List.getD r0 9 0)]] [[z11], [z12], [z13], [z14]] →
 ∀ z15 : Int, 0 ≤ z15 →
 ∀ z16 : Int, (-1) ≤ z16 → z16 ≤ 9223372036854775807 → 
 ∀ z17 : Int, 0 ≤ z17 → z17 ≤ 9223372036854775807 → z17 = fnD 20 [z11] →
 ∀ r18 : List Int, inB [((-9223372036854775808), 9223372036854775807), (0, HB), (0, HB), (0, HB), (0, HB), ((-9223372036854775808), 9223372036854775807), ((-9223372036854775808), 9223372036854775807), ((-9223372036854775808), 9223372036854775807), (0, 1), ((-9223372036854775808), 9223372036854775807)] r18 → S 418 [] [r18] →
 chkD 22 [z11, 0, z17] ∧
 ∀ z28 : Int, 0 ≤ z28 → z28 ≤ RB → z28 = fnD 22 [z11, 0, z17] →
 ∀ z29 : Int, 0 ≤ z29 → z29 ≤ 1 → decide ((List.getD r18 8 0) = 1) = decide (z29 = 1) →
 ∀ z30 : Int, 0 ≤ z30 → z30 ≤ RB → ∀ z31 : Int, 0 ≤ z31 → z31 ≤ 21 → S 408 [[z28], [200], [(List.getD r18 0 0), (List.getD r18 1 0), (List.getD r18 2 0), (List.getD r18 3 0), (List.getD r18 4 0), (List.getD r18 5 0), (List.getD r18 6 0), (List.getD r18 7 0), z29, (List.getD r18 9 0)]] [[z30], [z31]] →
 ∀ z32 : Int, 0 ≤ z32 →
 ∀ z33 : Int, (-1) ≤ z33 → z33 ≤ 9223372036854775807 → 
 ∀ z34 : Int, 0 ≤ z34 → z34 ≤ 9223372036854775807 → z34 = fnD 20 [z30] →
 ∀ r35 : List Int, inB [((-9223372036854775808), 9223372036854775807), (0, HB), (0, HB), (0, HB), (0, HB), ((-9223372036854775808), 9223372036854775807), ((-9223372036854775808), 9223372036854775807), ((-9223372036854775808), 9223372036854775807), (0, 1), ((-9223372036854775808), 9223372036854775807)] r35 → S 418 [] [r35] →
 chkD 22 [z30, 0, z34] ∧
 ∀ z45 : Int, 0 ≤ z45 → z45 ≤ RB → z45 = fnD 22 [z30, 0, z34] →
 ∀ z46 : Int, 0 ≤ z46 → z46 ≤ 1 → decide ((List.getD r35 8 0) = 1) = decide (z46 = 1) →
 ∀ r47 : List Int, inB (repB 0 HB 2) r47 → ∀ z49 : Int, 0 ≤ z49 → z49 ≤ 21 → S 407 [[z45], [300], [(List.getD r35 0 0), (List.getD r35 1 0), (List.getD r35 2 0), (List.getD r35 3 0), (List.getD r35 4 0), (List.getD r35 5 0), (List.getD r35 6 0), (List.getD r35 7 0), z46, (List.getD r35 9 0)]] [r47, [z49]] →
 ∀ r50 : List Int, inB [((-9223372036854775808), 9223372036854775807), (0, HB), (0, HB), (0, HB), (0, HB), ((-9223372036854775808), 9223372036854775807), ((-9223372036854775808), 9223372036854775807), ((-9223372036854775808), 9223372036854775807), (0, 1), ((-9223372036854775808), 9223372036854775807)] r50 → S 418 [] [r50] →
 chkD 22 [z11, 0, z17] ∧
 ∀ z60 : Int, 0 ≤ z60 → z60 ≤ RB → z60 = fnD 22 [z11, 0, z17] →
 ∀ z61 : Int, 0 ≤ z61 → z61 ≤ 1 → decide ((List.getD r50 8 0) = 1) = decide (z61 = 1) →
 ∀ r62 : List Int, inB (repB 0 HB 2) r62 → ∀ z64 : Int, 0 ≤ z64 → z64 ≤ 21 → S 407 [[z60], [300], [(List.getD r50 0 0), (List.getD r50 1 0), (List.getD r50 2 0), (List.getD r50 3 0), (List.getD r50 4 0), (List.getD r50 5 0), (List.getD r50 6 0), (List.getD r50 7 0), z61, (List.getD r50 9 0)]] [r62, [z64]] →
 (((decide (z14 = 0)) = true →
  (((decide (z31 = 0)) = true →
   (((decide (z49 = 0)) = true →
    (((decide (z64 = 14)) = true →
     (((decide (z12 = 5)) = true →
      (((decide (z13 = 1)) = true →
       ∀ r65 : List Int, inB [((-9223372036854775808), 9223372036854775807), (0, HB), (0, HB), (0, HB), (0, HB), ((-9223372036854775808), 9223372036854775807), ((-9223372036854775808), 9223372036854775807), ((-9223372036854775808), 9223372036854775807), (0, 1), ((-9223372036854775808), 9223372036854775807)] r65 → S 418 [] [r65] →
       ∀ z75 : Int, 0 ≤ z75 → z75 ≤ 1 → z75 = fnD 4 [(List.getD r47 0 0), (List.getD r65 2 0)] →
       ∀ z76 : Int, 0 ≤ z76 → z76 ≤ 1 → z76 = fnD 4 [(List.getD r47 1 0), (List.getD r65 3 0)] →
       K [] [[(cond (decide ([z75, z76] = [1, 1])) 1 0)]]
      ) ∧ ((decide (z13 = 1)) = false →
       K [] [[(cond (false) 1 0)]]
      ))
     ) ∧ ((decide (z12 = 5)) = false →
      K [] [[(cond (false) 1 0)]]
     ))
    ) ∧ ((decide (z64 = 14)) = false →
     K [] [[(cond (false) 1 0)]]
    ))
   ) ∧ ((decide (z49 = 0)) = false →
    K [] [[(cond (false) 1 0)]]
   ))
  ) ∧ ((decide (z31 = 0)) = false →
   K [] [[(cond (false) 1 0)]]
  ))
 ) ∧ ((decide (z14 = 0)) = false →
  K [] [[(cond (false) 1 0)]]
 ))
def B_ySame (S : Nat → List (List Int) → List (List Int) → Prop) (K : List (List Int) → List (List Int) → Prop) : Prop :=
 ∀ z0 : Int, 0 ≤ z0 → z0 ≤ RB → ∀ z1 : Int, 0 ≤ z1 → z1 ≤ RB → 
 ∀ z2 : Int, 0 ≤ z2 →
 ∀ z3 : Int, (-1) ≤ z3 → z3 ≤ 9223372036854775807 → 
 ∀ z4 : Int, 0 ≤ z4 → z4 ≤ 9223372036854775807 → z4 = fnD 20 [z0] →
 ∀ z5 : Int, 0 ≤ z5 →
 ∀ z6 : Int, (-1) ≤ z6 → z6 ≤ 9223372036854775807 → 
 ∀ z7 : Int, 0 ≤ z7 → z7 ≤ 9223372036854775807 → z7 = fnD 20 [z1] →
 ((((!(decide (z4 = z7)))) = true →
  K [[z0], [z1]] [[(cond (false) 1 0)]]
 ) ∧ (((!(decide (z4 = z7)))) = false →
  ∃ (I8 : List (List Int) → Prop) (μ8 : List (List Int) → Nat), I8 [[0]] ∧ (∀ z9 : Int, 0 ≤ z9 → z9 ≤ 9223372036854775807 → I8 [[z9]] →
   (((decide (z9 < z4)) = true →
    chkD 30 [z9, z4] ∧
    chkD 21 [z0, z9] ∧
    ∀ z10 : Int, (-9223372036854775808) ≤ z10 → z10 ≤ 9223372036854775807 → z10 = fnD 21 [z0, z9, 0] →
    ∀ z11 : Int, 0 ≤ z11 → z11 ≤ HB → z11 = fnD 21 [z0, z9, 1] →
    ∀ z12 : Int, 0 ≤ z12 → z12 ≤ HB → z12 = fnD 21 [z0, z9, 2] →
    ∀ z13 : Int, 0 ≤ z13 → z13 ≤ HB → z13 = fnD 21 [z0, z9, 3] →
    ∀ z14 : Int, 0 ≤ z14 → z14 ≤ HB → z14 = fnD 21 [z0, z9, 4] →
    ∀ z15 : Int, (-9223372036854775808) ≤ z15 → z15 ≤ 9223372036854775807 → z15 = fnD 21 [z0, z9, 5] →
    ∀ z16 : Int, (-9223372036854775808) ≤ z16 → z16 ≤ 9223372036854775807 → z16 = fnD 21 [z0, z9, 6] →
    ∀ z17 : Int, (-9223372036854775808) ≤ z17 → z17 ≤ 9223372036854775807 → z17 = fnD 21 [z0, z9, 7] →
    ∀ z18 : Int, 0 ≤ z18 → z18 ≤ 1 → z18 = fnD 21 [z0, z9, 8] →
    ∀ z19 : Int, (-9223372036854775808) ≤ z19 → z19 ≤ 9223372036854775807 → z19 = fnD 21 [z0, z9, 9] →
    chkD 30 [z9, z7] ∧
    chkD 21 [z1, z9] ∧
    ∀ z20 : Int, (-9223372036854775808) ≤ z20 → z20 ≤ 9223372036854775807 → z20 = fnD 21 [z1, z9, 0] →
    ∀ z21 : Int, 0 ≤ z21 → z21 ≤ HB → z21 = fnD 21 [z1, z9, 1] →
    ∀ z22 : Int, 0 ≤ z22 → z22 ≤ HB → z22 = fnD 21 [z1, z9, 2] →
    ∀ z23 : Int, 0 ≤ z23 → z23 ≤ HB → z23 = fnD 21 [z1, z9, 3] →
    ∀ z24 : Int, 0 ≤ z24 → z24 ≤ HB → z24 = fnD 21 [z1, z9, 4] →
    ∀ z25 : Int, (-9223372036854775808) ≤ z25 → z25 ≤ 9223372036854775807 → z25 = fnD 21 [z1, z9, 5] →
    ∀ z26 : Int, (-9223372036854775808) ≤ z26 → z26 ≤ 9223372036854775807 → z26 = fnD 21 [z1, z9, 6] →
    ∀ z27 : Int, (-9223372036854775808) ≤ z27 → z27 ≤ 9223372036854775807 → z27 = fnD 21 [z1, z9, 7] →
    ∀ z28 : Int, 0 ≤ z28 → z28 ≤ 1 → z28 = fnD 21 [z1, z9, 8] →
    ∀ z29 : Int, (-9223372036854775808) ≤ z29 → z29 ≤ 9223372036854775807 → z29 = fnD 21 [z1, z9, 9] →
    ∀ z30 : Int, 0 ≤ z30 → z30 ≤ 1 → z30 = fnD 4 [z11, z21] →
    ∀ z31 : Int, 0 ≤ z31 → z31 ≤ 1 → z31 = fnD 4 [z12, z22] →
    ∀ z32 : Int, 0 ≤ z32 → z32 ≤ 1 → z32 = fnD 4 [z13, z23] →
    ∀ z33 : Int, 0 ≤ z33 → z33 ≤ 1 → z33 = fnD 4 [z14, z24] →
    ((((!(((decide (z10 = z20)) && (((decide (z30 = 1)) && (((decide ([z31, z32] = [1, 1])) && (((decide (z33 = 1)) && (((decide (z15 = z25)) && (((decide (z16 = z26)) && (((decide (z17 = z27)) && (((((decide (z18 = 1)) == (decide (z28 = 1)))) && (decide (z19 = z29)))))))))))))))))))) = true →
     K [[z0], [z1]] [[(cond (false) 1 0)]]
    ) ∧ (((!(((decide (z10 = z20)) && (((decide (z30 = 1)) && (((decide ([z31, z32] = [1, 1])) && (((decide (z33 = 1)) && (((decide (z15 = z25)) && (((decide (z16 = z26)) && (((decide (z17 = z27)) && (((((decide (z18 = 1)) == (decide (z28 = 1)))) && (decide (z19 = z29)))))))))))))))))))) = false →
     ∀ z34 : Int, 0 ≤ z34 → z34 ≤ 1 → 0 ≤ (z9 + 9223372036854775809) - 18446744073709551616 * z34 → (z9 + 9223372036854775809) - 18446744073709551616 * z34 < 18446744073709551616 →
     chkD 39 [((z9 + ((-18446744073709551616) * z34)) + 1), 0, 9223372036854775807] ∧
     (I8 [[((z9 + ((-18446744073709551616) * z34)) + 1)]] ∧ μ8 [[((z9 + ((-18446744073709551616) * z34)) + 1)]] < μ8 [[z9]])
    ))
   ) ∧ ((decide (z9 < z4)) = false →
    K [[z0], [z1]] [[(cond (true) 1 0)]]
   ))
  )
 ))
def B_lprunes (S : Nat → List (List Int) → List (List Int) → Prop) (K : List (List Int) → List (List Int) → Prop) : Prop :=
 ∀ z0 : Int, 0 ≤ z0 → z0 ≤ RB → ∀ z1 : Int, (-9223372036854775808) ≤ z1 → z1 ≤ 9223372036854775807 → 
 ∀ z2 : Int, 0 ≤ z2 →
 ∀ z3 : Int, (-1) ≤ z3 → z3 ≤ 9223372036854775807 → 
 ∀ z4 : Int, 0 ≤ z4 → z4 ≤ 9223372036854775807 → z4 = fnD 20 [z0] →
 ∀ z5 : Int, 0 ≤ z5 → z5 ≤ 1 → S 413 [] [[z5]] →
 ((((!(decide (z5 = 1)))) = true →
  K [[z0], [z1]] [[(cond (false) 1 0)]]
 ) ∧ (((!(decide (z5 = 1)))) = false →
  (((decide (40 < z4)) = true →
   K [[z0], [z1]] [[(cond (true) 1 0)]]
  ) ∧ ((decide (40 < z4)) = false →
   chkD 22 [z0, 0, z4] ∧
   ∀ z6 : Int, 0 ≤ z6 → z6 ≤ RB → z6 = fnD 22 [z0, 0, z4] →
   ∀ z7 : Int, 0 ≤ z7 → z7 ≤ 1 → S 403 [[z6]] [[z7]] →
   ((((!(decide (z7 = 1)))) = true →
    K [[z0], [z1]] [[(cond (true) 1 0)]]
   ) ∧ (((!(decide (z7 = 1)))) = false →
    (((decide (z1 < 0)) = true →
     K [[z0], [z1]] [[(cond (true) 1 0)]]
    ) ∧ ((decide (z1 < 0)) = false →
     (((decide (1099511627776 < z1)) = true →
      K [[z0], [z1]] [[(cond (true) 1 0)]]
     ) ∧ ((decide (1099511627776 < z1)) = false →
      chkD 22 [z0, 0, z4] ∧
      ∀ z8 : Int, 0 ≤ z8 → z8 ≤ RB → z8 = fnD 22 [z0, 0, z4] →
      ∀ z9 : Int, 0 ≤ z9 → z9 ≤ RB → S 410 [[z8], [z1]] [[z9]] →
      ∀ z10 : Int, (-1) ≤ z10 → z10 ≤ 9223372036854775807 → 
      ∀ z11 : Int, 0 ≤ z11 → z11 ≤ 9223372036854775807 → z11 = fnD 20 [z9] →
      chkD 22 [z9, 0, z11] ∧
      ∀ z12 : Int, 0 ≤ z12 → z12 ≤ RB → z12 = fnD 22 [z9, 0, z11] →
      ∀ z13 : Int, 0 ≤ z13 → z13 ≤ RB → S 410 [[z12], [z1]] [[z13]] →
      ∀ z14 : Int, (-1) ≤ z14 → z14 ≤ 9223372036854775807 → 
      ∀ z15 : Int, 0 ≤ z15 → z15 ≤ 9223372036854775807 → z15 = fnD 20 [z13] →
      chkD 22 [z9, 0, z11] ∧
      ∀ z16 : Int, 0 ≤ z16 → z16 ≤ RB → z16 = fnD 22 [z9, 0, z11] →
      chkD 22 [z13, 0, z15] ∧
      ∀ z17 : Int, 0 ≤ z17 → z17 ≤ RB → z17 = fnD 22 [z13, 0, z15] →
      ∀ z18 : Int, 0 ≤ z18 → z18 ≤ 1 → S 416 [[z16], [z17]] [[z18]] →
      ((((!(decide (z18 = 1)))) = true →
       K [[z0], [z1]] [[(cond (false) 1 0)]]
      ) ∧ (((!(decide (z18 = 1)))) = false →
       chkD 22 [z9, 0, z11] ∧
       ∀ z19 : Int, 0 ≤ z19 → z19 ≤ RB → z19 = fnD 22 [z9, 0, z11] →
       ∀ z20 : Int, 0 ≤ z20 → z20 ≤ 1 → S 403 [[z19]] [[z20]] →
       ((((!(decide (z20 = 1)))) = true →
        K [[z0], [z1]] [[(cond (false) 1 0)]]
       ) ∧ (((!(decide (z20 = 1)))) = false →
        ∃ (I21 : List (List Int) → Prop) (μ21 : List (List Int) → Nat), I21 [[0], [0]] ∧ (∀ z22 : Int, 0 ≤ z22 → z22 ≤ 9223372036854775807 → ∀ z23 : Int, 0 ≤ z23 → z23 ≤ 9223372036854775807 → I21 [[z22], [z23]] →
         (((decide (z23 < z4)) = true →
          chkD 30 [z23, z4] ∧
          chkD 21 [z0, z23] ∧
          ∀ z24 : Int, (-9223372036854775808) ≤ z24 → z24 ≤ 9223372036854775807 → z24 = fnD 21 [z0, z23, 0] →
          chkD 22 [z9, 0, z11] ∧
          ∀ z25 : Int, 0 ≤ z25 → z25 ≤ RB → z25 = fnD 22 [z9, 0, z11] →
          ∀ r26 : List Int, inB [((-9223372036854775808), 9223372036854775807), (0, HB), (0, HB), (0, HB), (0, HB), ((-9223372036854775808), 9223372036854775807), ((-9223372036854775808), 9223372036854775807), ((-9223372036854775808), 9223372036854775807), (0, 1), ((-9223372036854775808), 9223372036854775807)] r26 → ∀ z36 : Int, 0 ≤ z36 → z36 ≤ 1 → S 405 [[z25], [z24]] [r26, [z36]] →
          chkD 30 [z23, z4] ∧
          chkD 21 [z0, z23] ∧
          ∀ z37 : Int, (-9223372036854775808) ≤ z37 → z37 ≤ 9223372036854775807 → z37 = fnD 21 [z0, z23, 6] →
          ∀ z38 : Int, 0 ≤ z38 → z38 ≤ 1 → 0 ≤ ((z1 + ((-1) * z37)) + 9223372036854775808) - 18446744073709551616 * z38 → ((z1 + ((-1) * z37)) + 9223372036854775808) - 18446744073709551616 * z38 < 18446744073709551616 →
          ((((!(((decide (z36 = 1)) == (decide ((z1 + (((-1) * z37) + ((-18446744073709551616) * z38))) ≤ 86400)))))) = true →
           K [[z0], [z1]] [[(cond (false) 1 0)]]
          ) ∧ (((!(((decide (z36 = 1)) == (decide ((z1 + (((-1) * z37) + ((-18446744073709551616) * z38))) ≤ 86400)))))) = false →
           (((decide (z36 = 1)) = true →
            chkD 30 [z23, z4] ∧
            chkD 21 [z0, z23] ∧
            ∀ z39 : Int, (-9223372036854775808) ≤ z39 → z39 ≤ 9223372036854775807 → z39 = fnD 21 [z0, z23, 0] →
            ∀ z40 : Int, 0 ≤ z40 → z40 ≤ HB → z40 = fnD 21 [z0, z23, 1] →
            ∀ z41 : Int, 0 ≤ z41 → z41 ≤ HB → z41 = fnD 21 [z0, z23, 2] →
            ∀ z42 : Int, 0 ≤ z42 → z42 ≤ HB → z42 = fnD 21 [z0, z23, 3] →
            ∀ z43 : Int, 0 ≤ z43 → z43 ≤ HB → z43 = fnD 21 [z0, z23, 4] →
            ∀ z44 : Int, (-9223372036854775808) ≤ z44 → z44 ≤ 9223372036854775807 → z44 = fnD 21 [z0, z23, 5] →
            ∀ z45 : Int, (-9223372036854775808) ≤ z45 → z45 ≤ 9223372036854775807 → z45 = fnD 21 [z0, z23, 6] →
            ∀ z46 : Int, (-9223372036854775808) ≤ z46 → z46 ≤ 9223372036854775807 → z46 = fnD 21 [z0, z23, 7] →
            ∀ z47 : Int, 0 ≤ z47 → z47 ≤ 1 → z47 = fnD 21 [z0, z23, 8] →
            ∀ z48 : Int, (-9223372036854775808) ≤ z48 → z48 ≤ 9223372036854775807 → z48 = fnD 21 [z0, z23, 9] →
            ∀ z49 : Int, 0 ≤ z49 → z49 ≤ 1 → z49 = fnD 4 [(List.getD r26 1 0), z40] →
            ∀ z50 : Int, 0 ≤ z50 → z50 ≤ 1 → z50 = fnD 4 [(List.getD r26 2 0), z41] →
            ∀ z51 : Int, 0 ≤ z51 → z51 ≤ 1 → z51 = fnD 4 [(List.getD r26 3 0), z42] →
            ∀ z52 : Int, 0 ≤ z52 → z52 ≤ 1 → z52 = fnD 4 [(List.getD r26 4 0), z43] →
            ((((!(((decide ((List.getD r26 0 0) = z39)) && (((decide (z49 = 1)) && (((decide ([z50, z51] = [1, 1])) && (((decide (z52 = 1)) && (((decide ((List.getD r26 5 0) = z44)) && (((decide ((List.getD r26 6 0) = z45)) && (((decide ((List.getD r26 7 0) = z46)) && (((((decide ((List.getD r26 8 0) = 1)) == (decide (z47 = 1)))) && (decide ((List.getD r26 9 0) = z48)))))))))))))))))))) = true →
             K [[z0], [z1]] [[(cond (false) 1 0)]]
            ) ∧ (((!(((decide ((List.getD r26 0 0) = z39)) && (((decide (z49 = 1)) && (((decide ([z50, z51] = [1, 1])) && (((decide (z52 = 1)) && (((decide ((List.getD r26 5 0) = z44)) && (((decide ((List.getD r26 6 0) = z45)) && (((decide ((List.getD r26 7 0) = z46)) && (((((decide ((List.getD r26 8 0) = 1)) == (decide (z47 = 1)))) && (decide ((List.getD r26 9 0) = z48)))))))))))))))))))) = false →
             ∀ z53 : Int, 0 ≤ z53 → z53 ≤ 1 → 0 ≤ (z22 + 9223372036854775809) - 18446744073709551616 * z53 → (z22 + 9223372036854775809) - 18446744073709551616 * z53 < 18446744073709551616 →
             ∀ z54 : Int, 0 ≤ z54 → z54 ≤ 1 → 0 ≤ (z23 + 9223372036854775809) - 18446744073709551616 * z54 → (z23 + 9223372036854775809) - 18446744073709551616 * z54 < 18446744073709551616 →
             chkD 39 [((z22 + ((-18446744073709551616) * z53)) + 1), 0, 9223372036854775807] ∧
             chkD 39 [((z23 + ((-18446744073709551616) * z54)) + 1), 0, 9223372036854775807] ∧
             (I21 [[((z22 + ((-18446744073709551616) * z53)) + 1)], [((z23 + ((-18446744073709551616) * z54)) + 1)]] ∧ μ21 [[((z22 + ((-18446744073709551616) * z53)) + 1)], [((z23 + ((-18446744073709551616) * z54)) + 1)]] < μ21 [[z22], [z23]])
            ))
           ) ∧ ((decide (z36 = 1)) = false →
            ∀ z39 : Int, 0 ≤ z39 → z39 ≤ 1 → 0 ≤ (z23 + 9223372036854775809) - 18446744073709551616 * z39 → (z23 + 9223372036854775809) - 18446744073709551616 * z39 < 18446744073709551616 →
            chkD 39 [((z23 + ((-18446744073709551616) * z39)) + 1), 0, 9223372036854775807] ∧
            (I21 [[z22], [((z23 + ((-18446744073709551616) * z39)) + 1)]] ∧ μ21 [[z22], [((z23 + ((-18446744073709551616) * z39)) + 1)]] < μ21 [[z22], [z23]])
           ))
          ))
         ) ∧ ((decide (z23 < z4)) = false →
          K [[z0], [z1]] [[(cond (decide (z22 = z11)) 1 0)]]
         ))
        )
       ))
      ))
     ))
    ))
   ))
  ))
 ))
/-! ### Sessions: a fixed fact, lists that are the same, what is left -/
abbrev mSS : D := .mix [.int .i64 (-9223372036854775808) 9223372036854775807, .str, .str, .str, .str, .int .i64 (-9223372036854775808) 9223372036854775807, .int .i64 (-9223372036854775808) 9223372036854775807, .int .i64 (-9223372036854775808) 9223372036854775807, .bool, .int .i64 (-9223372036854775808) 9223372036854775807]
theorem hb_lit {c : Int} {l : List UInt8} (h : cOf l = c) (hl : l.length ≤ mxL) : c ≤ HB := h ▸ HB_c hl
theorem p_sask : B_sask SB (KBv SB [mSS] 418) := ⟨by
  refine ⟨by decide, by decide, by decide, hb_lit (l := [115]) (by decide +kernel) (by decide), by decide, hb_lit (l := [101, 109, 97, 105, 108]) (by decide +kernel) (by decide), by decide, hb_lit (l := [97, 64, 98, 46, 99]) (by decide +kernel) (by decide), by decide, hb_lit (l := [116]) (by decide +kernel) (by decide), by decide, by decide, by decide, by decide, by decide, by decide, by decide, by decide, by decide, by decide, trivial⟩, rfl⟩
theorem ses_zero : ses 0 = [] := by unfold ses; rw [Go.Rx.rOf_zero]; rfl
def aS : Se := ⟨5, [115], ([101, 109, 97, 105, 108], [97, 64, 98, 46, 99]), [116], 1, 100, 0, 0, 0⟩
theorem ask_se : seOf ask0 = aS := by decide +kernel
theorem ask_bit {z : Int} (h0 : 0 ≤ z) (h1 : z ≤ 1) (h : decide (ask0.getD 8 0 = 1) = decide (z = 1)) : z = 0 := bit_eq (a := 0) (by decide) (by decide) h0 h1 h
theorem p_salive : B_salive SB (KBb SB [.d .bool] 413) := by
  have kk : ∀ b : Bool, b = true → KBb SB [.d .bool] 413 [] [[cond b 1 0]] := fun b h => by subst h; exact ⟨⟨by decide, by decide, trivial⟩, rfl⟩
  intro r0 _ hr0 z10 c0 c1 h10 z11 _ _ z12 _ _ z13 _ _ z14 _ _ hA z15 _ z16 _ _ z17 _ _ h17
  have hr0 : r0 = ask0 := hr0
  subst hr0
  have h10 := ask_bit c0 c1 h10
  subst h10
  have hA : (ses z11, z12, z13, z14) = reqF (ses 0) (seOf ask0) := hA
  rw [ses_zero, ask_se, show reqF [] aS = ([aS], 5, 1, 0) by decide +kernel] at hA
  simp only [Prod.mk.injEq] at hA
  obtain ⟨a1, a2, a3, a4⟩ := hA
  have W := fun y => whole_ses (z := z11) (y := y) h17
  intro r18 _ hr18
  have hr18 : r18 = ask0 := hr18
  subst hr18
  refine ⟨(W 0).1, fun z28 _ _ h28 z29 d0 d1 h29 z30 _ _ z31 _ _ hB z32 _ z33 _ _ z34 _ _ h34 => ?_⟩
  have h29 := ask_bit d0 d1 h29
  subst h29
  have hB : (ses z30, z31) = submitF (ses z28) 200 (seOf ask0) := hB
  rw [ses_same ((W z28).2 h28), a1, ask_se, show submitF [aS] 200 aS = ([{ aS with shown := 1, shAt := 200 }], 0) by decide +kernel] at hB
  simp only [Prod.mk.injEq] at hB
  obtain ⟨b1, b2⟩ := hB
  have V := fun y => whole_ses (z := z30) (y := y) h34
  intro r35 _ hr35
  have hr35 : r35 = ask0 := hr35
  subst hr35
  refine ⟨(V 0).1, fun z45 _ _ h45 z46 e0 e1 h46 r47 _ z49 _ _ hC r50 _ hr50 => ?_⟩
  have h46 := ask_bit e0 e1 h46
  subst h46
  have hr50 : r50 = ask0 := hr50
  subst hr50
  have hC : (whoOf r47, z49) = shownF (ses z45) 300 (seOf ask0) := hC
  rw [ses_same ((V z45).2 h45), b1, ask_se, show shownF [{ aS with shown := 1, shAt := 200 }] 300 aS = (aS.who, 0) by decide +kernel] at hC
  simp only [Prod.mk.injEq] at hC
  obtain ⟨c1, c2⟩ := hC
  refine ⟨(W 0).1, fun z60 _ _ h60 z61 f0 f1 h61 r62 _ z64 _ _ hD => ?_⟩
  have h61 := ask_bit f0 f1 h61
  subst h61
  have hD : (whoOf r62, z64) = shownF (ses z60) 300 (seOf ask0) := hD
  rw [ses_same ((W z60).2 h60), a1, ask_se, show shownF [aS] 300 aS = (([], []), 14) by decide +kernel] at hD
  simp only [Prod.mk.injEq] at hD
  obtain ⟨d1', d2'⟩ := hD
  refine ⟨fun _ => ⟨fun _ => ⟨fun _ => ⟨fun _ => ⟨fun _ => ⟨fun _ r65 _ hr65 z75 _ _ h75 z76 _ _ h76 => kk _ ?_, fun h => absurd a3 (of_decide_eq_false h)⟩, fun h => absurd a2 (of_decide_eq_false h)⟩, fun h => absurd d2' (of_decide_eq_false h)⟩, fun h => absurd c2 (of_decide_eq_false h)⟩, fun h => absurd b2 (of_decide_eq_false h)⟩, fun h => absurd a4 (of_decide_eq_false h)⟩
  have hr65 : r65 = ask0 := hr65
  subst hr65
  rw [← pair_dec h75 h76]
  refine decide_eq_true ?_
  show whoOf r47 = (seOf ask0).who
  rw [c1, ask_se]
theorem se_dec {a0 a1 a2 a3 a4 a5 a6 a7 a8 a9 b0 b1 b2 b3 b4 b5 b6 b7 b8 b9 q1 q2 q3 q4 : Int} (h1 : q1 = fnD 4 [a1, b1]) (h2 : q2 = fnD 4 [a2, b2]) (h3 : q3 = fnD 4 [a3, b3]) (h4 : q4 = fnD 4 [a4, b4]) (ha : 0 ≤ a8 ∧ a8 ≤ 1) (hb : 0 ≤ b8 ∧ b8 ≤ 1) :
    (decide (a0 = b0) && (decide (q1 = 1) && (decide ([q2, q3] = [1, 1]) && (decide (q4 = 1) && (decide (a5 = b5) && (decide (a6 = b6) && (decide (a7 = b7) && ((decide (a8 = 1) == decide (b8 = 1)) && decide (a9 = b9))))))))) = decide (seOf [a0, a1, a2, a3, a4, a5, a6, a7, a8, a9] = seOf [b0, b1, b2, b3, b4, b5, b6, b7, b8, b9]) := by
  rw [eq_dec h1, eq_dec h4, ← pair_dec h2 h3, Bool.eq_iff_iff]
  have hbit : (decide (a8 = 1) == decide (b8 = 1)) = decide (a8 = b8) := by
    rw [Bool.eq_iff_iff, beq_iff_eq, decide_eq_true_eq]
    constructor
    · intro h; exact (bit_eq ha.1 ha.2 hb.1 hb.2 h).symm
    · intro h; rw [h]
  rw [hbit]
  have e : ∀ x0 x1 x2 x3 x4 x5 x6 x7 x8 x9 : Int, seOf [x0, x1, x2, x3, x4, x5, x6, x7, x8, x9] = ⟨x0, sOf x1, (sOf x2, sOf x3), sOf x4, x5, x6, x7, x8, x9⟩ := fun _ _ _ _ _ _ _ _ _ _ => rfl
  rw [e, e]
  simp only [Bool.and_eq_true, decide_eq_true_eq, Se.mk.injEq]
def SaI (z0 z1 : Int) (bl : List (List Int)) : Prop := ∃ i : Nat, bl = [[(i : Int)]] ∧ i ≤ (ses z0).length ∧ ∀ j, j < i → (ses z0).getD j se0 = (ses z1).getD j se0
theorem p_ySame : B_ySame SB (KBb SB [.d .bool] 416) := by
  intro z0 a0 a1 z1 b0 b1 z2 _ z3 _ _ z4 _ c1 h4 z5 _ z6 _ _ z7 _ _ h7
  have h4 : z4 = ((rOf z0).length : Int) := h4
  have h7 : z7 = ((rOf z1).length : Int) := h7
  have hlen := ses_len z0
  have hlen1 := ses_len z1
  have kk : ∀ b : Bool, decide (ses z0 = ses z1) = b → KBb SB [.d .bool] 416 [[z0], [z1]] [[cond b 1 0]] := fun b h => ⟨by cases b <;> exact ⟨by decide, by decide, trivial⟩, by show cond b (1 : Int) 0 = b01 (decide (ses z0 = ses z1)); rw [h]; rfl⟩
  refine ⟨fun hn => kk false (decide_eq_false fun h => ?_), fun hn => ?_⟩
  · have := of_decide_eq_false (bnot_t hn)
    have := congrArg List.length h
    omega
  have hnn := of_decide_eq_true (bnot_f hn)
  refine ⟨SaI z0 z1, RsM z0, ⟨0, rfl, Nat.zero_le _, fun j h => absurd h (Nat.not_lt_zero j)⟩, ?_⟩
  rintro z9 d0 d1 ⟨i, e, hi, hI⟩
  obtain rfl : z9 = i := by simpa using e
  refine ⟨fun hlt => ?_, fun hge => kk true (decide_eq_true ?_)⟩
  rotate_left
  · have := of_decide_eq_false hge
    refine List.ext_getElem (by omega) fun j h1 h2 => ?_
    have := hI j (by omega)
    simpa [List.getD, h1, h2] using this
  have hlt := of_decide_eq_true hlt
  have hil : i < (rOf z0).length := by omega
  refine ⟨⟨by omega, by omega⟩, ⟨by omega, by omega⟩, fun z10 _ _ h10 z11 _ _ h11 z12 _ _ h12 z13 _ _ h13 z14 _ _ h14 z15 _ _ h15 z16 _ _ h16 z17 _ _ h17 z18 e0 e1 h18 z19 _ _ h19 => ⟨⟨by omega, by omega⟩, ⟨by omega, by omega⟩, fun z20 _ _ h20 z21 _ _ h21 z22 _ _ h22 z23 _ _ h23 z24 _ _ h24 z25 _ _ h25 z26 _ _ h26 z27 _ _ h27 z28 f0 f1 h28 z29 _ _ h29 z30 _ _ h30 z31 _ _ h31 z32 _ _ h32 z33 _ _ h33 => ?_⟩⟩
  have hd := se_dec (a0 := z10) (b0 := z20) (a5 := z15) (b5 := z25) (a6 := z16) (b6 := z26) (a7 := z17) (b7 := z27) (a8 := z18) (b8 := z28) (a9 := z19) (b9 := z29) h30 h31 h32 h33 ⟨e0, e1⟩ ⟨f0, f1⟩
  rw [row_se (k := i) rfl hil h10 h11 h12 h13 h14 h15 h16 h17 h18 h19, row_se (z0 := z1) (k := i) rfl (by omega) h20 h21 h22 h23 h24 h25 h26 h27 h28 h29] at hd
  refine ⟨fun hq => kk false (decide_eq_false fun h => ?_), fun hq z34 x0 x1 x2 x3 => ⟨⟨by omega, by omega⟩, ⟨i + 1, by rw [show ((i : Int) + (-18446744073709551616) * z34) + 1 = ((i + 1 : Nat) : Int) by omega], by omega, fun j hj => ?_⟩, ?_⟩⟩
  · have := bnot_t hq
    rw [hd, h] at this
    exact of_decide_eq_false this rfl
  · rcases Nat.lt_or_ge j i with h | h
    · exact hI j h
    · obtain rfl : j = i := by omega
      exact of_decide_eq_true (hd.symm.trans (bnot_f hq))
  · show (ses z0).length - (((i : Int) + (-18446744073709551616) * z34) + 1).toNat < (ses z0).length - ((i : Int)).toNat; omega
theorem prune_find {l : List Se} {n : Int} (hr : rightS l = true) {i : Nat} (hi : i < l.length) : (pruneF l n).find? (fun s => decide (s.id = (l.getD i se0).id)) = cond (oldF (l.getD i se0) n) none (some (l.getD i se0)) := by
  unfold pruneF
  rw [List.find?_filter]
  have huniq : ∀ j, j < l.length → (l.getD j se0).id = (l.getD i se0).id → j = i := fun j hj h => by
    rcases Nat.lt_trichotomy j i with h1 | h1 | h1
    · have := rise hr h1 hi; omega
    · exact h1
    · have := rise hr h1 hj; omega
  cases ho : oldF (l.getD i se0) n with
  | true =>
    refine findS_no fun j hj => decide_eq_false fun ⟨h1, h2⟩ => ?_
    obtain rfl := huniq j hj (of_decide_eq_true h2)
    rw [ho] at h1; cases h1
  | false =>
    refine findS_at hi (decide_eq_true ⟨by rw [ho]; rfl, decide_eq_true rfl⟩) fun j hj => decide_eq_false fun ⟨_, h2⟩ => ?_
    have := rise hr hj hi
    have := of_decide_eq_true h2
    omega
theorem prune_prune (l : List Se) (n : Int) : pruneF (pruneF l n) n = pruneF l n := by
  unfold pruneF; simp [List.filter_filter]
def LpI (z0 n : Int) (bl : List (List Int)) : Prop := ∃ c i : Nat, bl = [[(c : Int)], [(i : Int)]] ∧ i ≤ (ses z0).length ∧ c ≤ i ∧ c = (pruneF ((ses z0).take i) n).length
theorem p_lprunes : B_lprunes SB (KBb SB [.d .bool] 415) := by
  intro z0 a0 a1 z1 n0 n1 z2 _ z3 _ _ z4 b0 b1 h4 z5 _ _ h5
  have h4 : z4 = ((rOf z0).length : Int) := h4
  have hlen := ses_len z0
  have W := fun y => whole_ses (z := z0) (y := y) h4
  have kk : ∀ b : Bool, b = true → KBb SB [.d .bool] 415 [[z0], [z1]] [[cond b 1 0]] := fun b h => by subst h; exact ⟨⟨by decide, by decide, trivial⟩, rfl⟩
  have h5 : z5 = 1 := h5
  refine ⟨fun hn => absurd h5 (not_one hn), fun _ => ⟨fun _ => kk _ rfl, fun h40 => ⟨(W 0).1, fun z6 _ _ h6 z7 _ _ h7 => ⟨fun _ => kk _ rfl, fun hr7 => ⟨fun _ => kk _ rfl, fun hn0 => ⟨fun _ => kk _ rfl, fun hn1 => ⟨(W 0).1, fun z8 _ _ h8 z9 _ _ h9 z10 _ _ z11 _ _ h11 => ?_⟩⟩⟩⟩⟩⟩⟩
  have h7 : z7 = b01 (rightS (ses z6)) := h7
  rw [ses_same ((W z6).2 h6)] at h7
  have hr := nf_of h7 hr7
  have hn0 := of_decide_eq_false hn0
  have hn1 := of_decide_eq_false hn1
  have ht : timedF z1 = true := by unfold timedF; rw [decide_eq_true (by omega), decide_eq_true (by omega)]; rfl
  have h9 : ses z9 = cond (timedF z1 && rightS (ses z8)) (pruneF (ses z8) z1) [] := h9
  rw [ses_same ((W z8).2 h8), ht, hr] at h9
  have h9 : ses z9 = pruneF (ses z0) z1 := h9
  have h11 : z11 = ((rOf z9).length : Int) := h11
  have hl9 := ses_len z9
  have V := fun y => whole_ses (z := z9) (y := y) h11
  have hrp := right_prune hr z1
  refine ⟨(V 0).1, fun z12 _ _ h12 z13 _ _ h13 z14 _ _ z15 _ _ h15 => ⟨(V 0).1, fun z16 _ _ h16 => ?_⟩⟩
  have h13 : ses z13 = cond (timedF z1 && rightS (ses z12)) (pruneF (ses z12) z1) [] := h13
  rw [ses_same ((V z12).2 h12), h9, ht, hrp] at h13
  have h13 : ses z13 = pruneF (pruneF (ses z0) z1) z1 := h13
  rw [prune_prune] at h13
  have h15 : z15 = ((rOf z13).length : Int) := h15
  refine ⟨(whole_ses (z := z13) (y := 0) h15).1, fun z17 _ _ h17 z18 _ _ h18 => ?_⟩
  have h18 : z18 = b01 (decide (ses z16 = ses z17)) := h18
  rw [ses_same ((V z16).2 h16), ses_same ((whole_ses (z := z13) h15).2 h17), h9, h13, decide_eq_true rfl] at h18
  refine ⟨fun hn => absurd h18 (not_one hn), fun _ => ⟨(V 0).1, fun z19 _ _ h19 z20 _ _ h20 => ?_⟩⟩
  have h20 : z20 = b01 (rightS (ses z19)) := h20
  rw [ses_same ((V z19).2 h19), h9, hrp] at h20
  refine ⟨fun hn => absurd h20 (not_one hn), fun _ => ⟨LpI z0 z1, fun bl => (ses z0).length - ((bl.getD 1 []).getD 0 0).toNat, ⟨0, 0, rfl, Nat.zero_le _, Nat.le_refl _, rfl⟩, ?_⟩⟩
  rintro z22 c0 c1 z23 d0 d1 ⟨c, i, e, hi, hci, hI⟩
  obtain ⟨rfl, rfl⟩ : z22 = c ∧ z23 = i := by simpa using e
  refine ⟨fun hlt => ?_, fun hge => kk _ (decide_eq_true ?_)⟩
  rotate_left
  · have := of_decide_eq_false hge
    rw [List.take_of_length_le (by omega), ← h9] at hI
    omega
  have hlt := of_decide_eq_true hlt
  have hil : i < (rOf z0).length := by omega
  have ck : chkD 30 [(i : Int), z4] := ⟨by omega, by omega⟩
  have ck2 : chkD 21 [z0, (i : Int)] := ⟨by omega, by omega⟩
  have hbd := seOk_bd (right_at hr (i := i) (by omega))
  refine ⟨ck, ck2, fun z24 _ _ h24 => ⟨(V 0).1, fun z25 _ _ h25 r26 hr26 z36 _ _ h36 => ⟨ck, ck2, fun z37 _ _ h37 z38 x0 x1 x2 x3 => ?_⟩⟩⟩
  have hid : z24 = ((ses z0).getD i se0).id := by rw [ses_get hil, h24]; rfl
  have hsi : ((ses z0).getD i se0).since = z37 := by rw [ses_get hil, h37]; rfl
  have h36 : (match findS (ses z25) z24 with | some b => seOf r26 = b ∧ z36 = 1 | none => r26 = [0, 0, 0, 0, 0, 0, 0, 0, 0, 0] ∧ z36 = 0) := h36
  rw [ses_same ((V z25).2 h25), h9] at h36
  unfold findS at h36
  rw [hrp, cond_true, hid, prune_find hr (by omega)] at h36
  have hold := old_row (n := z1) (q := z38) hsi x2 x3
  have hle : decide (z1 + ((-1) * z37 + (-18446744073709551616) * z38) ≤ 86400) = !oldF ((ses z0).getD i se0) z1 := by
    rw [← hold, Bool.eq_iff_iff]; simp
  have hfl : decide (z36 = 1) = !oldF ((ses z0).getD i se0) z1 := by
    cases ho : oldF ((ses z0).getD i se0) z1 with
    | true => rw [ho] at h36; rw [h36.2]; rfl
    | false => rw [ho] at h36; rw [h36.2]; rfl
  have hpt := prune_take (z := z0) (n := z1) (i := i) (by omega)
  have hms : ∀ z : Int, 0 ≤ z → z ≤ 1 → 0 ≤ ((i : Int) + 9223372036854775809) - 18446744073709551616 * z → ((i : Int) + 9223372036854775809) - 18446744073709551616 * z < 18446744073709551616 → ((i : Int) + (-18446744073709551616) * z) + 1 = ((i + 1 : Nat) : Int) := fun z y0 y1 y2 y3 => by omega
  have hmu : ∀ c' : Int, (ses z0).length - ((([[c'], [((i + 1 : Nat) : Int)]] : List (List Int)).getD 1 []).getD 0 0).toNat < (ses z0).length - ((([[(c : Int)], [(i : Int)]] : List (List Int)).getD 1 []).getD 0 0).toNat := fun c' => by
    show (ses z0).length - (((i + 1 : Nat) : Int)).toNat < (ses z0).length - ((i : Int)).toNat; omega
  rw [hle, hfl]
  refine ⟨fun h => (by simp at h), fun _ => ⟨fun ho => ?_, fun ho z39 y0 y1 y2 y3 => ?_⟩⟩
  · have ho : oldF ((ses z0).getD i se0) z1 = false := bnot_t ho
    rw [ho] at h36
    obtain ⟨hs, _⟩ := h36
    refine ⟨ck, ck2, fun z39 _ _ h39 z40 _ _ h40 z41 _ _ h41 z42 _ _ h42 z43 _ _ h43 z44 _ _ h44 z45 _ _ h45 z46 _ _ h46 z47 f0 f1 h47 z48 _ _ h48 z49 _ _ h49 z50 _ _ h50 z51 _ _ h51 z52 _ _ h52 => ?_⟩
    obtain ⟨y0, y1, y2, y3, y4, y5, y6, y7, y8, y9, rfl, hy8⟩ := inB10 hr26
    have hd := se_dec (a0 := y0) (b0 := z39) (a1 := y1) (b1 := z40) (a2 := y2) (b2 := z41) (a3 := y3) (b3 := z42) (a4 := y4) (b4 := z43) (a5 := y5) (b5 := z44) (a6 := y6) (b6 := z45) (a7 := y7) (b7 := z46) (a8 := y8) (b8 := z47) (a9 := y9) (b9 := z48) h49 h50 h51 h52 hy8 ⟨f0, f1⟩
    rw [row_se (k := i) rfl hil h39 h40 h41 h42 h43 h44 h45 h46 h47 h48, hs, decide_eq_true rfl] at hd
    refine ⟨fun hq => ?_, fun _ z53 u0 u1 u2 u3 z54 v0 v1 v2 v3 => ?_⟩
    · have := bnot_t hq
      have h2 : true = false := hd.symm.trans this
      cases h2
    · rw [hms z54 v0 v1 v2 v3]
      refine ⟨⟨by omega, by omega⟩, ⟨by omega, by omega⟩, ⟨c + 1, i + 1, by rw [show ((c : Int) + (-18446744073709551616) * z53) + 1 = ((c + 1 : Nat) : Int) by omega], by omega, by omega, ?_⟩, hmu _⟩
      rw [hpt, ho, hI]; simp
  · have ho : oldF ((ses z0).getD i se0) z1 = true := by
      cases h : oldF ((ses z0).getD i se0) z1 with
      | true => rfl
      | false => rw [h] at ho; cases ho
    rw [hms z39 y0 y1 y2 y3]
    refine ⟨⟨by omega, by omega⟩, ⟨c, i + 1, rfl, by omega, by omega, ?_⟩, hmu _⟩
    rw [hpt, ho, hI]; simp

end Go.Ad

set_option maxRecDepth 100000
set_option linter.unusedVariables false
set_option linter.unusedSimpArgs false
namespace Go.Ad
open Go Go.Rx
def B_ltoken (S : Nat → List (List Int) → List (List Int) → Prop) (K : List (List Int) → List (List Int) → Prop) : Prop :=
 ∀ z0 : Int, 0 ≤ z0 → z0 ≤ RB → 
 ∀ z1 : Int, 0 ≤ z1 →
 ∀ z2 : Int, (-1) ≤ z2 → z2 ≤ 9223372036854775807 → 
 ∀ z3 : Int, 0 ≤ z3 → z3 ≤ 9223372036854775807 → z3 = fnD 20 [z0] →
 ∀ z4 : Int, 0 ≤ z4 → z4 ≤ 1 → S 413 [] [[z4]] →
 ((((!(decide (z4 = 1)))) = true →
  K [[z0]] [[(cond (false) 1 0)]]
 ) ∧ (((!(decide (z4 = 1)))) = false →
  (((decide (100 < z3)) = true →
   K [[z0]] [[(cond (true) 1 0)]]
  ) ∧ ((decide (100 < z3)) = false →
   ∀ r5 : List Int, inB [((-9223372036854775808), 9223372036854775807), (0, HB), (0, HB), (0, HB), (0, HB), ((-9223372036854775808), 9223372036854775807), ((-9223372036854775808), 9223372036854775807), ((-9223372036854775808), 9223372036854775807), (0, 1), ((-9223372036854775808), 9223372036854775807)] r5 → S 418 [] [r5] →
   ∀ z15 : Int, 0 ≤ z15 → z15 ≤ 1 → decide ((List.getD r5 8 0) = 1) = decide (z15 = 1) →
   ∀ z16 : Int, 0 ≤ z16 → z16 ≤ RB → ∀ z17 : Int, (-9223372036854775808) ≤ z17 → z17 ≤ 9223372036854775807 → ∀ z18 : Int, 0 ≤ z18 → z18 ≤ 1 → ∀ z19 : Int, 0 ≤ z19 → z19 ≤ 21 → S 412 [[0], [(List.getD r5 0 0), (List.getD r5 1 0), (List.getD r5 2 0), (List.getD r5 3 0), (List.getD r5 4 0), (List.getD r5 5 0), (List.getD r5 6 0), (List.getD r5 7 0), z15, (List.getD r5 9 0)]] [[z16], [z17], [z18], [z19]] →
   ∀ z20 : Int, 0 ≤ z20 →
   ∀ z21 : Int, (-1) ≤ z21 → z21 ≤ 9223372036854775807 → 
   ∀ z22 : Int, 0 ≤ z22 → z22 ≤ 9223372036854775807 → z22 = fnD 20 [z16] →
   ∃ (I23 : List (List Int) → Prop) (μ23 : List (List Int) → Nat), I23 [[100], [0], [0], [0], [z16], [z22], [z21]] ∧ (∀ z24 : Int, 0 ≤ z24 → z24 ≤ 9223372036854775807 → ∀ z25 : Int, 0 ≤ z25 → z25 ≤ 9223372036854775807 → ∀ z26 : Int, 0 ≤ z26 → z26 ≤ 9223372036854775807 → ∀ z27 : Int, 0 ≤ z27 → z27 ≤ 1 → ∀ z28 : Int, 0 ≤ z28 → z28 ≤ RB → ∀ z29 : Int, 0 ≤ z29 → z29 ≤ 9223372036854775807 → ∀ z30 : Int, (-1) ≤ z30 → z30 ≤ 9223372036854775807 → I23 [[z24], [z25], [z26], [z27], [z28], [z29], [z30]] →
    ∀ z31 : Int, 0 ≤ z31 →
    (((decide (z26 < z3)) = true →
     chkD 30 [z26, z3] ∧
     chkD 21 [z0, z26] ∧
     ∀ z32 : Int, 0 ≤ z32 → z32 ≤ 65535 → z32 = fnD 21 [z0, z26, 0] →
     ∀ z33 : Int, 0 ≤ z33 → z33 ≤ 1 → 0 ≤ ((z24 + z32) + 9223372036854775808) - 18446744073709551616 * z33 → ((z24 + z32) + 9223372036854775808) - 18446744073709551616 * z33 < 18446744073709551616 →
     ∀ r34 : List Int, inB [((-9223372036854775808), 9223372036854775807), (0, HB), (0, HB), (0, HB), (0, HB), ((-9223372036854775808), 9223372036854775807), ((-9223372036854775808), 9223372036854775807), ((-9223372036854775808), 9223372036854775807), (0, 1), ((-9223372036854775808), 9223372036854775807)] r34 → S 418 [] [r34] →
     chkD 30 [z26, z3] ∧
     chkD 21 [z0, z26] ∧
     ∀ z44 : Int, 0 ≤ z44 → z44 ≤ 1 → z44 = fnD 21 [z0, z26, 1] →
     ((((!(decide (z44 = 1)))) = true →
      chkD 30 [z26, z3] ∧
      chkD 21 [z0, z26] ∧
      ∀ z45 : Int, 0 ≤ z45 → z45 ≤ 1 → z45 = fnD 21 [z0, z26, 2] →
      ((((!(decide (z45 = 1)))) = true →
       chkD 22 [z28, 0, z29] ∧
       ∀ z46 : Int, 0 ≤ z46 → z46 ≤ RB → z46 = fnD 22 [z28, 0, z29] →
       ∀ z47 : Int, 0 ≤ z47 → z47 ≤ 1 → decide ((List.getD r34 8 0) = 1) = decide (z47 = 1) →
       ∀ z48 : Int, 0 ≤ z48 → z48 ≤ RB → ∀ z49 : Int, 0 ≤ z49 → z49 ≤ 21 → S 408 [[z46], [(z24 + (z32 + ((-18446744073709551616) * z33)))], [(List.getD r34 0 0), 122, (List.getD r34 2 0), (List.getD r34 3 0), 121, (List.getD r34 5 0), (List.getD r34 6 0), (List.getD r34 7 0), z47, (List.getD r34 9 0)]] [[z48], [z49]] →
       ∀ z50 : Int, 0 ≤ z50 →
       ∀ z51 : Int, (-1) ≤ z51 → z51 ≤ 9223372036854775807 → 
       ∀ z52 : Int, 0 ≤ z52 → z52 ≤ 9223372036854775807 → z52 = fnD 20 [z48] →
       (((decide (86500 < (z24 + (z32 + ((-18446744073709551616) * z33))))) = true →
        ((((!(decide (z49 = 11)))) = true →
         K [[z0]] [[(cond (false) 1 0)]]
        ) ∧ (((!(decide (z49 = 11)))) = false →
         ∀ r53 : List Int, inB [((-9223372036854775808), 9223372036854775807), (0, HB), (0, HB), (0, HB), (0, HB), ((-9223372036854775808), 9223372036854775807), ((-9223372036854775808), 9223372036854775807), ((-9223372036854775808), 9223372036854775807), (0, 1), ((-9223372036854775808), 9223372036854775807)] r53 → S 418 [] [r53] →
         chkD 22 [z48, 0, z52] ∧
         ∀ z63 : Int, 0 ≤ z63 → z63 ≤ RB → z63 = fnD 22 [z48, 0, z52] →
         ∀ z64 : Int, 0 ≤ z64 → z64 ≤ 1 → decide ((List.getD r53 8 0) = 1) = decide (z64 = 1) →
         ∀ r65 : List Int, inB (repB 0 HB 2) r65 → ∀ z67 : Int, 0 ≤ z67 → z67 ≤ 21 → S 407 [[z63], [(z24 + (z32 + ((-18446744073709551616) * z33)))], [(List.getD r53 0 0), (List.getD r53 1 0), (List.getD r53 2 0), (List.getD r53 3 0), (List.getD r53 4 0), (List.getD r53 5 0), (List.getD r53 6 0), (List.getD r53 7 0), z64, (List.getD r53 9 0)]] [r65, [z67]] →
         (((decide (z27 = 1)) = true →
          (((decide (z67 = 0)) = true →
           K [[z0]] [[(cond (false) 1 0)]]
          ) ∧ ((decide (z67 = 0)) = false →
           ∀ z68 : Int, 0 ≤ z68 → z68 ≤ 1 → 0 ≤ (z26 + 9223372036854775809) - 18446744073709551616 * z68 → (z26 + 9223372036854775809) - 18446744073709551616 * z68 < 18446744073709551616 →
           chkD 39 [((z26 + ((-18446744073709551616) * z68)) + 1), 0, 9223372036854775807] ∧
           (I23 [[(z24 + (z32 + ((-18446744073709551616) * z33)))], [z25], [((z26 + ((-18446744073709551616) * z68)) + 1)], [1], [z48], [z52], [z51]] ∧ μ23 [[(z24 + (z32 + ((-18446744073709551616) * z33)))], [z25], [((z26 + ((-18446744073709551616) * z68)) + 1)], [1], [z48], [z52], [z51]] < μ23 [[z24], [z25], [z26], [z27], [z28], [z29], [z30]])
          ))
         ) ∧ ((decide (z27 = 1)) = false →
          (((decide (z67 = 0)) = true →
           K [[z0]] [[(cond (false) 1 0)]]
          ) ∧ ((decide (z67 = 0)) = false →
           ∀ z68 : Int, 0 ≤ z68 → z68 ≤ 1 → 0 ≤ (z26 + 9223372036854775809) - 18446744073709551616 * z68 → (z26 + 9223372036854775809) - 18446744073709551616 * z68 < 18446744073709551616 →
           chkD 39 [((z26 + ((-18446744073709551616) * z68)) + 1), 0, 9223372036854775807] ∧
           (I23 [[(z24 + (z32 + ((-18446744073709551616) * z33)))], [z25], [((z26 + ((-18446744073709551616) * z68)) + 1)], [0], [z48], [z52], [z51]] ∧ μ23 [[(z24 + (z32 + ((-18446744073709551616) * z33)))], [z25], [((z26 + ((-18446744073709551616) * z68)) + 1)], [0], [z48], [z52], [z51]] < μ23 [[z24], [z25], [z26], [z27], [z28], [z29], [z30]])
          ))
         ))
        ))
       ) ∧ ((decide (86500 < (z24 + (z32 + ((-18446744073709551616) * z33))))) = false →
        chkD 30 [z26, z3] ∧
        chkD 21 [z0, z26] ∧
        ∀ z53 : Int, 0 ≤ z53 → z53 ≤ 1 → z53 = fnD 21 [z0, z26, 2] →
        ((((!(decide (z53 = 1)))) = true →
         ((((!(decide (z49 = 11)))) = true →
          K [[z0]] [[(cond (false) 1 0)]]
         ) ∧ (((!(decide (z49 = 11)))) = false →
          ∀ r54 : List Int, inB [((-9223372036854775808), 9223372036854775807), (0, HB), (0, HB), (0, HB), (0, HB), ((-9223372036854775808), 9223372036854775807), ((-9223372036854775808), 9223372036854775807), ((-9223372036854775808), 9223372036854775807), (0, 1), ((-9223372036854775808), 9223372036854775807)] r54 → S 418 [] [r54] →
          chkD 22 [z48, 0, z52] ∧
          ∀ z64 : Int, 0 ≤ z64 → z64 ≤ RB → z64 = fnD 22 [z48, 0, z52] →
          ∀ z65 : Int, 0 ≤ z65 → z65 ≤ 1 → decide ((List.getD r54 8 0) = 1) = decide (z65 = 1) →
          ∀ r66 : List Int, inB (repB 0 HB 2) r66 → ∀ z68 : Int, 0 ≤ z68 → z68 ≤ 21 → S 407 [[z64], [(z24 + (z32 + ((-18446744073709551616) * z33)))], [(List.getD r54 0 0), (List.getD r54 1 0), (List.getD r54 2 0), (List.getD r54 3 0), (List.getD r54 4 0), (List.getD r54 5 0), (List.getD r54 6 0), (List.getD r54 7 0), z65, (List.getD r54 9 0)]] [r66, [z68]] →
          (((decide (z27 = 1)) = true →
           ((((!(decide (z68 = 0)))) = true →
            K [[z0]] [[(cond (false) 1 0)]]
           ) ∧ (((!(decide (z68 = 0)))) = false →
            ∀ z69 : Int, 0 ≤ z69 → z69 ≤ 1 → 0 ≤ (z26 + 9223372036854775809) - 18446744073709551616 * z69 → (z26 + 9223372036854775809) - 18446744073709551616 * z69 < 18446744073709551616 →
            chkD 39 [(z24 + (z32 + ((-18446744073709551616) * z33))), 0, 9223372036854775807] ∧
            chkD 39 [((z26 + ((-18446744073709551616) * z69)) + 1), 0, 9223372036854775807] ∧
            (I23 [[(z24 + (z32 + ((-18446744073709551616) * z33)))], [z25], [((z26 + ((-18446744073709551616) * z69)) + 1)], [1], [z48], [z52], [z51]] ∧ μ23 [[(z24 + (z32 + ((-18446744073709551616) * z33)))], [z25], [((z26 + ((-18446744073709551616) * z69)) + 1)], [1], [z48], [z52], [z51]] < μ23 [[z24], [z25], [z26], [z27], [z28], [z29], [z30]])
           ))
          ) ∧ ((decide (z27 = 1)) = false →
           (((decide (z68 = 0)) = true →
            K [[z0]] [[(cond (false) 1 0)]]
           ) ∧ ((decide (z68 = 0)) = false →
            ∀ z69 : Int, 0 ≤ z69 → z69 ≤ 1 → 0 ≤ (z26 + 9223372036854775809) - 18446744073709551616 * z69 → (z26 + 9223372036854775809) - 18446744073709551616 * z69 < 18446744073709551616 →
            chkD 39 [(z24 + (z32 + ((-18446744073709551616) * z33))), 0, 9223372036854775807] ∧
            chkD 39 [((z26 + ((-18446744073709551616) * z69)) + 1), 0, 9223372036854775807] ∧
            (I23 [[(z24 + (z32 + ((-18446744073709551616) * z33)))], [z25], [((z26 + ((-18446744073709551616) * z69)) + 1)], [0], [z48], [z52], [z51]] ∧ μ23 [[(z24 + (z32 + ((-18446744073709551616) * z33)))], [z25], [((z26 + ((-18446744073709551616) * z69)) + 1)], [0], [z48], [z52], [z51]] < μ23 [[z24], [z25], [z26], [z27], [z28], [z29], [z30]])
           ))
          ))
         ))
        ) ∧ (((!(decide (z53 = 1)))) = false →
         (((decide (z25 = 3)) = true →
          ((((!(decide (z49 = 16)))) = true →
           K [[z0]] [[(cond (false) 1 0)]]
          ) ∧ (((!(decide (z49 = 16)))) = false →
           ∀ r54 : List Int, inB [((-9223372036854775808), 9223372036854775807), (0, HB), (0, HB), (0, HB), (0, HB), ((-9223372036854775808), 9223372036854775807), ((-9223372036854775808), 9223372036854775807), ((-9223372036854775808), 9223372036854775807), (0, 1), ((-9223372036854775808), 9223372036854775807)] r54 → S 418 [] [r54] →
           chkD 22 [z48, 0, z52] ∧
           ∀ z64 : Int, 0 ≤ z64 → z64 ≤ RB → z64 = fnD 22 [z48, 0, z52] →
           ∀ z65 : Int, 0 ≤ z65 → z65 ≤ 1 → decide ((List.getD r54 8 0) = 1) = decide (z65 = 1) →
           ∀ r66 : List Int, inB (repB 0 HB 2) r66 → ∀ z68 : Int, 0 ≤ z68 → z68 ≤ 21 → S 407 [[z64], [(z24 + (z32 + ((-18446744073709551616) * z33)))], [(List.getD r54 0 0), (List.getD r54 1 0), (List.getD r54 2 0), (List.getD r54 3 0), (List.getD r54 4 0), (List.getD r54 5 0), (List.getD r54 6 0), (List.getD r54 7 0), z65, (List.getD r54 9 0)]] [r66, [z68]] →
           (((decide (z27 = 1)) = true →
            ((((!(decide (z68 = 0)))) = true →
             K [[z0]] [[(cond (false) 1 0)]]
            ) ∧ (((!(decide (z68 = 0)))) = false →
             ∀ z69 : Int, 0 ≤ z69 → z69 ≤ 1 → 0 ≤ (z26 + 9223372036854775809) - 18446744073709551616 * z69 → (z26 + 9223372036854775809) - 18446744073709551616 * z69 < 18446744073709551616 →
             chkD 39 [(z24 + (z32 + ((-18446744073709551616) * z33))), 0, 9223372036854775807] ∧
             chkD 39 [((z26 + ((-18446744073709551616) * z69)) + 1), 0, 9223372036854775807] ∧
             (I23 [[(z24 + (z32 + ((-18446744073709551616) * z33)))], [z25], [((z26 + ((-18446744073709551616) * z69)) + 1)], [1], [z48], [z52], [z51]] ∧ μ23 [[(z24 + (z32 + ((-18446744073709551616) * z33)))], [z25], [((z26 + ((-18446744073709551616) * z69)) + 1)], [1], [z48], [z52], [z51]] < μ23 [[z24], [z25], [z26], [z27], [z28], [z29], [z30]])
            ))
           ) ∧ ((decide (z27 = 1)) = false →
            (((decide (z68 = 0)) = true →
             K [[z0]] [[(cond (false) 1 0)]]
            ) ∧ ((decide (z68 = 0)) = false →
             ∀ z69 : Int, 0 ≤ z69 → z69 ≤ 1 → 0 ≤ (z26 + 9223372036854775809) - 18446744073709551616 * z69 → (z26 + 9223372036854775809) - 18446744073709551616 * z69 < 18446744073709551616 →
             chkD 39 [(z24 + (z32 + ((-18446744073709551616) * z33))), 0, 9223372036854775807] ∧
             chkD 39 [((z26 + ((-18446744073709551616) * z69)) + 1), 0, 9223372036854775807] ∧
             (I23 [[(z24 + (z32 + ((-18446744073709551616) * z33)))], [z25], [((z26 + ((-18446744073709551616) * z69)) + 1)], [0], [z48], [z52], [z51]] ∧ μ23 [[(z24 + (z32 + ((-18446744073709551616) * z33)))], [z25], [((z26 + ((-18446744073709551616) * z69)) + 1)], [0], [z48], [z52], [z51]] < μ23 [[z24], [z25], [z26], [z27], [z28], [z29], [z30]])
            ))
           ))
          ))
         ) ∧ ((decide (z25 = 3)) = false →
          chkD 30 [z26, z3] ∧
          chkD 21 [z0, z26] ∧
          ∀ z54 : Int, 0 ≤ z54 → z54 ≤ 1 → z54 = fnD 21 [z0, z26, 1] →
          ((((!(decide (z54 = 1)))) = true →
           ∀ z55 : Int, 0 ≤ z55 → z55 ≤ 1 → 0 ≤ (z25 + 9223372036854775809) - 18446744073709551616 * z55 → (z25 + 9223372036854775809) - 18446744073709551616 * z55 < 18446744073709551616 →
           ((((!(decide (z49 = 12)))) = true →
            K [[z0]] [[(cond (false) 1 0)]]
           ) ∧ (((!(decide (z49 = 12)))) = false →
            ∀ r56 : List Int, inB [((-9223372036854775808), 9223372036854775807), (0, HB), (0, HB), (0, HB), (0, HB), ((-9223372036854775808), 9223372036854775807), ((-9223372036854775808), 9223372036854775807), ((-9223372036854775808), 9223372036854775807), (0, 1), ((-9223372036854775808), 9223372036854775807)] r56 → S 418 [] [r56] →
            chkD 22 [z48, 0, z52] ∧
            ∀ z66 : Int, 0 ≤ z66 → z66 ≤ RB → z66 = fnD 22 [z48, 0, z52] →
            ∀ z67 : Int, 0 ≤ z67 → z67 ≤ 1 → decide ((List.getD r56 8 0) = 1) = decide (z67 = 1) →
            ∀ r68 : List Int, inB (repB 0 HB 2) r68 → ∀ z70 : Int, 0 ≤ z70 → z70 ≤ 21 → S 407 [[z66], [(z24 + (z32 + ((-18446744073709551616) * z33)))], [(List.getD r56 0 0), (List.getD r56 1 0), (List.getD r56 2 0), (List.getD r56 3 0), (List.getD r56 4 0), (List.getD r56 5 0), (List.getD r56 6 0), (List.getD r56 7 0), z67, (List.getD r56 9 0)]] [r68, [z70]] →
            (((decide (z27 = 1)) = true →
             ((((!(decide (z70 = 0)))) = true →
              K [[z0]] [[(cond (false) 1 0)]]
             ) ∧ (((!(decide (z70 = 0)))) = false →
              ∀ z71 : Int, 0 ≤ z71 → z71 ≤ 1 → 0 ≤ (z26 + 9223372036854775809) - 18446744073709551616 * z71 → (z26 + 9223372036854775809) - 18446744073709551616 * z71 < 18446744073709551616 →
              chkD 39 [(z24 + (z32 + ((-18446744073709551616) * z33))), 0, 9223372036854775807] ∧
              chkD 39 [((z25 + ((-18446744073709551616) * z55)) + 1), 0, 9223372036854775807] ∧
              chkD 39 [((z26 + ((-18446744073709551616) * z71)) + 1), 0, 9223372036854775807] ∧
              (I23 [[(z24 + (z32 + ((-18446744073709551616) * z33)))], [((z25 + ((-18446744073709551616) * z55)) + 1)], [((z26 + ((-18446744073709551616) * z71)) + 1)], [1], [z48], [z52], [z51]] ∧ μ23 [[(z24 + (z32 + ((-18446744073709551616) * z33)))], [((z25 + ((-18446744073709551616) * z55)) + 1)], [((z26 + ((-18446744073709551616) * z71)) + 1)], [1], [z48], [z52], [z51]] < μ23 [[z24], [z25], [z26], [z27], [z28], [z29], [z30]])
             ))
            ) ∧ ((decide (z27 = 1)) = false →
             (((decide (z70 = 0)) = true →
              K [[z0]] [[(cond (false) 1 0)]]
             ) ∧ ((decide (z70 = 0)) = false →
              ∀ z71 : Int, 0 ≤ z71 → z71 ≤ 1 → 0 ≤ (z26 + 9223372036854775809) - 18446744073709551616 * z71 → (z26 + 9223372036854775809) - 18446744073709551616 * z71 < 18446744073709551616 →
              chkD 39 [(z24 + (z32 + ((-18446744073709551616) * z33))), 0, 9223372036854775807] ∧
              chkD 39 [((z25 + ((-18446744073709551616) * z55)) + 1), 0, 9223372036854775807] ∧
              chkD 39 [((z26 + ((-18446744073709551616) * z71)) + 1), 0, 9223372036854775807] ∧
              (I23 [[(z24 + (z32 + ((-18446744073709551616) * z33)))], [((z25 + ((-18446744073709551616) * z55)) + 1)], [((z26 + ((-18446744073709551616) * z71)) + 1)], [0], [z48], [z52], [z51]] ∧ μ23 [[(z24 + (z32 + ((-18446744073709551616) * z33)))], [((z25 + ((-18446744073709551616) * z55)) + 1)], [((z26 + ((-18446744073709551616) * z71)) + 1)], [0], [z48], [z52], [z51]] < μ23 [[z24], [z25], [z26], [z27], [z28], [z29], [z30]])
             ))
            ))
           ))
          ) ∧ (((!(decide (z54 = 1)))) = false →
           ((((!(decide (z49 = 0)))) = true →
            K [[z0]] [[(cond (false) 1 0)]]
           ) ∧ (((!(decide (z49 = 0)))) = false →
            ∀ r55 : List Int, inB [((-9223372036854775808), 9223372036854775807), (0, HB), (0, HB), (0, HB), (0, HB), ((-9223372036854775808), 9223372036854775807), ((-9223372036854775808), 9223372036854775807), ((-9223372036854775808), 9223372036854775807), (0, 1), ((-9223372036854775808), 9223372036854775807)] r55 → S 418 [] [r55] →
            chkD 22 [z48, 0, z52] ∧
            ∀ z65 : Int, 0 ≤ z65 → z65 ≤ RB → z65 = fnD 22 [z48, 0, z52] →
            ∀ z66 : Int, 0 ≤ z66 → z66 ≤ 1 → decide ((List.getD r55 8 0) = 1) = decide (z66 = 1) →
            ∀ r67 : List Int, inB (repB 0 HB 2) r67 → ∀ z69 : Int, 0 ≤ z69 → z69 ≤ 21 → S 407 [[z65], [(z24 + (z32 + ((-18446744073709551616) * z33)))], [(List.getD r55 0 0), (List.getD r55 1 0), (List.getD r55 2 0), (List.getD r55 3 0), (List.getD r55 4 0), (List.getD r55 5 0), (List.getD r55 6 0), (List.getD r55 7 0), z66, (List.getD r55 9 0)]] [r67, [z69]] →
            ((((!(decide (z69 = 0)))) = true →
             K [[z0]] [[(cond (false) 1 0)]]
            ) ∧ (((!(decide (z69 = 0)))) = false →
             ∀ z70 : Int, 0 ≤ z70 → z70 ≤ 1 → 0 ≤ (z26 + 9223372036854775809) - 18446744073709551616 * z70 → (z26 + 9223372036854775809) - 18446744073709551616 * z70 < 18446744073709551616 →
             chkD 39 [(z24 + (z32 + ((-18446744073709551616) * z33))), 0, 9223372036854775807] ∧
             chkD 39 [((z26 + ((-18446744073709551616) * z70)) + 1), 0, 9223372036854775807] ∧
             (I23 [[(z24 + (z32 + ((-18446744073709551616) * z33)))], [z25], [((z26 + ((-18446744073709551616) * z70)) + 1)], [1], [z48], [z52], [z51]] ∧ μ23 [[(z24 + (z32 + ((-18446744073709551616) * z33)))], [z25], [((z26 + ((-18446744073709551616) * z70)) + 1)], [1], [z48], [z52], [z51]] < μ23 [[z24], [z25], [z26], [z27], [z28], [z29], [z30]])
            ))
           ))
          ))
         ))
        ))
       ))
      ) ∧ (((!(decide (z45 = 1)))) = false →
       chkD 22 [z28, 0, z29] ∧
       ∀ z46 : Int, 0 ≤ z46 → z46 ≤ RB → z46 = fnD 22 [z28, 0, z29] →
       ∀ z47 : Int, 0 ≤ z47 → z47 ≤ 1 → decide ((List.getD r34 8 0) = 1) = decide (z47 = 1) →
       ∀ z48 : Int, 0 ≤ z48 → z48 ≤ RB → ∀ z49 : Int, 0 ≤ z49 → z49 ≤ 21 → S 408 [[z46], [(z24 + (z32 + ((-18446744073709551616) * z33)))], [(List.getD r34 0 0), (List.getD r34 1 0), (List.getD r34 2 0), (List.getD r34 3 0), 121, (List.getD r34 5 0), (List.getD r34 6 0), (List.getD r34 7 0), z47, (List.getD r34 9 0)]] [[z48], [z49]] →
       ∀ z50 : Int, 0 ≤ z50 →
       ∀ z51 : Int, (-1) ≤ z51 → z51 ≤ 9223372036854775807 → 
       ∀ z52 : Int, 0 ≤ z52 → z52 ≤ 9223372036854775807 → z52 = fnD 20 [z48] →
       (((decide (86500 < (z24 + (z32 + ((-18446744073709551616) * z33))))) = true →
        ((((!(decide (z49 = 11)))) = true →
         K [[z0]] [[(cond (false) 1 0)]]
        ) ∧ (((!(decide (z49 = 11)))) = false →
         ∀ r53 : List Int, inB [((-9223372036854775808), 9223372036854775807), (0, HB), (0, HB), (0, HB), (0, HB), ((-9223372036854775808), 9223372036854775807), ((-9223372036854775808), 9223372036854775807), ((-9223372036854775808), 9223372036854775807), (0, 1), ((-9223372036854775808), 9223372036854775807)] r53 → S 418 [] [r53] →
         chkD 22 [z48, 0, z52] ∧
         ∀ z63 : Int, 0 ≤ z63 → z63 ≤ RB → z63 = fnD 22 [z48, 0, z52] →
         ∀ z64 : Int, 0 ≤ z64 → z64 ≤ 1 → decide ((List.getD r53 8 0) = 1) = decide (z64 = 1) →
         ∀ r65 : List Int, inB (repB 0 HB 2) r65 → ∀ z67 : Int, 0 ≤ z67 → z67 ≤ 21 → S 407 [[z63], [(z24 + (z32 + ((-18446744073709551616) * z33)))], [(List.getD r53 0 0), (List.getD r53 1 0), (List.getD r53 2 0), (List.getD r53 3 0), (List.getD r53 4 0), (List.getD r53 5 0), (List.getD r53 6 0), (List.getD r53 7 0), z64, (List.getD r53 9 0)]] [r65, [z67]] →
         (((decide (z27 = 1)) = true →
          (((decide (z67 = 0)) = true →
           K [[z0]] [[(cond (false) 1 0)]]
          ) ∧ ((decide (z67 = 0)) = false →
           ∀ z68 : Int, 0 ≤ z68 → z68 ≤ 1 → 0 ≤ (z26 + 9223372036854775809) - 18446744073709551616 * z68 → (z26 + 9223372036854775809) - 18446744073709551616 * z68 < 18446744073709551616 →
           chkD 39 [((z26 + ((-18446744073709551616) * z68)) + 1), 0, 9223372036854775807] ∧
           (I23 [[(z24 + (z32 + ((-18446744073709551616) * z33)))], [z25], [((z26 + ((-18446744073709551616) * z68)) + 1)], [1], [z48], [z52], [z51]] ∧ μ23 [[(z24 + (z32 + ((-18446744073709551616) * z33)))], [z25], [((z26 + ((-18446744073709551616) * z68)) + 1)], [1], [z48], [z52], [z51]] < μ23 [[z24], [z25], [z26], [z27], [z28], [z29], [z30]])
          ))
         ) ∧ ((decide (z27 = 1)) = false →
          (((decide (z67 = 0)) = true →
           K [[z0]] [[(cond (false) 1 0)]]
          ) ∧ ((decide (z67 = 0)) = false →
           ∀ z68 : Int, 0 ≤ z68 → z68 ≤ 1 → 0 ≤ (z26 + 9223372036854775809) - 18446744073709551616 * z68 → (z26 + 9223372036854775809) - 18446744073709551616 * z68 < 18446744073709551616 →
           chkD 39 [((z26 + ((-18446744073709551616) * z68)) + 1), 0, 9223372036854775807] ∧
           (I23 [[(z24 + (z32 + ((-18446744073709551616) * z33)))], [z25], [((z26 + ((-18446744073709551616) * z68)) + 1)], [0], [z48], [z52], [z51]] ∧ μ23 [[(z24 + (z32 + ((-18446744073709551616) * z33)))], [z25], [((z26 + ((-18446744073709551616) * z68)) + 1)], [0], [z48], [z52], [z51]] < μ23 [[z24], [z25], [z26], [z27], [z28], [z29], [z30]])
          ))
         ))
        ))
       ) ∧ ((decide (86500 < (z24 + (z32 + ((-18446744073709551616) * z33))))) = false →
        chkD 30 [z26, z3] ∧
        chkD 21 [z0, z26] ∧
        ∀ z53 : Int, 0 ≤ z53 → z53 ≤ 1 → z53 = fnD 21 [z0, z26, 2] →
        ((((!(decide (z53 = 1)))) = true →
         ((((!(decide (z49 = 11)))) = true →
          K [[z0]] [[(cond (false) 1 0)]]
         ) ∧ (((!(decide (z49 = 11)))) = false →
          ∀ r54 : List Int, inB [((-9223372036854775808), 9223372036854775807), (0, HB), (0, HB), (0, HB), (0, HB), ((-9223372036854775808), 9223372036854775807), ((-9223372036854775808), 9223372036854775807), ((-9223372036854775808), 9223372036854775807), (0, 1), ((-9223372036854775808), 9223372036854775807)] r54 → S 418 [] [r54] →
          chkD 22 [z48, 0, z52] ∧
          ∀ z64 : Int, 0 ≤ z64 → z64 ≤ RB → z64 = fnD 22 [z48, 0, z52] →
          ∀ z65 : Int, 0 ≤ z65 → z65 ≤ 1 → decide ((List.getD r54 8 0) = 1) = decide (z65 = 1) →
          ∀ r66 : List Int, inB (repB 0 HB 2) r66 → ∀ z68 : Int, 0 ≤ z68 → z68 ≤ 21 → S 407 [[z64], [(z24 + (z32 + ((-18446744073709551616) * z33)))], [(List.getD r54 0 0), (List.getD r54 1 0), (List.getD r54 2 0), (List.getD r54 3 0), (List.getD r54 4 0), (List.getD r54 5 0), (List.getD r54 6 0), (List.getD r54 7 0), z65, (List.getD r54 9 0)]] [r66, [z68]] →
          (((decide (z27 = 1)) = true →
           ((((!(decide (z68 = 0)))) = true →
            K [[z0]] [[(cond (false) 1 0)]]
           ) ∧ (((!(decide (z68 = 0)))) = false →
            ∀ z69 : Int, 0 ≤ z69 → z69 ≤ 1 → 0 ≤ (z26 + 9223372036854775809) - 18446744073709551616 * z69 → (z26 + 9223372036854775809) - 18446744073709551616 * z69 < 18446744073709551616 →
            chkD 39 [(z24 + (z32 + ((-18446744073709551616) * z33))), 0, 9223372036854775807] ∧
            chkD 39 [((z26 + ((-18446744073709551616) * z69)) + 1), 0, 9223372036854775807] ∧
            (I23 [[(z24 + (z32 + ((-18446744073709551616) * z33)))], [z25], [((z26 + ((-18446744073709551616) * z69)) + 1)], [1], [z48], [z52], [z51]] ∧ μ23 [[(z24 + (z32 + ((-18446744073709551616) * z33)))], [z25], [((z26 + ((-18446744073709551616) * z69)) + 1)], [1], [z48], [z52], [z51]] < μ23 [[z24], [z25], [z26], [z27], [z28], [z29], [z30]])
           ))
          ) ∧ ((decide (z27 = 1)) = false →
           (((decide (z68 = 0)) = true →
            K [[z0]] [[(cond (false) 1 0)]]
           ) ∧ ((decide (z68 = 0)) = false →
            ∀ z69 : Int, 0 ≤ z69 → z69 ≤ 1 → 0 ≤ (z26 + 9223372036854775809) - 18446744073709551616 * z69 → (z26 + 9223372036854775809) - 18446744073709551616 * z69 < 18446744073709551616 →
            chkD 39 [(z24 + (z32 + ((-18446744073709551616) * z33))), 0, 9223372036854775807] ∧
            chkD 39 [((z26 + ((-18446744073709551616) * z69)) + 1), 0, 9223372036854775807] ∧
            (I23 [[(z24 + (z32 + ((-18446744073709551616) * z33)))], [z25], [((z26 + ((-18446744073709551616) * z69)) + 1)], [0], [z48], [z52], [z51]] ∧ μ23 [[(z24 + (z32 + ((-18446744073709551616) * z33)))], [z25], [((z26 + ((-18446744073709551616) * z69)) + 1)], [0], [z48], [z52], [z51]] < μ23 [[z24], [z25], [z26], [z27], [z28], [z29], [z30]])
           ))
          ))
         ))
        ) ∧ (((!(decide (z53 = 1)))) = false →
         (((decide (z25 = 3)) = true →
          ((((!(decide (z49 = 16)))) = true →
           K [[z0]] [[(cond (false) 1 0)]]
          ) ∧ (((!(decide (z49 = 16)))) = false →
           ∀ r54 : List Int, inB [((-9223372036854775808), 9223372036854775807), (0, HB), (0, HB), (0, HB), (0, HB), ((-9223372036854775808), 9223372036854775807), ((-9223372036854775808), 9223372036854775807), ((-9223372036854775808), 9223372036854775807), (0, 1), ((-9223372036854775808), 9223372036854775807)] r54 → S 418 [] [r54] →
           chkD 22 [z48, 0, z52] ∧
           ∀ z64 : Int, 0 ≤ z64 → z64 ≤ RB → z64 = fnD 22 [z48, 0, z52] →
           ∀ z65 : Int, 0 ≤ z65 → z65 ≤ 1 → decide ((List.getD r54 8 0) = 1) = decide (z65 = 1) →
           ∀ r66 : List Int, inB (repB 0 HB 2) r66 → ∀ z68 : Int, 0 ≤ z68 → z68 ≤ 21 → S 407 [[z64], [(z24 + (z32 + ((-18446744073709551616) * z33)))], [(List.getD r54 0 0), (List.getD r54 1 0), (List.getD r54 2 0), (List.getD r54 3 0), (List.getD r54 4 0), (List.getD r54 5 0), (List.getD r54 6 0), (List.getD r54 7 0), z65, (List.getD r54 9 0)]] [r66, [z68]] →
           (((decide (z27 = 1)) = true →
            ((((!(decide (z68 = 0)))) = true →
             K [[z0]] [[(cond (false) 1 0)]]
            ) ∧ (((!(decide (z68 = 0)))) = false →
             ∀ z69 : Int, 0 ≤ z69 → z69 ≤ 1 → 0 ≤ (z26 + 9223372036854775809) - 18446744073709551616 * z69 → (z26 + 9223372036854775809) - 18446744073709551616 * z69 < 18446744073709551616 →
             chkD 39 [(z24 + (z32 + ((-18446744073709551616) * z33))), 0, 9223372036854775807] ∧
             chkD 39 [((z26 + ((-18446744073709551616) * z69)) + 1), 0, 9223372036854775807] ∧
             (I23 [[(z24 + (z32 + ((-18446744073709551616) * z33)))], [z25], [((z26 + ((-18446744073709551616) * z69)) + 1)], [1], [z48], [z52], [z51]] ∧ μ23 [[(z24 + (z32 + ((-18446744073709551616) * z33)))], [z25], [((z26 + ((-18446744073709551616) * z69)) + 1)], [1], [z48], [z52], [z51]] < μ23 [[z24], [z25], [z26], [z27], [z28], [z29], [z30]])
            ))
           ) ∧ ((decide (z27 = 1)) = false →
            (((decide (z68 = 0)) = true →
             K [[z0]] [[(cond (false) 1 0)]]
            ) ∧ ((decide (z68 = 0)) = false →
             ∀ z69 : Int, 0 ≤ z69 → z69 ≤ 1 → 0 ≤ (z26 + 9223372036854775809) - 18446744073709551616 * z69 → (z26 + 9223372036854775809) - 18446744073709551616 * z69 < 18446744073709551616 →
             chkD 39 [(z24 + (z32 + ((-18446744073709551616) * z33))), 0, 9223372036854775807] ∧
             chkD 39 [((z26 + ((-18446744073709551616) * z69)) + 1), 0, 9223372036854775807] ∧
             (I23 [[(z24 + (z32 + ((-18446744073709551616) * z33)))], [z25], [((z26 + ((-18446744073709551616) * z69)) + 1)], [0], [z48], [z52], [z51]] ∧ μ23 [[(z24 + (z32 + ((-18446744073709551616) * z33)))], [z25], [((z26 + ((-18446744073709551616) * z69)) + 1)], [0], [z48], [z52], [z51]] < μ23 [[z24], [z25], [z26], [z27], [z28], [z29], [z30]])
            ))
           ))
          ))
         ) ∧ ((decide (z25 = 3)) = false →
          chkD 30 [z26, z3] ∧
          chkD 21 [z0, z26] ∧
          ∀ z54 : Int, 0 ≤ z54 → z54 ≤ 1 → z54 = fnD 21 [z0, z26, 1] →
          ((((!(decide (z54 = 1)))) = true →
           ∀ z55 : Int, 0 ≤ z55 → z55 ≤ 1 → 0 ≤ (z25 + 9223372036854775809) - 18446744073709551616 * z55 → (z25 + 9223372036854775809) - 18446744073709551616 * z55 < 18446744073709551616 →
           ((((!(decide (z49 = 12)))) = true →
            K [[z0]] [[(cond (false) 1 0)]]
           ) ∧ (((!(decide (z49 = 12)))) = false →
            ∀ r56 : List Int, inB [((-9223372036854775808), 9223372036854775807), (0, HB), (0, HB), (0, HB), (0, HB), ((-9223372036854775808), 9223372036854775807), ((-9223372036854775808), 9223372036854775807), ((-9223372036854775808), 9223372036854775807), (0, 1), ((-9223372036854775808), 9223372036854775807)] r56 → S 418 [] [r56] →
            chkD 22 [z48, 0, z52] ∧
            ∀ z66 : Int, 0 ≤ z66 → z66 ≤ RB → z66 = fnD 22 [z48, 0, z52] →
            ∀ z67 : Int, 0 ≤ z67 → z67 ≤ 1 → decide ((List.getD r56 8 0) = 1) = decide (z67 = 1) →
            ∀ r68 : List Int, inB (repB 0 HB 2) r68 → ∀ z70 : Int, 0 ≤ z70 → z70 ≤ 21 → S 407 [[z66], [(z24 + (z32 + ((-18446744073709551616) * z33)))], [(List.getD r56 0 0), (List.getD r56 1 0), (List.getD r56 2 0), (List.getD r56 3 0), (List.getD r56 4 0), (List.getD r56 5 0), (List.getD r56 6 0), (List.getD r56 7 0), z67, (List.getD r56 9 0)]] [r68, [z70]] →
            (((decide (z27 = 1)) = true →
             ((((!(decide (z70 = 0)))) = true →
              K [[z0]] [[(cond (false) 1 0)]]
             ) ∧ (((!(decide (z70 = 0)))) = false →
              ∀ z71 : Int, 0 ≤ z71 → z71 ≤ 1 → 0 ≤ (z26 + 9223372036854775809) - 18446744073709551616 * z71 → (z26 + 9223372036854775809) - 18446744073709551616 * z71 < 18446744073709551616 →
              chkD 39 [(z24 + (z32 + ((-18446744073709551616) * z33))), 0, 9223372036854775807] ∧
              chkD 39 [((z25 + ((-18446744073709551616) * z55)) + 1), 0, 9223372036854775807] ∧
              chkD 39 [((z26 + ((-18446744073709551616) * z71)) + 1), 0, 9223372036854775807] ∧
              (I23 [[(z24 + (z32 + ((-18446744073709551616) * z33)))], [((z25 + ((-18446744073709551616) * z55)) + 1)], [((z26 + ((-18446744073709551616) * z71)) + 1)], [1], [z48], [z52], [z51]] ∧ μ23 [[(z24 + (z32 + ((-18446744073709551616) * z33)))], [((z25 + ((-18446744073709551616) * z55)) + 1)], [((z26 + ((-18446744073709551616) * z71)) + 1)], [1], [z48], [z52], [z51]] < μ23 [[z24], [z25], [z26], [z27], [z28], [z29], [z30]])
             ))
            ) ∧ ((decide (z27 = 1)) = false →
             (((decide (z70 = 0)) = true →
              K [[z0]] [[(cond (false) 1 0)]]
             ) ∧ ((decide (z70 = 0)) = false →
              ∀ z71 : Int, 0 ≤ z71 → z71 ≤ 1 → 0 ≤ (z26 + 9223372036854775809) - 18446744073709551616 * z71 → (z26 + 9223372036854775809) - 18446744073709551616 * z71 < 18446744073709551616 →
              chkD 39 [(z24 + (z32 + ((-18446744073709551616) * z33))), 0, 9223372036854775807] ∧
              chkD 39 [((z25 + ((-18446744073709551616) * z55)) + 1), 0, 9223372036854775807] ∧
              chkD 39 [((z26 + ((-18446744073709551616) * z71)) + 1), 0, 9223372036854775807] ∧
              (I23 [[(z24 + (z32 + ((-18446744073709551616) * z33)))], [((z25 + ((-18446744073709551616) * z55)) + 1)], [((z26 + ((-18446744073709551616) * z71)) + 1)], [0], [z48], [z52], [z51]] ∧ μ23 [[(z24 + (z32 + ((-18446744073709551616) * z33)))], [((z25 + ((-18446744073709551616) * z55)) + 1)], [((z26 + ((-18446744073709551616) * z71)) + 1)], [0], [z48], [z52], [z51]] < μ23 [[z24], [z25], [z26], [z27], [z28], [z29], [z30]])
             ))
            ))
           ))
          ) ∧ (((!(decide (z54 = 1)))) = false →
           ((((!(decide (z49 = 0)))) = true →
            K [[z0]] [[(cond (false) 1 0)]]
           ) ∧ (((!(decide (z49 = 0)))) = false →
            ∀ r55 : List Int, inB [((-9223372036854775808), 9223372036854775807), (0, HB), (0, HB), (0, HB), (0, HB), ((-9223372036854775808), 9223372036854775807), ((-9223372036854775808), 9223372036854775807), ((-9223372036854775808), 9223372036854775807), (0, 1), ((-9223372036854775808), 9223372036854775807)] r55 → S 418 [] [r55] →
            chkD 22 [z48, 0, z52] ∧
            ∀ z65 : Int, 0 ≤ z65 → z65 ≤ RB → z65 = fnD 22 [z48, 0, z52] →
            ∀ z66 : Int, 0 ≤ z66 → z66 ≤ 1 → decide ((List.getD r55 8 0) = 1) = decide (z66 = 1) →
            ∀ r67 : List Int, inB (repB 0 HB 2) r67 → ∀ z69 : Int, 0 ≤ z69 → z69 ≤ 21 → S 407 [[z65], [(z24 + (z32 + ((-18446744073709551616) * z33)))], [(List.getD r55 0 0), (List.getD r55 1 0), (List.getD r55 2 0), (List.getD r55 3 0), (List.getD r55 4 0), (List.getD r55 5 0), (List.getD r55 6 0), (List.getD r55 7 0), z66, (List.getD r55 9 0)]] [r67, [z69]] →
            ((((!(decide (z69 = 0)))) = true →
             K [[z0]] [[(cond (false) 1 0)]]
            ) ∧ (((!(decide (z69 = 0)))) = false →
             ∀ z70 : Int, 0 ≤ z70 → z70 ≤ 1 → 0 ≤ (z26 + 9223372036854775809) - 18446744073709551616 * z70 → (z26 + 9223372036854775809) - 18446744073709551616 * z70 < 18446744073709551616 →
             chkD 39 [(z24 + (z32 + ((-18446744073709551616) * z33))), 0, 9223372036854775807] ∧
             chkD 39 [((z26 + ((-18446744073709551616) * z70)) + 1), 0, 9223372036854775807] ∧
             (I23 [[(z24 + (z32 + ((-18446744073709551616) * z33)))], [z25], [((z26 + ((-18446744073709551616) * z70)) + 1)], [1], [z48], [z52], [z51]] ∧ μ23 [[(z24 + (z32 + ((-18446744073709551616) * z33)))], [z25], [((z26 + ((-18446744073709551616) * z70)) + 1)], [1], [z48], [z52], [z51]] < μ23 [[z24], [z25], [z26], [z27], [z28], [z29], [z30]])
            ))
           ))
          ))
         ))
        ))
       ))
      ))
     ) ∧ (((!(decide (z44 = 1)))) = false →
      chkD 30 [z26, z3] ∧
      chkD 21 [z0, z26] ∧
      ∀ z45 : Int, 0 ≤ z45 → z45 ≤ 1 → z45 = fnD 21 [z0, z26, 2] →
      ((((!(decide (z45 = 1)))) = true →
       chkD 22 [z28, 0, z29] ∧
       ∀ z46 : Int, 0 ≤ z46 → z46 ≤ RB → z46 = fnD 22 [z28, 0, z29] →
       ∀ z47 : Int, 0 ≤ z47 → z47 ≤ 1 → decide ((List.getD r34 8 0) = 1) = decide (z47 = 1) →
       ∀ z48 : Int, 0 ≤ z48 → z48 ≤ RB → ∀ z49 : Int, 0 ≤ z49 → z49 ≤ 21 → S 408 [[z46], [(z24 + (z32 + ((-18446744073709551616) * z33)))], [(List.getD r34 0 0), 122, (List.getD r34 2 0), (List.getD r34 3 0), (List.getD r34 4 0), (List.getD r34 5 0), (List.getD r34 6 0), (List.getD r34 7 0), z47, (List.getD r34 9 0)]] [[z48], [z49]] →
       ∀ z50 : Int, 0 ≤ z50 →
       ∀ z51 : Int, (-1) ≤ z51 → z51 ≤ 9223372036854775807 → 
       ∀ z52 : Int, 0 ≤ z52 → z52 ≤ 9223372036854775807 → z52 = fnD 20 [z48] →
       (((decide (86500 < (z24 + (z32 + ((-18446744073709551616) * z33))))) = true →
        ((((!(decide (z49 = 11)))) = true →
         K [[z0]] [[(cond (false) 1 0)]]
        ) ∧ (((!(decide (z49 = 11)))) = false →
         ∀ r53 : List Int, inB [((-9223372036854775808), 9223372036854775807), (0, HB), (0, HB), (0, HB), (0, HB), ((-9223372036854775808), 9223372036854775807), ((-9223372036854775808), 9223372036854775807), ((-9223372036854775808), 9223372036854775807), (0, 1), ((-9223372036854775808), 9223372036854775807)] r53 → S 418 [] [r53] →
         chkD 22 [z48, 0, z52] ∧
         ∀ z63 : Int, 0 ≤ z63 → z63 ≤ RB → z63 = fnD 22 [z48, 0, z52] →
         ∀ z64 : Int, 0 ≤ z64 → z64 ≤ 1 → decide ((List.getD r53 8 0) = 1) = decide (z64 = 1) →
         ∀ r65 : List Int, inB (repB 0 HB 2) r65 → ∀ z67 : Int, 0 ≤ z67 → z67 ≤ 21 → S 407 [[z63], [(z24 + (z32 + ((-18446744073709551616) * z33)))], [(List.getD r53 0 0), (List.getD r53 1 0), (List.getD r53 2 0), (List.getD r53 3 0), (List.getD r53 4 0), (List.getD r53 5 0), (List.getD r53 6 0), (List.getD r53 7 0), z64, (List.getD r53 9 0)]] [r65, [z67]] →
         (((decide (z27 = 1)) = true →
          (((decide (z67 = 0)) = true →
           K [[z0]] [[(cond (false) 1 0)]]
          ) ∧ ((decide (z67 = 0)) = false →
           ∀ z68 : Int, 0 ≤ z68 → z68 ≤ 1 → 0 ≤ (z26 + 9223372036854775809) - 18446744073709551616 * z68 → (z26 + 9223372036854775809) - 18446744073709551616 * z68 < 18446744073709551616 →
           chkD 39 [((z26 + ((-18446744073709551616) * z68)) + 1), 0, 9223372036854775807] ∧
           (I23 [[(z24 + (z32 + ((-18446744073709551616) * z33)))], [z25], [((z26 + ((-18446744073709551616) * z68)) + 1)], [1], [z48], [z52], [z51]] ∧ μ23 [[(z24 + (z32 + ((-18446744073709551616) * z33)))], [z25], [((z26 + ((-18446744073709551616) * z68)) + 1)], [1], [z48], [z52], [z51]] < μ23 [[z24], [z25], [z26], [z27], [z28], [z29], [z30]])
          ))
         ) ∧ ((decide (z27 = 1)) = false →
          (((decide (z67 = 0)) = true →
           K [[z0]] [[(cond (false) 1 0)]]
          ) ∧ ((decide (z67 = 0)) = false →
           ∀ z68 : Int, 0 ≤ z68 → z68 ≤ 1 → 0 ≤ (z26 + 9223372036854775809) - 18446744073709551616 * z68 → (z26 + 9223372036854775809) - 18446744073709551616 * z68 < 18446744073709551616 →
           chkD 39 [((z26 + ((-18446744073709551616) * z68)) + 1), 0, 9223372036854775807] ∧
           (I23 [[(z24 + (z32 + ((-18446744073709551616) * z33)))], [z25], [((z26 + ((-18446744073709551616) * z68)) + 1)], [0], [z48], [z52], [z51]] ∧ μ23 [[(z24 + (z32 + ((-18446744073709551616) * z33)))], [z25], [((z26 + ((-18446744073709551616) * z68)) + 1)], [0], [z48], [z52], [z51]] < μ23 [[z24], [z25], [z26], [z27], [z28], [z29], [z30]])
          ))
         ))
        ))
       ) ∧ ((decide (86500 < (z24 + (z32 + ((-18446744073709551616) * z33))))) = false →
        chkD 30 [z26, z3] ∧
        chkD 21 [z0, z26] ∧
        ∀ z53 : Int, 0 ≤ z53 → z53 ≤ 1 → z53 = fnD 21 [z0, z26, 2] →
        ((((!(decide (z53 = 1)))) = true →
         ((((!(decide (z49 = 11)))) = true →
          K [[z0]] [[(cond (false) 1 0)]]
         ) ∧ (((!(decide (z49 = 11)))) = false →
          ∀ r54 : List Int, inB [((-9223372036854775808), 9223372036854775807), (0, HB), (0, HB), (0, HB), (0, HB), ((-9223372036854775808), 9223372036854775807), ((-9223372036854775808), 9223372036854775807), ((-9223372036854775808), 9223372036854775807), (0, 1), ((-9223372036854775808), 9223372036854775807)] r54 → S 418 [] [r54] →
          chkD 22 [z48, 0, z52] ∧
          ∀ z64 : Int, 0 ≤ z64 → z64 ≤ RB → z64 = fnD 22 [z48, 0, z52] →
          ∀ z65 : Int, 0 ≤ z65 → z65 ≤ 1 → decide ((List.getD r54 8 0) = 1) = decide (z65 = 1) →
          ∀ r66 : List Int, inB (repB 0 HB 2) r66 → ∀ z68 : Int, 0 ≤ z68 → z68 ≤ 21 → S 407 [[z64], [(z24 + (z32 + ((-18446744073709551616) * z33)))], [(List.getD r54 0 0), (List.getD r54 1 0), (List.getD r54 2 0), (List.getD r54 3 0), (List.getD r54 4 0), (List.getD r54 5 0), (List.getD r54 6 0), (List.getD r54 7 0), z65, (List.getD r54 9 0)]] [r66, [z68]] →
          (((decide (z27 = 1)) = true →
           ((((!(decide (z68 = 0)))) = true →
            K [[z0]] [[(cond (false) 1 0)]]
           ) ∧ (((!(decide (z68 = 0)))) = false →
            ∀ z69 : Int, 0 ≤ z69 → z69 ≤ 1 → 0 ≤ (z26 + 9223372036854775809) - 18446744073709551616 * z69 → (z26 + 9223372036854775809) - 18446744073709551616 * z69 < 18446744073709551616 →
            chkD 39 [(z24 + (z32 + ((-18446744073709551616) * z33))), 0, 9223372036854775807] ∧
            chkD 39 [((z26 + ((-18446744073709551616) * z69)) + 1), 0, 9223372036854775807] ∧
            (I23 [[(z24 + (z32 + ((-18446744073709551616) * z33)))], [z25], [((z26 + ((-18446744073709551616) * z69)) + 1)], [1], [z48], [z52], [z51]] ∧ μ23 [[(z24 + (z32 + ((-18446744073709551616) * z33)))], [z25], [((z26 + ((-18446744073709551616) * z69)) + 1)], [1], [z48], [z52], [z51]] < μ23 [[z24], [z25], [z26], [z27], [z28], [z29], [z30]])
           ))
          ) ∧ ((decide (z27 = 1)) = false →
           (((decide (z68 = 0)) = true →
            K [[z0]] [[(cond (false) 1 0)]]
           ) ∧ ((decide (z68 = 0)) = false →
            ∀ z69 : Int, 0 ≤ z69 → z69 ≤ 1 → 0 ≤ (z26 + 9223372036854775809) - 18446744073709551616 * z69 → (z26 + 9223372036854775809) - 18446744073709551616 * z69 < 18446744073709551616 →
            chkD 39 [(z24 + (z32 + ((-18446744073709551616) * z33))), 0, 9223372036854775807] ∧
            chkD 39 [((z26 + ((-18446744073709551616) * z69)) + 1), 0, 9223372036854775807] ∧
            (I23 [[(z24 + (z32 + ((-18446744073709551616) * z33)))], [z25], [((z26 + ((-18446744073709551616) * z69)) + 1)], [0], [z48], [z52], [z51]] ∧ μ23 [[(z24 + (z32 + ((-18446744073709551616) * z33)))], [z25], [((z26 + ((-18446744073709551616) * z69)) + 1)], [0], [z48], [z52], [z51]] < μ23 [[z24], [z25], [z26], [z27], [z28], [z29], [z30]])
           ))
          ))
         ))
        ) ∧ (((!(decide (z53 = 1)))) = false →
         (((decide (z25 = 3)) = true →
          ((((!(decide (z49 = 16)))) = true →
           K [[z0]] [[(cond (false) 1 0)]]
          ) ∧ (((!(decide (z49 = 16)))) = false →
           ∀ r54 : List Int, inB [((-9223372036854775808), 9223372036854775807), (0, HB), (0, HB), (0, HB), (0, HB), ((-9223372036854775808), 9223372036854775807), ((-9223372036854775808), 9223372036854775807), ((-9223372036854775808), 9223372036854775807), (0, 1), ((-9223372036854775808), 9223372036854775807)] r54 → S 418 [] [r54] →
           chkD 22 [z48, 0, z52] ∧
           ∀ z64 : Int, 0 ≤ z64 → z64 ≤ RB → z64 = fnD 22 [z48, 0, z52] →
           ∀ z65 : Int, 0 ≤ z65 → z65 ≤ 1 → decide ((List.getD r54 8 0) = 1) = decide (z65 = 1) →
           ∀ r66 : List Int, inB (repB 0 HB 2) r66 → ∀ z68 : Int, 0 ≤ z68 → z68 ≤ 21 → S 407 [[z64], [(z24 + (z32 + ((-18446744073709551616) * z33)))], [(List.getD r54 0 0), (List.getD r54 1 0), (List.getD r54 2 0), (List.getD r54 3 0), (List.getD r54 4 0), (List.getD r54 5 0), (List.getD r54 6 0), (List.getD r54 7 0), z65, (List.getD r54 9 0)]] [r66, [z68]] →
           (((decide (z27 = 1)) = true →
            ((((!(decide (z68 = 0)))) = true →
             K [[z0]] [[(cond (false) 1 0)]]
            ) ∧ (((!(decide (z68 = 0)))) = false →
             ∀ z69 : Int, 0 ≤ z69 → z69 ≤ 1 → 0 ≤ (z26 + 9223372036854775809) - 18446744073709551616 * z69 → (z26 + 9223372036854775809) - 18446744073709551616 * z69 < 18446744073709551616 →
             chkD 39 [(z24 + (z32 + ((-18446744073709551616) * z33))), 0, 9223372036854775807] ∧
             chkD 39 [((z26 + ((-18446744073709551616) * z69)) + 1), 0, 9223372036854775807] ∧
             (I23 [[(z24 + (z32 + ((-18446744073709551616) * z33)))], [z25], [((z26 + ((-18446744073709551616) * z69)) + 1)], [1], [z48], [z52], [z51]] ∧ μ23 [[(z24 + (z32 + ((-18446744073709551616) * z33)))], [z25], [((z26 + ((-18446744073709551616) * z69)) + 1)], [1], [z48], [z52], [z51]] < μ23 [[z24], [z25], [z26], [z27], [z28], [z29], [z30]])
            ))
           ) ∧ ((decide (z27 = 1)) = false →
            (((decide (z68 = 0)) = true →
             K [[z0]] [[(cond (false) 1 0)]]
            ) ∧ ((decide (z68 = 0)) = false →
             ∀ z69 : Int, 0 ≤ z69 → z69 ≤ 1 → 0 ≤ (z26 + 9223372036854775809) - 18446744073709551616 * z69 → (z26 + 9223372036854775809) - 18446744073709551616 * z69 < 18446744073709551616 →
             chkD 39 [(z24 + (z32 + ((-18446744073709551616) * z33))), 0, 9223372036854775807] ∧
             chkD 39 [((z26 + ((-18446744073709551616) * z69)) + 1), 0, 9223372036854775807] ∧
             (I23 [[(z24 + (z32 + ((-18446744073709551616) * z33)))], [z25], [((z26 + ((-18446744073709551616) * z69)) + 1)], [0], [z48], [z52], [z51]] ∧ μ23 [[(z24 + (z32 + ((-18446744073709551616) * z33)))], [z25], [((z26 + ((-18446744073709551616) * z69)) + 1)], [0], [z48], [z52], [z51]] < μ23 [[z24], [z25], [z26], [z27], [z28], [z29], [z30]])
            ))
           ))
          ))
         ) ∧ ((decide (z25 = 3)) = false →
          chkD 30 [z26, z3] ∧
          chkD 21 [z0, z26] ∧
          ∀ z54 : Int, 0 ≤ z54 → z54 ≤ 1 → z54 = fnD 21 [z0, z26, 1] →
          ((((!(decide (z54 = 1)))) = true →
           ∀ z55 : Int, 0 ≤ z55 → z55 ≤ 1 → 0 ≤ (z25 + 9223372036854775809) - 18446744073709551616 * z55 → (z25 + 9223372036854775809) - 18446744073709551616 * z55 < 18446744073709551616 →
           ((((!(decide (z49 = 12)))) = true →
            K [[z0]] [[(cond (false) 1 0)]]
           ) ∧ (((!(decide (z49 = 12)))) = false →
            ∀ r56 : List Int, inB [((-9223372036854775808), 9223372036854775807), (0, HB), (0, HB), (0, HB), (0, HB), ((-9223372036854775808), 9223372036854775807), ((-9223372036854775808), 9223372036854775807), ((-9223372036854775808), 9223372036854775807), (0, 1), ((-9223372036854775808), 9223372036854775807)] r56 → S 418 [] [r56] →
            chkD 22 [z48, 0, z52] ∧
            ∀ z66 : Int, 0 ≤ z66 → z66 ≤ RB → z66 = fnD 22 [z48, 0, z52] →
            ∀ z67 : Int, 0 ≤ z67 → z67 ≤ 1 → decide ((List.getD r56 8 0) = 1) = decide (z67 = 1) →
            ∀ r68 : List Int, inB (repB 0 HB 2) r68 → ∀ z70 : Int, 0 ≤ z70 → z70 ≤ 21 → S 407 [[z66], [(z24 + (z32 + ((-18446744073709551616) * z33)))], [(List.getD r56 0 0), (List.getD r56 1 0), (List.getD r56 2 0), (List.getD r56 3 0), (List.getD r56 4 0), (List.getD r56 5 0), (List.getD r56 6 0), (List.getD r56 7 0), z67, (List.getD r56 9 0)]] [r68, [z70]] →
            (((decide (z27 = 1)) = true →
             ((((!(decide (z70 = 0)))) = true →
              K [[z0]] [[(cond (false) 1 0)]]
             ) ∧ (((!(decide (z70 = 0)))) = false →
              ∀ z71 : Int, 0 ≤ z71 → z71 ≤ 1 → 0 ≤ (z26 + 9223372036854775809) - 18446744073709551616 * z71 → (z26 + 9223372036854775809) - 18446744073709551616 * z71 < 18446744073709551616 →
              chkD 39 [(z24 + (z32 + ((-18446744073709551616) * z33))), 0, 9223372036854775807] ∧
              chkD 39 [((z25 + ((-18446744073709551616) * z55)) + 1), 0, 9223372036854775807] ∧
              chkD 39 [((z26 + ((-18446744073709551616) * z71)) + 1), 0, 9223372036854775807] ∧
              (I23 [[(z24 + (z32 + ((-18446744073709551616) * z33)))], [((z25 + ((-18446744073709551616) * z55)) + 1)], [((z26 + ((-18446744073709551616) * z71)) + 1)], [1], [z48], [z52], [z51]] ∧ μ23 [[(z24 + (z32 + ((-18446744073709551616) * z33)))], [((z25 + ((-18446744073709551616) * z55)) + 1)], [((z26 + ((-18446744073709551616) * z71)) + 1)], [1], [z48], [z52], [z51]] < μ23 [[z24], [z25], [z26], [z27], [z28], [z29], [z30]])
             ))
            ) ∧ ((decide (z27 = 1)) = false →
             (((decide (z70 = 0)) = true →
              K [[z0]] [[(cond (false) 1 0)]]
             ) ∧ ((decide (z70 = 0)) = false →
              ∀ z71 : Int, 0 ≤ z71 → z71 ≤ 1 → 0 ≤ (z26 + 9223372036854775809) - 18446744073709551616 * z71 → (z26 + 9223372036854775809) - 18446744073709551616 * z71 < 18446744073709551616 →
              chkD 39 [(z24 + (z32 + ((-18446744073709551616) * z33))), 0, 9223372036854775807] ∧
              chkD 39 [((z25 + ((-18446744073709551616) * z55)) + 1), 0, 9223372036854775807] ∧
              chkD 39 [((z26 + ((-18446744073709551616) * z71)) + 1), 0, 9223372036854775807] ∧
              (I23 [[(z24 + (z32 + ((-18446744073709551616) * z33)))], [((z25 + ((-18446744073709551616) * z55)) + 1)], [((z26 + ((-18446744073709551616) * z71)) + 1)], [0], [z48], [z52], [z51]] ∧ μ23 [[(z24 + (z32 + ((-18446744073709551616) * z33)))], [((z25 + ((-18446744073709551616) * z55)) + 1)], [((z26 + ((-18446744073709551616) * z71)) + 1)], [0], [z48], [z52], [z51]] < μ23 [[z24], [z25], [z26], [z27], [z28], [z29], [z30]])
             ))
            ))
           ))
          ) ∧ (((!(decide (z54 = 1)))) = false →
           ((((!(decide (z49 = 0)))) = true →
            K [[z0]] [[(cond (false) 1 0)]]
           ) ∧ (((!(decide (z49 = 0)))) = false →
            ∀ r55 : List Int, inB [((-9223372036854775808), 9223372036854775807), (0, HB), (0, HB), (0, HB), (0, HB), ((-9223372036854775808), 9223372036854775807), ((-9223372036854775808), 9223372036854775807), ((-9223372036854775808), 9223372036854775807), (0, 1), ((-9223372036854775808), 9223372036854775807)] r55 → S 418 [] [r55] →
            chkD 22 [z48, 0, z52] ∧
            ∀ z65 : Int, 0 ≤ z65 → z65 ≤ RB → z65 = fnD 22 [z48, 0, z52] →
            ∀ z66 : Int, 0 ≤ z66 → z66 ≤ 1 → decide ((List.getD r55 8 0) = 1) = decide (z66 = 1) →
            ∀ r67 : List Int, inB (repB 0 HB 2) r67 → ∀ z69 : Int, 0 ≤ z69 → z69 ≤ 21 → S 407 [[z65], [(z24 + (z32 + ((-18446744073709551616) * z33)))], [(List.getD r55 0 0), (List.getD r55 1 0), (List.getD r55 2 0), (List.getD r55 3 0), (List.getD r55 4 0), (List.getD r55 5 0), (List.getD r55 6 0), (List.getD r55 7 0), z66, (List.getD r55 9 0)]] [r67, [z69]] →
            ((((!(decide (z69 = 0)))) = true →
             K [[z0]] [[(cond (false) 1 0)]]
            ) ∧ (((!(decide (z69 = 0)))) = false →
             ∀ z70 : Int, 0 ≤ z70 → z70 ≤ 1 → 0 ≤ (z26 + 9223372036854775809) - 18446744073709551616 * z70 → (z26 + 9223372036854775809) - 18446744073709551616 * z70 < 18446744073709551616 →
             chkD 39 [(z24 + (z32 + ((-18446744073709551616) * z33))), 0, 9223372036854775807] ∧
             chkD 39 [((z26 + ((-18446744073709551616) * z70)) + 1), 0, 9223372036854775807] ∧
             (I23 [[(z24 + (z32 + ((-18446744073709551616) * z33)))], [z25], [((z26 + ((-18446744073709551616) * z70)) + 1)], [1], [z48], [z52], [z51]] ∧ μ23 [[(z24 + (z32 + ((-18446744073709551616) * z33)))], [z25], [((z26 + ((-18446744073709551616) * z70)) + 1)], [1], [z48], [z52], [z51]] < μ23 [[z24], [z25], [z26], [z27], [z28], [z29], [z30]])
            ))
           ))
          ))
         ))
        ))
       ))
      ) ∧ (((!(decide (z45 = 1)))) = false →
       chkD 22 [z28, 0, z29] ∧
       ∀ z46 : Int, 0 ≤ z46 → z46 ≤ RB → z46 = fnD 22 [z28, 0, z29] →
       ∀ z47 : Int, 0 ≤ z47 → z47 ≤ 1 → decide ((List.getD r34 8 0) = 1) = decide (z47 = 1) →
       ∀ z48 : Int, 0 ≤ z48 → z48 ≤ RB → ∀ z49 : Int, 0 ≤ z49 → z49 ≤ 21 → S 408 [[z46], [(z24 + (z32 + ((-18446744073709551616) * z33)))], [(List.getD r34 0 0), (List.getD r34 1 0), (List.getD r34 2 0), (List.getD r34 3 0), (List.getD r34 4 0), (List.getD r34 5 0), (List.getD r34 6 0), (List.getD r34 7 0), z47, (List.getD r34 9 0)]] [[z48], [z49]] →
       ∀ z50 : Int, 0 ≤ z50 →
       ∀ z51 : Int, (-1) ≤ z51 → z51 ≤ 9223372036854775807 → 
       ∀ z52 : Int, 0 ≤ z52 → z52 ≤ 9223372036854775807 → z52 = fnD 20 [z48] →
       (((decide (86500 < (z24 + (z32 + ((-18446744073709551616) * z33))))) = true →
        ((((!(decide (z49 = 11)))) = true →
         K [[z0]] [[(cond (false) 1 0)]]
        ) ∧ (((!(decide (z49 = 11)))) = false →
         ∀ r53 : List Int, inB [((-9223372036854775808), 9223372036854775807), (0, HB), (0, HB), (0, HB), (0, HB), ((-9223372036854775808), 9223372036854775807), ((-9223372036854775808), 9223372036854775807), ((-9223372036854775808), 9223372036854775807), (0, 1), ((-9223372036854775808), 9223372036854775807)] r53 → S 418 [] [r53] →
         chkD 22 [z48, 0, z52] ∧
         ∀ z63 : Int, 0 ≤ z63 → z63 ≤ RB → z63 = fnD 22 [z48, 0, z52] →
         ∀ z64 : Int, 0 ≤ z64 → z64 ≤ 1 → decide ((List.getD r53 8 0) = 1) = decide (z64 = 1) →
         ∀ r65 : List Int, inB (repB 0 HB 2) r65 → ∀ z67 : Int, 0 ≤ z67 → z67 ≤ 21 → S 407 [[z63], [(z24 + (z32 + ((-18446744073709551616) * z33)))], [(List.getD r53 0 0), (List.getD r53 1 0), (List.getD r53 2 0), (List.getD r53 3 0), (List.getD r53 4 0), (List.getD r53 5 0), (List.getD r53 6 0), (List.getD r53 7 0), z64, (List.getD r53 9 0)]] [r65, [z67]] →
         (((decide (z27 = 1)) = true →
          (((decide (z67 = 0)) = true →
           K [[z0]] [[(cond (false) 1 0)]]
          ) ∧ ((decide (z67 = 0)) = false →
           ∀ z68 : Int, 0 ≤ z68 → z68 ≤ 1 → 0 ≤ (z26 + 9223372036854775809) - 18446744073709551616 * z68 → (z26 + 9223372036854775809) - 18446744073709551616 * z68 < 18446744073709551616 →
           chkD 39 [((z26 + ((-18446744073709551616) * z68)) + 1), 0, 9223372036854775807] ∧
           (I23 [[(z24 + (z32 + ((-18446744073709551616) * z33)))], [z25], [((z26 + ((-18446744073709551616) * z68)) + 1)], [1], [z48], [z52], [z51]] ∧ μ23 [[(z24 + (z32 + ((-18446744073709551616) * z33)))], [z25], [((z26 + ((-18446744073709551616) * z68)) + 1)], [1], [z48], [z52], [z51]] < μ23 [[z24], [z25], [z26], [z27], [z28], [z29], [z30]])
          ))
         ) ∧ ((decide (z27 = 1)) = false →
          (((decide (z67 = 0)) = true →
           K [[z0]] [[(cond (false) 1 0)]]
          ) ∧ ((decide (z67 = 0)) = false →
           ∀ z68 : Int, 0 ≤ z68 → z68 ≤ 1 → 0 ≤ (z26 + 9223372036854775809) - 18446744073709551616 * z68 → (z26 + 9223372036854775809) - 18446744073709551616 * z68 < 18446744073709551616 →
           chkD 39 [((z26 + ((-18446744073709551616) * z68)) + 1), 0, 9223372036854775807] ∧
           (I23 [[(z24 + (z32 + ((-18446744073709551616) * z33)))], [z25], [((z26 + ((-18446744073709551616) * z68)) + 1)], [0], [z48], [z52], [z51]] ∧ μ23 [[(z24 + (z32 + ((-18446744073709551616) * z33)))], [z25], [((z26 + ((-18446744073709551616) * z68)) + 1)], [0], [z48], [z52], [z51]] < μ23 [[z24], [z25], [z26], [z27], [z28], [z29], [z30]])
          ))
         ))
        ))
       ) ∧ ((decide (86500 < (z24 + (z32 + ((-18446744073709551616) * z33))))) = false →
        chkD 30 [z26, z3] ∧
        chkD 21 [z0, z26] ∧
        ∀ z53 : Int, 0 ≤ z53 → z53 ≤ 1 → z53 = fnD 21 [z0, z26, 2] →
        ((((!(decide (z53 = 1)))) = true →
         ((((!(decide (z49 = 11)))) = true →
          K [[z0]] [[(cond (false) 1 0)]]
         ) ∧ (((!(decide (z49 = 11)))) = false →
          ∀ r54 : List Int, inB [((-9223372036854775808), 9223372036854775807), (0, HB), (0, HB), (0, HB), (0, HB), ((-9223372036854775808), 9223372036854775807), ((-9223372036854775808), 9223372036854775807), ((-9223372036854775808), 9223372036854775807), (0, 1), ((-9223372036854775808), 9223372036854775807)] r54 → S 418 [] [r54] →
          chkD 22 [z48, 0, z52] ∧
          ∀ z64 : Int, 0 ≤ z64 → z64 ≤ RB → z64 = fnD 22 [z48, 0, z52] →
          ∀ z65 : Int, 0 ≤ z65 → z65 ≤ 1 → decide ((List.getD r54 8 0) = 1) = decide (z65 = 1) →
          ∀ r66 : List Int, inB (repB 0 HB 2) r66 → ∀ z68 : Int, 0 ≤ z68 → z68 ≤ 21 → S 407 [[z64], [(z24 + (z32 + ((-18446744073709551616) * z33)))], [(List.getD r54 0 0), (List.getD r54 1 0), (List.getD r54 2 0), (List.getD r54 3 0), (List.getD r54 4 0), (List.getD r54 5 0), (List.getD r54 6 0), (List.getD r54 7 0), z65, (List.getD r54 9 0)]] [r66, [z68]] →
          (((decide (z27 = 1)) = true →
           ((((!(decide (z68 = 0)))) = true →
            K [[z0]] [[(cond (false) 1 0)]]
           ) ∧ (((!(decide (z68 = 0)))) = false →
            ∀ z69 : Int, 0 ≤ z69 → z69 ≤ 1 → 0 ≤ (z26 + 9223372036854775809) - 18446744073709551616 * z69 → (z26 + 9223372036854775809) - 18446744073709551616 * z69 < 18446744073709551616 →
            chkD 39 [(z24 + (z32 + ((-18446744073709551616) * z33))), 0, 9223372036854775807] ∧
            chkD 39 [((z26 + ((-18446744073709551616) * z69)) + 1), 0, 9223372036854775807] ∧
            (I23 [[(z24 + (z32 + ((-18446744073709551616) * z33)))], [z25], [((z26 + ((-18446744073709551616) * z69)) + 1)], [1], [z48], [z52], [z51]] ∧ μ23 [[(z24 + (z32 + ((-18446744073709551616) * z33)))], [z25], [((z26 + ((-18446744073709551616) * z69)) + 1)], [1], [z48], [z52], [z51]] < μ23 [[z24], [z25], [z26], [z27], [z28], [z29], [z30]])
           ))
          ) ∧ ((decide (z27 = 1)) = false →
           (((decide (z68 = 0)) = true →
            K [[z0]] [[(cond (false) 1 0)]]
           ) ∧ ((decide (z68 = 0)) = false →
            ∀ z69 : Int, 0 ≤ z69 → z69 ≤ 1 → 0 ≤ (z26 + 9223372036854775809) - 18446744073709551616 * z69 → (z26 + 9223372036854775809) - 18446744073709551616 * z69 < 18446744073709551616 →
            chkD 39 [(z24 + (z32 + ((-18446744073709551616) * z33))), 0, 9223372036854775807] ∧
            chkD 39 [((z26 + ((-18446744073709551616) * z69)) + 1), 0, 9223372036854775807] ∧
            (I23 [[(z24 + (z32 + ((-18446744073709551616) * z33)))], [z25], [((z26 + ((-18446744073709551616) * z69)) + 1)], [0], [z48], [z52], [z51]] ∧ μ23 [[(z24 + (z32 + ((-18446744073709551616) * z33)))], [z25], [((z26 + ((-18446744073709551616) * z69)) + 1)], [0], [z48], [z52], [z51]] < μ23 [[z24], [z25], [z26], [z27], [z28], [z29], [z30]])
           ))
          ))
         ))
        ) ∧ (((!(decide (z53 = 1)))) = false →
         (((decide (z25 = 3)) = true →
          ((((!(decide (z49 = 16)))) = true →
           K [[z0]] [[(cond (false) 1 0)]]
          ) ∧ (((!(decide (z49 = 16)))) = false →
           ∀ r54 : List Int, inB [((-9223372036854775808), 9223372036854775807), (0, HB), (0, HB), (0, HB), (0, HB), ((-9223372036854775808), 9223372036854775807), ((-9223372036854775808), 9223372036854775807), ((-9223372036854775808), 9223372036854775807), (0, 1), ((-9223372036854775808), 9223372036854775807)] r54 → S 418 [] [r54] →
           chkD 22 [z48, 0, z52] ∧
           ∀ z64 : Int, 0 ≤ z64 → z64 ≤ RB → z64 = fnD 22 [z48, 0, z52] →
           ∀ z65 : Int, 0 ≤ z65 → z65 ≤ 1 → decide ((List.getD r54 8 0) = 1) = decide (z65 = 1) →
           ∀ r66 : List Int, inB (repB 0 HB 2) r66 → ∀ z68 : Int, 0 ≤ z68 → z68 ≤ 21 → S 407 [[z64], [(z24 + (z32 + ((-18446744073709551616) * z33)))], [(List.getD r54 0 0), (List.getD r54 1 0), (List.getD r54 2 0), (List.getD r54 3 0), (List.getD r54 4 0), (List.getD r54 5 0), (List.getD r54 6 0), (List.getD r54 7 0), z65, (List.getD r54 9 0)]] [r66, [z68]] →
           (((decide (z27 = 1)) = true →
            ((((!(decide (z68 = 0)))) = true →
             K [[z0]] [[(cond (false) 1 0)]]
            ) ∧ (((!(decide (z68 = 0)))) = false →
             ∀ z69 : Int, 0 ≤ z69 → z69 ≤ 1 → 0 ≤ (z26 + 9223372036854775809) - 18446744073709551616 * z69 → (z26 + 9223372036854775809) - 18446744073709551616 * z69 < 18446744073709551616 →
             chkD 39 [(z24 + (z32 + ((-18446744073709551616) * z33))), 0, 9223372036854775807] ∧
             chkD 39 [((z26 + ((-18446744073709551616) * z69)) + 1), 0, 9223372036854775807] ∧
             (I23 [[(z24 + (z32 + ((-18446744073709551616) * z33)))], [z25], [((z26 + ((-18446744073709551616) * z69)) + 1)], [1], [z48], [z52], [z51]] ∧ μ23 [[(z24 + (z32 + ((-18446744073709551616) * z33)))], [z25], [((z26 + ((-18446744073709551616) * z69)) + 1)], [1], [z48], [z52], [z51]] < μ23 [[z24], [z25], [z26], [z27], [z28], [z29], [z30]])
            ))
           ) ∧ ((decide (z27 = 1)) = false →
            (((decide (z68 = 0)) = true →
             K [[z0]] [[(cond (false) 1 0)]]
            ) ∧ ((decide (z68 = 0)) = false →
             ∀ z69 : Int, 0 ≤ z69 → z69 ≤ 1 → 0 ≤ (z26 + 9223372036854775809) - 18446744073709551616 * z69 → (z26 + 9223372036854775809) - 18446744073709551616 * z69 < 18446744073709551616 →
             chkD 39 [(z24 + (z32 + ((-18446744073709551616) * z33))), 0, 9223372036854775807] ∧
             chkD 39 [((z26 + ((-18446744073709551616) * z69)) + 1), 0, 9223372036854775807] ∧
             (I23 [[(z24 + (z32 + ((-18446744073709551616) * z33)))], [z25], [((z26 + ((-18446744073709551616) * z69)) + 1)], [0], [z48], [z52], [z51]] ∧ μ23 [[(z24 + (z32 + ((-18446744073709551616) * z33)))], [z25], [((z26 + ((-18446744073709551616) * z69)) + 1)], [0], [z48], [z52], [z51]] < μ23 [[z24], [z25], [z26], [z27], [z28], [z29], [z30]])
            ))
           ))
          ))
         ) ∧ ((decide (z25 = 3)) = false →
          chkD 30 [z26, z3] ∧
          chkD 21 [z0, z26] ∧
          ∀ z54 : Int, 0 ≤ z54 → z54 ≤ 1 → z54 = fnD 21 [z0, z26, 1] →
          ((((!(decide (z54 = 1)))) = true →
           ∀ z55 : Int, 0 ≤ z55 → z55 ≤ 1 → 0 ≤ (z25 + 9223372036854775809) - 18446744073709551616 * z55 → (z25 + 9223372036854775809) - 18446744073709551616 * z55 < 18446744073709551616 →
           ((((!(decide (z49 = 12)))) = true →
            K [[z0]] [[(cond (false) 1 0)]]
           ) ∧ (((!(decide (z49 = 12)))) = false →
            ∀ r56 : List Int, inB [((-9223372036854775808), 9223372036854775807), (0, HB), (0, HB), (0, HB), (0, HB), ((-9223372036854775808), 9223372036854775807), ((-9223372036854775808), 9223372036854775807), ((-9223372036854775808), 9223372036854775807), (0, 1), ((-9223372036854775808), 9223372036854775807)] r56 → S 418 [] [r56] →
            chkD 22 [z48, 0, z52] ∧
            ∀ z66 : Int, 0 ≤ z66 → z66 ≤ RB → z66 = fnD 22 [z48, 0, z52] →
            ∀ z67 : Int, 0 ≤ z67 → z67 ≤ 1 → decide ((List.getD r56 8 0) = 1) = decide (z67 = 1) →
            ∀ r68 : List Int, inB (repB 0 HB 2) r68 → ∀ z70 : Int, 0 ≤ z70 → z70 ≤ 21 → S 407 [[z66], [(z24 + (z32 + ((-18446744073709551616) * z33)))], [(List.getD r56 0 0), (List.getD r56 1 0), (List.getD r56 2 0), (List.getD r56 3 0), (List.getD r56 4 0), (List.getD r56 5 0), (List.getD r56 6 0), (List.getD r56 7 0), z67, (List.getD r56 9 0)]] [r68, [z70]] →
            (((decide (z27 = 1)) = true →
             ((((!(decide (z70 = 0)))) = true →
              K [[z0]] [[(cond (false) 1 0)]]
             ) ∧ (((!(decide (z70 = 0)))) = false →
              ∀ z71 : Int, 0 ≤ z71 → z71 ≤ 1 → 0 ≤ (z26 + 9223372036854775809) - 18446744073709551616 * z71 → (z26 + 9223372036854775809) - 18446744073709551616 * z71 < 18446744073709551616 →
              chkD 39 [(z24 + (z32 + ((-18446744073709551616) * z33))), 0, 9223372036854775807] ∧
              chkD 39 [((z25 + ((-18446744073709551616) * z55)) + 1), 0, 9223372036854775807] ∧
              chkD 39 [((z26 + ((-18446744073709551616) * z71)) + 1), 0, 9223372036854775807] ∧
              (I23 [[(z24 + (z32 + ((-18446744073709551616) * z33)))], [((z25 + ((-18446744073709551616) * z55)) + 1)], [((z26 + ((-18446744073709551616) * z71)) + 1)], [1], [z48], [z52], [z51]] ∧ μ23 [[(z24 + (z32 + ((-18446744073709551616) * z33)))], [((z25 + ((-18446744073709551616) * z55)) + 1)], [((z26 + ((-18446744073709551616) * z71)) + 1)], [1], [z48], [z52], [z51]] < μ23 [[z24], [z25], [z26], [z27], [z28], [z29], [z30]])
             ))
            ) ∧ ((decide (z27 = 1)) = false →
             (((decide (z70 = 0)) = true →
              K [[z0]] [[(cond (false) 1 0)]]
             ) ∧ ((decide (z70 = 0)) = false →
              ∀ z71 : Int, 0 ≤ z71 → z71 ≤ 1 → 0 ≤ (z26 + 9223372036854775809) - 18446744073709551616 * z71 → (z26 + 9223372036854775809) - 18446744073709551616 * z71 < 18446744073709551616 →
              chkD 39 [(z24 + (z32 + ((-18446744073709551616) * z33))), 0, 9223372036854775807] ∧
              chkD 39 [((z25 + ((-18446744073709551616) * z55)) + 1), 0, 9223372036854775807] ∧
              chkD 39 [((z26 + ((-18446744073709551616) * z71)) + 1), 0, 9223372036854775807] ∧
              (I23 [[(z24 + (z32 + ((-18446744073709551616) * z33)))], [((z25 + ((-18446744073709551616) * z55)) + 1)], [((z26 + ((-18446744073709551616) * z71)) + 1)], [0], [z48], [z52], [z51]] ∧ μ23 [[(z24 + (z32 + ((-18446744073709551616) * z33)))], [((z25 + ((-18446744073709551616) * z55)) + 1)], [((z26 + ((-18446744073709551616) * z71)) + 1)], [0], [z48], [z52], [z51]] < μ23 [[z24], [z25], [z26], [z27], [z28], [z29], [z30]])
             ))
            ))
           ))
          ) ∧ (((!(decide (z54 = 1)))) = false →
           ((((!(decide (z49 = 0)))) = true →
            K [[z0]] [[(cond (false) 1 0)]]
           ) ∧ (((!(decide (z49 = 0)))) = false →
            ∀ r55 : List Int, inB [((-9223372036854775808), 9223372036854775807), (0, HB), (0, HB), (0, HB), (0, HB), ((-9223372036854775808), 9223372036854775807), ((-9223372036854775808), 9223372036854775807), ((-9223372036854775808), 9223372036854775807), (0, 1), ((-9223372036854775808), 9223372036854775807)] r55 → S 418 [] [r55] →
            chkD 22 [z48, 0, z52] ∧
            ∀ z65 : Int, 0 ≤ z65 → z65 ≤ RB → z65 = fnD 22 [z48, 0, z52] →
            ∀ z66 : Int, 0 ≤ z66 → z66 ≤ 1 → decide ((List.getD r55 8 0) = 1) = decide (z66 = 1) →
            ∀ r67 : List Int, inB (repB 0 HB 2) r67 → ∀ z69 : Int, 0 ≤ z69 → z69 ≤ 21 → S 407 [[z65], [(z24 + (z32 + ((-18446744073709551616) * z33)))], [(List.getD r55 0 0), (List.getD r55 1 0), (List.getD r55 2 0), (List.getD r55 3 0), (List.getD r55 4 0), (List.getD r55 5 0), (List.getD r55 6 0), (List.getD r55 7 0), z66, (List.getD r55 9 0)]] [r67, [z69]] →
            ((((!(decide (z69 = 0)))) = true →
             K [[z0]] [[(cond (false) 1 0)]]
            ) ∧ (((!(decide (z69 = 0)))) = false →
             ∀ z70 : Int, 0 ≤ z70 → z70 ≤ 1 → 0 ≤ (z26 + 9223372036854775809) - 18446744073709551616 * z70 → (z26 + 9223372036854775809) - 18446744073709551616 * z70 < 18446744073709551616 →
             chkD 39 [(z24 + (z32 + ((-18446744073709551616) * z33))), 0, 9223372036854775807] ∧
             chkD 39 [((z26 + ((-18446744073709551616) * z70)) + 1), 0, 9223372036854775807] ∧
             (I23 [[(z24 + (z32 + ((-18446744073709551616) * z33)))], [z25], [((z26 + ((-18446744073709551616) * z70)) + 1)], [1], [z48], [z52], [z51]] ∧ μ23 [[(z24 + (z32 + ((-18446744073709551616) * z33)))], [z25], [((z26 + ((-18446744073709551616) * z70)) + 1)], [1], [z48], [z52], [z51]] < μ23 [[z24], [z25], [z26], [z27], [z28], [z29], [z30]])
            ))
           ))
          ))
         ))
        ))
       ))
      ))
     ))
    ) ∧ ((decide (z26 < z3)) = false →
     K [[z0]] [[(cond (decide (z19 = 0)) 1 0)]]
    ))
   )
  ))
 ))
/-! ### Sessions: a token, brought back again and again -/
noncomputable abbrev bdSS : List (Int × Int) := [((-9223372036854775808), 9223372036854775807), (0, HB), (0, HB), (0, HB), (0, HB), ((-9223372036854775808), 9223372036854775807), ((-9223372036854775808), 9223372036854775807), ((-9223372036854775808), 9223372036854775807), (0, 1), ((-9223372036854775808), 9223372036854775807)]
def Tk (w b a : Int) : Se := { aS with wrong := w, shown := b, shAt := a }
def TkGood (w b a : Int) : Prop := (0 ≤ w ∧ w ≤ 3) ∧ ((b = 0 ∧ a = 0) ∨ (b = 1 ∧ 0 ≤ a ∧ a ≤ 1099511627776))
theorem tk_right {w b a : Int} (h : TkGood w b a) : rightS [Tk w b a] = true := by
  refine (rightS_iff _).2 ⟨by simp, fun i hi => ?_⟩
  obtain rfl : i = 0 := by simpa using hi
  refine ⟨?_, fun j hj => absurd hj (Nat.not_lt_zero j)⟩
  obtain ⟨h1, h2⟩ := h
  have e : seOk (Tk w b a) = ((decide (1 ≤ (5 : Int)) && decide ((5 : Int) ≤ 1099511627776)) && (timedF 100 && timedF a) && (decide (1 ≤ (1 : Int)) && decide ((1 : Int) ≤ 1000) && (decide (0 ≤ w) && decide (w ≤ 3))) && (decide (b = 1) || decide (a = 0)) && (secF [115] && (secF [116] && rightF [101, 109, 97, 105, 108] [97, 64, 98, 46, 99]))) := rfl
  show seOk (Tk w b a) = true
  rw [e, show secF [115] = true by decide +kernel, show secF [116] = true by decide +kernel, show rightF [101, 109, 97, 105, 108] [97, 64, 98, 46, 99] = true by decide +kernel, show timedF 100 = true by decide]
  unfold timedF
  simp only [Bool.and_eq_true, Bool.or_eq_true, decide_eq_true_eq, Bool.and_true, Bool.true_and]
  omega
theorem openT {w b a n : Int} {W : Se} (h : TkGood w b a) (hid : W.id = 5) (hn : 100 ≤ n ∧ n ≤ 1099511627776) : openF [Tk w b a] n W = cond (decide (86500 < n) || !decide (W.sec = [115])) (0, 11) (0, 0) := by
  unfold openF
  have ht : timedF n = true := by unfold timedF; rw [decide_eq_true (by omega), decide_eq_true (by omega)]; rfl
  have ho : oldF (Tk w b a) n = decide (86500 < n) := by
    unfold oldF
    rw [show (Tk w b a).since = 100 from rfl, w64_id (by omega) (by omega), Bool.eq_iff_iff]
    simp only [decide_eq_true_eq]; omega
  have hf : [Tk w b a].findIdx? (fun s => decide (s.id = W.id)) = some 0 := findIdx_at (by simp) (decide_eq_true hid.symm) (fun j hj => absurd hj (Nat.not_lt_zero j))
  have hs : decide ((([Tk w b a] : List Se).getD 0 se0).sec = W.sec) = decide (W.sec = [115]) := by
    show decide (([115] : Tx) = W.sec) = _
    rw [Bool.eq_iff_iff]; simp only [decide_eq_true_eq]; exact ⟨Eq.symm, Eq.symm⟩
  rw [ht, tk_right h, hf]
  simp only [Bool.and_self, cond_true]
  rw [hs, show oldF (([Tk w b a] : List Se).getD 0 se0) n = decide (86500 < n) from ho]
  cases decide (86500 < n) <;> cases decide (W.sec = [115]) <;> rfl
theorem submitT {w b a n : Int} {W : Se} (h : TkGood w b a) (hid : W.id = 5) (hn : 100 ≤ n ∧ n ≤ 1099511627776) : submitF [Tk w b a] n W = cond (decide (86500 < n) || !decide (W.sec = [115])) ([Tk w b a], 11) (cond (decide (w = 3)) ([Tk w b a], 16) (cond (decide (W.tok = [116])) (cond (decide (b = 1)) ([Tk w b a], 0) ([Tk w 1 n], 0)) ([Tk (w + 1) b a], 12))) := by
  unfold submitF
  rw [openT h hid hn]
  cases (decide (86500 < n) || !decide (W.sec = [115])) with
  | true => rfl
  | false =>
    have ht : decide ((Tk w b a).tok = W.tok) = decide (W.tok = [116]) := by
      show decide (([116] : Tx) = W.tok) = _
      rw [Bool.eq_iff_iff]; simp only [decide_eq_true_eq]; exact ⟨Eq.symm, Eq.symm⟩
    show submitS [Tk w b a] n W 0 (Tk w b a) = _
    unfold submitS
    rw [ht]
    rfl
theorem shownT {w b a n : Int} (h : TkGood w b a) (hn : 100 ≤ n ∧ n ≤ 1099511627776) : (shownF [Tk w b a] n aS).2 = cond (decide (86500 < n)) 11 (cond (decide (b = 1)) 0 14) := by
  unfold shownF
  rw [openT h (W := aS) rfl hn, show decide (aS.sec = [115]) = true by decide, Bool.not_true, Bool.or_false]
  cases decide (86500 < n) with
  | true => rfl
  | false =>
    show (cond (decide (b = 1)) (aS.who, (0 : Int)) (([], []), 14)).2 = cond (decide (b = 1)) 0 14
    cases decide (b = 1) <;> rfl
def TkI (z0 : Int) (bl : List (List Int)) : Prop := ∃ (n w b c l q a : Int) (i : Nat), bl = [[n], [w], [(i : Int)], [b], [c], [l], [q]] ∧ i ≤ (rOf z0).length ∧ (100 ≤ n ∧ n ≤ 100 + 65535 * (i : Int)) ∧ TkGood w b a ∧ ses c = [Tk w b a] ∧ l = ((rOf c).length : Int)
def TkM (z0 : Int) (bl : List (List Int)) : Nat := (rOf z0).length - ((bl.getD 2 []).getD 0 0).toNat
theorem p_ltoken : B_ltoken SB (KBb SB [.d .bool] 414) := by
  intro z0 a0 a1 z1 _ z2 _ _ z3 b0 b1 h3 z4 _ _ h4
  have h3 : z3 = ((rOf z0).length : Int) := h3
  have h4 : z4 = 1 := h4
  have kk : ∀ b : Bool, b = true → KBb SB [.d .bool] 414 [[z0]] [[cond b 1 0]] := fun b h => by subst h; exact ⟨⟨by decide, by decide, trivial⟩, rfl⟩
  refine ⟨fun hn => absurd h4 (not_one hn), fun _ => ⟨fun _ => kk _ rfl, fun h100 r5 _ hr5 z15 c0 c1 h15 z16 _ _ z17 _ _ z18 _ _ z19 _ _ hA z20 _ z21 _ _ z22 _ _ h22 => ?_⟩⟩
  have h100 := of_decide_eq_false h100
  have hr5 : r5 = ask0 := hr5
  subst hr5
  have h15 := ask_bit c0 c1 h15
  subst h15
  have hA : (ses z16, z17, z18, z19) = reqF (ses 0) (seOf ask0) := hA
  rw [ses_zero, ask_se, show reqF [] aS = ([Tk 0 0 0], 5, 1, 0) by decide +kernel] at hA
  simp only [Prod.mk.injEq] at hA
  obtain ⟨hA1, _, _, hA4⟩ := hA
  refine ⟨TkI z0, TkM z0, ⟨100, 0, 0, z16, z22, z21, 0, 0, rfl, Nat.zero_le _, ⟨by decide, by decide⟩, ⟨⟨by decide, by decide⟩, .inl ⟨rfl, rfl⟩⟩, hA1, h22⟩, ?_⟩
  rintro z24 _ _ z25 _ _ z26 _ _ z27 k0 k1 z28 _ _ z29 _ _ z30 _ _ ⟨n, w, b, c, l, q, a, i, e, hi, hn, hg, hc, hl⟩ z31 _
  obtain ⟨rfl, rfl, rfl, rfl, rfl, rfl, rfl⟩ : z24 = n ∧ z25 = w ∧ z26 = i ∧ z27 = b ∧ z28 = c ∧ z29 = l ∧ z30 = q := by simpa using e
  refine ⟨fun hlt => ?_, fun hge => kk _ (decide_eq_true hA4)⟩
  have hlt := of_decide_eq_true hlt
  have hil : i < (rOf z0).length := by omega
  have ck : chkD 30 [(i : Int), z3] := ⟨by omega, by omega⟩
  have ck2 : chkD 21 [z0, (i : Int)] := ⟨by omega, by omega⟩
  have U := fun y => whole_ses (z := z28) (y := y) hl
  refine ⟨ck, ck2, fun z32 w0 w1 h32 z33 x0 x1 x2 x3 r34 _ hr34 => ⟨ck, ck2, fun z44 t0 t1 h44 => ?_⟩⟩
  have hr34 : r34 = ask0 := hr34
  subst hr34
  have hN : (100 : Int) ≤ z24 + (z32 + ((-18446744073709551616) * z33)) ∧ z24 + (z32 + ((-18446744073709551616) * z33)) ≤ 100 + 65535 * ((i + 1 : Nat) : Int) := by omega
  have hN2 : (100 : Int) ≤ z24 + (z32 + ((-18446744073709551616) * z33)) ∧ z24 + (z32 + ((-18446744073709551616) * z33)) ≤ 1099511627776 := by omega
  have ckN : chkD 39 [z24 + (z32 + ((-18446744073709551616) * z33)), 0, 9223372036854775807] := ⟨by omega, by omega⟩
  have ckI : ∀ z : Int, 0 ≤ z → z ≤ 1 → 0 ≤ ((i : Int) + 9223372036854775809) - 18446744073709551616 * z → ((i : Int) + 9223372036854775809) - 18446744073709551616 * z < 18446744073709551616 → chkD 39 [((i : Int) + ((-18446744073709551616) * z)) + 1, 0, 9223372036854775807] := fun z y0 y1 y2 y3 => ⟨by omega, by omega⟩
  have REST : ∀ z45 : Int, z45 = fnD 21 [z0, (i : Int), 2] → ∀ W : Se, W.id = 5 → decide (W.sec = [115]) = decide (z45 = 1) → decide (W.tok = [116]) = decide (z44 = 1) → ∀ z48 z49 : Int, (ses z48, z49) = submitF [Tk z25 z27 a] (z24 + (z32 + ((-18446744073709551616) * z33))) W → ∀ z51 z52 : Int, z52 = fnD 20 [z48] →
      (((decide (86500 < (z24 + (z32 + ((-18446744073709551616) * z33))))) = true →
      ((((!(decide (z49 = 11)))) = true →
      KBb SB [.d .bool] 414 [[z0]] [[(cond (false) 1 0)]]
      ) ∧ (((!(decide (z49 = 11)))) = false →
      ∀ r53 : List Int, inB bdSS r53 → SB 418 [] [r53] →
      chkD 22 [z48, 0, z52] ∧
      ∀ z63 : Int, 0 ≤ z63 → z63 ≤ RB → z63 = fnD 22 [z48, 0, z52] →
      ∀ z64 : Int, 0 ≤ z64 → z64 ≤ 1 → decide ((List.getD r53 8 0) = 1) = decide (z64 = 1) →
      ∀ r65 : List Int, inB (repB 0 HB 2) r65 → ∀ z67 : Int, 0 ≤ z67 → z67 ≤ 21 → SB 407 [[z63], [(z24 + (z32 + ((-18446744073709551616) * z33)))], [(List.getD r53 0 0), (List.getD r53 1 0), (List.getD r53 2 0), (List.getD r53 3 0), (List.getD r53 4 0), (List.getD r53 5 0), (List.getD r53 6 0), (List.getD r53 7 0), z64, (List.getD r53 9 0)]] [r65, [z67]] →
      (((decide (z27 = 1)) = true →
      (((decide (z67 = 0)) = true →
      KBb SB [.d .bool] 414 [[z0]] [[(cond (false) 1 0)]]
      ) ∧ ((decide (z67 = 0)) = false →
      ∀ z68 : Int, 0 ≤ z68 → z68 ≤ 1 → 0 ≤ ((i : Int) + 9223372036854775809) - 18446744073709551616 * z68 → ((i : Int) + 9223372036854775809) - 18446744073709551616 * z68 < 18446744073709551616 →
      chkD 39 [(((i : Int) + ((-18446744073709551616) * z68)) + 1), 0, 9223372036854775807] ∧
      (TkI z0 [[(z24 + (z32 + ((-18446744073709551616) * z33)))], [z25], [(((i : Int) + ((-18446744073709551616) * z68)) + 1)], [1], [z48], [z52], [z51]] ∧ TkM z0 [[(z24 + (z32 + ((-18446744073709551616) * z33)))], [z25], [(((i : Int) + ((-18446744073709551616) * z68)) + 1)], [1], [z48], [z52], [z51]] < TkM z0 [[z24], [z25], [(i : Int)], [z27], [z28], [z29], [z30]])
      ))
      ) ∧ ((decide (z27 = 1)) = false →
      (((decide (z67 = 0)) = true →
      KBb SB [.d .bool] 414 [[z0]] [[(cond (false) 1 0)]]
      ) ∧ ((decide (z67 = 0)) = false →
      ∀ z68 : Int, 0 ≤ z68 → z68 ≤ 1 → 0 ≤ ((i : Int) + 9223372036854775809) - 18446744073709551616 * z68 → ((i : Int) + 9223372036854775809) - 18446744073709551616 * z68 < 18446744073709551616 →
      chkD 39 [(((i : Int) + ((-18446744073709551616) * z68)) + 1), 0, 9223372036854775807] ∧
      (TkI z0 [[(z24 + (z32 + ((-18446744073709551616) * z33)))], [z25], [(((i : Int) + ((-18446744073709551616) * z68)) + 1)], [0], [z48], [z52], [z51]] ∧ TkM z0 [[(z24 + (z32 + ((-18446744073709551616) * z33)))], [z25], [(((i : Int) + ((-18446744073709551616) * z68)) + 1)], [0], [z48], [z52], [z51]] < TkM z0 [[z24], [z25], [(i : Int)], [z27], [z28], [z29], [z30]])
      ))
      ))
      ))
      ) ∧ ((decide (86500 < (z24 + (z32 + ((-18446744073709551616) * z33))))) = false →
      chkD 30 [(i : Int), z3] ∧
      chkD 21 [z0, (i : Int)] ∧
      ∀ z53 : Int, 0 ≤ z53 → z53 ≤ 1 → z53 = fnD 21 [z0, (i : Int), 2] →
      ((((!(decide (z53 = 1)))) = true →
      ((((!(decide (z49 = 11)))) = true →
      KBb SB [.d .bool] 414 [[z0]] [[(cond (false) 1 0)]]
      ) ∧ (((!(decide (z49 = 11)))) = false →
      ∀ r54 : List Int, inB bdSS r54 → SB 418 [] [r54] →
      chkD 22 [z48, 0, z52] ∧
      ∀ z64 : Int, 0 ≤ z64 → z64 ≤ RB → z64 = fnD 22 [z48, 0, z52] →
      ∀ z65 : Int, 0 ≤ z65 → z65 ≤ 1 → decide ((List.getD r54 8 0) = 1) = decide (z65 = 1) →
      ∀ r66 : List Int, inB (repB 0 HB 2) r66 → ∀ z68 : Int, 0 ≤ z68 → z68 ≤ 21 → SB 407 [[z64], [(z24 + (z32 + ((-18446744073709551616) * z33)))], [(List.getD r54 0 0), (List.getD r54 1 0), (List.getD r54 2 0), (List.getD r54 3 0), (List.getD r54 4 0), (List.getD r54 5 0), (List.getD r54 6 0), (List.getD r54 7 0), z65, (List.getD r54 9 0)]] [r66, [z68]] →
      (((decide (z27 = 1)) = true →
      ((((!(decide (z68 = 0)))) = true →
      KBb SB [.d .bool] 414 [[z0]] [[(cond (false) 1 0)]]
      ) ∧ (((!(decide (z68 = 0)))) = false →
      ∀ z69 : Int, 0 ≤ z69 → z69 ≤ 1 → 0 ≤ ((i : Int) + 9223372036854775809) - 18446744073709551616 * z69 → ((i : Int) + 9223372036854775809) - 18446744073709551616 * z69 < 18446744073709551616 →
      chkD 39 [(z24 + (z32 + ((-18446744073709551616) * z33))), 0, 9223372036854775807] ∧
      chkD 39 [(((i : Int) + ((-18446744073709551616) * z69)) + 1), 0, 9223372036854775807] ∧
      (TkI z0 [[(z24 + (z32 + ((-18446744073709551616) * z33)))], [z25], [(((i : Int) + ((-18446744073709551616) * z69)) + 1)], [1], [z48], [z52], [z51]] ∧ TkM z0 [[(z24 + (z32 + ((-18446744073709551616) * z33)))], [z25], [(((i : Int) + ((-18446744073709551616) * z69)) + 1)], [1], [z48], [z52], [z51]] < TkM z0 [[z24], [z25], [(i : Int)], [z27], [z28], [z29], [z30]])
      ))
      ) ∧ ((decide (z27 = 1)) = false →
      (((decide (z68 = 0)) = true →
      KBb SB [.d .bool] 414 [[z0]] [[(cond (false) 1 0)]]
      ) ∧ ((decide (z68 = 0)) = false →
      ∀ z69 : Int, 0 ≤ z69 → z69 ≤ 1 → 0 ≤ ((i : Int) + 9223372036854775809) - 18446744073709551616 * z69 → ((i : Int) + 9223372036854775809) - 18446744073709551616 * z69 < 18446744073709551616 →
      chkD 39 [(z24 + (z32 + ((-18446744073709551616) * z33))), 0, 9223372036854775807] ∧
      chkD 39 [(((i : Int) + ((-18446744073709551616) * z69)) + 1), 0, 9223372036854775807] ∧
      (TkI z0 [[(z24 + (z32 + ((-18446744073709551616) * z33)))], [z25], [(((i : Int) + ((-18446744073709551616) * z69)) + 1)], [0], [z48], [z52], [z51]] ∧ TkM z0 [[(z24 + (z32 + ((-18446744073709551616) * z33)))], [z25], [(((i : Int) + ((-18446744073709551616) * z69)) + 1)], [0], [z48], [z52], [z51]] < TkM z0 [[z24], [z25], [(i : Int)], [z27], [z28], [z29], [z30]])
      ))
      ))
      ))
      ) ∧ (((!(decide (z53 = 1)))) = false →
      (((decide (z25 = 3)) = true →
      ((((!(decide (z49 = 16)))) = true →
      KBb SB [.d .bool] 414 [[z0]] [[(cond (false) 1 0)]]
      ) ∧ (((!(decide (z49 = 16)))) = false →
      ∀ r54 : List Int, inB bdSS r54 → SB 418 [] [r54] →
      chkD 22 [z48, 0, z52] ∧
      ∀ z64 : Int, 0 ≤ z64 → z64 ≤ RB → z64 = fnD 22 [z48, 0, z52] →
      ∀ z65 : Int, 0 ≤ z65 → z65 ≤ 1 → decide ((List.getD r54 8 0) = 1) = decide (z65 = 1) →
      ∀ r66 : List Int, inB (repB 0 HB 2) r66 → ∀ z68 : Int, 0 ≤ z68 → z68 ≤ 21 → SB 407 [[z64], [(z24 + (z32 + ((-18446744073709551616) * z33)))], [(List.getD r54 0 0), (List.getD r54 1 0), (List.getD r54 2 0), (List.getD r54 3 0), (List.getD r54 4 0), (List.getD r54 5 0), (List.getD r54 6 0), (List.getD r54 7 0), z65, (List.getD r54 9 0)]] [r66, [z68]] →
      (((decide (z27 = 1)) = true →
      ((((!(decide (z68 = 0)))) = true →
      KBb SB [.d .bool] 414 [[z0]] [[(cond (false) 1 0)]]
      ) ∧ (((!(decide (z68 = 0)))) = false →
      ∀ z69 : Int, 0 ≤ z69 → z69 ≤ 1 → 0 ≤ ((i : Int) + 9223372036854775809) - 18446744073709551616 * z69 → ((i : Int) + 9223372036854775809) - 18446744073709551616 * z69 < 18446744073709551616 →
      chkD 39 [(z24 + (z32 + ((-18446744073709551616) * z33))), 0, 9223372036854775807] ∧
      chkD 39 [(((i : Int) + ((-18446744073709551616) * z69)) + 1), 0, 9223372036854775807] ∧
      (TkI z0 [[(z24 + (z32 + ((-18446744073709551616) * z33)))], [z25], [(((i : Int) + ((-18446744073709551616) * z69)) + 1)], [1], [z48], [z52], [z51]] ∧ TkM z0 [[(z24 + (z32 + ((-18446744073709551616) * z33)))], [z25], [(((i : Int) + ((-18446744073709551616) * z69)) + 1)], [1], [z48], [z52], [z51]] < TkM z0 [[z24], [z25], [(i : Int)], [z27], [z28], [z29], [z30]])
      ))
      ) ∧ ((decide (z27 = 1)) = false →
      (((decide (z68 = 0)) = true →
      KBb SB [.d .bool] 414 [[z0]] [[(cond (false) 1 0)]]
      ) ∧ ((decide (z68 = 0)) = false →
      ∀ z69 : Int, 0 ≤ z69 → z69 ≤ 1 → 0 ≤ ((i : Int) + 9223372036854775809) - 18446744073709551616 * z69 → ((i : Int) + 9223372036854775809) - 18446744073709551616 * z69 < 18446744073709551616 →
      chkD 39 [(z24 + (z32 + ((-18446744073709551616) * z33))), 0, 9223372036854775807] ∧
      chkD 39 [(((i : Int) + ((-18446744073709551616) * z69)) + 1), 0, 9223372036854775807] ∧
      (TkI z0 [[(z24 + (z32 + ((-18446744073709551616) * z33)))], [z25], [(((i : Int) + ((-18446744073709551616) * z69)) + 1)], [0], [z48], [z52], [z51]] ∧ TkM z0 [[(z24 + (z32 + ((-18446744073709551616) * z33)))], [z25], [(((i : Int) + ((-18446744073709551616) * z69)) + 1)], [0], [z48], [z52], [z51]] < TkM z0 [[z24], [z25], [(i : Int)], [z27], [z28], [z29], [z30]])
      ))
      ))
      ))
      ) ∧ ((decide (z25 = 3)) = false →
      chkD 30 [(i : Int), z3] ∧
      chkD 21 [z0, (i : Int)] ∧
      ∀ z54 : Int, 0 ≤ z54 → z54 ≤ 1 → z54 = fnD 21 [z0, (i : Int), 1] →
      ((((!(decide (z54 = 1)))) = true →
      ∀ z55 : Int, 0 ≤ z55 → z55 ≤ 1 → 0 ≤ (z25 + 9223372036854775809) - 18446744073709551616 * z55 → (z25 + 9223372036854775809) - 18446744073709551616 * z55 < 18446744073709551616 →
      ((((!(decide (z49 = 12)))) = true →
      KBb SB [.d .bool] 414 [[z0]] [[(cond (false) 1 0)]]
      ) ∧ (((!(decide (z49 = 12)))) = false →
      ∀ r56 : List Int, inB bdSS r56 → SB 418 [] [r56] →
      chkD 22 [z48, 0, z52] ∧
      ∀ z66 : Int, 0 ≤ z66 → z66 ≤ RB → z66 = fnD 22 [z48, 0, z52] →
      ∀ z67 : Int, 0 ≤ z67 → z67 ≤ 1 → decide ((List.getD r56 8 0) = 1) = decide (z67 = 1) →
      ∀ r68 : List Int, inB (repB 0 HB 2) r68 → ∀ z70 : Int, 0 ≤ z70 → z70 ≤ 21 → SB 407 [[z66], [(z24 + (z32 + ((-18446744073709551616) * z33)))], [(List.getD r56 0 0), (List.getD r56 1 0), (List.getD r56 2 0), (List.getD r56 3 0), (List.getD r56 4 0), (List.getD r56 5 0), (List.getD r56 6 0), (List.getD r56 7 0), z67, (List.getD r56 9 0)]] [r68, [z70]] →
      (((decide (z27 = 1)) = true →
      ((((!(decide (z70 = 0)))) = true →
      KBb SB [.d .bool] 414 [[z0]] [[(cond (false) 1 0)]]
      ) ∧ (((!(decide (z70 = 0)))) = false →
      ∀ z71 : Int, 0 ≤ z71 → z71 ≤ 1 → 0 ≤ ((i : Int) + 9223372036854775809) - 18446744073709551616 * z71 → ((i : Int) + 9223372036854775809) - 18446744073709551616 * z71 < 18446744073709551616 →
      chkD 39 [(z24 + (z32 + ((-18446744073709551616) * z33))), 0, 9223372036854775807] ∧
      chkD 39 [((z25 + ((-18446744073709551616) * z55)) + 1), 0, 9223372036854775807] ∧
      chkD 39 [(((i : Int) + ((-18446744073709551616) * z71)) + 1), 0, 9223372036854775807] ∧
      (TkI z0 [[(z24 + (z32 + ((-18446744073709551616) * z33)))], [((z25 + ((-18446744073709551616) * z55)) + 1)], [(((i : Int) + ((-18446744073709551616) * z71)) + 1)], [1], [z48], [z52], [z51]] ∧ TkM z0 [[(z24 + (z32 + ((-18446744073709551616) * z33)))], [((z25 + ((-18446744073709551616) * z55)) + 1)], [(((i : Int) + ((-18446744073709551616) * z71)) + 1)], [1], [z48], [z52], [z51]] < TkM z0 [[z24], [z25], [(i : Int)], [z27], [z28], [z29], [z30]])
      ))
      ) ∧ ((decide (z27 = 1)) = false →
      (((decide (z70 = 0)) = true →
      KBb SB [.d .bool] 414 [[z0]] [[(cond (false) 1 0)]]
      ) ∧ ((decide (z70 = 0)) = false →
      ∀ z71 : Int, 0 ≤ z71 → z71 ≤ 1 → 0 ≤ ((i : Int) + 9223372036854775809) - 18446744073709551616 * z71 → ((i : Int) + 9223372036854775809) - 18446744073709551616 * z71 < 18446744073709551616 →
      chkD 39 [(z24 + (z32 + ((-18446744073709551616) * z33))), 0, 9223372036854775807] ∧
      chkD 39 [((z25 + ((-18446744073709551616) * z55)) + 1), 0, 9223372036854775807] ∧
      chkD 39 [(((i : Int) + ((-18446744073709551616) * z71)) + 1), 0, 9223372036854775807] ∧
      (TkI z0 [[(z24 + (z32 + ((-18446744073709551616) * z33)))], [((z25 + ((-18446744073709551616) * z55)) + 1)], [(((i : Int) + ((-18446744073709551616) * z71)) + 1)], [0], [z48], [z52], [z51]] ∧ TkM z0 [[(z24 + (z32 + ((-18446744073709551616) * z33)))], [((z25 + ((-18446744073709551616) * z55)) + 1)], [(((i : Int) + ((-18446744073709551616) * z71)) + 1)], [0], [z48], [z52], [z51]] < TkM z0 [[z24], [z25], [(i : Int)], [z27], [z28], [z29], [z30]])
      ))
      ))
      ))
      ) ∧ (((!(decide (z54 = 1)))) = false →
      ((((!(decide (z49 = 0)))) = true →
      KBb SB [.d .bool] 414 [[z0]] [[(cond (false) 1 0)]]
      ) ∧ (((!(decide (z49 = 0)))) = false →
      ∀ r55 : List Int, inB bdSS r55 → SB 418 [] [r55] →
      chkD 22 [z48, 0, z52] ∧
      ∀ z65 : Int, 0 ≤ z65 → z65 ≤ RB → z65 = fnD 22 [z48, 0, z52] →
      ∀ z66 : Int, 0 ≤ z66 → z66 ≤ 1 → decide ((List.getD r55 8 0) = 1) = decide (z66 = 1) →
      ∀ r67 : List Int, inB (repB 0 HB 2) r67 → ∀ z69 : Int, 0 ≤ z69 → z69 ≤ 21 → SB 407 [[z65], [(z24 + (z32 + ((-18446744073709551616) * z33)))], [(List.getD r55 0 0), (List.getD r55 1 0), (List.getD r55 2 0), (List.getD r55 3 0), (List.getD r55 4 0), (List.getD r55 5 0), (List.getD r55 6 0), (List.getD r55 7 0), z66, (List.getD r55 9 0)]] [r67, [z69]] →
      ((((!(decide (z69 = 0)))) = true →
      KBb SB [.d .bool] 414 [[z0]] [[(cond (false) 1 0)]]
      ) ∧ (((!(decide (z69 = 0)))) = false →
      ∀ z70 : Int, 0 ≤ z70 → z70 ≤ 1 → 0 ≤ ((i : Int) + 9223372036854775809) - 18446744073709551616 * z70 → ((i : Int) + 9223372036854775809) - 18446744073709551616 * z70 < 18446744073709551616 →
      chkD 39 [(z24 + (z32 + ((-18446744073709551616) * z33))), 0, 9223372036854775807] ∧
      chkD 39 [(((i : Int) + ((-18446744073709551616) * z70)) + 1), 0, 9223372036854775807] ∧
      (TkI z0 [[(z24 + (z32 + ((-18446744073709551616) * z33)))], [z25], [(((i : Int) + ((-18446744073709551616) * z70)) + 1)], [1], [z48], [z52], [z51]] ∧ TkM z0 [[(z24 + (z32 + ((-18446744073709551616) * z33)))], [z25], [(((i : Int) + ((-18446744073709551616) * z70)) + 1)], [1], [z48], [z52], [z51]] < TkM z0 [[z24], [z25], [(i : Int)], [z27], [z28], [z29], [z30]])
      ))
      ))
      ))
      ))
      ))
      )) := by
    intro z45 h45 W hid hsec htok z48 z49 hsub z51 z52 h52
    rw [submitT hg hid hN2, hsec, htok] at hsub
    have h52 : z52 = ((rOf z48).length : Int) := h52
    have V := fun y => whole_ses (z := z48) (y := y) h52
    have SH : ∀ (w' b' a' : Int), ses z48 = [Tk w' b' a'] → TkGood w' b' a' → ∀ (r r65 : List Int) (z63 z64 z67 : Int), SB 418 [] [r] → z63 = fnD 22 [z48, 0, z52] → 0 ≤ z64 → z64 ≤ 1 → decide (r.getD 8 0 = 1) = decide (z64 = 1) → SB 407 [[z63], [z24 + (z32 + ((-18446744073709551616) * z33))], [r.getD 0 0, r.getD 1 0, r.getD 2 0, r.getD 3 0, r.getD 4 0, r.getD 5 0, r.getD 6 0, r.getD 7 0, z64, r.getD 9 0]] [r65, [z67]] → z67 = cond (decide (86500 < z24 + (z32 + ((-18446744073709551616) * z33)))) 11 (cond (decide (b' = 1)) 0 14) := fun w' b' a' h1 h2 r r65 z63 z64 z67 hr h63 u0 u1 h64 hS => by
      have hr : r = ask0 := hr
      subst hr
      have h64 := ask_bit u0 u1 h64
      subst h64
      have hS : (whoOf r65, z67) = shownF (ses z63) (z24 + (z32 + ((-18446744073709551616) * z33))) (seOf ask0) := hS
      rw [ses_same ((V z63).2 h63), h1, ask_se] at hS
      rw [← shownT h2 hN2, ← hS]
    have STEP : ∀ (w' b' a' : Int), ses z48 = [Tk w' b' a'] → TkGood w' b' a' → ∀ z : Int, 0 ≤ z → z ≤ 1 → 0 ≤ ((i : Int) + 9223372036854775809) - 18446744073709551616 * z → ((i : Int) + 9223372036854775809) - 18446744073709551616 * z < 18446744073709551616 → TkI z0 [[z24 + (z32 + ((-18446744073709551616) * z33))], [w'], [((i : Int) + ((-18446744073709551616) * z)) + 1], [b'], [z48], [z52], [z51]] ∧ TkM z0 [[z24 + (z32 + ((-18446744073709551616) * z33))], [w'], [((i : Int) + ((-18446744073709551616) * z)) + 1], [b'], [z48], [z52], [z51]] < TkM z0 [[z24], [z25], [(i : Int)], [z27], [z28], [z29], [z30]] := fun w' b' a' h1 h2 z y0 y1 y2 y3 => by
      rw [show ((i : Int) + ((-18446744073709551616) * z)) + 1 = ((i + 1 : Nat) : Int) by omega]
      refine ⟨⟨_, w', b', z48, z52, z51, a', i + 1, rfl, by omega, hN, h2, h1, h52⟩, ?_⟩
      show (rOf z0).length - (((i + 1 : Nat) : Int)).toNat < (rOf z0).length - ((i : Int)).toNat; omega
    have one : decide (z27 = 1) = true → z27 = 1 := fun h => of_decide_eq_true h
    have zero : decide (z27 = 1) = false → z27 = 0 := fun h => by have := of_decide_eq_false h; omega
    have nz : ∀ {x y : Int} {P : Prop}, x = y → (!decide (x = y)) = true → P := fun h h2 => absurd h (of_decide_eq_false (bnot_t h2))
    refine ⟨fun ho => ?_, fun ho => ⟨ck, ck2, fun z53 _ _ h53 => ?_⟩⟩
    · rw [ho] at hsub
      simp only [Bool.true_or, cond_true, Prod.mk.injEq] at hsub
      obtain ⟨g1, g2⟩ := hsub
      refine ⟨fun h => nz g2 h, fun _ r53 _ hr53 => ⟨(V 0).1, fun z63 _ _ h63 z64 u0 u1 h64 r65 _ z67 _ _ hS => ?_⟩⟩
      have hS := SH _ _ _ g1 hg _ _ _ _ _ hr53 h63 u0 u1 h64 hS
      rw [ho, cond_true] at hS
      refine ⟨fun hb => ⟨fun h => (by have := of_decide_eq_true h; omega), fun _ z68 y0 y1 y2 y3 => ⟨ckI z68 y0 y1 y2 y3, ?_⟩⟩, fun hb => ⟨fun h => (by have := of_decide_eq_true h; omega), fun _ z68 y0 y1 y2 y3 => ⟨ckI z68 y0 y1 y2 y3, ?_⟩⟩⟩
      · have := one hb
        subst this
        exact STEP _ _ _ g1 hg z68 y0 y1 y2 y3
      · have := zero hb
        subst this
        exact STEP _ _ _ g1 hg z68 y0 y1 y2 y3
    rw [ho, Bool.false_or] at hsub
    rw [ho] at SH
    simp only [cond_false] at SH
    have e53 : z53 = z45 := h53.trans h45.symm
    subst e53
    -- what follows where nothing has changed
    have SAME : ∀ w' : Int, ses z48 = [Tk w' z27 a] → TkGood w' z27 a → (∀ z67 : Int, z67 = cond (decide (z27 = 1)) 0 14 → (decide (z27 = 1) = true → (!decide (z67 = 0)) = true → False) ∧ (decide (z27 = 1) = false → decide (z67 = 0) = true → False)) ∧ (decide (z27 = 1) = true → ses z48 = [Tk w' 1 a] ∧ TkGood w' 1 a) ∧ (decide (z27 = 1) = false → ses z48 = [Tk w' 0 a] ∧ TkGood w' 0 a) := fun w' g1 hg' => by
      refine ⟨fun z67 h => ⟨fun hb h2 => ?_, fun hb h2 => ?_⟩, fun hb => ?_, fun hb => ?_⟩
      · rw [hb] at h; exact nz h h2
      · rw [hb] at h
        have := of_decide_eq_true h2
        rw [this] at h; cases h
      · have := one hb
        rw [← this]; exact ⟨g1, hg'⟩
      · have := zero hb
        rw [← this]; exact ⟨g1, hg'⟩
    refine ⟨fun hs => ?_, fun hs => ?_⟩
    · rw [bnot_t hs] at hsub
      simp only [Bool.not_false, cond_true, Prod.mk.injEq] at hsub
      obtain ⟨g1, g2⟩ := hsub
      obtain ⟨s1, s2, s3⟩ := SAME _ g1 hg
      refine ⟨fun h => nz g2 h, fun _ r54 _ hr54 => ⟨(V 0).1, fun z64 _ _ h64 z65 u0 u1 h65 r66 _ z68 _ _ hS => ?_⟩⟩
      have s1 := s1 z68 (SH _ _ _ g1 hg _ _ _ _ _ hr54 h64 u0 u1 h65 hS)
      exact ⟨fun hb => ⟨fun h => (s1.1 hb h).elim, fun _ z69 y0 y1 y2 y3 => ⟨ckN, ckI z69 y0 y1 y2 y3, STEP _ _ _ (s2 hb).1 (s2 hb).2 z69 y0 y1 y2 y3⟩⟩, fun hb => ⟨fun h => (s1.2 hb h).elim, fun _ z69 y0 y1 y2 y3 => ⟨ckN, ckI z69 y0 y1 y2 y3, STEP _ _ _ (s3 hb).1 (s3 hb).2 z69 y0 y1 y2 y3⟩⟩⟩
    rw [bnot_f hs] at hsub
    simp only [Bool.not_true, cond_false] at hsub
    refine ⟨fun h3w => ?_, fun h3w => ⟨ck, ck2, fun z54 _ _ h54 => ?_⟩⟩
    · rw [h3w] at hsub
      simp only [cond_true, Prod.mk.injEq] at hsub
      obtain ⟨g1, g2⟩ := hsub
      obtain ⟨s1, s2, s3⟩ := SAME _ g1 hg
      refine ⟨fun h => nz g2 h, fun _ r54 _ hr54 => ⟨(V 0).1, fun z64 _ _ h64 z65 u0 u1 h65 r66 _ z68 _ _ hS => ?_⟩⟩
      have s1 := s1 z68 (SH _ _ _ g1 hg _ _ _ _ _ hr54 h64 u0 u1 h65 hS)
      exact ⟨fun hb => ⟨fun h => (s1.1 hb h).elim, fun _ z69 y0 y1 y2 y3 => ⟨ckN, ckI z69 y0 y1 y2 y3, STEP _ _ _ (s2 hb).1 (s2 hb).2 z69 y0 y1 y2 y3⟩⟩, fun hb => ⟨fun h => (s1.2 hb h).elim, fun _ z69 y0 y1 y2 y3 => ⟨ckN, ckI z69 y0 y1 y2 y3, STEP _ _ _ (s3 hb).1 (s3 hb).2 z69 y0 y1 y2 y3⟩⟩⟩
    rw [h3w] at hsub
    simp only [cond_false] at hsub
    have h3w := of_decide_eq_false h3w
    have e54 : z54 = z44 := h54.trans h44.symm
    subst e54
    refine ⟨fun ht z55 v0 v1 v2 v3 => ?_, fun ht => ?_⟩
    · rw [bnot_t ht] at hsub
      simp only [cond_false, Prod.mk.injEq] at hsub
      obtain ⟨g1, g2⟩ := hsub
      have hgb := hg.1
      have ew : (z25 + ((-18446744073709551616) * z55)) + 1 = z25 + 1 := by omega
      have hg' : TkGood (z25 + 1) z27 a := ⟨by omega, hg.2⟩
      rw [ew]
      have ckW : chkD 39 [z25 + 1, 0, 9223372036854775807] := ⟨by omega, by omega⟩
      obtain ⟨s1, s2, s3⟩ := SAME _ g1 hg'
      refine ⟨fun h => nz g2 h, fun _ r54 _ hr54 => ⟨(V 0).1, fun z64 _ _ h64 z65 u0 u1 h65 r66 _ z68 _ _ hS => ?_⟩⟩
      have s1 := s1 z68 (SH _ _ _ g1 hg' _ _ _ _ _ hr54 h64 u0 u1 h65 hS)
      exact ⟨fun hb => ⟨fun h => (s1.1 hb h).elim, fun _ z69 y0 y1 y2 y3 => ⟨ckN, ckW, ckI z69 y0 y1 y2 y3, STEP _ _ _ (s2 hb).1 (s2 hb).2 z69 y0 y1 y2 y3⟩⟩, fun hb => ⟨fun h => (s1.2 hb h).elim, fun _ z69 y0 y1 y2 y3 => ⟨ckN, ckW, ckI z69 y0 y1 y2 y3, STEP _ _ _ (s3 hb).1 (s3 hb).2 z69 y0 y1 y2 y3⟩⟩⟩
    · rw [bnot_f ht] at hsub
      simp only [cond_true] at hsub
      have hx : ∃ a', ses z48 = [Tk z25 1 a'] ∧ TkGood z25 1 a' ∧ z49 = 0 := by
        cases hb : decide (z27 = 1) with
        | true =>
          rw [hb] at hsub
          simp only [cond_true, Prod.mk.injEq] at hsub
          have := one hb
          subst this
          exact ⟨a, hsub.1, hg, hsub.2⟩
        | false =>
          rw [hb] at hsub
          simp only [cond_false, Prod.mk.injEq] at hsub
          exact ⟨_, hsub.1, ⟨hg.1, .inr ⟨rfl, by omega, by omega⟩⟩, hsub.2⟩
      obtain ⟨a', g1, hg', g2⟩ := hx
      refine ⟨fun h => nz g2 h, fun _ r54 _ hr54 => ⟨(V 0).1, fun z64 _ _ h64 z65 u0 u1 h65 r66 _ z68 _ _ hS => ?_⟩⟩
      have hS := SH _ _ _ g1 hg' _ _ _ _ _ hr54 h64 u0 u1 h65 hS
      have hS : z68 = 0 := hS
      exact ⟨fun h => nz hS h, fun _ z69 y0 y1 y2 y3 => ⟨ckN, ckI z69 y0 y1 y2 y3, STEP _ _ _ g1 hg' z69 y0 y1 y2 y3⟩⟩
  have T4 : ∀ z : Int, (!decide (z = 1)) = true → false = decide (z = 1) := fun z h => (bnot_t h).symm
  have F4 : ∀ z : Int, (!decide (z = 1)) = false → true = decide (z = 1) := fun z h => (bnot_f h).symm
  have SUB : ∀ z46 : Int, z46 = fnD 22 [z28, 0, z29] → ses z46 = [Tk z25 z27 a] := fun z46 h => by rw [ses_same ((U z46).2 h), hc]
  refine ⟨fun ht => ⟨ck, ck2, fun z45 _ _ h45 => ⟨fun hs => ⟨(U 0).1, fun z46 _ _ h46 z47 u0 u1 h47 z48 _ _ z49 _ _ hsub z50 _ z51 _ _ z52 _ _ h52 => ?_⟩, fun hs => ⟨(U 0).1, fun z46 _ _ h46 z47 u0 u1 h47 z48 _ _ z49 _ _ hsub z50 _ z51 _ _ z52 _ _ h52 => ?_⟩⟩⟩, fun ht => ⟨ck, ck2, fun z45 _ _ h45 => ⟨fun hs => ⟨(U 0).1, fun z46 _ _ h46 z47 u0 u1 h47 z48 _ _ z49 _ _ hsub z50 _ z51 _ _ z52 _ _ h52 => ?_⟩, fun hs => ⟨(U 0).1, fun z46 _ _ h46 z47 u0 u1 h47 z48 _ _ z49 _ _ hsub z50 _ z51 _ _ z52 _ _ h52 => ?_⟩⟩⟩⟩
  · have hsub : (ses z48, z49) = submitF (ses z46) _ (seOf [5, 122, 477315081741, 437051401625, 121, 1, 100, 0, z47, 0]) := hsub
    rw [SUB z46 h46] at hsub
    exact REST z45 h45 _ rfl ((show decide (sOf 122 = [115]) = false by decide +kernel).trans (T4 _ hs)) ((show decide (sOf 121 = [116]) = false by decide +kernel).trans (T4 _ ht)) z48 z49 hsub z51 z52 h52
  · have hsub : (ses z48, z49) = submitF (ses z46) _ (seOf [5, 116, 477315081741, 437051401625, 121, 1, 100, 0, z47, 0]) := hsub
    rw [SUB z46 h46] at hsub
    exact REST z45 h45 _ rfl ((show decide (sOf 116 = [115]) = true by decide +kernel).trans (F4 _ hs)) ((show decide (sOf 121 = [116]) = false by decide +kernel).trans (T4 _ ht)) z48 z49 hsub z51 z52 h52
  · have hsub : (ses z48, z49) = submitF (ses z46) _ (seOf [5, 122, 477315081741, 437051401625, 117, 1, 100, 0, z47, 0]) := hsub
    rw [SUB z46 h46] at hsub
    exact REST z45 h45 _ rfl ((show decide (sOf 122 = [115]) = false by decide +kernel).trans (T4 _ hs)) ((show decide (sOf 117 = [116]) = true by decide +kernel).trans (F4 _ ht)) z48 z49 hsub z51 z52 h52
  · have hsub : (ses z48, z49) = submitF (ses z46) _ (seOf [5, 116, 477315081741, 437051401625, 117, 1, 100, 0, z47, 0]) := hsub
    rw [SUB z46 h46] at hsub
    exact REST z45 h45 _ rfl ((show decide (sOf 116 = [115]) = true by decide +kernel).trans (F4 _ hs)) ((show decide (sOf 117 = [116]) = true by decide +kernel).trans (F4 _ ht)) z48 z49 hsub z51 z52 h52

end Go.Ad

set_option maxRecDepth 100000
set_option linter.unusedVariables false
namespace Go.Ad
open Go Go.Rx
def li_none : FuncId → Nat → Option LoopI := fun _ _ => none
def lsh_none : Nat → List Nat := fun _ => []
def aa : D := .mix [.str, .str]
def du8 : D := .int .u8 0 255
def didx : D := .int .i64 (-1) 9223372036854775807
def derr : D := .int .i64 0 21
def ksp : D := .strk [32]
def kdot : D := .strk [46]
def kdd : D := .strk [46, 46]
def kdm : D := .strk [46, 45]
def kat : D := .strk [64]
def kcol : D := .strk [58]
def khost : D := .strk [97, 98, 99, 100, 101, 102, 103, 104, 105, 106, 107, 108, 109, 110, 111, 112, 113, 114, 115, 116, 117, 118, 119, 120, 121, 122, 65, 66, 67, 68, 69, 70, 71, 72, 73, 74, 75, 76, 77, 78, 79, 80, 81, 82, 83, 84, 85, 86, 87, 88, 89, 90, 48, 49, 50, 51, 52, 53, 54, 55, 56, 57, 46, 45]
def kdig : D := .strk [48, 49, 50, 51, 52, 53, 54, 55, 56, 57]
def dpos : D := .int .i64 0 9223372036854775807
def dint : D := .int .i64 (-9223372036854775808) 9223372036854775807
def ss : D := .mix [.int .i64 (-9223372036854775808) 9223372036854775807, .str, .str, .str, .str, .int .i64 (-9223372036854775808) 9223372036854775807, .int .i64 (-9223372036854775808) 9223372036854775807, .int .i64 (-9223372036854775808) 9223372036854775807, .bool, .int .i64 (-9223372036854775808) 9223372036854775807]
def lss : BD := .rd [.int .i64 (-9223372036854775808) 9223372036854775807, .str, .str, .str, .str, .int .i64 (-9223372036854775808) 9223372036854775807, .int .i64 (-9223372036854775808) 9223372036854775807, .int .i64 (-9223372036854775808) 9223372036854775807, .bool, .int .i64 (-9223372036854775808) 9223372036854775807]
def oss : BD := .ow [.int .i64 (-9223372036854775808) 9223372036854775807, .str, .str, .str, .str, .int .i64 (-9223372036854775808) 9223372036854775807, .int .i64 (-9223372036854775808) 9223372036854775807, .int .i64 (-9223372036854775808) 9223372036854775807, .bool, .int .i64 (-9223372036854775808) 9223372036854775807] 31
def ltry : BD := .rd [.int .u16 0 65535, .bool, .bool]
def k_ibs : Con := ⟨91, 73, [.str, du8], [didx]⟩
def k_tlb : Con := ⟨57, 36, [.str, du8], [.str]⟩
def li_tlb : FuncId → Nat → Option LoopI := fun f r => match f, r with
  | 57, 1 => some ⟨[1], [(0, 0, 0)], [], [], [], [], []⟩
  | _, _ => none
def lsh_tlb : Nat → List Nat := fun n => [1]
def k_trb : Con := ⟨58, 37, [.str, du8], [.str]⟩
def li_trb : FuncId → Nat → Option LoopI := fun f r => match f, r with
  | 58, 1 => some ⟨[1], [(0, 0, 0)], [], [], [], [], []⟩
  | _, _ => none
def lsh_trb : Nat → List Nat := fun n => [1]
def k_tsp : Con := ⟨47, 120, [.str, ksp], [.str]⟩
def k_tdot : Con := ⟨47, 121, [.str, kdot], [.str]⟩
def k_cdot : Con := ⟨51, 127, [.str, kdot], [.bool]⟩
def k_tdm : Con := ⟨47, 122, [.str, kdm], [.str]⟩
def li_tdm : FuncId → Nat → Option LoopI := fun f r => match f, r with
  | 60, 1 => some ⟨[1], [(0, 0, 0)], [], [], [], [], []⟩
  | 61, 1 => some ⟨[1], [(0, 0, 0)], [], [], [], [], []⟩
  | _, _ => none
def lsh_tdm : Nat → List Nat := fun n => [1]
def k_cutat : Con := ⟨48, 125, [.str, kat], [.str, .str, .bool]⟩
def k_cutcol : Con := ⟨48, 126, [.str, kcol], [.str, .str, .bool]⟩
def k_only : Con := ⟨65, 44, [.str, .str], [.bool]⟩
def li_only : FuncId → Nat → Option LoopI := fun f r => match f, r with
  | 65, 2 => some ⟨[0, 1, 7], [(8, 0, 9223372036854775807)], [], [], [], [], []⟩
  | _, _ => none
def lsh_only : Nat → List Nat := fun n => [1]
def k_ionly : Con := ⟨83, 65, [.str, .str], [.bool]⟩
def li_ionly : FuncId → Nat → Option LoopI := fun f r => match f, r with
  | 83, 2 => some ⟨[0, 1, 7], [(8, 0, 9223372036854775807)], [], [], [], [], []⟩
  | _, _ => none
def lsh_ionly : Nat → List Nat := fun n => [1]
def k_low : Con := ⟨53, 28, [.str], [.str]⟩
def li_low : FuncId → Nat → Option LoopI := fun f r => match f, r with
  | 53, 3 => some ⟨[3, 8, 9], [(10, 0, 9223372036854775807)], [(0, 0, 0, 0)], [], [], [], []⟩
  | _, _ => none
def lsh_low : Nat → List Nat := fun n => [1, 1]
def k_cdd : Con := ⟨51, 128, [.str, kdd], [.bool]⟩
def q_cdd : QCon := ⟨k_cdd, 41⟩
def k_thost : Con := ⟨47, 123, [.str, khost], [.str]⟩
def li_thost : FuncId → Nat → Option LoopI := fun f r => match f, r with
  | 60, 1 => some ⟨[1], [(0, 0, 0)], [], [], [], [], []⟩
  | 61, 1 => some ⟨[1], [(0, 0, 0)], [], [], [], [], []⟩
  | _, _ => none
def lsh_thost : Nat → List Nat := fun n => [1]
def k_tdig : Con := ⟨47, 124, [.str, kdig], [.str]⟩
def li_tdig : FuncId → Nat → Option LoopI := fun f r => match f, r with
  | 60, 1 => some ⟨[1], [(0, 0, 0)], [], [], [], [], []⟩
  | 61, 1 => some ⟨[1], [(0, 0, 0)], [], [], [], [], []⟩
  | _, _ => none
def lsh_tdig : Nat → List Nat := fun n => [1]
def k_host : Con := ⟨68, 47, [.str], [.bool]⟩
def k_server : Con := ⟨52, 27, [.str], [.bool]⟩
def k_local : Con := ⟨49, 24, [.str], [.bool]⟩
def k_country : Con := ⟨54, 32, [.str], [aa, .bool]⟩
def k_bare : Con := ⟨55, 33, [.str], [.str, .bool, .bool]⟩
def k_tpre : Con := ⟨56, 34, [.str, .str], [.str]⟩
def k_email : Con := ⟨44, 10, [.str], [.str, derr]⟩
def k_phone : Con := ⟨45, 12, [.str, .str], [.str, derr]⟩
def q_phone : QCon := ⟨k_phone, 44⟩
def k_make : Con := ⟨40, 15, [.str, .str], [aa, derr]⟩
def k_right : Con := ⟨29, 16, [aa], [.bool]⟩
def k_print : Con := ⟨38, 400, [.str], [.bool]⟩
def li_print : FuncId → Nat → Option LoopI := fun f r => match f, r with
  | 38, 2 => some ⟨[0, 5], [(6, 0, 9223372036854775807)], [], [], [], [], []⟩
  | _, _ => none
def lsh_print : Nat → List Nat := fun n => [1]
def k_secr : Con := ⟨28, 401, [.str], [.bool]⟩
def li_secr : FuncId → Nat → Option LoopI := fun f r => match f, r with
  | 43, 2 => some ⟨[0, 1, 7], [(8, 0, 9223372036854775807)], [], [], [], [], []⟩
  | _, _ => none
def lsh_secr : Nat → List Nat := fun n => [1]
def k_sright : Con := ⟨15, 402, [ss], [.bool]⟩
def k_sRight : BCon := ⟨11, 403, [lss], [.d .bool], 0⟩
def li_sRight : FuncId → Nat → Option LoopI := fun f r => match f, r with
  | 11, 4 => some ⟨[0, 9, 10], [(11, 0, 9223372036854775807)], [], [], [], [], []⟩
  | 17, 2 => some ⟨[0, 1, 7], [(8, 0, 9223372036854775807)], [], [], [], [], []⟩
  | _, _ => none
def lsh_sRight : Nat → List Nat := fun n => [1]
def k_splace : BCon := ⟨20, 404, [lss, .d dint], [.d dpos, .d .bool], 0⟩
def li_splace : FuncId → Nat → Option LoopI := fun f r => match f, r with
  | 33, 3 => some ⟨[0, 1, 2, 8], [(9, 0, 9223372036854775807), (10, 0, 9223372036854775807)], [], [], [], [], []⟩
  | _, _ => none
def lsh_splace : Nat → List Nat := fun n => [1, 1]
def k_sover : Con := ⟨32, 417, [ss, dint], [.bool]⟩
def k_sFind : BCon := ⟨14, 405, [lss, .d dint], [.d ss, .d .bool], 0⟩
def k_sopen : BCon := ⟨24, 406, [lss, .d dint, .d ss], [.d dpos, .d derr], 0⟩
def k_sShown : BCon := ⟨9, 407, [lss, .d dint, .d ss], [.d aa, .d derr], 0⟩
def k_sSubmit : BCon := ⟨8, 408, [lss, .d dint, .d ss], [lss, .d derr], 0⟩
def k_sprune : BCon := ⟨16, 409, [lss, .d dint], [oss], 66⟩
def li_sprune : FuncId → Nat → Option LoopI := fun f r => match f, r with
  | 17, 2 => some ⟨[0, 1, 7], [(8, 0, 9223372036854775807)], [], [], [], [], []⟩
  | 30, 5 => some ⟨[0, 1], [(5, 0, 9223372036854775807), (6, 0, 9223372036854775807)], [(3, 0, 0, 0)], [], [], [], []⟩
  | _, _ => none
def lsh_sprune : Nat → List Nat := fun n => cond (Nat.beq n 22) [1, 1, 1] [1]
def k_sPrune : BCon := ⟨12, 410, [lss, .d dint], [oss], 0⟩
def k_sins : ICon := ⟨23, 411, [.int .i64 (-9223372036854775808) 9223372036854775807, .str, .str, .str, .str, .int .i64 (-9223372036854775808) 9223372036854775807, .int .i64 (-9223372036854775808) 9223372036854775807, .int .i64 (-9223372036854775808) 9223372036854775807, .bool, .int .i64 (-9223372036854775808) 9223372036854775807], 31, [.d dpos, lss], 51⟩
def k_sReq : BCon := ⟨6, 412, [lss, .d ss], [lss, .d dint, .d .bool, .d derr], 0⟩
def li_sReq : FuncId → Nat → Option LoopI := fun f r => match f, r with
  | 17, 2 => some ⟨[0, 1, 7], [(8, 0, 9223372036854775807)], [], [], [], [], []⟩
  | _, _ => none
def lsh_sReq : Nat → List Nat := fun n => [1]
def k_sask : Con := ⟨7, 418, [], [ss]⟩
def k_salive : BCon := ⟨5, 413, [], [.d .bool], 0⟩
def k_ySame : BCon := ⟨13, 416, [lss, lss], [.d .bool], 0⟩
def li_ySame : FuncId → Nat → Option LoopI := fun f r => match f, r with
  | 13, 4 => some ⟨[0, 1], [(5, 0, 9223372036854775807)], [], [], [], [], []⟩
  | _, _ => none
def lsh_ySame : Nat → List Nat := fun n => [1]
def k_ltoken : BCon := ⟨3, 414, [ltry], [.d .bool], 0⟩
def li_ltoken : FuncId → Nat → Option LoopI := fun f r => match f, r with
  | 3, 9 => some ⟨[0, 6], [(7, 0, 9223372036854775807), (8, 0, 9223372036854775807), (10, 0, 9223372036854775807)], [], [9], [], [], [(3, [.int .i64 (-9223372036854775808) 9223372036854775807, .str, .str, .str, .str, .int .i64 (-9223372036854775808) 9223372036854775807, .int .i64 (-9223372036854775808) 9223372036854775807, .int .i64 (-9223372036854775808) 9223372036854775807, .bool, .int .i64 (-9223372036854775808) 9223372036854775807])]⟩
  | _, _ => none
def lsh_ltoken : Nat → List Nat := fun n => [1, 1, 1, 1, 1, 1, 1]
def k_lprunes : BCon := ⟨4, 415, [lss, .d dint], [.d .bool], 0⟩
def li_lprunes : FuncId → Nat → Option LoopI := fun f r => match f, r with
  | 4, 10 => some ⟨[0, 1, 5], [(6, 0, 9223372036854775807), (7, 0, 9223372036854775807)], [], [], [], [], []⟩
  | _, _ => none
def lsh_lprunes : Nat → List Nat := fun n => [1, 1]
def sh : Nat → List Nat × List Nat
  | 73 => ([1, 1], [1])
  | 36 => ([1, 1], [1])
  | 37 => ([1, 1], [1])
  | 120 => ([1], [1])
  | 121 => ([1], [1])
  | 127 => ([1], [1])
  | 122 => ([1], [1])
  | 125 => ([1], [1, 1, 1])
  | 126 => ([1], [1, 1, 1])
  | 44 => ([1, 1], [1])
  | 65 => ([1, 1], [1])
  | 28 => ([1], [1])
  | 128 => ([1], [1])
  | 123 => ([1], [1])
  | 124 => ([1], [1])
  | 47 => ([1], [1])
  | 27 => ([1], [1])
  | 24 => ([1], [1])
  | 32 => ([1], [2, 1])
  | 33 => ([1], [1, 1, 1])
  | 34 => ([1, 1], [1])
  | 10 => ([1], [1, 1])
  | 12 => ([1, 1], [1, 1])
  | 15 => ([1, 1], [2, 1])
  | 16 => ([2], [1])
  | 400 => ([1], [1])
  | 401 => ([1], [1])
  | 402 => ([10], [1])
  | 403 => ([1], [1])
  | 404 => ([1, 1], [1, 1])
  | 417 => ([10, 1], [1])
  | 405 => ([1, 1], [10, 1])
  | 406 => ([1, 1, 10], [1, 1])
  | 407 => ([1, 1, 10], [2, 1])
  | 408 => ([1, 1, 10], [1, 1])
  | 409 => ([1, 1], [1])
  | 410 => ([1, 1], [1])
  | 411 => ([1, 1, 1], [1])
  | 412 => ([1, 10], [1, 1, 1, 1])
  | 418 => ([], [10])
  | 413 => ([], [1])
  | 416 => ([1, 1], [1])
  | 414 => ([1], [1])
  | 415 => ([1, 1], [1])
  | _ => ([], [])
end Go.Ad


set_option maxRecDepth 100000
namespace Go.Ad
open Go Go.Rx Go.Proofs
theorem u_tlb (S K) : VcB sh lsh_tlb S K [1, 1] (bdsL k_tlb.args) k_tlb.res (k_tlb.tree Tryd.prog [] (calQ [] []) li_tlb 600 6) = B_tlb S K := by kernel_rfl
theorem u_trb (S K) : VcB sh lsh_trb S K [1, 1] (bdsL k_trb.args) k_trb.res (k_trb.tree Tryd.prog [] (calQ [] []) li_trb 600 6) = B_trb S K := by kernel_rfl
theorem u_tsp (S K) : VcB sh lsh_none S K [1] (bdsL k_tsp.args) k_tsp.res (k_tsp.tree Tryd.prog [] (calQ [] [k_tlb, k_trb]) li_none 600 6) = B_tsp S K := by kernel_rfl
theorem u_tdot (S K) : VcB sh lsh_none S K [1] (bdsL k_tdot.args) k_tdot.res (k_tdot.tree Tryd.prog [] (calQ [] [k_tlb, k_trb]) li_none 600 6) = B_tdot S K := by kernel_rfl
theorem u_cdot (S K) : VcB sh lsh_none S K [1] (bdsL k_cdot.args) k_cdot.res (k_cdot.tree Tryd.prog [] (calQ [] [k_ibs]) li_none 600 6) = B_cdot S K := by kernel_rfl
theorem u_tdm (S K) : VcB sh lsh_tdm S K [1] (bdsL k_tdm.args) k_tdm.res (k_tdm.tree Tryd.prog [] (calQ [] []) li_tdm 600 6) = B_tdm S K := by kernel_rfl
theorem u_cutat (S K) : VcB sh lsh_none S K [1] (bdsL k_cutat.args) k_cutat.res (k_cutat.tree Tryd.prog [] (calQ [] [k_ibs]) li_none 600 6) = B_cutat S K := by kernel_rfl
theorem u_cutcol (S K) : VcB sh lsh_none S K [1] (bdsL k_cutcol.args) k_cutcol.res (k_cutcol.tree Tryd.prog [] (calQ [] [k_ibs]) li_none 600 6) = B_cutcol S K := by kernel_rfl
theorem u_only (S K) : VcB sh lsh_only S K [1, 1] (bdsL k_only.args) k_only.res (k_only.tree Tryd.prog [] (calQ [] [k_ibs]) li_only 600 6) = B_only S K := by kernel_rfl
theorem u_ionly (S K) : VcB sh lsh_ionly S K [1, 1] (bdsL k_ionly.args) k_ionly.res (k_ionly.tree Tryd.prog [] (calQ [] [k_ibs]) li_ionly 600 6) = B_ionly S K := by kernel_rfl
theorem u_low (S K) : VcB sh lsh_low S K [1] (bdsL k_low.args) k_low.res (k_low.tree Tryd.prog [] (calQ [] []) li_low 600 6) = B_low S K := by kernel_rfl
theorem u_thost (S K) : VcB sh lsh_thost S K [1] (bdsL k_thost.args) k_thost.res (k_thost.tree Tryd.prog [] (calQ [] []) li_thost 600 6) = B_thost S K := by kernel_rfl
theorem u_tdig (S K) : VcB sh lsh_tdig S K [1] (bdsL k_tdig.args) k_tdig.res (k_tdig.tree Tryd.prog [] (calQ [] []) li_tdig 600 6) = B_tdig S K := by kernel_rfl
theorem u_host (S K) : VcB sh lsh_none S K [1] (bdsL k_host.args) k_host.res (k_host.tree Tryd.prog [] (calQ [q_cdd] [k_thost, k_tdm, k_ionly]) li_none 600 6) = B_host S K := by kernel_rfl
theorem u_server (S K) : VcB sh lsh_none S K [1] (bdsL k_server.args) k_server.res (k_server.tree Tryd.prog [] (calQ [] [k_cutcol, k_host, k_tdig, k_ionly]) li_none 600 6) = B_server S K := by kernel_rfl
theorem u_local (S K) : VcB sh lsh_none S K [1] (bdsL k_local.args) k_local.res (k_local.tree Tryd.prog [] (calQ [q_cdd] [k_only, k_tdot]) li_none 600 6) = B_local S K := by kernel_rfl
theorem u_email (S K) : VcB sh lsh_none S K [1] (bdsL k_email.args) k_email.res (k_email.tree Tryd.prog [] (calQ [] [k_tsp, k_cutat, k_local, k_cdot, k_server, k_low, k_ibs]) li_none 600 6) = B_email S K := by kernel_rfl
theorem u_phone (S K) : VcB sh lsh_none S K [1, 1] (bdsL k_phone.args) k_phone.res (q_phone.tree Tryd.prog [] (calQ [] [k_country, k_bare, k_tpre]) li_none 600 6) = B_phone S K := by kernel_rfl
theorem u_make (S K) : VcB sh lsh_none S K [1, 1] (bdsL k_make.args) k_make.res (k_make.tree Tryd.prog [] (calQ [q_phone] [k_email]) li_none 600 6) = B_make S K := by kernel_rfl
theorem u_right (S K) : VcB sh lsh_none S K [2] (bdsL k_right.args) k_right.res (k_right.tree Tryd.prog [] (calQ [] [k_make]) li_none 600 6) = B_right S K := by kernel_rfl
end Go.Ad
