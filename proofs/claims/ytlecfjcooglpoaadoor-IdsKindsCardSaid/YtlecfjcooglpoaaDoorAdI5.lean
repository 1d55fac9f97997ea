/- AdI5: a part of the proof of statements of this seat. -/
import Derived.Test.YtlecfjcooglpoaaDoorAdI4
set_option maxRecDepth 100000
set_option linter.unusedVariables false
set_option linter.unusedSimpArgs false
namespace Go.Ad
open Go Go.Rx
def B_event (S : Nat → List (List Int) → List (List Int) → Prop) (K : List (List Int) → List (List Int) → Prop) : Prop :=
 ∀ z0 : Int, 0 ≤ z0 → z0 ≤ HB → 
 ∀ z1 : Int, 0 ≤ z1 → z1 ≤ 9223372036854775807 → z1 = fnD 0 [z0] →
 (((decide (1 ≤ z1)) = true →
  chkD 2 [z0, 0, 1] ∧
  ∀ z2 : Int, 0 ≤ z2 → z2 ≤ HB → z2 = fnD 2 [z0, 0, 1] →
  ∀ z3 : Int, 0 ≤ z3 → z3 ≤ 1 → z3 = fnD 4 [z2, 37] →
  ((((!(decide (z3 = 1)))) = true →
   K [[z0]] [[(cond (false) 1 0)]]
  ) ∧ (((!(decide (z3 = 1)))) = false →
   ∀ z4 : Int, 0 ≤ z4 → z4 ≤ 9223372036854775807 → z4 = fnD 0 [z0] →
   chkD 2 [z0, 1, z4] ∧
   ∀ z5 : Int, 0 ≤ z5 → z5 ≤ HB → z5 = fnD 2 [z0, 1, z4] →
   ∀ z6 : Int, 0 ≤ z6 → z6 ≤ 9223372036854775807 → z6 = fnD 0 [z5] →
   ((((!(decide (z6 = 43)))) = true →
    K [[z0]] [[(cond (false) 1 0)]]
   ) ∧ (((!(decide (z6 = 43)))) = false →
    chkD 50 [z5] ∧
    ∀ z7 : Int, 0 ≤ z7 → z7 ≤ RB → ∀ z8 : Int, 0 ≤ z8 → z8 ≤ 21 → S 220 [[z5]] [[z7], [z8]] →
    ∀ z9 : Int, (-1) ≤ z9 → z9 ≤ 9223372036854775807 → 
    ∀ z10 : Int, 0 ≤ z10 → z10 ≤ 9223372036854775807 → z10 = fnD 20 [z7] →
    K [[z0]] [[(cond (decide (z8 = 0)) 1 0)]]
   ))
  ))
 ) ∧ ((decide (1 ≤ z1)) = false →
  K [[z0]] [[(cond (false) 1 0)]]
 ))
def B_revent (S : Nat → List (List Int) → List (List Int) → Prop) (K : List (List Int) → List (List Int) → Prop) : Prop :=
 ∀ z0 : Int, 0 ≤ z0 → z0 ≤ HB → 
 ∀ z1 : Int, 0 ≤ z1 → z1 ≤ 9223372036854775807 → z1 = fnD 0 [z0] →
 ((((!(decide (z1 = 44)))) = true →
  K [[z0]] [[(cond (false) 1 0)]]
 ) ∧ (((!(decide (z1 = 44)))) = false →
  chkD 1 [z0, 0] ∧
  ∀ z2 : Int, 0 ≤ z2 → z2 ≤ 255 → z2 = fnD 1 [z0, 0] →
  ((((!(decide (z2 = 36)))) = true →
   K [[z0]] [[(cond (false) 1 0)]]
  ) ∧ (((!(decide (z2 = 36)))) = false →
   ∀ z3 : Int, 0 ≤ z3 → z3 ≤ 9223372036854775807 → z3 = fnD 0 [z0] →
   chkD 2 [z0, 1, z3] ∧
   ∀ z4 : Int, 0 ≤ z4 → z4 ≤ HB → z4 = fnD 2 [z0, 1, z3] →
   chkD 50 [z4] ∧
   ∀ z5 : Int, 0 ≤ z5 → z5 ≤ RB → ∀ z6 : Int, 0 ≤ z6 → z6 ≤ 21 → S 221 [[z4]] [[z5], [z6]] →
   ∀ z7 : Int, (-1) ≤ z7 → z7 ≤ 9223372036854775807 → 
   ∀ z8 : Int, 0 ≤ z8 → z8 ≤ 9223372036854775807 → z8 = fnD 20 [z5] →
   (((decide (z6 = 0)) = true →
    K [[z0]] [[(cond (decide (z8 = 32)) 1 0)]]
   ) ∧ ((decide (z6 = 0)) = false →
    K [[z0]] [[(cond (false) 1 0)]]
   ))
  ))
 ))
theorem pdec_rows {r : Int} {o : Tx} {n : Nat} (h : bytesR r = o) (hn : o.length = n) : (rOf r).length = n := by rw [← bytesR_len, h, hn]
theorem ev_one {z z2 : Int} (h : 1 ≤ (sOf z).length) (h2 : z2 = fnD 2 [z, 0, 1]) : sOf z2 = [(sOf z).getD 0 0] := by
  rw [h2]; simp only [fnD, sOf_cOf]
  rw [show (0 : Int).toNat = 0 from rfl, List.drop_zero, show (1 : Int).toNat - 0 = 1 from rfl]
  cases hs : sOf z with
  | nil => rw [hs] at h; simp at h
  | cons a r => rfl
theorem ev_rest {z n y : Int} (h : n = ((sOf z).length : Int)) (h1 : 1 ≤ (sOf z).length) : (0 ≤ (1 : Int) ∧ 1 ≤ n ∧ n ≤ ((sOf z).length : Int)) ∧ (y = fnD 2 [z, 1, n] → sOf y = (sOf z).drop 1) := by
  refine ⟨⟨by decide, by omega, by omega⟩, fun hy => ?_⟩
  rw [hy]; simp only [fnD, sOf_cOf]
  rw [show (1 : Int).toNat = 1 from rfl]
  exact List.take_of_length_le (by rw [List.length_drop]; omega)
theorem c37 : sOf 37 = [36] := by decide
theorem kbool {id : Nat} {zs : List (List Int)} {b : Bool} (h : SB id zs [[cond b 1 0]]) : KBb SB [.d .bool] id zs [[cond b 1 0]] := ⟨by cases b <;> exact ⟨by decide, by decide, trivial⟩, h⟩
theorem ev_no {z : Int} (h : ¬ (sOf z).length = 44) : eventb (sOf z) = false := by unfold eventb; rw [decide_eq_false h]; rfl
theorem ev_no2 {z : Int} (h : ¬ (sOf z).getD 0 0 = 36) : eventb (sOf z) = false := by
  unfold eventb
  rw [show ((sOf z).getD 0 0 == 36) = false from beq_false_of_ne h]; simp
theorem ev_yes {z : Int} (h : (sOf z).length = 44) (h2 : (sOf z).getD 0 0 = 36) : eventb (sOf z) = (pdec [] ((sOf z).drop 1)).isSome := by
  unfold eventb
  rw [decide_eq_true h, show ((sOf z).getD 0 0 == 36) = true from beq_iff_eq.2 h2]; simp
theorem p_event : B_event SB (KBb SB [.d .bool] 223) := by
  intro z0 a0 a1 z1 b0 b1 h1
  simp only [fnD] at h1
  have kno : eventb (sOf z0) = false → KBb SB [.d .bool] 223 [[z0]] [[cond false 1 0]] := fun h => kbool (b := false) (by show (0 : Int) = b01 _; rw [h]; rfl)
  refine ⟨fun h => ?_, fun h => kno (ev_no (by have := of_decide_eq_false h; omega))⟩
  have h := of_decide_eq_true h
  refine ⟨⟨by decide, by decide, by omega⟩, fun z2 c0 c1 h2 z3 d0 d1 h3 => ?_⟩
  have h2 := ev_one (by omega) h2
  have h3 := eq_dec h3
  rw [h2, c37] at h3
  refine ⟨fun h3' => kno (ev_no2 (fun h => ?_)), fun h3' z4 e0 e1 h4 => ?_⟩
  · rw [h, decide_eq_true rfl] at h3; rw [h3] at h3'; cases h3'
  have hd : (sOf z0).getD 0 0 = 36 := by
    cases hx : decide (z3 = 1) with
    | true => have := of_decide_eq_true (h3.symm.trans hx); simpa using this
    | false => rw [hx] at h3'; cases h3'
  simp only [fnD] at h4
  refine ⟨(ev_rest (y := 0) h4 (by omega)).1, fun z5 f0 f1 h5 z6 g0 g1 h6 => ?_⟩
  have h5 := (ev_rest (y := z5) h4 (by omega)).2 h5
  simp only [fnD, h5, List.length_drop] at h6
  refine ⟨fun h => kno (ev_no (fun h' => ?_)), fun h => ?_⟩
  · have e : z6 = 43 := by omega
    rw [decide_eq_true e] at h; cases h
  have h43 : z6 = 43 := by
    cases hx : decide (z6 = 43) with
    | true => exact of_decide_eq_true hx
    | false => rw [hx] at h; cases h
  refine ⟨by show (sOf z5).length ≤ 1073741824; rw [h5, List.length_drop]; omega, fun z7 i0 i1 z8 j0 j1 hS z9 k0 k1 z10 l0 l1 h10 => ?_⟩
  refine kbool (by
    show cond (decide (z8 = 0)) (1 : Int) 0 = b01 (eventb (sOf z0))
    rw [ev_yes (by omega) hd]
    have hS : (match pdec [] (sOf z5) with | some l => bytesR z7 = l ∧ z8 = 0 | none => bytesR z7 = [] ∧ z8 = 2) := hS
    rw [h5] at hS
    cases hp : pdec [] ((sOf z0).drop 1) with
    | none => rw [hp] at hS; rw [hS.2]; rfl
    | some l => rw [hp] at hS; rw [hS.2]; rfl)
theorem p_revent : B_revent SB (KBb SB [.d .bool] 224) := by
  intro z0 a0 a1 z1 b0 b1 h1
  simp only [fnD] at h1
  have kno : eventb (sOf z0) = false → KBb SB [.d .bool] 224 [[z0]] [[cond false 1 0]] := fun h => kbool (b := false) (by show (0 : Int) = b01 _; rw [h]; rfl)
  refine ⟨fun h => kno (ev_no (fun h' => ?_)), fun h => ?_⟩
  · rw [decide_eq_true (show z1 = 44 by omega)] at h; cases h
  have h44 : z1 = 44 := by
    cases hx : decide (z1 = 44) with
    | true => exact of_decide_eq_true hx
    | false => rw [hx] at h; cases h
  refine ⟨⟨by decide, by omega⟩, fun z2 c0 c1 h2 => ?_⟩
  have h2 : z2 = (((sOf z0).getD 0 0).toNat : Int) := by rw [h2]; rfl
  refine ⟨fun h3' => kno (ev_no2 (fun h => ?_)), fun h3' z3 e0 e1 h4 => ?_⟩
  · rw [h] at h2; rw [decide_eq_true (show z2 = 36 from h2)] at h3'; cases h3'
  have hd : (sOf z0).getD 0 0 = 36 := by
    cases hx : decide (z2 = 36) with
    | true => have := of_decide_eq_true hx; apply UInt8.toNat_inj.1; show _ = 36; omega
    | false => rw [hx] at h3'; cases h3'
  simp only [fnD] at h4
  refine ⟨(ev_rest (y := 0) h4 (by omega)).1, fun z5 f0 f1 h5 => ?_⟩
  have h5 := (ev_rest (y := z5) h4 (by omega)).2 h5
  refine ⟨by show (sOf z5).length ≤ 1073741824; rw [h5, List.length_drop]; omega, fun z7 i0 i1 z8 j0 j1 hS z9 k0 k1 z10 l0 l1 h10 => ?_⟩
  have hS : (match pdec [] (sOf z5) with | some l => bytesR z7 = l ∧ z8 = 0 | none => bytesR z7 = [] ∧ z8 = 2) := hS
  rw [h5] at hS
  have hev := ev_yes (z := z0) (by omega) hd
  cases hp : pdec [] ((sOf z0).drop 1) with
  | none =>
    rw [hp] at hS hev
    refine ⟨fun h => absurd (of_decide_eq_true h) (by have := hS.2; omega), fun _ => kno hev⟩
  | some l =>
    rw [hp] at hS hev
    have hl := pdec_len _ _ hp
    have hlr := pdec_rows hS.1 (n := 32) (by rw [hl, List.length_drop, show (sOf z0).length = 44 by omega]; rfl)
    simp only [fnD] at h10
    refine ⟨fun h => kbool (by
      show cond (decide (z10 = 32)) (1 : Int) 0 = b01 (eventb (sOf z0))
      rw [hev, decide_eq_true (show z10 = 32 by omega)]; rfl), fun h => absurd hS.2 (of_decide_eq_false h)⟩
def B_lnames (S : Nat → List (List Int) → List (List Int) → Prop) (K : List (List Int) → List (List Int) → Prop) : Prop :=
 ∀ z0 : Int, 0 ≤ z0 → z0 ≤ HB → 
 ∀ z1 : Int, 0 ≤ z1 → z1 ≤ 1 → S 226 [] [[z1]] →
 ((((!(decide (z1 = 1)))) = true →
  K [[z0]] [[(cond (false) 1 0)]]
 ) ∧ (((!(decide (z1 = 1)))) = false →
  ∀ z2 : Int, 0 ≤ z2 → z2 ≤ 9223372036854775807 → z2 = fnD 0 [z0] →
  (((decide (2000 < z2)) = true →
   K [[z0]] [[(cond (true) 1 0)]]
  ) ∧ ((decide (2000 < z2)) = false →
   ∀ z3 : Int, 0 ≤ z3 → z3 ≤ HB → ∀ z4 : Int, 0 ≤ z4 → z4 ≤ HB → ∀ z5 : Int, 0 ≤ z5 → z5 ≤ 21 → S 209 [[z0]] [[z3], [z4], [z5]] →
   ∀ z6 : Int, 0 ≤ z6 → z6 ≤ HB → ∀ z7 : Int, 0 ≤ z7 → z7 ≤ HB → ∀ z8 : Int, 0 ≤ z8 → z8 ≤ 21 → S 210 [[z0]] [[z6], [z7], [z8]] →
   ∀ z9 : Int, 0 ≤ z9 → z9 ≤ 1 → S 27 [[z0]] [[z9]] →
   ∀ z10 : Int, 0 ≤ z10 → z10 ≤ 1 → S 205 [[z0]] [[z10]] →
   (((((decide (z9 = 1)) == (decide (z10 = 1)))) = true →
    ∀ z11 : Int, 0 ≤ z11 → z11 ≤ 1 → S 200 [[z0]] [[z11]] →
    ∀ z12 : Int, 0 ≤ z12 → z12 ≤ 1 → S 207 [[z0]] [[z12]] →
    (((((decide (z11 = 1)) == (decide (z12 = 1)))) = true →
     ∀ z13 : Int, 0 ≤ z13 → z13 ≤ 1 → S 201 [[z0]] [[z13]] →
     ∀ z14 : Int, 0 ≤ z14 → z14 ≤ 1 → S 208 [[z0]] [[z14]] →
     (((((decide (z13 = 1)) == (decide (z14 = 1)))) = true →
      ∀ z15 : Int, 0 ≤ z15 → z15 ≤ 1 → S 223 [[z0]] [[z15]] →
      ∀ z16 : Int, 0 ≤ z16 → z16 ≤ 1 → S 224 [[z0]] [[z16]] →
      (((((decide (z15 = 1)) == (decide (z16 = 1)))) = true →
       ∀ z17 : Int, 0 ≤ z17 → z17 ≤ 1 → z17 = fnD 4 [z3, z6] →
       (((decide (z17 = 1)) = true →
        ∀ z18 : Int, 0 ≤ z18 → z18 ≤ 1 → z18 = fnD 4 [z4, z7] →
        (((decide (z18 = 1)) = true →
         K [[z0]] [[(cond (decide (z5 = z8)) 1 0)]]
        ) ∧ ((decide (z18 = 1)) = false →
         K [[z0]] [[(cond (false) 1 0)]]
        ))
       ) ∧ ((decide (z17 = 1)) = false →
        K [[z0]] [[(cond (false) 1 0)]]
       ))
      ) ∧ ((((decide (z15 = 1)) == (decide (z16 = 1)))) = false →
       K [[z0]] [[(cond (false) 1 0)]]
      ))
     ) ∧ ((((decide (z13 = 1)) == (decide (z14 = 1)))) = false →
      K [[z0]] [[(cond (false) 1 0)]]
     ))
    ) ∧ ((((decide (z11 = 1)) == (decide (z12 = 1)))) = false →
     K [[z0]] [[(cond (false) 1 0)]]
    ))
   ) ∧ ((((decide (z9 = 1)) == (decide (z10 = 1)))) = false →
    K [[z0]] [[(cond (false) 1 0)]]
   ))
  ))
 ))
def B_lkinds (S : Nat → List (List Int) → List (List Int) → Prop) (K : List (List Int) → List (List Int) → Prop) : Prop :=
 ∀ z0 : Int, 0 ≤ z0 → z0 ≤ HB → 
 ∀ z1 : Int, 0 ≤ z1 → z1 ≤ 1 → S 226 [] [[z1]] →
 ((((!(decide (z1 = 1)))) = true →
  K [[z0]] [[(cond (false) 1 0)]]
 ) ∧ (((!(decide (z1 = 1)))) = false →
  ∀ z2 : Int, 0 ≤ z2 → z2 ≤ 9223372036854775807 → z2 = fnD 0 [z0] →
  (((decide (2000 < z2)) = true →
   K [[z0]] [[(cond (true) 1 0)]]
  ) ∧ ((decide (2000 < z2)) = false →
   ∀ z3 : Int, 0 ≤ z3 → z3 ≤ 1 → S 27 [[z0]] [[z3]] →
   ∀ z4 : Int, 0 ≤ z4 → z4 ≤ 1 → S 200 [[z0]] [[z4]] →
   ∀ z5 : Int, 0 ≤ z5 → z5 ≤ 1 → S 201 [[z0]] [[z5]] →
   ∀ z6 : Int, 0 ≤ z6 → z6 ≤ 1 → S 223 [[z0]] [[z6]] →
   (((decide (z3 = 1)) = true →
    ∀ z7 : Int, 0 ≤ z7 → z7 ≤ 1 → S 27 [[z0]] [[z7]] →
    ∀ z8 : Int, 0 ≤ z8 → z8 ≤ 1 → S 200 [[z0]] [[z8]] →
    ∀ z9 : Int, 0 ≤ z9 → z9 ≤ 1 → S 201 [[z0]] [[z9]] →
    ∀ z10 : Int, 0 ≤ z10 → z10 ≤ 1 → S 223 [[z0]] [[z10]] →
    (((decide (z8 = 1)) = true →
     ∀ z11 : Int, 0 ≤ z11 → z11 ≤ 1 → S 27 [[z0]] [[z11]] →
     ∀ z12 : Int, 0 ≤ z12 → z12 ≤ 1 → S 200 [[z0]] [[z12]] →
     ∀ z13 : Int, 0 ≤ z13 → z13 ≤ 1 → S 201 [[z0]] [[z13]] →
     ∀ z14 : Int, 0 ≤ z14 → z14 ≤ 1 → S 223 [[z0]] [[z14]] →
     (((decide (z13 = 1)) = true →
      ∀ z15 : Int, 0 ≤ z15 → z15 ≤ 1 → S 27 [[z0]] [[z15]] →
      ∀ z16 : Int, 0 ≤ z16 → z16 ≤ 1 → S 200 [[z0]] [[z16]] →
      ∀ z17 : Int, 0 ≤ z17 → z17 ≤ 1 → S 201 [[z0]] [[z17]] →
      ∀ z18 : Int, 0 ≤ z18 → z18 ≤ 1 → S 223 [[z0]] [[z18]] →
      (((decide (z18 = 1)) = true →
       K [[z0]] [[(cond (false) 1 0)]]
      ) ∧ ((decide (z18 = 1)) = false →
       K [[z0]] [[(cond (false) 1 0)]]
      ))
     ) ∧ ((decide (z13 = 1)) = false →
      ∀ z15 : Int, 0 ≤ z15 → z15 ≤ 1 → S 27 [[z0]] [[z15]] →
      ∀ z16 : Int, 0 ≤ z16 → z16 ≤ 1 → S 200 [[z0]] [[z16]] →
      ∀ z17 : Int, 0 ≤ z17 → z17 ≤ 1 → S 201 [[z0]] [[z17]] →
      ∀ z18 : Int, 0 ≤ z18 → z18 ≤ 1 → S 223 [[z0]] [[z18]] →
      (((decide (z18 = 1)) = true →
       K [[z0]] [[(cond (false) 1 0)]]
      ) ∧ ((decide (z18 = 1)) = false →
       K [[z0]] [[(cond (false) 1 0)]]
      ))
     ))
    ) ∧ ((decide (z8 = 1)) = false →
     ∀ z11 : Int, 0 ≤ z11 → z11 ≤ 1 → S 27 [[z0]] [[z11]] →
     ∀ z12 : Int, 0 ≤ z12 → z12 ≤ 1 → S 200 [[z0]] [[z12]] →
     ∀ z13 : Int, 0 ≤ z13 → z13 ≤ 1 → S 201 [[z0]] [[z13]] →
     ∀ z14 : Int, 0 ≤ z14 → z14 ≤ 1 → S 223 [[z0]] [[z14]] →
     (((decide (z13 = 1)) = true →
      ∀ z15 : Int, 0 ≤ z15 → z15 ≤ 1 → S 27 [[z0]] [[z15]] →
      ∀ z16 : Int, 0 ≤ z16 → z16 ≤ 1 → S 200 [[z0]] [[z16]] →
      ∀ z17 : Int, 0 ≤ z17 → z17 ≤ 1 → S 201 [[z0]] [[z17]] →
      ∀ z18 : Int, 0 ≤ z18 → z18 ≤ 1 → S 223 [[z0]] [[z18]] →
      (((decide (z18 = 1)) = true →
       K [[z0]] [[(cond (false) 1 0)]]
      ) ∧ ((decide (z18 = 1)) = false →
       K [[z0]] [[(cond (false) 1 0)]]
      ))
     ) ∧ ((decide (z13 = 1)) = false →
      ∀ z15 : Int, 0 ≤ z15 → z15 ≤ 1 → S 27 [[z0]] [[z15]] →
      ∀ z16 : Int, 0 ≤ z16 → z16 ≤ 1 → S 200 [[z0]] [[z16]] →
      ∀ z17 : Int, 0 ≤ z17 → z17 ≤ 1 → S 201 [[z0]] [[z17]] →
      ∀ z18 : Int, 0 ≤ z18 → z18 ≤ 1 → S 223 [[z0]] [[z18]] →
      (((decide (z18 = 1)) = true →
       K [[z0]] [[(cond (false) 1 0)]]
      ) ∧ ((decide (z18 = 1)) = false →
       ∀ z19 : Int, 0 ≤ z19 → z19 ≤ 9223372036854775807 → z19 = fnD 0 [z0] →
       (((decide (z19 ≤ 255)) = true →
        ∀ z20 : Int, 0 ≤ z20 → z20 ≤ 9223372036854775807 → z20 = fnD 0 [z0] →
        K [[z0]] [[(cond (decide (1 ≤ z20)) 1 0)]]
       ) ∧ ((decide (z19 ≤ 255)) = false →
        K [[z0]] [[(cond (false) 1 0)]]
       ))
      ))
     ))
    ))
   ) ∧ ((decide (z3 = 1)) = false →
    ∀ z7 : Int, 0 ≤ z7 → z7 ≤ 1 → S 27 [[z0]] [[z7]] →
    ∀ z8 : Int, 0 ≤ z8 → z8 ≤ 1 → S 200 [[z0]] [[z8]] →
    ∀ z9 : Int, 0 ≤ z9 → z9 ≤ 1 → S 201 [[z0]] [[z9]] →
    ∀ z10 : Int, 0 ≤ z10 → z10 ≤ 1 → S 223 [[z0]] [[z10]] →
    (((decide (z8 = 1)) = true →
     ∀ z11 : Int, 0 ≤ z11 → z11 ≤ 1 → S 27 [[z0]] [[z11]] →
     ∀ z12 : Int, 0 ≤ z12 → z12 ≤ 1 → S 200 [[z0]] [[z12]] →
     ∀ z13 : Int, 0 ≤ z13 → z13 ≤ 1 → S 201 [[z0]] [[z13]] →
     ∀ z14 : Int, 0 ≤ z14 → z14 ≤ 1 → S 223 [[z0]] [[z14]] →
     (((decide (z13 = 1)) = true →
      ∀ z15 : Int, 0 ≤ z15 → z15 ≤ 1 → S 27 [[z0]] [[z15]] →
      ∀ z16 : Int, 0 ≤ z16 → z16 ≤ 1 → S 200 [[z0]] [[z16]] →
      ∀ z17 : Int, 0 ≤ z17 → z17 ≤ 1 → S 201 [[z0]] [[z17]] →
      ∀ z18 : Int, 0 ≤ z18 → z18 ≤ 1 → S 223 [[z0]] [[z18]] →
      (((decide (z18 = 1)) = true →
       K [[z0]] [[(cond (false) 1 0)]]
      ) ∧ ((decide (z18 = 1)) = false →
       K [[z0]] [[(cond (false) 1 0)]]
      ))
     ) ∧ ((decide (z13 = 1)) = false →
      ∀ z15 : Int, 0 ≤ z15 → z15 ≤ 1 → S 27 [[z0]] [[z15]] →
      ∀ z16 : Int, 0 ≤ z16 → z16 ≤ 1 → S 200 [[z0]] [[z16]] →
      ∀ z17 : Int, 0 ≤ z17 → z17 ≤ 1 → S 201 [[z0]] [[z17]] →
      ∀ z18 : Int, 0 ≤ z18 → z18 ≤ 1 → S 223 [[z0]] [[z18]] →
      (((decide (z18 = 1)) = true →
       K [[z0]] [[(cond (false) 1 0)]]
      ) ∧ ((decide (z18 = 1)) = false →
       ∀ z19 : Int, 0 ≤ z19 → z19 ≤ 9223372036854775807 → z19 = fnD 0 [z0] →
       (((decide (z19 ≤ 255)) = true →
        ∀ z20 : Int, 0 ≤ z20 → z20 ≤ 9223372036854775807 → z20 = fnD 0 [z0] →
        K [[z0]] [[(cond (decide (1 ≤ z20)) 1 0)]]
       ) ∧ ((decide (z19 ≤ 255)) = false →
        K [[z0]] [[(cond (false) 1 0)]]
       ))
      ))
     ))
    ) ∧ ((decide (z8 = 1)) = false →
     ∀ z11 : Int, 0 ≤ z11 → z11 ≤ 1 → S 27 [[z0]] [[z11]] →
     ∀ z12 : Int, 0 ≤ z12 → z12 ≤ 1 → S 200 [[z0]] [[z12]] →
     ∀ z13 : Int, 0 ≤ z13 → z13 ≤ 1 → S 201 [[z0]] [[z13]] →
     ∀ z14 : Int, 0 ≤ z14 → z14 ≤ 1 → S 223 [[z0]] [[z14]] →
     (((decide (z13 = 1)) = true →
      ∀ z15 : Int, 0 ≤ z15 → z15 ≤ 1 → S 27 [[z0]] [[z15]] →
      ∀ z16 : Int, 0 ≤ z16 → z16 ≤ 1 → S 200 [[z0]] [[z16]] →
      ∀ z17 : Int, 0 ≤ z17 → z17 ≤ 1 → S 201 [[z0]] [[z17]] →
      ∀ z18 : Int, 0 ≤ z18 → z18 ≤ 1 → S 223 [[z0]] [[z18]] →
      (((decide (z18 = 1)) = true →
       K [[z0]] [[(cond (false) 1 0)]]
      ) ∧ ((decide (z18 = 1)) = false →
       ∀ z19 : Int, 0 ≤ z19 → z19 ≤ 9223372036854775807 → z19 = fnD 0 [z0] →
       (((decide (z19 ≤ 255)) = true →
        ∀ z20 : Int, 0 ≤ z20 → z20 ≤ 9223372036854775807 → z20 = fnD 0 [z0] →
        K [[z0]] [[(cond (decide (1 ≤ z20)) 1 0)]]
       ) ∧ ((decide (z19 ≤ 255)) = false →
        K [[z0]] [[(cond (false) 1 0)]]
       ))
      ))
     ) ∧ ((decide (z13 = 1)) = false →
      ∀ z15 : Int, 0 ≤ z15 → z15 ≤ 1 → S 27 [[z0]] [[z15]] →
      ∀ z16 : Int, 0 ≤ z16 → z16 ≤ 1 → S 200 [[z0]] [[z16]] →
      ∀ z17 : Int, 0 ≤ z17 → z17 ≤ 1 → S 201 [[z0]] [[z17]] →
      ∀ z18 : Int, 0 ≤ z18 → z18 ≤ 1 → S 223 [[z0]] [[z18]] →
      (((decide (z18 = 1)) = true →
       ∀ z19 : Int, 0 ≤ z19 → z19 ≤ 9223372036854775807 → z19 = fnD 0 [z0] →
       (((decide (z19 ≤ 255)) = true →
        ∀ z20 : Int, 0 ≤ z20 → z20 ≤ 9223372036854775807 → z20 = fnD 0 [z0] →
        K [[z0]] [[(cond (decide (1 ≤ z20)) 1 0)]]
       ) ∧ ((decide (z19 ≤ 255)) = false →
        K [[z0]] [[(cond (false) 1 0)]]
       ))
      ) ∧ ((decide (z18 = 1)) = false →
       K [[z0]] [[(cond (true) 1 0)]]
      ))
     ))
    ))
   ))
  ))
 ))
/-! ### Which kinds a text is -/
theorem getD_take {s : Tx} {n : Nat} (h : 0 < n) : (s.take n).getD 0 0 = s.getD 0 0 := by
  cases s with
  | nil => simp
  | cons a r => cases n with
    | zero => omega
    | succ n => rfl
theorem hostb_fst {s : Tx} (h : hostb s = true) : inHost (s.getD 0 0) = true ∧ 1 ≤ s.length ∧ s.length ≤ 230 := by
  unfold hostb at h
  simp only [Bool.and_eq_true] at h
  obtain ⟨⟨h1, h2⟩, h3⟩ := h
  have h1 : 0 < s.length := by rw [Nat.blt_eq] at h1; exact h1
  have h2 := Nat.le_of_ble_eq_true h2
  exact ⟨((okP_iff _ _ _).1 h3 0 h1).1, h1, h2⟩
theorem sv_fst {s : Tx} (h : serverb s = true) : inHost (s.getD 0 0) = true ∧ 1 ≤ s.length ∧ s.length ≤ 255 := by
  unfold serverb cutF at h
  rcases idx_cases (c := 58) (by decide) (by decide) s with ⟨e, _⟩ | ⟨i0, i1, _⟩
  · rw [e, show decide ((0 : Int) ≤ -1) = false from rfl] at h
    simp only [cond_false, Bool.and_eq_true] at h
    obtain ⟨a, b, c⟩ := hostb_fst h.1
    exact ⟨a, b, by omega⟩
  · rw [decide_eq_true i0] at h
    simp only [cond_true, Bool.and_eq_true] at h
    obtain ⟨a, b, c⟩ := hostb_fst h.1
    have hp : portb (s.drop ((idx 58 s).toNat + 1)) = true := by simpa using h.2
    unfold portb at hp
    simp only [Bool.and_eq_true] at hp
    have hp1 := Nat.le_of_ble_eq_true hp.1.2
    rw [List.length_take] at b c
    rw [List.length_drop] at hp1
    rw [getD_take (by omega)] at a
    exact ⟨a, by omega, by omega⟩
theorem nm_fst {k : UInt8} {inn : UInt8 → Bool} {m : Nat} {s : Tx} (h : nameb k inn m s = true) : s.getD 0 0 = k ∧ 1 ≤ s.length ∧ s.length ≤ 255 := by
  have h2 : (partsF k s).2.2 = 1 := by
    unfold nameb at h; simp only [Bool.and_eq_true] at h; exact of_decide_eq_true h.1.1.1
  by_cases h1 : s.getD 0 0 = k
  · refine ⟨h1, ?_, ?_⟩
    · cases hs : s with
      | nil => rw [partsF_ne (.inr hs)] at h2; omega
      | cons a r => simp
    · cases hb : Nat.ble s.length 255 with
      | true => exact Nat.le_of_ble_eq_true hb
      | false => rw [partsF_long hb] at h2; omega
  · rw [partsF_ne (.inl h1)] at h2; omega
theorem ev_fst {s : Tx} (h : eventb s = true) : s.getD 0 0 = 36 ∧ s.length = 44 := by
  unfold eventb at h
  simp only [Bool.and_eq_true] at h
  exact ⟨eq_of_beq h.1.2, of_decide_eq_true h.1.1⟩
theorem ex_sv_us {s : Tx} (h : serverb s = true) (h2 : userb s = true) : False := by
  have a := (sv_fst h).1; rw [(nm_fst h2).1] at a; revert a; decide
theorem ex_sv_rm {s : Tx} (h : serverb s = true) (h2 : roomb s = true) : False := by
  have a := (sv_fst h).1; rw [(nm_fst h2).1] at a; revert a; decide
theorem ex_sv_ev {s : Tx} (h : serverb s = true) (h2 : eventb s = true) : False := by
  have a := (sv_fst h).1; rw [(ev_fst h2).1] at a; revert a; decide
theorem ex_us_rm {s : Tx} (h : userb s = true) (h2 : roomb s = true) : False := by
  have a := (nm_fst h).1; rw [(nm_fst h2).1] at a; revert a; decide
theorem ex_us_ev {s : Tx} (h : userb s = true) (h2 : eventb s = true) : False := by
  have a := (nm_fst h).1; rw [(ev_fst h2).1] at a; revert a; decide
theorem ex_rm_ev {s : Tx} (h : roomb s = true) (h2 : eventb s = true) : False := by
  have a := (nm_fst h).1; rw [(ev_fst h2).1] at a; revert a; decide
theorem len_sv {s : Tx} (h : serverb s = true) : 1 ≤ s.length ∧ s.length ≤ 255 := (sv_fst h).2
theorem len_us {s : Tx} (h : userb s = true) : 1 ≤ s.length ∧ s.length ≤ 255 := (nm_fst h).2
theorem len_rm {s : Tx} (h : roomb s = true) : 1 ≤ s.length ∧ s.length ≤ 255 := (nm_fst h).2
theorem len_ev {s : Tx} (h : eventb s = true) : 1 ≤ s.length ∧ s.length ≤ 255 := by have := (ev_fst h).2; omega
theorem live_no {z : Int} {P : Prop} (h : SB 226 [] [[z]]) (c : (!(decide (z = 1))) = true) : P := by
  have h : z = 1 := h
  rw [h] at c; cases c
theorem p_lnames : B_lnames SB (KBb SB [.d .bool] 227) := by
  intro z0 a0 a1 z1 _ _ h1
  have kk : KBb SB [.d .bool] 227 [[z0]] [[cond true 1 0]] := kbool (b := true) rfl
  refine ⟨fun c => live_no h1 c, fun _ z2 _ _ h2 => ⟨fun _ => kk, fun _ => ?_⟩⟩
  intro z3 _ _ z4 _ _ z5 _ _ hz3 z6 _ _ z7 _ _ z8 _ _ hz6 z9 _ _ h9 z10 _ _ h10
  have hz3 : (sOf z3, sOf z4, z5) = splitF (sOf z0) := hz3
  have hz6 : (sOf z6, sOf z7, z8) = splitF (sOf z0) := hz6
  have hh := hz3.trans hz6.symm
  simp only [Prod.mk.injEq] at hh
  obtain ⟨e1, e2, e3⟩ := hh
  have h9 : z9 = b01 (serverb (sOf z0)) := h9
  have h10 : z10 = b01 (serverb (sOf z0)) := h10
  have no : ∀ {x y : Int} {P : Prop}, x = y → (decide (x = 1) == decide (y = 1)) = false → P := fun h c => by rw [h, beq_self_eq_true] at c; cases c
  refine ⟨fun _ z11 _ _ h11 z12 _ _ h12 => ?_, fun c => no (h9.trans h10.symm) c⟩
  have h11 : z11 = b01 (userb (sOf z0)) := h11
  have h12 : z12 = b01 (userb (sOf z0)) := h12
  refine ⟨fun _ z13 _ _ h13 z14 _ _ h14 => ?_, fun c => no (h11.trans h12.symm) c⟩
  have h13 : z13 = b01 (roomb (sOf z0)) := h13
  have h14 : z14 = b01 (roomb (sOf z0)) := h14
  refine ⟨fun _ z15 _ _ h15 z16 _ _ h16 => ?_, fun c => no (h13.trans h14.symm) c⟩
  have h15 : z15 = b01 (eventb (sOf z0)) := h15
  have h16 : z16 = b01 (eventb (sOf z0)) := h16
  refine ⟨fun _ z17 _ _ h17 => ?_, fun c => no (h15.trans h16.symm) c⟩
  have h17 := eq_dec h17
  rw [e1, show decide (sOf z6 = sOf z6) = true from decide_eq_true rfl] at h17
  refine ⟨fun _ z18 _ _ h18 => ?_, fun c => by rw [h17] at c; cases c⟩
  have h18 := eq_dec h18
  rw [e2, show decide (sOf z7 = sOf z7) = true from decide_eq_true rfl] at h18
  refine ⟨fun _ => by rw [decide_eq_true e3]; exact kk, fun c => by rw [h18] at c; cases c⟩
theorem p_lkinds : B_lkinds SB (KBb SB [.d .bool] 228) := by
  intro z0 a0 a1 z1 _ _ h1
  have kk : KBb SB [.d .bool] 228 [[z0]] [[cond true 1 0]] := kbool (b := true) rfl
  refine ⟨fun c => live_no h1 c, fun _ z2 _ _ h2 => ⟨fun _ => kk, fun _ => ?_⟩⟩
  intro z3 _ _ hz3
  intro z4 _ _ hz4
  intro z5 _ _ hz5
  intro z6 _ _ hz6
  refine ⟨fun c => ?_, fun c => ?_⟩
  · have csv : serverb (sOf z0) = true := (b01_dec (b := serverb (sOf z0)) hz3).symm.trans c
    intro z7 _ _ hz7
    intro z8 _ _ hz8
    intro z9 _ _ hz9
    intro z10 _ _ hz10
    refine ⟨fun c => ?_, fun c => ?_⟩
    · have cus : userb (sOf z0) = true := (b01_dec (b := userb (sOf z0)) hz8).symm.trans c
      intro z11 _ _ hz11
      intro z12 _ _ hz12
      intro z13 _ _ hz13
      intro z14 _ _ hz14
      refine ⟨fun c => ?_, fun c => ?_⟩
      · have crm : roomb (sOf z0) = true := (b01_dec (b := roomb (sOf z0)) hz13).symm.trans c
        intro z15 _ _ hz15
        intro z16 _ _ hz16
        intro z17 _ _ hz17
        intro z18 _ _ hz18
        refine ⟨fun c => ?_, fun c => ?_⟩
        · have cev : eventb (sOf z0) = true := (b01_dec (b := eventb (sOf z0)) hz18).symm.trans c
          exact (ex_sv_us csv cus).elim
        · have cev : eventb (sOf z0) = false := (b01_dec (b := eventb (sOf z0)) hz18).symm.trans c
          exact (ex_sv_us csv cus).elim
      · have crm : roomb (sOf z0) = false := (b01_dec (b := roomb (sOf z0)) hz13).symm.trans c
        intro z15 _ _ hz15
        intro z16 _ _ hz16
        intro z17 _ _ hz17
        intro z18 _ _ hz18
        refine ⟨fun c => ?_, fun c => ?_⟩
        · have cev : eventb (sOf z0) = true := (b01_dec (b := eventb (sOf z0)) hz18).symm.trans c
          exact (ex_sv_us csv cus).elim
        · have cev : eventb (sOf z0) = false := (b01_dec (b := eventb (sOf z0)) hz18).symm.trans c
          exact (ex_sv_us csv cus).elim
    · have cus : userb (sOf z0) = false := (b01_dec (b := userb (sOf z0)) hz8).symm.trans c
      intro z11 _ _ hz11
      intro z12 _ _ hz12
      intro z13 _ _ hz13
      intro z14 _ _ hz14
      refine ⟨fun c => ?_, fun c => ?_⟩
      · have crm : roomb (sOf z0) = true := (b01_dec (b := roomb (sOf z0)) hz13).symm.trans c
        intro z15 _ _ hz15
        intro z16 _ _ hz16
        intro z17 _ _ hz17
        intro z18 _ _ hz18
        refine ⟨fun c => ?_, fun c => ?_⟩
        · have cev : eventb (sOf z0) = true := (b01_dec (b := eventb (sOf z0)) hz18).symm.trans c
          exact (ex_sv_rm csv crm).elim
        · have cev : eventb (sOf z0) = false := (b01_dec (b := eventb (sOf z0)) hz18).symm.trans c
          exact (ex_sv_rm csv crm).elim
      · have crm : roomb (sOf z0) = false := (b01_dec (b := roomb (sOf z0)) hz13).symm.trans c
        intro z15 _ _ hz15
        intro z16 _ _ hz16
        intro z17 _ _ hz17
        intro z18 _ _ hz18
        refine ⟨fun c => ?_, fun c => ?_⟩
        · have cev : eventb (sOf z0) = true := (b01_dec (b := eventb (sOf z0)) hz18).symm.trans c
          exact (ex_sv_ev csv cev).elim
        · have cev : eventb (sOf z0) = false := (b01_dec (b := eventb (sOf z0)) hz18).symm.trans c
          intro z19 _ _ hz19
          simp only [fnD] at hz19
          refine ⟨fun c => ?_, fun c => absurd (of_decide_eq_false c) (by have := len_sv csv; omega)⟩
          intro z20 _ _ hz20
          simp only [fnD] at hz20
          rw [show decide (1 ≤ z20) = true from decide_eq_true (by have := len_sv csv; omega)]; exact kk
  · have csv : serverb (sOf z0) = false := (b01_dec (b := serverb (sOf z0)) hz3).symm.trans c
    intro z7 _ _ hz7
    intro z8 _ _ hz8
    intro z9 _ _ hz9
    intro z10 _ _ hz10
    refine ⟨fun c => ?_, fun c => ?_⟩
    · have cus : userb (sOf z0) = true := (b01_dec (b := userb (sOf z0)) hz8).symm.trans c
      intro z11 _ _ hz11
      intro z12 _ _ hz12
      intro z13 _ _ hz13
      intro z14 _ _ hz14
      refine ⟨fun c => ?_, fun c => ?_⟩
      · have crm : roomb (sOf z0) = true := (b01_dec (b := roomb (sOf z0)) hz13).symm.trans c
        intro z15 _ _ hz15
        intro z16 _ _ hz16
        intro z17 _ _ hz17
        intro z18 _ _ hz18
        refine ⟨fun c => ?_, fun c => ?_⟩
        · have cev : eventb (sOf z0) = true := (b01_dec (b := eventb (sOf z0)) hz18).symm.trans c
          exact (ex_us_rm cus crm).elim
        · have cev : eventb (sOf z0) = false := (b01_dec (b := eventb (sOf z0)) hz18).symm.trans c
          exact (ex_us_rm cus crm).elim
      · have crm : roomb (sOf z0) = false := (b01_dec (b := roomb (sOf z0)) hz13).symm.trans c
        intro z15 _ _ hz15
        intro z16 _ _ hz16
        intro z17 _ _ hz17
        intro z18 _ _ hz18
        refine ⟨fun c => ?_, fun c => ?_⟩
        · have cev : eventb (sOf z0) = true := (b01_dec (b := eventb (sOf z0)) hz18).symm.trans c
          exact (ex_us_ev cus cev).elim
        · have cev : eventb (sOf z0) = false := (b01_dec (b := eventb (sOf z0)) hz18).symm.trans c
          intro z19 _ _ hz19
          simp only [fnD] at hz19
          refine ⟨fun c => ?_, fun c => absurd (of_decide_eq_false c) (by have := len_us cus; omega)⟩
          intro z20 _ _ hz20
          simp only [fnD] at hz20
          rw [show decide (1 ≤ z20) = true from decide_eq_true (by have := len_us cus; omega)]; exact kk
    · have cus : userb (sOf z0) = false := (b01_dec (b := userb (sOf z0)) hz8).symm.trans c
      intro z11 _ _ hz11
      intro z12 _ _ hz12
      intro z13 _ _ hz13
      intro z14 _ _ hz14
      refine ⟨fun c => ?_, fun c => ?_⟩
      · have crm : roomb (sOf z0) = true := (b01_dec (b := roomb (sOf z0)) hz13).symm.trans c
        intro z15 _ _ hz15
        intro z16 _ _ hz16
        intro z17 _ _ hz17
        intro z18 _ _ hz18
        refine ⟨fun c => ?_, fun c => ?_⟩
        · have cev : eventb (sOf z0) = true := (b01_dec (b := eventb (sOf z0)) hz18).symm.trans c
          exact (ex_rm_ev crm cev).elim
        · have cev : eventb (sOf z0) = false := (b01_dec (b := eventb (sOf z0)) hz18).symm.trans c
          intro z19 _ _ hz19
          simp only [fnD] at hz19
          refine ⟨fun c => ?_, fun c => absurd (of_decide_eq_false c) (by have := len_rm crm; omega)⟩
          intro z20 _ _ hz20
          simp only [fnD] at hz20
          rw [show decide (1 ≤ z20) = true from decide_eq_true (by have := len_rm crm; omega)]; exact kk
      · have crm : roomb (sOf z0) = false := (b01_dec (b := roomb (sOf z0)) hz13).symm.trans c
        intro z15 _ _ hz15
        intro z16 _ _ hz16
        intro z17 _ _ hz17
        intro z18 _ _ hz18
        refine ⟨fun c => ?_, fun c => ?_⟩
        · have cev : eventb (sOf z0) = true := (b01_dec (b := eventb (sOf z0)) hz18).symm.trans c
          intro z19 _ _ hz19
          simp only [fnD] at hz19
          refine ⟨fun c => ?_, fun c => absurd (of_decide_eq_false c) (by have := len_ev cev; omega)⟩
          intro z20 _ _ hz20
          simp only [fnD] at hz20
          rw [show decide (1 ≤ z20) = true from decide_eq_true (by have := len_ev cev; omega)]; exact kk
        · have cev : eventb (sOf z0) = false := (b01_dec (b := eventb (sOf z0)) hz18).symm.trans c
          exact kk
def B_lports (S : Nat → List (List Int) → List (List Int) → Prop) (K : List (List Int) → List (List Int) → Prop) : Prop :=
 ∀ z0 : Int, 0 ≤ z0 → z0 ≤ HB → ∀ z1 : Int, 0 ≤ z1 → z1 ≤ 65535 → 
 ∀ z2 : Int, 0 ≤ z2 → z2 ≤ 1 → S 226 [] [[z2]] →
 ((((!(decide (z2 = 1)))) = true →
  K [[z0], [z1]] [[(cond (false) 1 0)]]
 ) ∧ (((!(decide (z2 = 1)))) = false →
  ∀ z3 : Int, 0 ≤ z3 → z3 ≤ 9223372036854775807 → z3 = fnD 0 [z0] →
  (((decide (1000 < z3)) = true →
   K [[z0], [z1]] [[(cond (true) 1 0)]]
  ) ∧ ((decide (1000 < z3)) = false →
   ∃ (I4 : List (List Int) → Prop) (μ4 : List (List Int) → Nat), I4 [[0], [1]] ∧ (∀ z5 : Int, 0 ≤ z5 → z5 ≤ 9223372036854775807 → ∀ z6 : Int, 0 ≤ z6 → z6 ≤ 1 → I4 [[z5], [z6]] →
    ∀ z7 : Int, 0 ≤ z7 → z7 ≤ 9223372036854775807 → z7 = fnD 0 [z0] →
    (((decide (z5 < z7)) = true →
     (((decide (z6 = 1)) = true →
      chkD 1 [z0, z5] ∧
      ∀ z8 : Int, 0 ≤ z8 → z8 ≤ 255 → z8 = fnD 1 [z0, z5] →
      ∀ z9 : Int, 0 ≤ z9 → z9 ≤ 1 → 0 ≤ (z5 + 9223372036854775809) - 18446744073709551616 * z9 → (z5 + 9223372036854775809) - 18446744073709551616 * z9 < 18446744073709551616 →
      chkD 39 [((z5 + ((-18446744073709551616) * z9)) + 1), 0, 9223372036854775807] ∧
      ∀ z10 : Int, 0 ≤ z10 → z10 ≤ 1 → (!(decide (z8 = 58))) = decide (z10 = 1) →
      (I4 [[((z5 + ((-18446744073709551616) * z9)) + 1)], [z10]] ∧ μ4 [[((z5 + ((-18446744073709551616) * z9)) + 1)], [z10]] < μ4 [[z5], [z6]])
     ) ∧ ((decide (z6 = 1)) = false →
      ∀ z8 : Int, 0 ≤ z8 → z8 ≤ 1 → 0 ≤ (z5 + 9223372036854775809) - 18446744073709551616 * z8 → (z5 + 9223372036854775809) - 18446744073709551616 * z8 < 18446744073709551616 →
      chkD 39 [((z5 + ((-18446744073709551616) * z8)) + 1), 0, 9223372036854775807] ∧
      (I4 [[((z5 + ((-18446744073709551616) * z8)) + 1)], [0]] ∧ μ4 [[((z5 + ((-18446744073709551616) * z8)) + 1)], [0]] < μ4 [[z5], [z6]])
     ))
    ) ∧ ((decide (z5 < z7)) = false →
     ∃ (I8 : List (List Int) → Prop) (μ8 : List (List Int) → Nat), I8 [[0], [z1]] ∧ (∀ z9 : Int, 0 ≤ z9 → z9 ≤ HB → ∀ z10 : Int, 0 ≤ z10 → z10 ≤ 65535 → I8 [[z9], [z10]] →
      (((decide (0 < z10)) = true →
       ∀ z11 : Int, 0 ≤ z11 → z11 ≤ 6553 → 0 ≤ z10 - 10 * z11 → z10 - 10 * z11 < 10 →
       ∀ z12 : Int, 0 ≤ z12 → z12 ≤ 6553 → 0 ≤ z10 - 10 * z12 → z10 - 10 * z12 < 10 →
       chkD 2 [284767230291263911083031, (z10 + ((-10) * z11)), ((z10 + ((-10) * z12)) + 1)] ∧
       ∀ z13 : Int, 0 ≤ z13 → z13 ≤ HB → z13 = fnD 2 [284767230291263911083031, (z10 + ((-10) * z11)), ((z10 + ((-10) * z12)) + 1)] →
       chkD 3 [z13, z9] ∧
       ∀ z14 : Int, 0 ≤ z14 → z14 ≤ HB → z14 = fnD 3 [z13, z9] →
       ∀ z15 : Int, 0 ≤ z15 → z15 ≤ 6553 → 0 ≤ z10 - 10 * z15 → z10 - 10 * z15 < 10 →
       (I8 [[z14], [z15]] ∧ μ8 [[z14], [z15]] < μ8 [[z9], [z10]])
      ) ∧ ((decide (0 < z10)) = false →
       ∀ z11 : Int, 0 ≤ z11 → z11 ≤ 1 → z11 = fnD 4 [z9, 0] →
       (((decide (z11 = 1)) = true →
        chkD 3 [49, z9] ∧
        ∀ z12 : Int, 0 ≤ z12 → z12 ≤ HB → z12 = fnD 3 [49, z9] →
        (I8 [[z12], [0]] ∧ μ8 [[z12], [0]] < μ8 [[z9], [z10]])
       ) ∧ ((decide (z11 = 1)) = false →
        chkD 3 [z0, 59] ∧
        ∀ z12 : Int, 0 ≤ z12 → z12 ≤ HB → z12 = fnD 3 [z0, 59] →
        chkD 3 [z12, z9] ∧
        ∀ z13 : Int, 0 ≤ z13 → z13 ≤ HB → z13 = fnD 3 [z12, z9] →
        ∀ z14 : Int, 0 ≤ z14 → z14 ≤ 1 → S 27 [[z13]] [[z14]] →
        (((decide (z6 = 1)) = true →
         ∀ z15 : Int, 0 ≤ z15 → z15 ≤ 1 → S 27 [[z0]] [[z15]] →
         K [[z0], [z1]] [[(cond (((decide (z14 = 1)) == (decide (z15 = 1)))) 1 0)]]
        ) ∧ ((decide (z6 = 1)) = false →
         K [[z0], [z1]] [[(cond ((!(decide (z14 = 1)))) 1 0)]]
        ))
       ))
      ))
     )
    ))
   )
  ))
 ))
def B_ialive (S : Nat → List (List Int) → List (List Int) → Prop) (K : List (List Int) → List (List Int) → Prop) : Prop :=
 
 ∀ z0 : Int, 0 ≤ z0 → z0 ≤ HB → ∀ z1 : Int, 0 ≤ z1 → z1 ≤ HB → ∀ z2 : Int, 0 ≤ z2 → z2 ≤ 21 → S 209 [[90388229395307582472821682141521832927715560343284]] [[z0], [z1], [z2]] →
 chkD 49 [32, 32] ∧
 ∀ z3 : Int, 0 ≤ z3 → z3 ≤ RB → z3 = fnD 26 [32, 0] →
 ∀ z4 : Int, (-1) ≤ z4 → z4 ≤ 9223372036854775807 → 
 chkD 22 [z3, 0, 32] ∧
 ∀ z5 : Int, 0 ≤ z5 → z5 ≤ RB → z5 = fnD 22 [z3, 0, 32] →
 chkD 48 [z5] ∧
 ∀ z6 : Int, 0 ≤ z6 → z6 ≤ HB → S 225 [[z5]] [[z6]] →
 chkD 3 [37, z6] ∧
 ∀ z7 : Int, 0 ≤ z7 → z7 ≤ HB → z7 = fnD 3 [37, z6] →
 (((decide (z2 = 0)) = true →
  ∀ z8 : Int, 0 ≤ z8 → z8 ≤ 1 → z8 = fnD 4 [z0, 6551028] →
  (((decide (z8 = 1)) = true →
   ∀ z9 : Int, 0 ≤ z9 → z9 ≤ 1 → z9 = fnD 4 [z1, 80620643904831270954678248634379525252] →
   (((decide (z9 = 1)) = true →
    ∀ z10 : Int, 0 ≤ z10 → z10 ≤ 1 → S 223 [[z7]] [[z10]] →
    (((decide (z10 = 1)) = true →
     ∀ z11 : Int, 0 ≤ z11 → z11 ≤ 1 → S 200 [[1786246183]] [[z11]] →
     ((((!(decide (z11 = 1)))) = true →
      ∀ z12 : Int, 0 ≤ z12 → z12 ≤ 1 → S 201 [[1786260287]] [[z12]] →
      (((decide (z12 = 1)) = true →
       ∀ z13 : Int, 0 ≤ z13 → z13 ≤ 1 → S 27 [[105]] [[z13]] →
       K [] [[(cond (decide (z13 = 1)) 1 0)]]
      ) ∧ ((decide (z12 = 1)) = false →
       K [] [[(cond (false) 1 0)]]
      ))
     ) ∧ (((!(decide (z11 = 1)))) = false →
      K [] [[(cond (false) 1 0)]]
     ))
    ) ∧ ((decide (z10 = 1)) = false →
     K [] [[(cond (false) 1 0)]]
    ))
   ) ∧ ((decide (z9 = 1)) = false →
    K [] [[(cond (false) 1 0)]]
   ))
  ) ∧ ((decide (z8 = 1)) = false →
   K [] [[(cond (false) 1 0)]]
  ))
 ) ∧ ((decide (z2 = 0)) = false →
  K [] [[(cond (false) 1 0)]]
 ))
/-! ### A server's name with a port -/
theorem cut58_no {s p : Tx} (h : ¬ (58 : UInt8) ∈ s) : cutF 58 (s ++ 58 :: p) = (s, p, 1) := by
  have hi : idx 58 (s ++ 58 :: p) = (s.length : Int) := idx_at (by decide) (by decide) (by simp) (by simp [List.getD]; rfl) (fun j hj e => h (by
    have e2 : s.getD j 0 = 58 := by
      simp only [List.getD, List.getElem?_append_left hj] at e ⊢; exact e
    rw [← e2]; simp [List.getD, hj]))
  unfold cutF
  rw [hi, decide_eq_true (by omega)]
  simp [List.drop_append]
theorem cut58_in {s p : Tx} (h : (58 : UInt8) ∈ s) : ∃ q, (58 : UInt8) ∈ q ∧ (cutF 58 (s ++ 58 :: p)).2 = (q, 1) := by
  rcases idx_cases (c := 58) (by decide) (by decide) s with ⟨_, e⟩ | ⟨i0, i1, i2, _, i4⟩
  · exact absurd h e
  · have hi : idx 58 (s ++ 58 :: p) = ((idx 58 s).toNat : Int) := idx_at (by decide) (by decide) (by simp; omega) (by
      rw [← i2]; simp only [List.getD, List.getElem?_append_left i1]) (fun j hj e => i4 j hj (by
      simp only [List.getD, List.getElem?_append_left (show j < s.length by omega)] at e ⊢; exact e))
    refine ⟨(s ++ 58 :: p).drop ((idx 58 s).toNat + 1), ?_, ?_⟩
    · rw [List.drop_append_of_le_length (by omega)]; simp
    · unfold cutF
      rw [hi, decide_eq_true (by omega)]; rfl
theorem sv_port_no {s p : Tx} (h : ¬ (58 : UInt8) ∈ s) (hp : portb p = true) : serverb (s ++ 58 :: p) = serverb s := by
  unfold serverb
  rw [cut58_no h, show cutF 58 s = (s, [], 0) by unfold cutF; rw [idx_neg (c := 58) (by decide) (by decide) h]; rfl, hp]
  rfl
theorem sv_port_in {s p : Tx} (h : (58 : UInt8) ∈ s) : serverb (s ++ 58 :: p) = false := by
  obtain ⟨q, hq, e⟩ := cut58_in (p := p) h
  unfold serverb
  rw [e]
  have : portb q = false := by
    unfold portb
    rw [show q.all isD = false by
      rw [List.all_eq_false]; exact ⟨58, hq, by decide⟩]
    simp
  simp only [this]
  simp
theorem cL_dg : sOf 284767230291263911083031 = [48, 49, 50, 51, 52, 53, 54, 55, 56, 57] := by decide
theorem digit_at {x : Int} {d : Nat} (hx : x = (d : Int)) (h : d < 10) : chkD 2 [284767230291263911083031, x, x + 1] ∧ ∀ z, z = fnD 2 [284767230291263911083031, x, x + 1] → (sOf z).all isD = true ∧ (sOf z).length = 1 := by
  subst hx
  refine ⟨⟨by omega, by omega, by rw [cL_dg]; show (d : Int) + 1 ≤ 10; omega⟩, fun z hz => ?_⟩
  rw [hz]; simp only [fnD, sOf_cOf]
  rw [show ((d : Int)).toNat = d by omega, show ((d : Int) + 1).toNat - d = 1 by omega, cL_dg]
  match d, h with
  | 0, _ | 1, _ | 2, _ | 3, _ | 4, _ | 5, _ | 6, _ | 7, _ | 8, _ | 9, _ => exact ⟨by decide, by decide⟩
def PtI (z0 : Int) (bl : List (List Int)) : Prop := ∃ (i : Nat) (q : Int), bl = [[(i : Int)], [q]] ∧ i ≤ (sOf z0).length ∧ q = b01 (!((sOf z0).take i).contains 58)
def PtM (z0 : Int) (bl : List (List Int)) : Nat := (sOf z0).length - ((bl.getD 0 []).getD 0 0).toNat
def PtJ (bl : List (List Int)) : Prop := ∃ (d n : Int), bl = [[d], [n]] ∧ (sOf d).all isD = true ∧ (sOf d).length ≤ 5 ∧ 0 ≤ n ∧ n * 10 ^ (sOf d).length ≤ 65535
def PtN (bl : List (List Int)) : Nat := 2 * ((bl.getD 1 []).getD 0 0).toNat + (if sOf ((bl.getD 0 []).getD 0 0) = [] then 1 else 0)
theorem lt_five {n : Int} {k : Nat} (h0 : 0 < n) (h : n * 10 ^ k ≤ 65535) (hk : k ≤ 5) : k ≤ 4 := by
  rcases Nat.lt_or_ge 4 k with h5 | h5
  · have : k = 5 := by omega
    subst this; omega
  · exact h5
theorem p_lports : B_lports SB (KBb SB [.d .bool] 229) := by
  intro z0 a0 a1 z1 b0 b1 z2 _ _ h2
  have kk : KBb SB [.d .bool] 229 [[z0], [z1]] [[cond true 1 0]] := kbool (b := true) rfl
  refine ⟨fun c => live_no h2 c, fun _ z3 c0 c1 h3 => ⟨fun _ => kk, fun hl => ?_⟩⟩
  have hl := of_decide_eq_false hl
  simp only [fnD] at h3
  refine ⟨PtI z0, PtM z0, ⟨0, 1, rfl, Nat.zero_le _, rfl⟩, ?_⟩
  rintro z5 d0 d1 z6 e0 e1 ⟨i, q, e, hi, hq⟩ z7 f0 f1 h7
  obtain ⟨rfl, rfl⟩ : z5 = i ∧ z6 = q := by simpa using e
  simp only [fnD] at h7
  have hqd : decide (z6 = 1) = !((sOf z0).take i).contains 58 := b01_dec hq
  refine ⟨fun hlt => ?_, fun hge => ?_⟩
  · have hlt := of_decide_eq_true hlt
    have hlt' : i < (sOf z0).length := by omega
    have htk : (sOf z0).take (i + 1) = (sOf z0).take i ++ [(sOf z0).getD i 0] := by
      rw [List.take_add_one, List.getElem?_eq_getElem hlt']; simp [List.getD, hlt']
    refine ⟨fun hc => ⟨⟨by omega, by omega⟩, fun z8 g0 g1 h8 z9 i0 i1 i2 i3 => ⟨⟨by omega, by omega⟩, fun z10 j0 j1 h10 => ⟨⟨i + 1, z10, ?_, by omega, ?_⟩, ?_⟩⟩⟩, fun hc z8 g0 g1 g2 g3 => ⟨⟨by omega, by omega⟩, ⟨i + 1, 0, ?_, by omega, ?_⟩, ?_⟩⟩
    · rw [show ((i : Int) + (-18446744073709551616) * z9) + 1 = ((i + 1 : Nat) : Int) by omega]
    · have h8 : z8 = (((sOf z0).getD i 0).toNat : Int) := by rw [h8]; simp only [fnD, Int.toNat_natCast]
      have hnot : ((sOf z0).take i).contains 58 = false := by rw [hqd] at hc; simpa using hc
      rw [htk]
      have : (((sOf z0).take i ++ [(sOf z0).getD i 0]).contains 58) = decide (z8 = 58) := by
        rw [Bool.eq_iff_iff]
        simp only [List.contains_eq_mem, decide_eq_true_eq, List.mem_append, List.mem_singleton]
        have hnm : ¬ (58 : UInt8) ∈ (sOf z0).take i := by simpa using hnot
        refine ⟨fun h => ?_, fun h => .inr ?_⟩
        · rcases h with h | h
          · exact absurd h hnm
          · rw [h8, ← h]; rfl
        · apply UInt8.toNat_inj.1; show 58 = _; omega
      rw [this, h10]
      cases hd : decide (z10 = 1) with
      | true => exact of_decide_eq_true hd
      | false => have := of_decide_eq_false hd; show z10 = 0; omega
    · show (sOf z0).length - (((i : Int) + (-18446744073709551616) * z9) + 1).toNat < (sOf z0).length - ((i : Int)).toNat; omega
    · rw [show ((i : Int) + (-18446744073709551616) * z8) + 1 = ((i + 1 : Nat) : Int) by omega]
    · have hin : ((sOf z0).take i).contains 58 = true := by rw [hqd] at hc; simpa using hc
      rw [htk]
      have : (((sOf z0).take i ++ [(sOf z0).getD i 0]).contains 58) = true := by
        simp only [List.contains_eq_mem, decide_eq_true_eq, List.mem_append] at hin ⊢; exact .inl hin
      rw [this]; rfl
    · show (sOf z0).length - (((i : Int) + (-18446744073709551616) * z8) + 1).toNat < (sOf z0).length - ((i : Int)).toNat; omega
  · have hge := of_decide_eq_false hge
    have hie : (sOf z0).take i = sOf z0 := List.take_of_length_le (by omega)
    rw [hie] at hqd
    refine ⟨PtJ, PtN, ⟨0, z1, rfl, rfl, Nat.zero_le _, b0, by show z1 * 10 ^ 0 ≤ 65535; omega⟩, ?_⟩
    rintro z9 g0 g1 z10 j0 j1 ⟨d, n, e, hd, hdl, hn0, hn⟩
    obtain ⟨rfl, rfl⟩ : z9 = d ∧ z10 = n := by simpa using e
    refine ⟨fun hp z11 _ _ k0 k1 z12 _ _ l0 l1 => ?_, fun hz z11 _ _ h11 => ?_⟩
    · have hp := of_decide_eq_true hp
      have h4 := lt_five hp hn hdl
      have e12 : z12 = z11 := by omega
      subst e12
      obtain ⟨t1, t2⟩ := digit_at (x := z10 + (-10) * z12) (d := (z10 + (-10) * z12).toNat) (by omega) (by omega)
      refine ⟨t1, fun z13 _ _ h13 => ?_⟩
      obtain ⟨u1, u2⟩ := t2 z13 h13
      refine ⟨by show (sOf z13).length + (sOf z9).length ≤ mxL; rw [u2]; unfold mxL; omega, fun z14 m0 m1 h14 z15 _ _ n0 n1 => ?_⟩
      have e15 : z15 = z12 := by omega
      subst e15
      have e14 : sOf z14 = sOf z13 ++ sOf z9 := by rw [h14]; simp only [fnD, sOf_cOf]
      refine ⟨⟨z14, z15, rfl, ?_, ?_, by omega, ?_⟩, ?_⟩
      · rw [e14, List.all_append, u1, hd]; rfl
      · rw [e14, List.length_append, u2]; omega
      · rw [e14, List.length_append, u2, show 1 + (sOf z9).length = (sOf z9).length + 1 by omega, Int.pow_succ]
        have hpos : (0 : Int) < 10 ^ (sOf z9).length := Int.pow_pos (by decide)
        have : z15 * (10 ^ (sOf z9).length * 10) ≤ z10 * 10 ^ (sOf z9).length := by
          rw [Int.mul_comm ((10 : Int) ^ (sOf z9).length) 10, ← Int.mul_assoc]
          exact Int.mul_le_mul_of_nonneg_right (by omega) (by omega)
        omega
      · show 2 * z15.toNat + (if sOf z14 = [] then 1 else 0) < 2 * z10.toNat + (if sOf z9 = [] then 1 else 0)
        rw [if_neg (by rw [e14]; intro h; have := congrArg List.length h; simp [u2] at this)]
        omega
    · have hz := of_decide_eq_false hz
      have hz0 : z10 = 0 := by omega
      have h11 := eq_nil h11
      refine ⟨fun he => ?_, fun he => ?_⟩
      · have he : sOf z9 = [] := by rw [h11] at he; simpa using he
        refine ⟨by show (sOf 49).length + (sOf z9).length ≤ mxL; rw [he]; decide, fun z12 _ _ h12 => ?_⟩
        have e12 : sOf z12 = [48] := by rw [h12]; simp only [fnD, sOf_cOf, he]; decide
        refine ⟨⟨z12, 0, rfl, by rw [e12]; decide, by rw [e12]; decide, by decide, by omega⟩, ?_⟩
        show 2 * (0 : Int).toNat + (if sOf z12 = [] then 1 else 0) < 2 * z10.toNat + (if sOf z9 = [] then 1 else 0)
        rw [e12, he, hz0]; decide
      · have he : sOf z9 ≠ [] := by rw [h11] at he; simpa using he
        have hport : portb (sOf z9) = true := by
          unfold portb
          have : 0 < (sOf z9).length := List.length_pos_iff.2 he
          rw [hd, show Nat.blt 0 (sOf z9).length = true by rw [Nat.blt_eq]; exact this, show Nat.ble (sOf z9).length 5 = true from Nat.ble_eq_true_of_le hdl]; rfl
        refine ⟨by show (sOf z0).length + (sOf 59).length ≤ mxL; unfold mxL; rw [show (sOf 59).length = 1 by decide]; omega, fun z12 _ _ h12 => ?_⟩
        have e12 : sOf z12 = sOf z0 ++ [58] := by rw [h12]; simp only [fnD, sOf_cOf]; rw [show sOf 59 = [58] by decide]
        refine ⟨by show (sOf z12).length + (sOf z9).length ≤ mxL; unfold mxL; rw [e12]; simp; omega, fun z13 _ _ h13 z14 _ _ h14 => ?_⟩
        have e13 : sOf z13 = sOf z0 ++ 58 :: sOf z9 := by rw [h13]; simp only [fnD, sOf_cOf]; rw [e12]; simp
        have h14 : z14 = b01 (serverb (sOf z13)) := h14
        have h14d := b01_dec h14
        refine ⟨fun hc z15 _ _ h15 => ?_, fun hc => ?_⟩
        · have h15 : z15 = b01 (serverb (sOf z0)) := h15
          have hno : ¬ (58 : UInt8) ∈ sOf z0 := by rw [hqd] at hc; simpa using hc
          rw [h14d, b01_dec h15, e13, sv_port_no hno hport, beq_self_eq_true]; exact kk
        · have hyes : (58 : UInt8) ∈ sOf z0 := by rw [hqd] at hc; simpa using hc
          rw [h14d, e13, sv_port_in hyes]; exact kk
theorem b01_not {z : Int} {P : Prop} {b : Bool} (h : z = b01 b) (hb : b = true) (c : decide (z = 1) = false) : P := by rw [h, hb] at c; cases c
theorem p_ialive : B_ialive SB (KBb SB [.d .bool] 226) := by
  intro z0 a0 a1 z1 b0 b1 z2 c0 c1 h
  have h : (sOf z0, sOf z1, z2) = splitF (sOf 90388229395307582472821682141521832927715560343284) := h
  rw [show splitF (sOf 90388229395307582472821682141521832927715560343284) = (sOf 6551028, sOf 80620643904831270954678248634379525252, 0) by decide +kernel] at h
  simp only [Prod.mk.injEq] at h
  obtain ⟨e0, e1, e2⟩ := h
  refine ⟨⟨by decide, by decide, by decide⟩, fun z3 d0 d1 h3 z4 _ _ => ?_⟩
  have hr3 : rOf z3 = rowsL (List.replicate 32 0) := by rw [h3]; simp only [fnD, rOf_rc]; rfl
  obtain ⟨w1, w2⟩ := whole_rows (y := 0) hr3 (n := 32) rfl
  refine ⟨w1, fun z5 f0 f1 h5 => ?_⟩
  have hr5 := (whole_rows (y := z5) hr3 (n := 32) rfl).2 h5
  refine ⟨by show (rOf z5).length ≤ _; rw [hr5]; decide, fun z6 g0 g1 h6 => ?_⟩
  have h6 : sOf z6 = penc (List.replicate 32 0) := by rw [show sOf z6 = penc (bytesR z5) from h6, bytesR_rows hr5]
  refine ⟨by show (sOf 37).length + (sOf z6).length ≤ mxL; rw [h6]; decide +kernel, fun z7 i0 i1 h7 => ?_⟩
  have e7 : sOf z7 = 36 :: penc (List.replicate 32 0) := by rw [h7]; simp only [fnD, sOf_cOf]; rw [h6, c37]; rfl
  have yes : ∀ {x a b : Int} {P : Prop}, x = fnD 4 [a, b] → sOf a = sOf b → decide (x = 1) = false → P := fun h e c => by
    rw [eq_dec h, e, decide_eq_true rfl] at c; cases c
  refine ⟨fun _ z8 _ _ h8 => ⟨fun _ z9 _ _ h9 => ⟨fun _ z10 _ _ h10 => ⟨fun _ z11 _ _ h11 => ⟨fun _ z12 _ _ h12 => ⟨fun _ z13 _ _ h13 => ?_, fun c => ?_⟩, fun c => ?_⟩, fun c => ?_⟩, fun c => yes h9 e1 c⟩, fun c => yes h8 e0 c⟩, fun c => absurd e2 (of_decide_eq_false c)⟩
  · have h13 : z13 = b01 (serverb (sOf 105)) := h13
    rw [h13, show serverb (sOf 105) = true by decide +kernel]
    exact kbool (b := true) rfl
  · exact b01_not (b := roomb (sOf 1786260287)) h12 (by decide +kernel) c
  · have h11 : z11 = b01 (userb (sOf 1786246183)) := h11
    rw [h11, show userb (sOf 1786246183) = false by decide +kernel] at c; cases c
  · refine b01_not (b := eventb (sOf z7)) h10 ?_ c
    rw [e7]; decide +kernel
end Go.Ad
