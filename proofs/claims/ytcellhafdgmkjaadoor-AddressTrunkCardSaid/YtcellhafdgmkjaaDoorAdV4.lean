/- AdV4: a part of the proof of statements of this seat. -/
import Derived.Test.YtcellhafdgmkjaaDoorAdV3
set_option maxRecDepth 100000
set_option linter.unusedVariables false
set_option linter.unusedSimpArgs false
namespace Go.Ad
open Go Go.Rx
def B_make (S : Nat → List (List Int) → List (List Int) → Prop) (K : List (List Int) → List (List Int) → Prop) : Prop :=
 ∀ z0 : Int, 0 ≤ z0 → z0 ≤ HB → ∀ z1 : Int, 0 ≤ z1 → z1 ≤ HB → 
 ∀ z2 : Int, 0 ≤ z2 → z2 ≤ 1 → z2 = fnD 4 [z0, 477315081741] →
 (((decide (z2 = 1)) = true →
  ∀ z3 : Int, 0 ≤ z3 → z3 ≤ HB → ∀ z4 : Int, 0 ≤ z4 → z4 ≤ 21 → S 10 [[z1]] [[z3], [z4]] →
  ((((!(decide (z4 = 0)))) = true →
   K [[z0], [z1]] [[0, 0], [z4]]
  ) ∧ (((!(decide (z4 = 0)))) = false →
   K [[z0], [z1]] [[z0, z3], [0]]
  ))
 ) ∧ ((decide (z2 = 1)) = false →
  ∀ z3 : Int, 0 ≤ z3 → z3 ≤ 1 → z3 = fnD 4 [z0, 124890778723732] →
  (((decide (z3 = 1)) = true →
   chkD 44 [0, z1] ∧
   ∀ z4 : Int, 0 ≤ z4 → z4 ≤ HB → ∀ z5 : Int, 0 ≤ z5 → z5 ≤ 21 → S 12 [[0], [z1]] [[z4], [z5]] →
   ((((!(decide (z5 = 0)))) = true →
    K [[z0], [z1]] [[0, 0], [z5]]
   ) ∧ (((!(decide (z5 = 0)))) = false →
    K [[z0], [z1]] [[z0, z4], [0]]
   ))
  ) ∧ ((decide (z3 = 1)) = false →
   K [[z0], [z1]] [[0, 0], [1]]
  ))
 ))
def B_rmake (S : Nat → List (List Int) → List (List Int) → Prop) (K : List (List Int) → List (List Int) → Prop) : Prop :=
 ∀ z0 : Int, 0 ≤ z0 → z0 ≤ HB → ∀ z1 : Int, 0 ≤ z1 → z1 ≤ HB → 
 ∀ z2 : Int, 0 ≤ z2 → z2 ≤ 1 → z2 = fnD 4 [z0, 477315081741] →
 (((decide (z2 = 1)) = true →
  ∀ z3 : Int, 0 ≤ z3 → z3 ≤ HB → ∀ z4 : Int, 0 ≤ z4 → z4 ≤ 21 → S 11 [[z1]] [[z3], [z4]] →
  ((((!(decide (z4 = 0)))) = true →
   K [[z0], [z1]] [[0, 0], [z4]]
  ) ∧ (((!(decide (z4 = 0)))) = false →
   K [[z0], [z1]] [[z0, z3], [0]]
  ))
 ) ∧ ((decide (z2 = 1)) = false →
  ∀ z3 : Int, 0 ≤ z3 → z3 ≤ 1 → z3 = fnD 4 [z0, 124890778723732] →
  (((decide (z3 = 1)) = true →
   chkD 44 [0, z1] ∧
   ∀ z4 : Int, 0 ≤ z4 → z4 ≤ HB → ∀ z5 : Int, 0 ≤ z5 → z5 ≤ 21 → S 13 [[0], [z1]] [[z4], [z5]] →
   ((((!(decide (z5 = 0)))) = true →
    K [[z0], [z1]] [[0, 0], [z5]]
   ) ∧ (((!(decide (z5 = 0)))) = false →
    K [[z0], [z1]] [[z0, z4], [0]]
   ))
  ) ∧ ((decide (z3 = 1)) = false →
   K [[z0], [z1]] [[0, 0], [1]]
  ))
 ))
def B_right (S : Nat → List (List Int) → List (List Int) → Prop) (K : List (List Int) → List (List Int) → Prop) : Prop :=
 ∀ r0 : List Int, inB (repB 0 HB 2) r0 → 
 ∀ r2 : List Int, inB (repB 0 HB 2) r2 → ∀ z4 : Int, 0 ≤ z4 → z4 ≤ 21 → S 15 [[(List.getD r0 0 0)], [(List.getD r0 1 0)]] [r2, [z4]] →
 (((decide (z4 = 0)) = true →
  ∀ z5 : Int, 0 ≤ z5 → z5 ≤ 1 → z5 = fnD 4 [(List.getD r0 0 0), (List.getD r2 0 0)] →
  ∀ z6 : Int, 0 ≤ z6 → z6 ≤ 1 → z6 = fnD 4 [(List.getD r0 1 0), (List.getD r2 1 0)] →
  K [r0] [[(cond (decide ([z5, z6] = [1, 1])) 1 0)]]
 ) ∧ ((decide (z4 = 0)) = false →
  K [r0] [[(cond (false) 1 0)]]
 ))
def B_rright (S : Nat → List (List Int) → List (List Int) → Prop) (K : List (List Int) → List (List Int) → Prop) : Prop :=
 ∀ r0 : List Int, inB (repB 0 HB 2) r0 → 
 ∀ r2 : List Int, inB (repB 0 HB 2) r2 → ∀ z4 : Int, 0 ≤ z4 → z4 ≤ 21 → S 18 [[(List.getD r0 0 0)], [(List.getD r0 1 0)]] [r2, [z4]] →
 (((decide (z4 = 0)) = true →
  ∀ z5 : Int, 0 ≤ z5 → z5 ≤ 1 → z5 = fnD 4 [(List.getD r0 0 0), (List.getD r2 0 0)] →
  ∀ z6 : Int, 0 ≤ z6 → z6 ≤ 1 → z6 = fnD 4 [(List.getD r0 1 0), (List.getD r2 1 0)] →
  K [r0] [[(cond (decide ([z5, z6] = [1, 1])) 1 0)]]
 ) ∧ ((decide (z4 = 0)) = false →
  K [r0] [[(cond (false) 1 0)]]
 ))
theorem kEmail : sOf 477315081741 = emailS := by decide +kernel
theorem kMsisdn : sOf 124890778723732 = msisdnS := by decide +kernel
theorem kmk {id : Nat} {zs : List (List Int)} {a b e : Int} (a0 : 0 ≤ a) (a1 : a ≤ HB) (b0 : 0 ≤ b) (b1 : b ≤ HB) (e0 : 0 ≤ e) (e1 : e ≤ 21) (h : SB id zs [[a, b], [e]]) : KBv SB [.mix [.str, .str], .int .i64 0 21] id zs [[a, b], [e]] := ⟨⟨a0, a1, b0, b1, e0, e1, trivial⟩, h⟩
theorem p_make : B_make SB (KBv SB [.mix [.str, .str], .int .i64 0 21] 15) := by
  intro z0 a0 a1 z1 b0 b1 z2 c0 c1 h2
  have kk : ∀ a b e : Int, 0 ≤ a → a ≤ HB → 0 ≤ b → b ≤ HB → 0 ≤ e → e ≤ 21 → (sOf a, sOf b, e) = makeF (sOf z0) (sOf z1) → KBv SB [.mix [.str, .str], .int .i64 0 21] 15 [[z0], [z1]] [[a, b], [e]] := fun a b e h1 h2 h3 h4 h5 h6 h => kmk h1 h2 h3 h4 h5 h6 h
  rw [eq_dec h2, kEmail]
  refine ⟨fun hE z3 d0 d1 z4 e0 e1 h => ?_, fun hE z3 d0 d1 h3 => ?_⟩
  · have hm : (sOf z0 == emailS) = true := by simpa using hE
    have h : (sOf z3, z4) = emailF (sOf z1) := h
    have hM : makeF (sOf z0) (sOf z1) = mk1 (sOf z0) (sOf z3, z4) := by unfold makeF; rw [hm, ← h]; rfl
    refine ⟨fun hz => kk 0 0 z4 (Int.le_refl _) HB_pos (Int.le_refl _) HB_pos e0 e1 ?_, fun hz => kk z0 z3 0 a0 a1 d0 d1 (by decide) (by decide) ?_⟩
    · rw [hM]; unfold mk1; rw [show decide (z4 = 0) = false by simpa using hz]; rfl
    · rw [hM]; unfold mk1; rw [show decide (z4 = 0) = true by simpa using hz]; rfl
  · have hm : (sOf z0 == emailS) = false := by
      have : ¬ sOf z0 = emailS := by simpa using hE
      simpa using this
    rw [eq_dec h3, kMsisdn]
    refine ⟨fun hS => ⟨.inl (by decide), fun z4 e0 e1 z5 f0 f1 h => ?_⟩, fun hS => kk 0 0 1 (Int.le_refl _) HB_pos (Int.le_refl _) HB_pos (by decide) (by decide) ?_⟩
    · have hs : (sOf z0 == msisdnS) = true := by simpa using hS
      have h : (sOf z4, z5) = phoneF (sOf 0) (sOf z1) := h
      have hM : makeF (sOf z0) (sOf z1) = mk1 (sOf z0) (sOf z4, z5) := by unfold makeF; rw [hm, hs, h]; rfl
      refine ⟨fun hz => kk 0 0 z5 (Int.le_refl _) HB_pos (Int.le_refl _) HB_pos f0 f1 ?_, fun hz => kk z0 z4 0 a0 a1 e0 e1 (by decide) (by decide) ?_⟩
      · rw [hM]; unfold mk1; rw [show decide (z5 = 0) = false by simpa using hz]; rfl
      · rw [hM]; unfold mk1; rw [show decide (z5 = 0) = true by simpa using hz]; rfl
    · have hs : (sOf z0 == msisdnS) = false := by
        have : ¬ sOf z0 = msisdnS := by simpa using hS
        simpa using this
      unfold makeF; rw [hm, hs]; rfl
theorem p_rmake : B_rmake SB (KBv SB [.mix [.str, .str], .int .i64 0 21] 18) := by
  intro z0 a0 a1 z1 b0 b1 z2 c0 c1 h2
  have kk : ∀ a b e : Int, 0 ≤ a → a ≤ HB → 0 ≤ b → b ≤ HB → 0 ≤ e → e ≤ 21 → (sOf a, sOf b, e) = makeF (sOf z0) (sOf z1) → KBv SB [.mix [.str, .str], .int .i64 0 21] 18 [[z0], [z1]] [[a, b], [e]] := fun a b e h1 h2 h3 h4 h5 h6 h => kmk h1 h2 h3 h4 h5 h6 h
  rw [eq_dec h2, kEmail]
  refine ⟨fun hE z3 d0 d1 z4 e0 e1 h => ?_, fun hE z3 d0 d1 h3 => ?_⟩
  · have hm : (sOf z0 == emailS) = true := by simpa using hE
    have h : (sOf z3, z4) = emailF (sOf z1) := h
    have hM : makeF (sOf z0) (sOf z1) = mk1 (sOf z0) (sOf z3, z4) := by unfold makeF; rw [hm, ← h]; rfl
    refine ⟨fun hz => kk 0 0 z4 (Int.le_refl _) HB_pos (Int.le_refl _) HB_pos e0 e1 ?_, fun hz => kk z0 z3 0 a0 a1 d0 d1 (by decide) (by decide) ?_⟩
    · rw [hM]; unfold mk1; rw [show decide (z4 = 0) = false by simpa using hz]; rfl
    · rw [hM]; unfold mk1; rw [show decide (z4 = 0) = true by simpa using hz]; rfl
  · have hm : (sOf z0 == emailS) = false := by
      have : ¬ sOf z0 = emailS := by simpa using hE
      simpa using this
    rw [eq_dec h3, kMsisdn]
    refine ⟨fun hS => ⟨.inl (by decide), fun z4 e0 e1 z5 f0 f1 h => ?_⟩, fun hS => kk 0 0 1 (Int.le_refl _) HB_pos (Int.le_refl _) HB_pos (by decide) (by decide) ?_⟩
    · have hs : (sOf z0 == msisdnS) = true := by simpa using hS
      have h : (sOf z4, z5) = phoneF (sOf 0) (sOf z1) := h
      have hM : makeF (sOf z0) (sOf z1) = mk1 (sOf z0) (sOf z4, z5) := by unfold makeF; rw [hm, hs, h]; rfl
      refine ⟨fun hz => kk 0 0 z5 (Int.le_refl _) HB_pos (Int.le_refl _) HB_pos f0 f1 ?_, fun hz => kk z0 z4 0 a0 a1 e0 e1 (by decide) (by decide) ?_⟩
      · rw [hM]; unfold mk1; rw [show decide (z5 = 0) = false by simpa using hz]; rfl
      · rw [hM]; unfold mk1; rw [show decide (z5 = 0) = true by simpa using hz]; rfl
    · have hs : (sOf z0 == msisdnS) = false := by
        have : ¬ sOf z0 = msisdnS := by simpa using hS
        simpa using this
      unfold makeF; rw [hm, hs]; rfl
theorem p_right : B_right SB (KBv SB [.bool] 16) := by
  intro r0 h0
  obtain ⟨a, b, rfl, _⟩ := two_of h0
  have kk : ∀ x : Bool, rightF (sOf a) (sOf b) = x → KBv SB [.bool] 16 [[a, b]] [[b01 x]] := fun x h => kb (by show b01 x = b01 (rightF (sOf a) (sOf b)); rw [h])
  refine fun r2 h2 z4 c0 c1 hM => ?_
  obtain ⟨c, d, rfl, _⟩ := two_of h2
  have hM : (sOf c, sOf d, z4) = makeF (sOf a) (sOf b) := hM
  have hR : rightF (sOf a) (sOf b) = (decide (z4 = 0) && (sOf a == sOf c) && (sOf b == sOf d)) := by unfold rightF; rw [← hM]
  refine ⟨fun hz z5 d0 d1 h5 z6 e0 e1 h6 => ?_, fun hz => kk false (by rw [hR, hz]; rfl)⟩
  have h5 : z5 = fnD 4 [a, c] := h5
  have h6 : z6 = fnD 4 [b, d] := h6
  have e5 := eq_dec h5
  have e6 := eq_dec h6
  refine kk _ ?_
  rw [hR, hz, Bool.true_and, Bool.eq_iff_iff]
  have e5' : z5 = 1 ↔ sOf a = sOf c := by rw [← decide_eq_true_eq (p := z5 = 1), e5, decide_eq_true_eq]
  have e6' : z6 = 1 ↔ sOf b = sOf d := by rw [← decide_eq_true_eq (p := z6 = 1), e6, decide_eq_true_eq]
  simp only [Bool.and_eq_true, beq_iff_eq, decide_eq_true_eq, List.cons.injEq, and_true, e5', e6']
theorem p_rright : B_rright SB (KBv SB [.bool] 19) := by
  intro r0 h0
  obtain ⟨a, b, rfl, _⟩ := two_of h0
  have kk : ∀ x : Bool, rightF (sOf a) (sOf b) = x → KBv SB [.bool] 19 [[a, b]] [[b01 x]] := fun x h => kb (by show b01 x = b01 (rightF (sOf a) (sOf b)); rw [h])
  refine fun r2 h2 z4 c0 c1 hM => ?_
  obtain ⟨c, d, rfl, _⟩ := two_of h2
  have hM : (sOf c, sOf d, z4) = makeF (sOf a) (sOf b) := hM
  have hR : rightF (sOf a) (sOf b) = (decide (z4 = 0) && (sOf a == sOf c) && (sOf b == sOf d)) := by unfold rightF; rw [← hM]
  refine ⟨fun hz z5 d0 d1 h5 z6 e0 e1 h6 => ?_, fun hz => kk false (by rw [hR, hz]; rfl)⟩
  have h5 : z5 = fnD 4 [a, c] := h5
  have h6 : z6 = fnD 4 [b, d] := h6
  have e5 := eq_dec h5
  have e6 := eq_dec h6
  refine kk _ ?_
  rw [hR, hz, Bool.true_and, Bool.eq_iff_iff]
  have e5' : z5 = 1 ↔ sOf a = sOf c := by rw [← decide_eq_true_eq (p := z5 = 1), e5, decide_eq_true_eq]
  have e6' : z6 = 1 ↔ sOf b = sOf d := by rw [← decide_eq_true_eq (p := z6 = 1), e6, decide_eq_true_eq]
  simp only [Bool.and_eq_true, beq_iff_eq, decide_eq_true_eq, List.cons.injEq, and_true, e5', e6']
end Go.Ad
