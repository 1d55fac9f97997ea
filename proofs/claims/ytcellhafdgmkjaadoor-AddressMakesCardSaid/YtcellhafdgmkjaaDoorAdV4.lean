/- AdV4: a part of the proof of statements of this seat. -/
import Derived.Test.YtcellhafdgmkjaaDoorAdV3
set_option maxRecDepth 100000
set_option linter.unusedVariables false
set_option linter.unusedSimpArgs false
namespace Go.Ad
open Go Go.Rx
def B_make (S : Nat → List (List Int) → List (List Int) → Prop) (K : List (List Int) → List (List Int) → Prop) : Prop :=
 ∀ z0 : Int, 0 ≤ z0 → z0 ≤ HB → ∀ z1 : Int, 0 ≤ z1 → z1 ≤ HB → 
 chkD 44 [z0, z1] →
 ∀ z2 : Int, 0 ≤ z2 → z2 ≤ 1 → z2 = fnD 4 [z0, 477315081741] →
 (((decide (z2 = 1)) = true →
  ∀ z3 : Int, 0 ≤ z3 → z3 ≤ HB → ∀ z4 : Int, 0 ≤ z4 → z4 ≤ 21 → S 10 [[z1]] [[z3], [z4]] →
  ((((!(decide (z4 = 0)))) = true →
   K [[z0], [z1]] [[0, 0], [z4]]
  ) ∧ (((!(decide (z4 = 0)))) = false →
   K [[z0], [z1]] [[z0, z3], [0]]
  ))
 ) ∧ ((decide (z2 = 1)) = false →
  ∀ z3 : Int, 0 ≤ z3 → z3 ≤ 1 → z3 = fnD 4 [z0, 124890778723732] →
  (((decide (z3 = 1)) = true →
   chkD 44 [0, z1] ∧
   ∀ z4 : Int, 0 ≤ z4 → z4 ≤ HB → ∀ z5 : Int, 0 ≤ z5 → z5 ≤ 21 → S 12 [[0], [z1]] [[z4], [z5]] →
   ((((!(decide (z5 = 0)))) = true →
    K [[z0], [z1]] [[0, 0], [z5]]
   ) ∧ (((!(decide (z5 = 0)))) = false →
    K [[z0], [z1]] [[z0, z4], [0]]
   ))
  ) ∧ ((decide (z3 = 1)) = false →
   K [[z0], [z1]] [[0, 0], [1]]
  ))
 ))
def B_rmake (S : Nat → List (List Int) → List (List Int) → Prop) (K : List (List Int) → List (List Int) → Prop) : Prop :=
 ∀ z0 : Int, 0 ≤ z0 → z0 ≤ HB → ∀ z1 : Int, 0 ≤ z1 → z1 ≤ HB → 
 chkD 44 [z0, z1] →
 ∀ z2 : Int, 0 ≤ z2 → z2 ≤ 1 → z2 = fnD 4 [z0, 477315081741] →
 (((decide (z2 = 1)) = true →
  ∀ z3 : Int, 0 ≤ z3 → z3 ≤ HB → ∀ z4 : Int, 0 ≤ z4 → z4 ≤ 21 → S 11 [[z1]] [[z3], [z4]] →
  ((((!(decide (z4 = 0)))) = true →
   K [[z0], [z1]] [[0, 0], [z4]]
  ) ∧ (((!(decide (z4 = 0)))) = false →
   K [[z0], [z1]] [[z0, z3], [0]]
  ))
 ) ∧ ((decide (z2 = 1)) = false →
  ∀ z3 : Int, 0 ≤ z3 → z3 ≤ 1 → z3 = fnD 4 [z0, 124890778723732] →
  (((decide (z3 = 1)) = true →
   chkD 44 [0, z1] ∧
   ∀ z4 : Int, 0 ≤ z4 → z4 ≤ HB → ∀ z5 : Int, 0 ≤ z5 → z5 ≤ 21 → S 13 [[0], [z1]] [[z4], [z5]] →
   ((((!(decide (z5 = 0)))) = true →
    K [[z0], [z1]] [[0, 0], [z5]]
   ) ∧ (((!(decide (z5 = 0)))) = false →
    K [[z0], [z1]] [[z0, z4], [0]]
   ))
  ) ∧ ((decide (z3 = 1)) = false →
   K [[z0], [z1]] [[0, 0], [1]]
  ))
 ))
def B_right (S : Nat → List (List Int) → List (List Int) → Prop) (K : List (List Int) → List (List Int) → Prop) : Prop :=
 ∀ r0 : List Int, inB (repB 0 HB 2) r0 → 
 chkD 44 [(List.getD r0 0 0), (List.getD r0 1 0)] →
 chkD 44 [(List.getD r0 0 0), (List.getD r0 1 0)] ∧
 ∀ r2 : List Int, inB (repB 0 HB 2) r2 → ∀ z4 : Int, 0 ≤ z4 → z4 ≤ 21 → S 15 [[(List.getD r0 0 0)], [(List.getD r0 1 0)]] [r2, [z4]] →
 (((decide (z4 = 0)) = true →
  ∀ z5 : Int, 0 ≤ z5 → z5 ≤ 1 → z5 = fnD 4 [(List.getD r0 0 0), (List.getD r2 0 0)] →
  ∀ z6 : Int, 0 ≤ z6 → z6 ≤ 1 → z6 = fnD 4 [(List.getD r0 1 0), (List.getD r2 1 0)] →
  K [r0] [[(cond (decide ([z5, z6] = [1, 1])) 1 0)]]
 ) ∧ ((decide (z4 = 0)) = false →
  K [r0] [[(cond (false) 1 0)]]
 ))
def B_rright (S : Nat → List (List Int) → List (List Int) → Prop) (K : List (List Int) → List (List Int) → Prop) : Prop :=
 ∀ r0 : List Int, inB (repB 0 HB 2) r0 → 
 chkD 44 [(List.getD r0 0 0), (List.getD r0 1 0)] →
 chkD 44 [(List.getD r0 0 0), (List.getD r0 1 0)] ∧
 ∀ r2 : List Int, inB (repB 0 HB 2) r2 → ∀ z4 : Int, 0 ≤ z4 → z4 ≤ 21 → S 18 [[(List.getD r0 0 0)], [(List.getD r0 1 0)]] [r2, [z4]] →
 (((decide (z4 = 0)) = true →
  ∀ z5 : Int, 0 ≤ z5 → z5 ≤ 1 → z5 = fnD 4 [(List.getD r0 0 0), (List.getD r2 0 0)] →
  ∀ z6 : Int, 0 ≤ z6 → z6 ≤ 1 → z6 = fnD 4 [(List.getD r0 1 0), (List.getD r2 1 0)] →
  K [r0] [[(cond (decide ([z5, z6] = [1, 1])) 1 0)]]
 ) ∧ ((decide (z4 = 0)) = false →
  K [r0] [[(cond (false) 1 0)]]
 ))
theorem kEmail : sOf 477315081741 = emailS := by decide +kernel
theorem kMsisdn : sOf 124890778723732 = msisdnS := by decide +kernel
theorem kmk {id : Nat} {zs : List (List Int)} {a b e : Int} (a0 : 0 ≤ a) (a1 : a ≤ HB) (b0 : 0 ≤ b) (b1 : b ≤ HB) (e0 : 0 ≤ e) (e1 : e ≤ 21) (h : SB id zs [[a, b], [e]]) : KBv SB [.mix [.str, .str], .int .i64 0 21] id zs [[a, b], [e]] := ⟨⟨a0, a1, b0, b1, e0, e1, trivial⟩, h⟩
theorem p_make : B_make SB (KBv SB [.mix [.str, .str], .int .i64 0 21] 15) := by
  intro z0 a0 a1 z1 b0 b1 hq z2 c0 c1 h2
  have kk : ∀ a b e : Int, 0 ≤ a → a ≤ HB → 0 ≤ b → b ≤ HB → 0 ≤ e → e ≤ 21 → (sOf a, sOf b, e) = makeF (sOf z0) (sOf z1) → KBv SB [.mix [.str, .str], .int .i64 0 21] 15 [[z0], [z1]] [[a, b], [e]] := fun a b e h1 h2 h3 h4 h5 h6 h => kmk h1 h2 h3 h4 h5 h6 h
  have hq : (sOf z1).length ≤ 4294967280 := hq
  rw [eq_dec h2, kEmail]
  refine ⟨fun hE z3 d0 d1 z4 e0 e1 h => ?_, fun hE z3 d0 d1 h3 => ?_⟩
  · have hm : (sOf z0 == emailS) = true := by simpa using hE
    have h : (sOf z3, z4) = emailF (sOf z1) := h
    have hM : makeF (sOf z0) (sOf z1) = mk1 (sOf z0) (sOf z3, z4) := by unfold makeF; rw [hm, ← h]; rfl
    refine ⟨fun hz => kk 0 0 z4 (Int.le_refl _) HB_pos (Int.le_refl _) HB_pos e0 e1 ?_, fun hz => kk z0 z3 0 a0 a1 d0 d1 (by decide) (by decide) ?_⟩
    · rw [hM]; unfold mk1; rw [show decide (z4 = 0) = false by simpa using hz]; rfl
    · rw [hM]; unfold mk1; rw [show decide (z4 = 0) = true by simpa using hz]; rfl
  · have hm : (sOf z0 == emailS) = false := by
      have : ¬ sOf z0 = emailS := by simpa using hE
      simpa using this
    rw [eq_dec h3, kMsisdn]
    refine ⟨fun hS => ⟨hq, fun z4 e0 e1 z5 f0 f1 h => ?_⟩, fun hS => kk 0 0 1 (Int.le_refl _) HB_pos (Int.le_refl _) HB_pos (by decide) (by decide) ?_⟩
    · have hs : (sOf z0 == msisdnS) = true := by simpa using hS
      have h : (sOf z4, z5) = phoneF (sOf 0) (sOf z1) := h
      have hM : makeF (sOf z0) (sOf z1) = mk1 (sOf z0) (sOf z4, z5) := by unfold makeF; rw [hm, hs, h]; rfl
      refine ⟨fun hz => kk 0 0 z5 (Int.le_refl _) HB_pos (Int.le_refl _) HB_pos f0 f1 ?_, fun hz => kk z0 z4 0 a0 a1 e0 e1 (by decide) (by decide) ?_⟩
      · rw [hM]; unfold mk1; rw [show decide (z5 = 0) = false by simpa using hz]; rfl
      · rw [hM]; unfold mk1; rw [show decide (z5 = 0) = true by simpa using hz]; rfl
    · have hs : (sOf z0 == msisdnS) = false := by
        have : ¬ sOf z0 = msisdnS := by simpa using hS
        simpa using this
      unfold makeF; rw [hm, hs]; rfl
theorem p_rmake : B_rmake SB (KBv SB [.mix [.str, .str], .int .i64 0 21] 18) := by
  intro z0 a0 a1 z1 b0 b1 hq z2 c0 c1 h2
  have kk : ∀ a b e : Int, 0 ≤ a → a ≤ HB → 0 ≤ b → b ≤ HB → 0 ≤ e → e ≤ 21 → (sOf a, sOf b, e) = makeF (sOf z0) (sOf z1) → KBv SB [.mix [.str, .str], .int .i64 0 21] 18 [[z0], [z1]] [[a, b], [e]] := fun a b e h1 h2 h3 h4 h5 h6 h => kmk h1 h2 h3 h4 h5 h6 h
  have hq : (sOf z1).length ≤ 4294967280 := hq
  rw [eq_dec h2, kEmail]
  refine ⟨fun hE z3 d0 d1 z4 e0 e1 h => ?_, fun hE z3 d0 d1 h3 => ?_⟩
  · have hm : (sOf z0 == emailS) = true := by simpa using hE
    have h : (sOf z3, z4) = emailF (sOf z1) := h
    have hM : makeF (sOf z0) (sOf z1) = mk1 (sOf z0) (sOf z3, z4) := by unfold makeF; rw [hm, ← h]; rfl
    refine ⟨fun hz => kk 0 0 z4 (Int.le_refl _) HB_pos (Int.le_refl _) HB_pos e0 e1 ?_, fun hz => kk z0 z3 0 a0 a1 d0 d1 (by decide) (by decide) ?_⟩
    · rw [hM]; unfold mk1; rw [show decide (z4 = 0) = false by simpa using hz]; rfl
    · rw [hM]; unfold mk1; rw [show decide (z4 = 0) = true by simpa using hz]; rfl
  · have hm : (sOf z0 == emailS) = false := by
      have : ¬ sOf z0 = emailS := by simpa using hE
      simpa using this
    rw [eq_dec h3, kMsisdn]
    refine ⟨fun hS => ⟨hq, fun z4 e0 e1 z5 f0 f1 h => ?_⟩, fun hS => kk 0 0 1 (Int.le_refl _) HB_pos (Int.le_refl _) HB_pos (by decide) (by decide) ?_⟩
    · have hs : (sOf z0 == msisdnS) = true := by simpa using hS
      have h : (sOf z4, z5) = phoneF (sOf 0) (sOf z1) := h
      have hM : makeF (sOf z0) (sOf z1) = mk1 (sOf z0) (sOf z4, z5) := by unfold makeF; rw [hm, hs, h]; rfl
      refine ⟨fun hz => kk 0 0 z5 (Int.le_refl _) HB_pos (Int.le_refl _) HB_pos f0 f1 ?_, fun hz => kk z0 z4 0 a0 a1 e0 e1 (by decide) (by decide) ?_⟩
      · rw [hM]; unfold mk1; rw [show decide (z5 = 0) = false by simpa using hz]; rfl
      · rw [hM]; unfold mk1; rw [show decide (z5 = 0) = true by simpa using hz]; rfl
    · have hs : (sOf z0 == msisdnS) = false := by
        have : ¬ sOf z0 = msisdnS := by simpa using hS
        simpa using this
      unfold makeF; rw [hm, hs]; rfl
theorem p_right : B_right SB (KBv SB [.bool] 16) := by
  intro r0 h0 hq
  obtain ⟨a, b, rfl, _⟩ := two_of h0
  have kk : ∀ x : Bool, rightF (sOf a) (sOf b) = x → KBv SB [.bool] 16 [[a, b]] [[b01 x]] := fun x h => kb (by show b01 x = b01 (rightF (sOf a) (sOf b)); rw [h])
  refine ⟨hq, fun r2 h2 z4 c0 c1 hM => ?_⟩
  obtain ⟨c, d, rfl, _⟩ := two_of h2
  have hM : (sOf c, sOf d, z4) = makeF (sOf a) (sOf b) := hM
  have hR : rightF (sOf a) (sOf b) = (decide (z4 = 0) && (sOf a == sOf c) && (sOf b == sOf d)) := by unfold rightF; rw [← hM]
  refine ⟨fun hz z5 d0 d1 h5 z6 e0 e1 h6 => ?_, fun hz => kk false (by rw [hR, hz]; rfl)⟩
  have h5 : z5 = fnD 4 [a, c] := h5
  have h6 : z6 = fnD 4 [b, d] := h6
  have e5 := eq_dec h5
  have e6 := eq_dec h6
  refine kk _ ?_
  rw [hR, hz, Bool.true_and, Bool.eq_iff_iff]
  have e5' : z5 = 1 ↔ sOf a = sOf c := by rw [← decide_eq_true_eq (p := z5 = 1), e5, decide_eq_true_eq]
  have e6' : z6 = 1 ↔ sOf b = sOf d := by rw [← decide_eq_true_eq (p := z6 = 1), e6, decide_eq_true_eq]
  simp only [Bool.and_eq_true, beq_iff_eq, decide_eq_true_eq, List.cons.injEq, and_true, e5', e6']
theorem p_rright : B_rright SB (KBv SB [.bool] 19) := by
  intro r0 h0 hq
  obtain ⟨a, b, rfl, _⟩ := two_of h0
  have kk : ∀ x : Bool, rightF (sOf a) (sOf b) = x → KBv SB [.bool] 19 [[a, b]] [[b01 x]] := fun x h => kb (by show b01 x = b01 (rightF (sOf a) (sOf b)); rw [h])
  refine ⟨hq, fun r2 h2 z4 c0 c1 hM => ?_⟩
  obtain ⟨c, d, rfl, _⟩ := two_of h2
  have hM : (sOf c, sOf d, z4) = makeF (sOf a) (sOf b) := hM
  have hR : rightF (sOf a) (sOf b) = (decide (z4 = 0) && (sOf a == sOf c) && (sOf b == sOf d)) := by unfold rightF; rw [← hM]
  refine ⟨fun hz z5 d0 d1 h5 z6 e0 e1 h6 => ?_, fun hz => kk false (by rw [hR, hz]; rfl)⟩
  have h5 : z5 = fnD 4 [a, c] := h5
  have h6 : z6 = fnD 4 [b, d] := h6
  have e5 := eq_dec h5
  have e6 := eq_dec h6
  refine kk _ ?_
  rw [hR, hz, Bool.true_and, Bool.eq_iff_iff]
  have e5' : z5 = 1 ↔ sOf a = sOf c := by rw [← decide_eq_true_eq (p := z5 = 1), e5, decide_eq_true_eq]
  have e6' : z6 = 1 ↔ sOf b = sOf d := by rw [← decide_eq_true_eq (p := z6 = 1), e6, decide_eq_true_eq]
  simp only [Bool.and_eq_true, beq_iff_eq, decide_eq_true_eq, List.cons.injEq, and_true, e5', e6']
def B_lorder (S : Nat → List (List Int) → List (List Int) → Prop) (K : List (List Int) → List (List Int) → Prop) : Prop :=
 ∀ r0 : List Int, inB (repB 0 HB 2) r0 → ∀ r2 : List Int, inB (repB 0 HB 2) r2 → ∀ r4 : List Int, inB (repB 0 HB 2) r4 → 
 ∀ z6 : Int, 0 ≤ z6 → z6 ≤ 1 → S 9 [] [[z6]] →
 ((((!(decide (z6 = 1)))) = true →
  K [r0, r2, r4] [[(cond (false) 1 0)]]
 ) ∧ (((!(decide (z6 = 1)))) = false →
  ∀ z7 : Int, 0 ≤ z7 → z7 ≤ 9223372036854775807 → z7 = fnD 0 [(List.getD r0 1 0)] →
  (((decide (2000 < z7)) = true →
   K [r0, r2, r4] [[(cond (true) 1 0)]]
  ) ∧ ((decide (2000 < z7)) = false →
   ∀ z8 : Int, 0 ≤ z8 → z8 ≤ 9223372036854775807 → z8 = fnD 0 [(List.getD r2 1 0)] →
   (((decide (2000 < z8)) = true →
    K [r0, r2, r4] [[(cond (true) 1 0)]]
   ) ∧ ((decide (2000 < z8)) = false →
    ∀ z9 : Int, 0 ≤ z9 → z9 ≤ 9223372036854775807 → z9 = fnD 0 [(List.getD r4 1 0)] →
    (((decide (2000 < z9)) = true →
     K [r0, r2, r4] [[(cond (true) 1 0)]]
    ) ∧ ((decide (2000 < z9)) = false →
     ∀ z10 : Int, 0 ≤ z10 → z10 ≤ 1 → S 14 [r0, r2] [[z10]] →
     (((decide (z10 = 1)) = true →
      ∀ z11 : Int, 0 ≤ z11 → z11 ≤ 1 → S 14 [r2, r0] [[z11]] →
      (((decide (z11 = 1)) = true →
       ∀ z12 : Int, 0 ≤ z12 → z12 ≤ 1 → z12 = fnD 4 [(List.getD r0 0 0), (List.getD r2 0 0)] →
       ∀ z13 : Int, 0 ≤ z13 → z13 ≤ 1 → z13 = fnD 4 [(List.getD r0 1 0), (List.getD r2 1 0)] →
       (((decide ([z12, z13] = [1, 1])) = true →
        K [r0, r2, r4] [[(cond (false) 1 0)]]
       ) ∧ ((decide ([z12, z13] = [1, 1])) = false →
        K [r0, r2, r4] [[(cond (false) 1 0)]]
       ))
      ) ∧ ((decide (z11 = 1)) = false →
       ∀ z12 : Int, 0 ≤ z12 → z12 ≤ 1 → z12 = fnD 4 [(List.getD r0 0 0), (List.getD r2 0 0)] →
       ∀ z13 : Int, 0 ≤ z13 → z13 ≤ 1 → z13 = fnD 4 [(List.getD r0 1 0), (List.getD r2 1 0)] →
       (((decide ([z12, z13] = [1, 1])) = true →
        K [r0, r2, r4] [[(cond (false) 1 0)]]
       ) ∧ ((decide ([z12, z13] = [1, 1])) = false →
        ∀ z14 : Int, 0 ≤ z14 → z14 ≤ 1 → S 14 [r0, r2] [[z14]] →
        ((((!(decide (z14 = 1)))) = true →
         K [r0, r2, r4] [[(cond (true) 1 0)]]
        ) ∧ (((!(decide (z14 = 1)))) = false →
         ∀ z15 : Int, 0 ≤ z15 → z15 ≤ 1 → S 14 [r2, r4] [[z15]] →
         ((((!(decide (z15 = 1)))) = true →
          K [r0, r2, r4] [[(cond (true) 1 0)]]
         ) ∧ (((!(decide (z15 = 1)))) = false →
          ∀ z16 : Int, 0 ≤ z16 → z16 ≤ 1 → S 14 [r0, r4] [[z16]] →
          K [r0, r2, r4] [[(cond (decide (z16 = 1)) 1 0)]]
         ))
        ))
       ))
      ))
     ) ∧ ((decide (z10 = 1)) = false →
      ∀ z11 : Int, 0 ≤ z11 → z11 ≤ 1 → S 14 [r2, r0] [[z11]] →
      (((decide (z11 = 1)) = true →
       ∀ z12 : Int, 0 ≤ z12 → z12 ≤ 1 → z12 = fnD 4 [(List.getD r0 0 0), (List.getD r2 0 0)] →
       ∀ z13 : Int, 0 ≤ z13 → z13 ≤ 1 → z13 = fnD 4 [(List.getD r0 1 0), (List.getD r2 1 0)] →
       (((decide ([z12, z13] = [1, 1])) = true →
        K [r0, r2, r4] [[(cond (false) 1 0)]]
       ) ∧ ((decide ([z12, z13] = [1, 1])) = false →
        ∀ z14 : Int, 0 ≤ z14 → z14 ≤ 1 → S 14 [r0, r2] [[z14]] →
        ((((!(decide (z14 = 1)))) = true →
         K [r0, r2, r4] [[(cond (true) 1 0)]]
        ) ∧ (((!(decide (z14 = 1)))) = false →
         ∀ z15 : Int, 0 ≤ z15 → z15 ≤ 1 → S 14 [r2, r4] [[z15]] →
         ((((!(decide (z15 = 1)))) = true →
          K [r0, r2, r4] [[(cond (true) 1 0)]]
         ) ∧ (((!(decide (z15 = 1)))) = false →
          ∀ z16 : Int, 0 ≤ z16 → z16 ≤ 1 → S 14 [r0, r4] [[z16]] →
          K [r0, r2, r4] [[(cond (decide (z16 = 1)) 1 0)]]
         ))
        ))
       ))
      ) ∧ ((decide (z11 = 1)) = false →
       ∀ z12 : Int, 0 ≤ z12 → z12 ≤ 1 → z12 = fnD 4 [(List.getD r0 0 0), (List.getD r2 0 0)] →
       ∀ z13 : Int, 0 ≤ z13 → z13 ≤ 1 → z13 = fnD 4 [(List.getD r0 1 0), (List.getD r2 1 0)] →
       (((decide ([z12, z13] = [1, 1])) = true →
        ∀ z14 : Int, 0 ≤ z14 → z14 ≤ 1 → S 14 [r0, r2] [[z14]] →
        ((((!(decide (z14 = 1)))) = true →
         K [r0, r2, r4] [[(cond (true) 1 0)]]
        ) ∧ (((!(decide (z14 = 1)))) = false →
         ∀ z15 : Int, 0 ≤ z15 → z15 ≤ 1 → S 14 [r2, r4] [[z15]] →
         ((((!(decide (z15 = 1)))) = true →
          K [r0, r2, r4] [[(cond (true) 1 0)]]
         ) ∧ (((!(decide (z15 = 1)))) = false →
          ∀ z16 : Int, 0 ≤ z16 → z16 ≤ 1 → S 14 [r0, r4] [[z16]] →
          K [r0, r2, r4] [[(cond (decide (z16 = 1)) 1 0)]]
         ))
        ))
       ) ∧ ((decide ([z12, z13] = [1, 1])) = false →
        K [r0, r2, r4] [[(cond (false) 1 0)]]
       ))
      ))
     ))
    ))
   ))
  ))
 ))
theorem less_cons (a b : UInt8) (x y : Tx) : Op.bytesLess (a :: x) (b :: y) = true ↔ a.toNat < b.toNat ∨ (a = b ∧ Op.bytesLess x y = true) := by
  simp only [Op.bytesLess, Bool.or_eq_true, Bool.and_eq_true, beq_iff_eq, decide_eq_true_eq, UInt8.lt_iff_toNat_lt]
theorem less_nil (x : Tx) : Op.bytesLess x [] = false := by cases x <;> rfl
theorem less_asym : ∀ x y : Tx, Op.bytesLess x y = true → Op.bytesLess y x = true → False
  | x, [], h, _ => by rw [less_nil] at h; cases h
  | [], _ :: _, _, h => by cases h
  | a :: x, b :: y, h, h' => by
    rw [less_cons] at h h'
    rcases h with h | ⟨rfl, h⟩
    · rcases h' with h' | ⟨e, _⟩
      · omega
      · rw [e] at h; omega
    · rcases h' with h' | ⟨_, h'⟩
      · omega
      · exact less_asym x y h h'
theorem less_tot : ∀ x y : Tx, Op.bytesLess x y = true ∨ Op.bytesLess y x = true ∨ x = y
  | [], [] => .inr (.inr rfl)
  | [], _ :: _ => .inl rfl
  | _ :: _, [] => .inr (.inl rfl)
  | a :: x, b :: y => by
    rw [less_cons, less_cons]
    rcases Nat.lt_trichotomy a.toNat b.toNat with h | h | h
    · exact .inl (.inl h)
    · have e : a = b := UInt8.toNat_inj.1 h
      subst e
      rcases less_tot x y with h | h | h
      · exact .inl (.inr ⟨rfl, h⟩)
      · exact .inr (.inl (.inr ⟨rfl, h⟩))
      · exact .inr (.inr (by rw [h]))
    · exact .inr (.inl (.inl h))
theorem less_trans : ∀ x y z : Tx, Op.bytesLess x y = true → Op.bytesLess y z = true → Op.bytesLess x z = true
  | _, [], _, h, _ => by rw [less_nil] at h; cases h
  | _, _ :: _, [], _, h => by rw [less_nil] at h; cases h
  | [], _ :: _, _ :: _, _, _ => rfl
  | a :: x, b :: y, c :: z, h, h' => by
    rw [less_cons] at h h' ⊢
    rcases h with h | ⟨rfl, h⟩
    · rcases h' with h' | ⟨rfl, _⟩
      · exact .inl (by omega)
      · exact .inl h
    · rcases h' with h' | ⟨rfl, h'⟩
      · exact .inl h'
      · exact .inr ⟨rfl, less_trans x y z h h'⟩
theorem lessF_iff (a b c d : Tx) : lessF a b c d = true ↔ Op.bytesLess a c = true ∨ (a = c ∧ Op.bytesLess b d = true) := by
  unfold lessF
  by_cases h : a = c
  · subst h; simp [less_irr]
  · rw [show (a == c) = false by simpa using h]; simp [h]
theorem lessF_asym {a b c d : Tx} (h : lessF a b c d = true) (h' : lessF c d a b = true) : False := by
  rw [lessF_iff] at h h'
  rcases h with h | ⟨rfl, h⟩
  · rcases h' with h' | ⟨rfl, _⟩
    · exact less_asym _ _ h h'
    · rw [less_irr] at h; cases h
  · rcases h' with h' | ⟨_, h'⟩
    · rw [less_irr] at h'; cases h'
    · exact less_asym _ _ h h'
theorem lessF_tot (a b c d : Tx) : lessF a b c d = true ∨ lessF c d a b = true ∨ (a = c ∧ b = d) := by
  rw [lessF_iff, lessF_iff]
  rcases less_tot a c with h | h | rfl
  · exact .inl (.inl h)
  · exact .inr (.inl (.inl h))
  · rcases less_tot b d with h | h | rfl
    · exact .inl (.inr ⟨rfl, h⟩)
    · exact .inr (.inl (.inr ⟨rfl, h⟩))
    · exact .inr (.inr ⟨rfl, rfl⟩)
theorem lessF_trans {a b c d e f : Tx} (h : lessF a b c d = true) (h' : lessF c d e f = true) : lessF a b e f = true := by
  rw [lessF_iff] at h h' ⊢
  rcases h with h | ⟨rfl, h⟩
  · rcases h' with h' | ⟨rfl, _⟩
    · exact .inl (less_trans _ _ _ h h')
    · exact .inl h
  · rcases h' with h' | ⟨rfl, h'⟩
    · exact .inl h'
    · exact .inr ⟨rfl, less_trans _ _ _ h h'⟩
theorem lessF_irr (a b : Tx) : lessF a b a b = false := by
  cases h : lessF a b a b with
  | false => rfl
  | true => exact (lessF_asym h h).elim
theorem pair_dec {a b c d z w : Int} (h : z = fnD 4 [a, c]) (h' : w = fnD 4 [b, d]) : decide ([z, w] = [1, 1]) = decide (sOf a = sOf c ∧ sOf b = sOf d) := by
  have e := eq_dec h
  have e' := eq_dec h'
  have i : z = 1 ↔ sOf a = sOf c := by rw [← decide_eq_true_eq (p := z = 1), e, decide_eq_true_eq]
  have i' : w = 1 ↔ sOf b = sOf d := by rw [← decide_eq_true_eq (p := w = 1), e', decide_eq_true_eq]
  rw [Bool.eq_iff_iff, decide_eq_true_eq, decide_eq_true_eq]
  simp only [List.cons.injEq, and_true, i, i']
theorem p_lorder : B_lorder SB (KBv SB [.bool] 6) := by
  intro r0 h0 r2 h2 r4 h4 z6 a0 a1 hA
  obtain ⟨a, b, rfl, _⟩ := two_of h0
  obtain ⟨c, d, rfl, _⟩ := two_of h2
  obtain ⟨e, f, rfl, _⟩ := two_of h4
  have hA : z6 = 1 := hA
  subst hA
  have ok : KBv SB [.bool] 6 [[a, b], [c, d], [e, f]] [[1]] := kb1 rfl
  refine ⟨(fun h => by cases h), fun _ z7 b0 b1 h7 => ⟨fun _ => ok, fun _ z8 c0 c1 h8 => ⟨fun _ => ok, fun _ z9 d0 d1 h9 => ⟨fun _ => ok, fun _ z10 e0 e1 h10 => ?_⟩⟩⟩⟩
  have h10 : z10 = b01 (lessF (sOf a) (sOf b) (sOf c) (sOf d)) := h10
  have tail : ∀ z14 : Int, 0 ≤ z14 → z14 ≤ 1 → SB 14 [[a, b], [c, d]] [[z14]] →
        ((((!(decide (z14 = 1)))) = true →
         KBv SB [.bool] 6 [[a, b], [c, d], [e, f]] [[1]]
        ) ∧ (((!(decide (z14 = 1)))) = false →
         ∀ z15 : Int, 0 ≤ z15 → z15 ≤ 1 → SB 14 [[c, d], [e, f]] [[z15]] →
         ((((!(decide (z15 = 1)))) = true →
          KBv SB [.bool] 6 [[a, b], [c, d], [e, f]] [[1]]
         ) ∧ (((!(decide (z15 = 1)))) = false →
          ∀ z16 : Int, 0 ≤ z16 → z16 ≤ 1 → SB 14 [[a, b], [e, f]] [[z16]] →
          KBv SB [.bool] 6 [[a, b], [c, d], [e, f]] [[(cond (decide (z16 = 1)) 1 0)]]
         ))
        )) := fun z14 f0 f1 h14 => ⟨fun _ => ok, fun hx z15 g0 g1 h15 => ⟨fun _ => ok, fun hy z16 i0 i1 h16 => by
      have h14 : z14 = b01 (lessF (sOf a) (sOf b) (sOf c) (sOf d)) := h14
      have h15 : z15 = b01 (lessF (sOf c) (sOf d) (sOf e) (sOf f)) := h15
      have h16 : z16 = b01 (lessF (sOf a) (sOf b) (sOf e) (sOf f)) := h16
      rw [b01_dec h14, Bool.not_eq_false'] at hx
      rw [b01_dec h15, Bool.not_eq_false'] at hy
      rw [b01_dec h16, lessF_trans hx hy]
      exact ok⟩⟩
  rw [b01_dec h10]
  refine ⟨fun hl z11 f0 f1 h11 => ?_, fun hl z11 f0 f1 h11 => ?_⟩
  · have h11 : z11 = b01 (lessF (sOf c) (sOf d) (sOf a) (sOf b)) := h11
    rw [b01_dec h11]
    refine ⟨fun hm => (lessF_asym hl hm).elim, fun hm z12 g0 g1 h12 z13 i0 i1 h13 => ?_⟩
    have h12 : z12 = fnD 4 [a, c] := h12
    have h13 : z13 = fnD 4 [b, d] := h13
    rw [pair_dec h12 h13]
    refine ⟨fun he => ?_, fun _ => tail⟩
    have he := of_decide_eq_true he
    rw [he.1, he.2, lessF_irr] at hl
    cases hl
  · have h11 : z11 = b01 (lessF (sOf c) (sOf d) (sOf a) (sOf b)) := h11
    rw [b01_dec h11]
    refine ⟨fun hm z12 g0 g1 h12 z13 i0 i1 h13 => ?_, fun hm z12 g0 g1 h12 z13 i0 i1 h13 => ?_⟩
    · have h12 : z12 = fnD 4 [a, c] := h12
      have h13 : z13 = fnD 4 [b, d] := h13
      rw [pair_dec h12 h13]
      refine ⟨fun he => ?_, fun _ => tail⟩
      have he := of_decide_eq_true he
      rw [he.1, he.2, lessF_irr] at hm
      cases hm
    · have h12 : z12 = fnD 4 [a, c] := h12
      have h13 : z13 = fnD 4 [b, d] := h13
      rw [pair_dec h12 h13]
      refine ⟨fun _ => tail, fun he => ?_⟩
      have he := of_decide_eq_false he
      rcases lessF_tot (sOf a) (sOf b) (sOf c) (sOf d) with h | h | h
      · rw [h] at hl; cases hl
      · rw [h] at hm; cases hm
      · exact absurd h he
def B_text (S : Nat → List (List Int) → List (List Int) → Prop) (K : List (List Int) → List (List Int) → Prop) : Prop :=
 ∀ r0 : List Int, inB (repB 0 HB 2) r0 → 
 chkD 46 [(List.getD r0 0 0), (List.getD r0 1 0)] →
 chkD 3 [(List.getD r0 0 0), 33] ∧
 ∀ z2 : Int, 0 ≤ z2 → z2 ≤ HB → z2 = fnD 3 [(List.getD r0 0 0), 33] →
 chkD 3 [z2, (List.getD r0 1 0)] ∧
 ∀ z3 : Int, 0 ≤ z3 → z3 ≤ HB → z3 = fnD 3 [z2, (List.getD r0 1 0)] →
 K [r0] [[z3]]
def B_lmakes (S : Nat → List (List Int) → List (List Int) → Prop) (K : List (List Int) → List (List Int) → Prop) : Prop :=
 ∀ r0 : List Int, inB (repB 0 HB 2) r0 → ∀ r2 : List Int, inB (repB 0 HB 2) r2 → 
 chkD 45 [(List.getD r0 0 0), (List.getD r0 1 0), (List.getD r2 0 0), (List.getD r2 1 0)] →
 ∀ z4 : Int, 0 ≤ z4 → z4 ≤ 1 → S 9 [] [[z4]] →
 ((((!(decide (z4 = 1)))) = true →
  K [r0, r2] [[(cond (false) 1 0)]]
 ) ∧ (((!(decide (z4 = 1)))) = false →
  ∀ z5 : Int, 0 ≤ z5 → z5 ≤ 9223372036854775807 → z5 = fnD 0 [(List.getD r0 1 0)] →
  (((decide (2000 < z5)) = true →
   K [r0, r2] [[(cond (true) 1 0)]]
  ) ∧ ((decide (2000 < z5)) = false →
   ∀ z6 : Int, 0 ≤ z6 → z6 ≤ 9223372036854775807 → z6 = fnD 0 [(List.getD r2 1 0)] →
   (((decide (2000 < z6)) = true →
    K [r0, r2] [[(cond (true) 1 0)]]
   ) ∧ ((decide (2000 < z6)) = false →
    chkD 44 [(List.getD r0 0 0), (List.getD r0 1 0)] ∧
    ∀ r7 : List Int, inB (repB 0 HB 2) r7 → ∀ z9 : Int, 0 ≤ z9 → z9 ≤ 21 → S 15 [[(List.getD r0 0 0)], [(List.getD r0 1 0)]] [r7, [z9]] →
    chkD 44 [(List.getD r0 0 0), (List.getD r0 1 0)] ∧
    ∀ r10 : List Int, inB (repB 0 HB 2) r10 → ∀ z12 : Int, 0 ≤ z12 → z12 ≤ 21 → S 18 [[(List.getD r0 0 0)], [(List.getD r0 1 0)]] [r10, [z12]] →
    ∀ z13 : Int, 0 ≤ z13 → z13 ≤ 1 → z13 = fnD 4 [(List.getD r7 0 0), (List.getD r10 0 0)] →
    ∀ z14 : Int, 0 ≤ z14 → z14 ≤ 1 → z14 = fnD 4 [(List.getD r7 1 0), (List.getD r10 1 0)] →
    (((decide ([z13, z14] = [1, 1])) = true →
     (((decide (z9 = z12)) = true →
      chkD 44 [(List.getD r0 0 0), (List.getD r0 1 0)] ∧
      ∀ z15 : Int, 0 ≤ z15 → z15 ≤ 1 → S 16 [r0] [[z15]] →
      chkD 44 [(List.getD r0 0 0), (List.getD r0 1 0)] ∧
      ∀ z16 : Int, 0 ≤ z16 → z16 ≤ 1 → S 19 [r0] [[z16]] →
      (((((decide (z15 = 1)) == (decide (z16 = 1)))) = true →
       chkD 46 [(List.getD r0 0 0), (List.getD r0 1 0)] ∧
       ∀ z17 : Int, 0 ≤ z17 → z17 ≤ HB → S 20 [r0] [[z17]] →
       chkD 3 [(List.getD r0 0 0), 33] ∧
       ∀ z18 : Int, 0 ≤ z18 → z18 ≤ HB → z18 = fnD 3 [(List.getD r0 0 0), 33] →
       chkD 3 [z18, (List.getD r0 1 0)] ∧
       ∀ z19 : Int, 0 ≤ z19 → z19 ≤ HB → z19 = fnD 3 [z18, (List.getD r0 1 0)] →
       ∀ z20 : Int, 0 ≤ z20 → z20 ≤ 1 → z20 = fnD 4 [z17, z19] →
       (((decide (z20 = 1)) = true →
        ∀ z21 : Int, 0 ≤ z21 → z21 ≤ 1 → S 14 [r0, r2] [[z21]] →
        ∀ z22 : Int, 0 ≤ z22 → z22 ≤ 1 → S 21 [r0, r2] [[z22]] →
        K [r0, r2] [[(cond (((decide (z21 = 1)) == (decide (z22 = 1)))) 1 0)]]
       ) ∧ ((decide (z20 = 1)) = false →
        K [r0, r2] [[(cond (false) 1 0)]]
       ))
      ) ∧ ((((decide (z15 = 1)) == (decide (z16 = 1)))) = false →
       K [r0, r2] [[(cond (false) 1 0)]]
      ))
     ) ∧ ((decide (z9 = z12)) = false →
      K [r0, r2] [[(cond (false) 1 0)]]
     ))
    ) ∧ ((decide ([z13, z14] = [1, 1])) = false →
     K [r0, r2] [[(cond (false) 1 0)]]
    ))
   ))
  ))
 ))
theorem cL_sp : sOf 33 = [32] := by decide
theorem p_text : B_text SB (KBv SB [.str] 20) := by
  intro r0 h0 hq
  obtain ⟨m, w, rfl, _⟩ := two_of h0
  have hq : (sOf m).length + 1 + (sOf w).length ≤ maxLen := hq
  refine ⟨by show (sOf m).length + (sOf 33).length ≤ maxLen; rw [cL_sp]; simp; omega, fun z2 a0 a1 h2 => ?_⟩
  have e2 : sOf z2 = sOf m ++ [32] := by rw [h2]; simp only [fnD, sOf_cOf]; rfl
  refine ⟨by show (sOf z2).length + (sOf w).length ≤ maxLen; rw [e2]; simp; omega, fun z3 b0 b1 h3 => ⟨⟨b0, b1, trivial⟩, ?_⟩⟩
  show sOf z3 = sOf m ++ [32] ++ sOf w
  rw [h3]; simp only [fnD, sOf_cOf]
  show sOf z2 ++ sOf w = _
  rw [e2]
theorem p_lmakes : B_lmakes SB (KBv SB [.bool] 8) := by
  intro r0 h0 r2 h2 hq z4 a0 a1 h4
  obtain ⟨a, b, rfl, _⟩ := two_of h0
  obtain ⟨c, d, rfl, _⟩ := two_of h2
  have h4 : z4 = 1 := h4
  subst h4
  have hq : ∀ z ∈ [a, b, c, d], (sOf z).length ≤ 140737488351232 := hq
  have qa := hq a (by simp)
  have qb := hq b (by simp)
  have ok : KBv SB [.bool] 8 [[a, b], [c, d]] [[1]] := kb1 rfl
  refine ⟨(fun h => by cases h), fun _ z5 b0 b1 h5 => ⟨fun _ => ok, fun hl z6 c0 c1 h6 => ⟨fun _ => ok, fun _ => ?_⟩⟩⟩
  have h5 : z5 = fnD 0 [b] := h5
  simp only [fnD] at h5
  have hb : (sOf b).length ≤ 4294967280 := by
    have : ¬ 2000 < z5 := by simpa using hl
    omega
  refine ⟨hb, fun r7 h7 z9 d0 d1 hM => ⟨hb, fun r10 h10 z12 e0 e1 hN z13 f0 f1 h13 z14 g0 g1 h14 => ?_⟩⟩
  obtain ⟨x, y, rfl, _⟩ := two_of h7
  obtain ⟨u, v, rfl, _⟩ := two_of h10
  have hM : (sOf x, sOf y, z9) = makeF (sOf a) (sOf b) := hM
  have hN : (sOf u, sOf v, z12) = makeF (sOf a) (sOf b) := hN
  have e := hM.trans hN.symm
  rw [Prod.mk.injEq, Prod.mk.injEq] at e
  obtain ⟨ex1, ex2, rfl⟩ := e
  have h13 : z13 = fnD 4 [x, u] := h13
  have h14 : z14 = fnD 4 [y, v] := h14
  rw [pair_dec h13 h14]
  refine ⟨fun _ => ⟨fun _ => ⟨hb, fun z15 i0 i1 h15 => ⟨hb, fun z16 j0 j1 h16 => ?_⟩⟩, fun h => by simp at h⟩, fun h => by simp [ex1, ex2] at h⟩
  have h15 : z15 = b01 (rightF (sOf a) (sOf b)) := h15
  have h16 : z16 = b01 (rightF (sOf a) (sOf b)) := h16
  rw [h15, h16]
  refine ⟨fun _ => ⟨by show (sOf a).length + 1 + (sOf b).length ≤ maxLen; unfold maxLen; omega, fun z17 k0 k1 h17 => ⟨?_, fun z18 l0 l1 h18 => ⟨?_, fun z19 m0 m1 h19 z20 n0 n1 h20 => ?_⟩⟩⟩, fun h => by simp at h⟩
  · show (sOf a).length + (sOf 33).length ≤ maxLen
    rw [cL_sp]; unfold maxLen; simp; omega
  · have e18 : sOf z18 = sOf a ++ [32] := by rw [h18]; simp only [fnD, sOf_cOf]; rfl
    show (sOf z18).length + (sOf b).length ≤ maxLen
    rw [e18]; unfold maxLen; simp; omega
  · have e18 : sOf z18 = sOf a ++ [32] := by rw [h18]; simp only [fnD, sOf_cOf]; rfl
    have e19 : sOf z19 = sOf a ++ [32] ++ sOf b := by
      rw [h19]; simp only [fnD, sOf_cOf]
      show sOf z18 ++ sOf b = _
      rw [e18]
    have h17 : sOf z17 = sOf a ++ [32] ++ sOf b := h17
    rw [eq_dec h20, h17, e19]
    refine ⟨fun _ z21 o0 o1 h21 z22 p0 p1 h22 => ?_, fun h => by simp at h⟩
    have h21 : z21 = b01 (lessF (sOf a) (sOf b) (sOf c) (sOf d)) := h21
    have h22 : z22 = b01 (lessF (sOf a) (sOf b) (sOf c) (sOf d)) := h22
    rw [h21, h22]
    simpa using ok
end Go.Ad
