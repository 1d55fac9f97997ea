/- AdV4: a part of the proof of statements of this seat. -/
import Derived.Test.YtcellhafdgmkjaaDoorAdV3
set_option maxRecDepth 100000
set_option linter.unusedVariables false
set_option linter.unusedSimpArgs false
namespace Go.Ad
open Go Go.Rx
def B_make (S : Nat → List (List Int) → List (List Int) → Prop) (K : List (List Int) → List (List Int) → Prop) : Prop :=
 ∀ z0 : Int, 0 ≤ z0 → z0 ≤ HB → ∀ z1 : Int, 0 ≤ z1 → z1 ≤ HB → 
 chkD 44 [z0, z1] →
 ∀ z2 : Int, 0 ≤ z2 → z2 ≤ 1 → z2 = fnD 4 [z0, 477315081741] →
 (((decide (z2 = 1)) = true →
  ∀ z3 : Int, 0 ≤ z3 → z3 ≤ HB → ∀ z4 : Int, 0 ≤ z4 → z4 ≤ 21 → S 10 [[z1]] [[z3], [z4]] →
  ((((!(decide (z4 = 0)))) = true →
   K [[z0], [z1]] [[0, 0], [z4]]
  ) ∧ (((!(decide (z4 = 0)))) = false →
   K [[z0], [z1]] [[z0, z3], [0]]
  ))
 ) ∧ ((decide (z2 = 1)) = false →
  ∀ z3 : Int, 0 ≤ z3 → z3 ≤ 1 → z3 = fnD 4 [z0, 124890778723732] →
  (((decide (z3 = 1)) = true →
   chkD 44 [0, z1] ∧
   ∀ z4 : Int, 0 ≤ z4 → z4 ≤ HB → ∀ z5 : Int, 0 ≤ z5 → z5 ≤ 21 → S 12 [[0], [z1]] [[z4], [z5]] →
   ((((!(decide (z5 = 0)))) = true →
    K [[z0], [z1]] [[0, 0], [z5]]
   ) ∧ (((!(decide (z5 = 0)))) = false →
    K [[z0], [z1]] [[z0, z4], [0]]
   ))
  ) ∧ ((decide (z3 = 1)) = false →
   K [[z0], [z1]] [[0, 0], [1]]
  ))
 ))
def B_rmake (S : Nat → List (List Int) → List (List Int) → Prop) (K : List (List Int) → List (List Int) → Prop) : Prop :=
 ∀ z0 : Int, 0 ≤ z0 → z0 ≤ HB → ∀ z1 : Int, 0 ≤ z1 → z1 ≤ HB → 
 chkD 44 [z0, z1] →
 ∀ z2 : Int, 0 ≤ z2 → z2 ≤ 1 → z2 = fnD 4 [z0, 477315081741] →
 (((decide (z2 = 1)) = true →
  ∀ z3 : Int, 0 ≤ z3 → z3 ≤ HB → ∀ z4 : Int, 0 ≤ z4 → z4 ≤ 21 → S 11 [[z1]] [[z3], [z4]] →
  ((((!(decide (z4 = 0)))) = true →
   K [[z0], [z1]] [[0, 0], [z4]]
  ) ∧ (((!(decide (z4 = 0)))) = false →
   K [[z0], [z1]] [[z0, z3], [0]]
  ))
 ) ∧ ((decide (z2 = 1)) = false →
  ∀ z3 : Int, 0 ≤ z3 → z3 ≤ 1 → z3 = fnD 4 [z0, 124890778723732] →
  (((decide (z3 = 1)) = true →
   chkD 44 [0, z1] ∧
   ∀ z4 : Int, 0 ≤ z4 → z4 ≤ HB → ∀ z5 : Int, 0 ≤ z5 → z5 ≤ 21 → S 13 [[0], [z1]] [[z4], [z5]] →
   ((((!(decide (z5 = 0)))) = true →
    K [[z0], [z1]] [[0, 0], [z5]]
   ) ∧ (((!(decide (z5 = 0)))) = false →
    K [[z0], [z1]] [[z0, z4], [0]]
   ))
  ) ∧ ((decide (z3 = 1)) = false →
   K [[z0], [z1]] [[0, 0], [1]]
  ))
 ))
def B_right (S : Nat → List (List Int) → List (List Int) → Prop) (K : List (List Int) → List (List Int) → Prop) : Prop :=
 ∀ r0 : List Int, inB (repB 0 HB 2) r0 → 
 chkD 44 [(List.getD r0 0 0), (List.getD r0 1 0)] →
 chkD 44 [(List.getD r0 0 0), (List.getD r0 1 0)] ∧
 ∀ r2 : List Int, inB (repB 0 HB 2) r2 → ∀ z4 : Int, 0 ≤ z4 → z4 ≤ 21 → S 15 [[(List.getD r0 0 0)], [(List.getD r0 1 0)]] [r2, [z4]] →
 (((decide (z4 = 0)) = true →
  ∀ z5 : Int, 0 ≤ z5 → z5 ≤ 1 → z5 = fnD 4 [(List.getD r0 0 0), (List.getD r2 0 0)] →
  ∀ z6 : Int, 0 ≤ z6 → z6 ≤ 1 → z6 = fnD 4 [(List.getD r0 1 0), (List.getD r2 1 0)] →
  K [r0] [[(cond (decide ([z5, z6] = [1, 1])) 1 0)]]
 ) ∧ ((decide (z4 = 0)) = false →
  K [r0] [[(cond (false) 1 0)]]
 ))
def B_rright (S : Nat → List (List Int) → List (List Int) → Prop) (K : List (List Int) → List (List Int) → Prop) : Prop :=
 ∀ r0 : List Int, inB (repB 0 HB 2) r0 → 
 chkD 44 [(List.getD r0 0 0), (List.getD r0 1 0)] →
 chkD 44 [(List.getD r0 0 0), (List.getD r0 1 0)] ∧
 ∀ r2 : List Int, inB (repB 0 HB 2) r2 → ∀ z4 : Int, 0 ≤ z4 → z4 ≤ 21 → S 18 [[(List.getD r0 0 0)], [(List.getD r0 1 0)]] [r2, [z4]] →
 (((decide (z4 = 0)) = true →
  ∀ z5 : Int, 0 ≤ z5 → z5 ≤ 1 → z5 = fnD 4 [(List.getD r0 0 0), (List.getD r2 0 0)] →
  ∀ z6 : Int, 0 ≤ z6 → z6 ≤ 1 → z6 = fnD 4 [(List.getD r0 1 0), (List.getD r2 1 0)] →
  K [r0] [[(cond (decide ([z5, z6] = [1, 1])) 1 0)]]
 ) ∧ ((decide (z4 = 0)) = false →
  K [r0] [[(cond (false) 1 0)]]
 ))
theorem kEmail : sOf 477315081741 = emailS := by decide +kernel
theorem kMsisdn : sOf 124890778723732 = msisdnS := by decide +kernel
theorem kmk {id : Nat} {zs : List (List Int)} {a b e : Int} (a0 : 0 ≤ a) (a1 : a ≤ HB) (b0 : 0 ≤ b) (b1 : b ≤ HB) (e0 : 0 ≤ e) (e1 : e ≤ 21) (h : SB id zs [[a, b], [e]]) : KBv SB [.mix [.str, .str], .int .i64 0 21] id zs [[a, b], [e]] := ⟨⟨a0, a1, b0, b1, e0, e1, trivial⟩, h⟩
theorem p_make : B_make SB (KBv SB [.mix [.str, .str], .int .i64 0 21] 15) := by
  intro z0 a0 a1 z1 b0 b1 hq z2 c0 c1 h2
  have kk : ∀ a b e : Int, 0 ≤ a → a ≤ HB → 0 ≤ b → b ≤ HB → 0 ≤ e → e ≤ 21 → (sOf a, sOf b, e) = makeF (sOf z0) (sOf z1) → KBv SB [.mix [.str, .str], .int .i64 0 21] 15 [[z0], [z1]] [[a, b], [e]] := fun a b e h1 h2 h3 h4 h5 h6 h => kmk h1 h2 h3 h4 h5 h6 h
  have hq : (sOf z1).length ≤ 4294967280 := hq
  rw [eq_dec h2, kEmail]
  refine ⟨fun hE z3 d0 d1 z4 e0 e1 h => ?_, fun hE z3 d0 d1 h3 => ?_⟩
  · have hm : (sOf z0 == emailS) = true := by simpa using hE
    have h : (sOf z3, z4) = emailF (sOf z1) := h
    have hM : makeF (sOf z0) (sOf z1) = mk1 (sOf z0) (sOf z3, z4) := by unfold makeF; rw [hm, ← h]; rfl
    refine ⟨fun hz => kk 0 0 z4 (Int.le_refl _) HB_pos (Int.le_refl _) HB_pos e0 e1 ?_, fun hz => kk z0 z3 0 a0 a1 d0 d1 (by decide) (by decide) ?_⟩
    · rw [hM]; unfold mk1; rw [show decide (z4 = 0) = false by simpa using hz]; rfl
    · rw [hM]; unfold mk1; rw [show decide (z4 = 0) = true by simpa using hz]; rfl
  · have hm : (sOf z0 == emailS) = false := by
      have : ¬ sOf z0 = emailS := by simpa using hE
      simpa using this
    rw [eq_dec h3, kMsisdn]
    refine ⟨fun hS => ⟨hq, fun z4 e0 e1 z5 f0 f1 h => ?_⟩, fun hS => kk 0 0 1 (Int.le_refl _) HB_pos (Int.le_refl _) HB_pos (by decide) (by decide) ?_⟩
    · have hs : (sOf z0 == msisdnS) = true := by simpa using hS
      have h : (sOf z4, z5) = phoneF (sOf 0) (sOf z1) := h
      have hM : makeF (sOf z0) (sOf z1) = mk1 (sOf z0) (sOf z4, z5) := by unfold makeF; rw [hm, hs, h]; rfl
      refine ⟨fun hz => kk 0 0 z5 (Int.le_refl _) HB_pos (Int.le_refl _) HB_pos f0 f1 ?_, fun hz => kk z0 z4 0 a0 a1 e0 e1 (by decide) (by decide) ?_⟩
      · rw [hM]; unfold mk1; rw [show decide (z5 = 0) = false by simpa using hz]; rfl
      · rw [hM]; unfold mk1; rw [show decide (z5 = 0) = true by simpa using hz]; rfl
    · have hs : (sOf z0 == msisdnS) = false := by
        have : ¬ sOf z0 = msisdnS := by simpa using hS
        simpa using this
      unfold makeF; rw [hm, hs]; rfl
theorem p_rmake : B_rmake SB (KBv SB [.mix [.str, .str], .int .i64 0 21] 18) := by
  intro z0 a0 a1 z1 b0 b1 hq z2 c0 c1 h2
  have kk : ∀ a b e : Int, 0 ≤ a → a ≤ HB → 0 ≤ b → b ≤ HB → 0 ≤ e → e ≤ 21 → (sOf a, sOf b, e) = makeF (sOf z0) (sOf z1) → KBv SB [.mix [.str, .str], .int .i64 0 21] 18 [[z0], [z1]] [[a, b], [e]] := fun a b e h1 h2 h3 h4 h5 h6 h => kmk h1 h2 h3 h4 h5 h6 h
  have hq : (sOf z1).length ≤ 4294967280 := hq
  rw [eq_dec h2, kEmail]
  refine ⟨fun hE z3 d0 d1 z4 e0 e1 h => ?_, fun hE z3 d0 d1 h3 => ?_⟩
  · have hm : (sOf z0 == emailS) = true := by simpa using hE
    have h : (sOf z3, z4) = emailF (sOf z1) := h
    have hM : makeF (sOf z0) (sOf z1) = mk1 (sOf z0) (sOf z3, z4) := by unfold makeF; rw [hm, ← h]; rfl
    refine ⟨fun hz => kk 0 0 z4 (Int.le_refl _) HB_pos (Int.le_refl _) HB_pos e0 e1 ?_, fun hz => kk z0 z3 0 a0 a1 d0 d1 (by decide) (by decide) ?_⟩
    · rw [hM]; unfold mk1; rw [show decide (z4 = 0) = false by simpa using hz]; rfl
    · rw [hM]; unfold mk1; rw [show decide (z4 = 0) = true by simpa using hz]; rfl
  · have hm : (sOf z0 == emailS) = false := by
      have : ¬ sOf z0 = emailS := by simpa using hE
      simpa using this
    rw [eq_dec h3, kMsisdn]
    refine ⟨fun hS => ⟨hq, fun z4 e0 e1 z5 f0 f1 h => ?_⟩, fun hS => kk 0 0 1 (Int.le_refl _) HB_pos (Int.le_refl _) HB_pos (by decide) (by decide) ?_⟩
    · have hs : (sOf z0 == msisdnS) = true := by simpa using hS
      have h : (sOf z4, z5) = phoneF (sOf 0) (sOf z1) := h
      have hM : makeF (sOf z0) (sOf z1) = mk1 (sOf z0) (sOf z4, z5) := by unfold makeF; rw [hm, hs, h]; rfl
      refine ⟨fun hz => kk 0 0 z5 (Int.le_refl _) HB_pos (Int.le_refl _) HB_pos f0 f1 ?_, fun hz => kk z0 z4 0 a0 a1 e0 e1 (by decide) (by decide) ?_⟩
      · rw [hM]; unfold mk1; rw [show decide (z5 = 0) = false by simpa using hz]; rfl
      · rw [hM]; unfold mk1; rw [show decide (z5 = 0) = true by simpa using hz]; rfl
    · have hs : (sOf z0 == msisdnS) = false := by
        have : ¬ sOf z0 = msisdnS := by simpa using hS
        simpa using this
      unfold makeF; rw [hm, hs]; rfl
theorem p_right : B_right SB (KBv SB [.bool] 16) := by
  intro r0 h0 hq
  obtain ⟨a, b, rfl, _⟩ := two_of h0
  have kk : ∀ x : Bool, rightF (sOf a) (sOf b) = x → KBv SB [.bool] 16 [[a, b]] [[b01 x]] := fun x h => kb (by show b01 x = b01 (rightF (sOf a) (sOf b)); rw [h])
  refine ⟨hq, fun r2 h2 z4 c0 c1 hM => ?_⟩
  obtain ⟨c, d, rfl, _⟩ := two_of h2
  have hM : (sOf c, sOf d, z4) = makeF (sOf a) (sOf b) := hM
  have hR : rightF (sOf a) (sOf b) = (decide (z4 = 0) && (sOf a == sOf c) && (sOf b == sOf d)) := by unfold rightF; rw [← hM]
  refine ⟨fun hz z5 d0 d1 h5 z6 e0 e1 h6 => ?_, fun hz => kk false (by rw [hR, hz]; rfl)⟩
  have h5 : z5 = fnD 4 [a, c] := h5
  have h6 : z6 = fnD 4 [b, d] := h6
  have e5 := eq_dec h5
  have e6 := eq_dec h6
  refine kk _ ?_
  rw [hR, hz, Bool.true_and, Bool.eq_iff_iff]
  have e5' : z5 = 1 ↔ sOf a = sOf c := by rw [← decide_eq_true_eq (p := z5 = 1), e5, decide_eq_true_eq]
  have e6' : z6 = 1 ↔ sOf b = sOf d := by rw [← decide_eq_true_eq (p := z6 = 1), e6, decide_eq_true_eq]
  simp only [Bool.and_eq_true, beq_iff_eq, decide_eq_true_eq, List.cons.injEq, and_true, e5', e6']
theorem p_rright : B_rright SB (KBv SB [.bool] 19) := by
  intro r0 h0 hq
  obtain ⟨a, b, rfl, _⟩ := two_of h0
  have kk : ∀ x : Bool, rightF (sOf a) (sOf b) = x → KBv SB [.bool] 19 [[a, b]] [[b01 x]] := fun x h => kb (by show b01 x = b01 (rightF (sOf a) (sOf b)); rw [h])
  refine ⟨hq, fun r2 h2 z4 c0 c1 hM => ?_⟩
  obtain ⟨c, d, rfl, _⟩ := two_of h2
  have hM : (sOf c, sOf d, z4) = makeF (sOf a) (sOf b) := hM
  have hR : rightF (sOf a) (sOf b) = (decide (z4 = 0) && (sOf a == sOf c) && (sOf b == sOf d)) := by unfold rightF; rw [← hM]
  refine ⟨fun hz z5 d0 d1 h5 z6 e0 e1 h6 => ?_, fun hz => kk false (by rw [hR, hz]; rfl)⟩
  have h5 : z5 = fnD 4 [a, c] := h5
  have h6 : z6 = fnD 4 [b, d] := h6
  have e5 := eq_dec h5
  have e6 := eq_dec h6
  refine kk _ ?_
  rw [hR, hz, Bool.true_and, Bool.eq_iff_iff]
  have e5' : z5 = 1 ↔ sOf a = sOf c := by rw [← decide_eq_true_eq (p := z5 = 1), e5, decide_eq_true_eq]
  have e6' : z6 = 1 ↔ sOf b = sOf d := by rw [← decide_eq_true_eq (p := z6 = 1), e6, decide_eq_true_eq]
  simp only [Bool.and_eq_true, beq_iff_eq, decide_eq_true_eq, List.cons.injEq, and_true, e5', e6']
def B_lorder (S : Nat → List (List Int) → List (List Int) → Prop) (K : List (List Int) → List (List Int) → Prop) : Prop :=
 ∀ r0 : List Int, inB (repB 0 HB 2) r0 → ∀ r2 : List Int, inB (repB 0 HB 2) r2 → ∀ r4 : List Int, inB (repB 0 HB 2) r4 → 
 ∀ z6 : Int, 0 ≤ z6 → z6 ≤ 1 → S 9 [] [[z6]] →
 ((((!(decide (z6 = 1)))) = true →
  K [r0, r2, r4] [[(cond (false) 1 0)]]
 ) ∧ (((!(decide (z6 = 1)))) = false →
  ∀ z7 : Int, 0 ≤ z7 → z7 ≤ 9223372036854775807 → z7 = fnD 0 [(List.getD r0 1 0)] →
  (((decide (2000 < z7)) = true →
   K [r0, r2, r4] [[(cond (true) 1 0)]]
  ) ∧ ((decide (2000 < z7)) = false →
   ∀ z8 : Int, 0 ≤ z8 → z8 ≤ 9223372036854775807 → z8 = fnD 0 [(List.getD r2 1 0)] →
   (((decide (2000 < z8)) = true →
    K [r0, r2, r4] [[(cond (true) 1 0)]]
   ) ∧ ((decide (2000 < z8)) = false →
    ∀ z9 : Int, 0 ≤ z9 → z9 ≤ 9223372036854775807 → z9 = fnD 0 [(List.getD r4 1 0)] →
    (((decide (2000 < z9)) = true →
     K [r0, r2, r4] [[(cond (true) 1 0)]]
    ) ∧ ((decide (2000 < z9)) = false →
     ∀ z10 : Int, 0 ≤ z10 → z10 ≤ 1 → S 14 [r0, r2] [[z10]] →
     (((decide (z10 = 1)) = true →
      ∀ z11 : Int, 0 ≤ z11 → z11 ≤ 1 → S 14 [r2, r0] [[z11]] →
      (((decide (z11 = 1)) = true →
       ∀ z12 : Int, 0 ≤ z12 → z12 ≤ 1 → z12 = fnD 4 [(List.getD r0 0 0), (List.getD r2 0 0)] →
       ∀ z13 : Int, 0 ≤ z13 → z13 ≤ 1 → z13 = fnD 4 [(List.getD r0 1 0), (List.getD r2 1 0)] →
       (((decide ([z12, z13] = [1, 1])) = true →
        K [r0, r2, r4] [[(cond (false) 1 0)]]
       ) ∧ ((decide ([z12, z13] = [1, 1])) = false →
        K [r0, r2, r4] [[(cond (false) 1 0)]]
       ))
      ) ∧ ((decide (z11 = 1)) = false →
       ∀ z12 : Int, 0 ≤ z12 → z12 ≤ 1 → z12 = fnD 4 [(List.getD r0 0 0), (List.getD r2 0 0)] →
       ∀ z13 : Int, 0 ≤ z13 → z13 ≤ 1 → z13 = fnD 4 [(List.getD r0 1 0), (List.getD r2 1 0)] →
       (((decide ([z12, z13] = [1, 1])) = true →
        K [r0, r2, r4] [[(cond (false) 1 0)]]
       ) ∧ ((decide ([z12, z13] = [1, 1])) = false →
        ∀ z14 : Int, 0 ≤ z14 → z14 ≤ 1 → S 14 [r0, r2] [[z14]] →
        ((((!(decide (z14 = 1)))) = true →
         K [r0, r2, r4] [[(cond (true) 1 0)]]
        ) ∧ (((!(decide (z14 = 1)))) = false →
         ∀ z15 : Int, 0 ≤ z15 → z15 ≤ 1 → S 14 [r2, r4] [[z15]] →
         ((((!(decide (z15 = 1)))) = true →
          K [r0, r2, r4] [[(cond (true) 1 0)]]
         ) ∧ (((!(decide (z15 = 1)))) = false →
          ∀ z16 : Int, 0 ≤ z16 → z16 ≤ 1 → S 14 [r0, r4] [[z16]] →
          K [r0, r2, r4] [[(cond (decide (z16 = 1)) 1 0)]]
         ))
        ))
       ))
      ))
     ) ∧ ((decide (z10 = 1)) = false →
      ∀ z11 : Int, 0 ≤ z11 → z11 ≤ 1 → S 14 [r2, r0] [[z11]] →
      (((decide (z11 = 1)) = true →
       ∀ z12 : Int, 0 ≤ z12 → z12 ≤ 1 → z12 = fnD 4 [(List.getD r0 0 0), (List.getD r2 0 0)] →
       ∀ z13 : Int, 0 ≤ z13 → z13 ≤ 1 → z13 = fnD 4 [(List.getD r0 1 0), (List.getD r2 1 0)] →
       (((decide ([z12, z13] = [1, 1])) = true →
        K [r0, r2, r4] [[(cond (false) 1 0)]]
       ) ∧ ((decide ([z12, z13] = [1, 1])) = false →
        ∀ z14 : Int, 0 ≤ z14 → z14 ≤ 1 → S 14 [r0, r2] [[z14]] →
        ((((!(decide (z14 = 1)))) = true →
         K [r0, r2, r4] [[(cond (true) 1 0)]]
        ) ∧ (((!(decide (z14 = 1)))) = false →
         ∀ z15 : Int, 0 ≤ z15 → z15 ≤ 1 → S 14 [r2, r4] [[z15]] →
         ((((!(decide (z15 = 1)))) = true →
          K [r0, r2, r4] [[(cond (true) 1 0)]]
         ) ∧ (((!(decide (z15 = 1)))) = false →
          ∀ z16 : Int, 0 ≤ z16 → z16 ≤ 1 → S 14 [r0, r4] [[z16]] →
          K [r0, r2, r4] [[(cond (decide (z16 = 1)) 1 0)]]
         ))
        ))
       ))
      ) ∧ ((decide (z11 = 1)) = false →
       ∀ z12 : Int, 0 ≤ z12 → z12 ≤ 1 → z12 = fnD 4 [(List.getD r0 0 0), (List.getD r2 0 0)] →
       ∀ z13 : Int, 0 ≤ z13 → z13 ≤ 1 → z13 = fnD 4 [(List.getD r0 1 0), (List.getD r2 1 0)] →
       (((decide ([z12, z13] = [1, 1])) = true →
        ∀ z14 : Int, 0 ≤ z14 → z14 ≤ 1 → S 14 [r0, r2] [[z14]] →
        ((((!(decide (z14 = 1)))) = true →
         K [r0, r2, r4] [[(cond (true) 1 0)]]
        ) ∧ (((!(decide (z14 = 1)))) = false →
         ∀ z15 : Int, 0 ≤ z15 → z15 ≤ 1 → S 14 [r2, r4] [[z15]] →
         ((((!(decide (z15 = 1)))) = true →
          K [r0, r2, r4] [[(cond (true) 1 0)]]
         ) ∧ (((!(decide (z15 = 1)))) = false →
          ∀ z16 : Int, 0 ≤ z16 → z16 ≤ 1 → S 14 [r0, r4] [[z16]] →
          K [r0, r2, r4] [[(cond (decide (z16 = 1)) 1 0)]]
         ))
        ))
       ) ∧ ((decide ([z12, z13] = [1, 1])) = false →
        K [r0, r2, r4] [[(cond (false) 1 0)]]
       ))
      ))
     ))
    ))
   ))
  ))
 ))
theorem less_cons (a b : UInt8) (x y : Tx) : Op.bytesLess (a :: x) (b :: y) = true ↔ a.toNat < b.toNat ∨ (a = b ∧ Op.bytesLess x y = true) := by
  simp only [Op.bytesLess, Bool.or_eq_true, Bool.and_eq_true, beq_iff_eq, decide_eq_true_eq, UInt8.lt_iff_toNat_lt]
theorem less_nil (x : Tx) : Op.bytesLess x [] = false := by cases x <;> rfl
theorem less_asym : ∀ x y : Tx, Op.bytesLess x y = true → Op.bytesLess y x = true → False
  | x, [], h, _ => by rw [less_nil] at h; cases h
  | [], _ :: _, _, h => by cases h
  | a :: x, b :: y, h, h' => by
    rw [less_cons] at h h'
    rcases h with h | ⟨rfl, h⟩
    · rcases h' with h' | ⟨e, _⟩
      · omega
      · rw [e] at h; omega
    · rcases h' with h' | ⟨_, h'⟩
      · omega
      · exact less_asym x y h h'
theorem less_tot : ∀ x y : Tx, Op.bytesLess x y = true ∨ Op.bytesLess y x = true ∨ x = y
  | [], [] => .inr (.inr rfl)
  | [], _ :: _ => .inl rfl
  | _ :: _, [] => .inr (.inl rfl)
  | a :: x, b :: y => by
    rw [less_cons, less_cons]
    rcases Nat.lt_trichotomy a.toNat b.toNat with h | h | h
    · exact .inl (.inl h)
    · have e : a = b := UInt8.toNat_inj.1 h
      subst e
      rcases less_tot x y with h | h | h
      · exact .inl (.inr ⟨rfl, h⟩)
      · exact .inr (.inl (.inr ⟨rfl, h⟩))
      · exact .inr (.inr (by rw [h]))
    · exact .inr (.inl (.inl h))
theorem less_trans : ∀ x y z : Tx, Op.bytesLess x y = true → Op.bytesLess y z = true → Op.bytesLess x z = true
  | _, [], _, h, _ => by rw [less_nil] at h; cases h
  | _, _ :: _, [], _, h => by rw [less_nil] at h; cases h
  | [], _ :: _, _ :: _, _, _ => rfl
  | a :: x, b :: y, c :: z, h, h' => by
    rw [less_cons] at h h' ⊢
    rcases h with h | ⟨rfl, h⟩
    · rcases h' with h' | ⟨rfl, _⟩
      · exact .inl (by omega)
      · exact .inl h
    · rcases h' with h' | ⟨rfl, h'⟩
      · exact .inl h'
      · exact .inr ⟨rfl, less_trans x y z h h'⟩
theorem lessF_iff (a b c d : Tx) : lessF a b c d = true ↔ Op.bytesLess a c = true ∨ (a = c ∧ Op.bytesLess b d = true) := by
  unfold lessF
  by_cases h : a = c
  · subst h; simp [less_irr]
  · rw [show (a == c) = false by simpa using h]; simp [h]
theorem lessF_asym {a b c d : Tx} (h : lessF a b c d = true) (h' : lessF c d a b = true) : False := by
  rw [lessF_iff] at h h'
  rcases h with h | ⟨rfl, h⟩
  · rcases h' with h' | ⟨rfl, _⟩
    · exact less_asym _ _ h h'
    · rw [less_irr] at h; cases h
  · rcases h' with h' | ⟨_, h'⟩
    · rw [less_irr] at h'; cases h'
    · exact less_asym _ _ h h'
theorem lessF_tot (a b c d : Tx) : lessF a b c d = true ∨ lessF c d a b = true ∨ (a = c ∧ b = d) := by
  rw [lessF_iff, lessF_iff]
  rcases less_tot a c with h | h | rfl
  · exact .inl (.inl h)
  · exact .inr (.inl (.inl h))
  · rcases less_tot b d with h | h | rfl
    · exact .inl (.inr ⟨rfl, h⟩)
    · exact .inr (.inl (.inr ⟨rfl, h⟩))
    · exact .inr (.inr ⟨rfl, rfl⟩)
theorem lessF_trans {a b c d e f : Tx} (h : lessF a b c d = true) (h' : lessF c d e f = true) : lessF a b e f = true := by
  rw [lessF_iff] at h h' ⊢
  rcases h with h | ⟨rfl, h⟩
  · rcases h' with h' | ⟨rfl, _⟩
    · exact .inl (less_trans _ _ _ h h')
    · exact .inl h
  · rcases h' with h' | ⟨rfl, h'⟩
    · exact .inl h'
    · exact .inr ⟨rfl, less_trans _ _ _ h h'⟩
theorem lessF_irr (a b : Tx) : lessF a b a b = false := by
  cases h : lessF a b a b with
  | false => rfl
  | true => exact (lessF_asym h h).elim
theorem pair_dec {a b c d z w : Int} (h : z = fnD 4 [a, c]) (h' : w = fnD 4 [b, d]) : decide ([z, w] = [1, 1]) = decide (sOf a = sOf c ∧ sOf b = sOf d) := by
  have e := eq_dec h
  have e' := eq_dec h'
  have i : z = 1 ↔ sOf a = sOf c := by rw [← decide_eq_true_eq (p := z = 1), e, decide_eq_true_eq]
  have i' : w = 1 ↔ sOf b = sOf d := by rw [← decide_eq_true_eq (p := w = 1), e', decide_eq_true_eq]
  rw [Bool.eq_iff_iff, decide_eq_true_eq, decide_eq_true_eq]
  simp only [List.cons.injEq, and_true, i, i']
theorem p_lorder : B_lorder SB (KBv SB [.bool] 6) := by
  intro r0 h0 r2 h2 r4 h4 z6 a0 a1 hA
  obtain ⟨a, b, rfl, _⟩ := two_of h0
  obtain ⟨c, d, rfl, _⟩ := two_of h2
  obtain ⟨e, f, rfl, _⟩ := two_of h4
  have hA : z6 = 1 := hA
  subst hA
  have ok : KBv SB [.bool] 6 [[a, b], [c, d], [e, f]] [[1]] := kb1 rfl
  refine ⟨(fun h => by cases h), fun _ z7 b0 b1 h7 => ⟨fun _ => ok, fun _ z8 c0 c1 h8 => ⟨fun _ => ok, fun _ z9 d0 d1 h9 => ⟨fun _ => ok, fun _ z10 e0 e1 h10 => ?_⟩⟩⟩⟩
  have h10 : z10 = b01 (lessF (sOf a) (sOf b) (sOf c) (sOf d)) := h10
  have tail : ∀ z14 : Int, 0 ≤ z14 → z14 ≤ 1 → SB 14 [[a, b], [c, d]] [[z14]] →
        ((((!(decide (z14 = 1)))) = true →
         KBv SB [.bool] 6 [[a, b], [c, d], [e, f]] [[1]]
        ) ∧ (((!(decide (z14 = 1)))) = false →
         ∀ z15 : Int, 0 ≤ z15 → z15 ≤ 1 → SB 14 [[c, d], [e, f]] [[z15]] →
         ((((!(decide (z15 = 1)))) = true →
          KBv SB [.bool] 6 [[a, b], [c, d], [e, f]] [[1]]
         ) ∧ (((!(decide (z15 = 1)))) = false →
          ∀ z16 : Int, 0 ≤ z16 → z16 ≤ 1 → SB 14 [[a, b], [e, f]] [[z16]] →
          KBv SB [.bool] 6 [[a, b], [c, d], [e, f]] [[(cond (decide (z16 = 1)) 1 0)]]
         ))
        )) := fun z14 f0 f1 h14 => ⟨fun _ => ok, fun hx z15 g0 g1 h15 => ⟨fun _ => ok, fun hy z16 i0 i1 h16 => by
      have h14 : z14 = b01 (lessF (sOf a) (sOf b) (sOf c) (sOf d)) := h14
      have h15 : z15 = b01 (lessF (sOf c) (sOf d) (sOf e) (sOf f)) := h15
      have h16 : z16 = b01 (lessF (sOf a) (sOf b) (sOf e) (sOf f)) := h16
      rw [b01_dec h14, Bool.not_eq_false'] at hx
      rw [b01_dec h15, Bool.not_eq_false'] at hy
      rw [b01_dec h16, lessF_trans hx hy]
      exact ok⟩⟩
  rw [b01_dec h10]
  refine ⟨fun hl z11 f0 f1 h11 => ?_, fun hl z11 f0 f1 h11 => ?_⟩
  · have h11 : z11 = b01 (lessF (sOf c) (sOf d) (sOf a) (sOf b)) := h11
    rw [b01_dec h11]
    refine ⟨fun hm => (lessF_asym hl hm).elim, fun hm z12 g0 g1 h12 z13 i0 i1 h13 => ?_⟩
    have h12 : z12 = fnD 4 [a, c] := h12
    have h13 : z13 = fnD 4 [b, d] := h13
    rw [pair_dec h12 h13]
    refine ⟨fun he => ?_, fun _ => tail⟩
    have he := of_decide_eq_true he
    rw [he.1, he.2, lessF_irr] at hl
    cases hl
  · have h11 : z11 = b01 (lessF (sOf c) (sOf d) (sOf a) (sOf b)) := h11
    rw [b01_dec h11]
    refine ⟨fun hm z12 g0 g1 h12 z13 i0 i1 h13 => ?_, fun hm z12 g0 g1 h12 z13 i0 i1 h13 => ?_⟩
    · have h12 : z12 = fnD 4 [a, c] := h12
      have h13 : z13 = fnD 4 [b, d] := h13
      rw [pair_dec h12 h13]
      refine ⟨fun he => ?_, fun _ => tail⟩
      have he := of_decide_eq_true he
      rw [he.1, he.2, lessF_irr] at hm
      cases hm
    · have h12 : z12 = fnD 4 [a, c] := h12
      have h13 : z13 = fnD 4 [b, d] := h13
      rw [pair_dec h12 h13]
      refine ⟨fun _ => tail, fun he => ?_⟩
      have he := of_decide_eq_false he
      rcases lessF_tot (sOf a) (sOf b) (sOf c) (sOf d) with h | h | h
      · rw [h] at hl; cases hl
      · rw [h] at hm; cases hm
      · exact absurd h he
end Go.Ad
