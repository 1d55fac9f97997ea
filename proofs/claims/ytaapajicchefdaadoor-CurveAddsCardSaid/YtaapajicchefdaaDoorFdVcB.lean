/- FdVcB: a part of the proof of statements of this seat. -/
import Derived.Test.YtaapajicchefdaaDoorFdBase
set_option linter.unusedVariables false
set_option linter.unusedSimpArgs false
set_option maxRecDepth 20000
namespace Go.Fd
open Go.Rx
def B_rtake (S : Nat → List (List Int) → List (List Int) → Prop) (K : List (List Int) → List (List Int) → Prop) : Prop :=
 ∀ r0 : List Int, inB (repB 0 18446744073709551615 4) r0 → ∀ r4 : List Int, inB (repB 0 18446744073709551615 4) r4 → 
 ∃ (I8 : List (List Int) → Prop) (μ8 : List (List Int) → Nat), I8 [[255], [1, 0, 0, 0]] ∧ (∀ z9 : Int, (-1) ≤ z9 → z9 ≤ 255 → ∀ r10 : List Int, inB (repB 0 18446744073709551615 4) r10 → I8 [[z9], r10] →
  (((decide (0 ≤ z9)) = true →
   ∀ r14 : List Int, inB (repB 0 18446744073709551615 4) r14 → S 36 [r10, r10] [r14] →
   ∀ z18 : Int, 0 ≤ z18 → z18 ≤ 3 → 0 ≤ z9 - 64 * z18 → z9 - 64 * z18 < 64 →
   ∀ z19 : Int, 0 ≤ z19 → z19 ≤ 18446744073709551615 → z19 = List.getD r4 (z18).toNat 0 →
   ∀ z20 : Int, 0 ≤ z20 → z20 ≤ 3 → 0 ≤ z9 - 64 * z20 → z9 - 64 * z20 < 64 →
   ∀ z21 : Int, 0 ≤ z21 → z21 ≤ 18446744073709551615 → z21 = z19 / 2 ^ ((z9 + ((-64) * z20))).toNat →
   ∀ z22 : Int, 0 ≤ z22 → z22 ≤ 9223372036854775807 → 0 ≤ z21 - 2 * z22 → z21 - 2 * z22 < 2 →
   (((decide ((z21 + ((-2) * z22)) = 1)) = true →
    ∀ r23 : List Int, inB (repB 0 18446744073709551615 4) r23 → S 36 [r14, r0] [r23] →
    (I8 [[(z9 + (-1))], r23] ∧ μ8 [[(z9 + (-1))], r23] < μ8 [[z9], r10])
   ) ∧ ((decide ((z21 + ((-2) * z22)) = 1)) = false →
    (I8 [[(z9 + (-1))], r14] ∧ μ8 [[(z9 + (-1))], r14] < μ8 [[z9], r10])
   ))
  ) ∧ ((decide (0 ≤ z9)) = false →
   K [r0, r4] [r10]
  ))
 )
theorem p_rtake (G) : B_rtake (SG G) (KB k_rtake.res 44) := by
  unfold B_rtake
  intro r0 i0 r4 i4
  refine ⟨fun l => match l with | [[i], r] => nw r = pw (nw r0) ((nw r4).toNat / 2 ^ (i + 1).toNat) | _ => False, fun l => match l with | [[i], _] => (i + 1).toNat | _ => 0, ?_, ?_⟩
  · show nw [1, 0, 0, 0] = pw (nw r0) ((nw r4).toNat / 2 ^ (255 + 1 : Int).toNat)
    rw [top_zero i4, pw_zero]
    decide
  · intro z9 a9 b9 r10 i10 hI
    have hI : nw r10 = pw (nw r0) ((nw r4).toNat / 2 ^ (z9 + 1).toNat) := hI
    refine ⟨fun h0 => ?_, fun h0 => ?_⟩
    · skip
      simp only [Bool.not_eq_true', Bool.not_eq_false', Bool.not_true, Bool.not_false, decide_eq_true_eq, decide_eq_false_iff_not] at h0
      intro r14 i14 s0 z18 a18 b18 c18 d18 z19 a19 b19 e19 z20 a20 b20 c20 d20 z21 a21 b21 e21 z22 a22 b22 c22 d22
      have s0 : nw r14 = nw r10 * nw r10 % 57896044618658097711785492504343953926634992332820282019728792003956564819949 := s0.1
      refine ⟨fun h1 => ?_, fun h1 => ?_⟩
      · skip
        simp only [Bool.not_eq_true', Bool.not_eq_false', Bool.not_true, Bool.not_false, decide_eq_true_eq, decide_eq_false_iff_not] at h1
        intro r23 i23 s1
        have s1 : nw r23 = nw r14 * nw r0 % 57896044618658097711785492504343953926634992332820282019728792003956564819949 := s1.1
        obtain ⟨i, rfl⟩ := Int.eq_ofNat_of_zero_le h0
        have hb := bitw i4 b9 c18 d18 e19 c20 d20 e21 c22 d22
        have ei : ((i : Int) + 1).toNat = i + 1 := by omega
        have ei2 : ((i : Int) + (-1) + 1).toNat = i := by omega
        rw [ei] at hI
        refine ⟨?_, ?_⟩
        · show nw r23 = pw (nw r0) ((nw r4).toNat / 2 ^ ((i : Int) + (-1) + 1).toNat)
          rw [ei2, pw_bit1 (by omega), s1, s0, hI]
        · show ((i : Int) + (-1) + 1).toNat < ((i : Int) + 1).toNat
          omega
      · skip
        simp only [Bool.not_eq_true', Bool.not_eq_false', Bool.not_true, Bool.not_false, decide_eq_true_eq, decide_eq_false_iff_not] at h1
        obtain ⟨i, rfl⟩ := Int.eq_ofNat_of_zero_le h0
        have hb := bitw i4 b9 c18 d18 e19 c20 d20 e21 c22 d22
        have ei : ((i : Int) + 1).toNat = i + 1 := by omega
        have ei2 : ((i : Int) + (-1) + 1).toNat = i := by omega
        rw [ei] at hI
        refine ⟨?_, ?_⟩
        · show nw r14 = pw (nw r0) ((nw r4).toNat / 2 ^ ((i : Int) + (-1) + 1).toNat)
          rw [ei2, pw_bit0 (by omega), s0, hI]
        · show ((i : Int) + (-1) + 1).toNat < ((i : Int) + 1).toNat
          omega
    · skip
      simp only [Bool.not_eq_true', Bool.not_eq_false', Bool.not_true, Bool.not_false, decide_eq_true_eq, decide_eq_false_iff_not] at h0
      refine ⟨?_, ?_⟩
      · exact app_nil i10
      · show nw r10 = pw (nw r0) (nw r4).toNat
        have ei : (z9 + 1).toNat = 0 := by omega
        rw [ei] at hI
        simpa using hI

def B_rinvert (S : Nat → List (List Int) → List (List Int) → Prop) (K : List (List Int) → List (List Int) → Prop) : Prop :=
 ∀ r0 : List Int, inB (repB 0 18446744073709551615 4) r0 → 
 ∀ r4 : List Int, inB (repB 0 18446744073709551615 4) r4 → S 28 [] [r4] →
 ∀ r8 : List Int, inB (repB 0 18446744073709551615 4) r8 → ∀ z12 : Int, 0 ≤ z12 → z12 ≤ 1 → S 55 [r4, [2, 0, 0, 0]] [r8, [z12]] →
 ∀ r13 : List Int, inB (repB 0 18446744073709551615 4) r13 → S 44 [r0, r8] [r13] →
 K [r0] [r13]
theorem p_rinvert (G) : B_rinvert (SG G) (KB k_rinvert.res 45) := by
  unfold B_rinvert
  intro r0 i0 r4 i4 s0 r8 i8 z12 a12 b12 s1 r13 i13 s2
  have s0 : nw r4 = 57896044618658097711785492504343953926634992332820282019728792003956564819949 := s0.1
  have s1 : nw r8 = nw r4 - nw [2, 0, 0, 0] + 115792089237316195423570985008687907853269984665640564039457584007913129639936 * z12 := s1.1
  have s2 : nw r13 = pw (nw r0) (nw r8).toNat := s2.1
  refine ⟨?_, ?_⟩
  · exact app_nil i13
  · show nw r13 = pw (nw r0) eInv
    have n4 := nw_b i4
    have n8 := nw_b i8
    rw [show nw [2, 0, 0, 0] = 2 by decide] at s1
    have e : nw r8 = 57896044618658097711785492504343953926634992332820282019728792003956564819947 := by omega
    rw [s2, e]
    rfl

def B_rsquare (S : Nat → List (List Int) → List (List Int) → Prop) (K : List (List Int) → List (List Int) → Prop) : Prop :=
 ∀ r0 : List Int, inB (repB 0 18446744073709551615 4) r0 → 
 ∀ r4 : List Int, inB (repB 0 18446744073709551615 4) r4 → S 44 [r0, [18446744073709551614, 18446744073709551615, 18446744073709551615, 1152921504606846975]] [r4] →
 ∀ r8 : List Int, inB (repB 0 18446744073709551615 4) r8 → S 36 [r4, r4] [r8] →
 ((((!(decide (r8 = r0)))) = true →
  ∀ r12 : List Int, inB (repB 0 18446744073709551615 4) r12 → S 44 [[2, 0, 0, 0], [18446744073709551611, 18446744073709551615, 18446744073709551615, 2305843009213693951]] [r12] →
  ∀ r16 : List Int, inB (repB 0 18446744073709551615 4) r16 → S 36 [r4, r12] [r16] →
  ∀ r20 : List Int, inB (repB 0 18446744073709551615 4) r20 → S 36 [r16, r16] [r20] →
  ((((!(decide (r20 = r0)))) = true →
   K [r0] [[0, 0, 0, 0], [(cond (false) 1 0)]]
  ) ∧ (((!(decide (r20 = r0)))) = false →
   ∀ z24 : Int, 0 ≤ z24 → z24 ≤ 9223372036854775807 → 0 ≤ (List.getD r16 0 0) - 2 * z24 → (List.getD r16 0 0) - 2 * z24 < 2 →
   (((decide (((List.getD r16 0 0) + ((-2) * z24)) = 1)) = true →
    ∀ r25 : List Int, inB (repB 0 18446744073709551615 4) r25 → S 41 [[0, 0, 0, 0], r16] [r25] →
    K [r0] [r25, [(cond (true) 1 0)]]
   ) ∧ ((decide (((List.getD r16 0 0) + ((-2) * z24)) = 1)) = false →
    K [r0] [r16, [(cond (true) 1 0)]]
   ))
  ))
 ) ∧ (((!(decide (r8 = r0)))) = false →
  ∀ r12 : List Int, inB (repB 0 18446744073709551615 4) r12 → S 36 [r4, r4] [r12] →
  ((((!(decide (r12 = r0)))) = true →
   K [r0] [[0, 0, 0, 0], [(cond (false) 1 0)]]
  ) ∧ (((!(decide (r12 = r0)))) = false →
   ∀ z16 : Int, 0 ≤ z16 → z16 ≤ 9223372036854775807 → 0 ≤ (List.getD r4 0 0) - 2 * z16 → (List.getD r4 0 0) - 2 * z16 < 2 →
   (((decide (((List.getD r4 0 0) + ((-2) * z16)) = 1)) = true →
    ∀ r17 : List Int, inB (repB 0 18446744073709551615 4) r17 → S 41 [[0, 0, 0, 0], r4] [r17] →
    K [r0] [r17, [(cond (true) 1 0)]]
   ) ∧ ((decide (((List.getD r4 0 0) + ((-2) * z16)) = 1)) = false →
    K [r0] [r4, [(cond (true) 1 0)]]
   ))
  ))
 ))
theorem p_rsquare (G) : B_rsquare (SG G) (KB k_rsquare.res 38) := by
  unfold B_rsquare
  intro r0 i0 r4 i4 s0 r8 i8 s1
  have s0 : nw r4 = pw (nw r0) (nw [18446744073709551614, 18446744073709551615, 18446744073709551615, 1152921504606846975]).toNat := s0.1
  have s1 : nw r8 = nw r4 * nw r4 % 57896044618658097711785492504343953926634992332820282019728792003956564819949 := s1.1
  refine ⟨fun h0 => ?_, fun h0 => ?_⟩
  · skip
    simp only [Bool.not_eq_true', Bool.not_eq_false', Bool.not_true, Bool.not_false, decide_eq_true_eq, decide_eq_false_iff_not] at h0
    intro r12 i12 s2 r16 i16 s3 r20 i20 s4
    have s2 : nw r12 = pw (nw [2, 0, 0, 0]) (nw [18446744073709551611, 18446744073709551615, 18446744073709551615, 2305843009213693951]).toNat := s2.1
    have s3 : nw r16 = nw r4 * nw r12 % 57896044618658097711785492504343953926634992332820282019728792003956564819949 := s3.1
    have s4 : nw r20 = nw r16 * nw r16 % 57896044618658097711785492504343953926634992332820282019728792003956564819949 := s4.1
    refine ⟨fun h1 => ?_, fun h1 => ?_⟩
    · skip
      simp only [Bool.not_eq_true', Bool.not_eq_false', Bool.not_true, Bool.not_false, decide_eq_true_eq, decide_eq_false_iff_not] at h1
      refine ⟨?_, ?_⟩
      · simp [k_rsquare, bdsL, D.bds, n4, repB, inB]
      · show (nw [0, 0, 0, 0], (cond (false) 1 0)) = sqF (nw r0)
        rw [eRoot_eq] at s0
        have qh0 : ¬ nw r8 = nw r0 := fun e => h0 (nw_inj i8 i0 e)
        have qh1 : ¬ nw r20 = nw r0 := fun e => h1 (nw_inj i20 i0 e)
        rw [s1] at qh0
        unfold sqF
        rw [← s0]
        simp only
        rw [sqI_eq] at s2
        rw [s2] at s3
        rw [s4] at qh1
        rw [if_neg qh0, ← s3]
        rw [if_neg qh1]
        decide
    · skip
      simp only [Bool.not_eq_true', Bool.not_eq_false', Bool.not_true, Bool.not_false, decide_eq_true_eq, decide_eq_false_iff_not] at h1
      intro z24 a24 b24 c24 d24
      refine ⟨fun h2 => ?_, fun h2 => ?_⟩
      · skip
        simp only [Bool.not_eq_true', Bool.not_eq_false', Bool.not_true, Bool.not_false, decide_eq_true_eq, decide_eq_false_iff_not] at h2
        intro r25 i25 s5
        have s5 : nw r25 = (nw [0, 0, 0, 0] - nw r16 + (if nw [0, 0, 0, 0] < nw r16 then 57896044618658097711785492504343953926634992332820282019728792003956564819949 else 0)) % 115792089237316195423570985008687907853269984665640564039457584007913129639936 := s5.1
        refine ⟨?_, ?_⟩
        · exact inB_app i25 ⟨by decide, by decide, trivial⟩
        · show (nw r25, (cond (true) 1 0)) = sqF (nw r0)
          rw [eRoot_eq] at s0
          have qh0 : ¬ nw r8 = nw r0 := fun e => h0 (nw_inj i8 i0 e)
          have qh1 : nw r20 = nw r0 := by rw [h1]
          rw [s1] at qh0
          unfold sqF
          rw [← s0]
          simp only
          rw [sqI_eq] at s2
          rw [s2] at s3
          rw [s4] at qh1
          rw [if_neg qh0, ← s3]
          rw [if_pos qh1]
          have hp := nw_par r16
          have hr : 0 ≤ nw r16 ∧ nw r16 < 57896044618658097711785492504343953926634992332820282019728792003956564819949 := by rw [s3]; exact ⟨Int.emod_nonneg _ (by decide), Int.emod_lt_of_pos _ (by decide)⟩
          rw [if_pos (by omega)]
          rw [show nw [0, 0, 0, 0] = 0 by decide] at s5
          rw [s5, if_pos (by omega : 0 < nw r16)]
          simp only [Prod.mk.injEq]
          refine ⟨?_, rfl⟩
          rw [neg_mod (by omega) (by omega)]
          omega
      · skip
        simp only [Bool.not_eq_true', Bool.not_eq_false', Bool.not_true, Bool.not_false, decide_eq_true_eq, decide_eq_false_iff_not] at h2
        refine ⟨?_, ?_⟩
        · exact inB_app i16 ⟨by decide, by decide, trivial⟩
        · show (nw r16, (cond (true) 1 0)) = sqF (nw r0)
          rw [eRoot_eq] at s0
          have qh0 : ¬ nw r8 = nw r0 := fun e => h0 (nw_inj i8 i0 e)
          have qh1 : nw r20 = nw r0 := by rw [h1]
          rw [s1] at qh0
          unfold sqF
          rw [← s0]
          simp only
          rw [sqI_eq] at s2
          rw [s2] at s3
          rw [s4] at qh1
          rw [if_neg qh0, ← s3]
          rw [if_pos qh1]
          have hp := nw_par r16
          have hr : 0 ≤ nw r16 ∧ nw r16 < 57896044618658097711785492504343953926634992332820282019728792003956564819949 := by rw [s3]; exact ⟨Int.emod_nonneg _ (by decide), Int.emod_lt_of_pos _ (by decide)⟩
          rw [if_neg (by omega)]
          rfl
  · skip
    simp only [Bool.not_eq_true', Bool.not_eq_false', Bool.not_true, Bool.not_false, decide_eq_true_eq, decide_eq_false_iff_not] at h0
    intro r12 i12 s2
    have s2 : nw r12 = nw r4 * nw r4 % 57896044618658097711785492504343953926634992332820282019728792003956564819949 := s2.1
    refine ⟨fun h3 => ?_, fun h3 => ?_⟩
    · skip
      simp only [Bool.not_eq_true', Bool.not_eq_false', Bool.not_true, Bool.not_false, decide_eq_true_eq, decide_eq_false_iff_not] at h3
      refine ⟨?_, ?_⟩
      · simp [k_rsquare, bdsL, D.bds, n4, repB, inB]
      · show (nw [0, 0, 0, 0], (cond (false) 1 0)) = sqF (nw r0)
        rw [eRoot_eq] at s0
        have qh0 : nw r8 = nw r0 := by rw [h0]
        have qh3 : ¬ nw r12 = nw r0 := fun e => h3 (nw_inj i12 i0 e)
        rw [s1] at qh0
        unfold sqF
        rw [← s0]
        simp only
        rw [if_pos qh0]
        rw [s2] at qh3
        rw [if_neg qh3]
        decide
    · skip
      simp only [Bool.not_eq_true', Bool.not_eq_false', Bool.not_true, Bool.not_false, decide_eq_true_eq, decide_eq_false_iff_not] at h3
      intro z16 a16 b16 c16 d16
      refine ⟨fun h4 => ?_, fun h4 => ?_⟩
      · skip
        simp only [Bool.not_eq_true', Bool.not_eq_false', Bool.not_true, Bool.not_false, decide_eq_true_eq, decide_eq_false_iff_not] at h4
        intro r17 i17 s3
        have s3 : nw r17 = (nw [0, 0, 0, 0] - nw r4 + (if nw [0, 0, 0, 0] < nw r4 then 57896044618658097711785492504343953926634992332820282019728792003956564819949 else 0)) % 115792089237316195423570985008687907853269984665640564039457584007913129639936 := s3.1
        refine ⟨?_, ?_⟩
        · exact inB_app i17 ⟨by decide, by decide, trivial⟩
        · show (nw r17, (cond (true) 1 0)) = sqF (nw r0)
          rw [eRoot_eq] at s0
          have qh0 : nw r8 = nw r0 := by rw [h0]
          have qh3 : nw r12 = nw r0 := by rw [h3]
          rw [s1] at qh0
          unfold sqF
          rw [← s0]
          simp only
          rw [if_pos qh0]
          rw [s2] at qh3
          rw [if_pos qh3]
          have hp := nw_par r4
          have hr : 0 ≤ nw r4 ∧ nw r4 < 57896044618658097711785492504343953926634992332820282019728792003956564819949 := by rw [s0]; exact pw_range _ _
          rw [if_pos (by omega)]
          rw [show nw [0, 0, 0, 0] = 0 by decide] at s3
          rw [s3, if_pos (by omega : 0 < nw r4)]
          simp only [Prod.mk.injEq]
          refine ⟨?_, rfl⟩
          rw [neg_mod (by omega) (by omega)]
          omega
      · skip
        simp only [Bool.not_eq_true', Bool.not_eq_false', Bool.not_true, Bool.not_false, decide_eq_true_eq, decide_eq_false_iff_not] at h4
        refine ⟨?_, ?_⟩
        · exact inB_app i4 ⟨by decide, by decide, trivial⟩
        · show (nw r4, (cond (true) 1 0)) = sqF (nw r0)
          rw [eRoot_eq] at s0
          have qh0 : nw r8 = nw r0 := by rw [h0]
          have qh3 : nw r12 = nw r0 := by rw [h3]
          rw [s1] at qh0
          unfold sqF
          rw [← s0]
          simp only
          rw [if_pos qh0]
          rw [s2] at qh3
          rw [if_pos qh3]
          have hp := nw_par r4
          have hr : 0 ≤ nw r4 ∧ nw r4 < 57896044618658097711785492504343953926634992332820282019728792003956564819949 := by rw [s0]; exact pw_range _ _
          rw [if_neg (by omega)]
          rfl

end Go.Fd
