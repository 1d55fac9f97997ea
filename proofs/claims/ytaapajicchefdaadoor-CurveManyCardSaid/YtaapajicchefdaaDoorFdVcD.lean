/- FdVcD: a part of the proof of statements of this seat. -/
import Derived.Test.YtaapajicchefdaaDoorFdBase
set_option linter.unusedVariables false
set_option linter.unusedSimpArgs false
set_option maxRecDepth 20000
namespace Go.Fd
open Go.Rx
def B_squared (S : Nat → List (List Int) → List (List Int) → Prop) (K : List (List Int) → List (List Int) → Prop) : Prop :=
 ∀ r0 : List Int, inB (repB 0 4503599627370495 5) r0 → 
 ∀ r5 : List Int, inB (repB 0 4503599627370495 5) r5 → S 33 [r0, r0] [r5] →
 K [r0] [r5]
theorem p_squared (G) : B_squared (SG G) (KB k_squared.res 47) := by
  unfold B_squared
  intro r0 i0 r5 i5 s0
  have s0 : v5 r5 % 57896044618658097711785492504343953926634992332820282019728792003956564819949 = v5 r0 * v5 r0 % 57896044618658097711785492504343953926634992332820282019728792003956564819949 := s0.1
  refine ⟨?_, ?_⟩
  · exact app_nil i5
  · show v5 r5 % 57896044618658097711785492504343953926634992332820282019728792003956564819949 = v5 r0 * v5 r0 % 57896044618658097711785492504343953926634992332820282019728792003956564819949
    exact s0

def B_negated (S : Nat → List (List Int) → List (List Int) → Prop) (K : List (List Int) → List (List Int) → Prop) : Prop :=
 ∀ r0 : List Int, inB (repB 0 4503599627370495 5) r0 → 
 ∀ r5 : List Int, inB (repB 0 4503599627370495 5) r5 → S 32 [[0, 0, 0, 0, 0], r0] [r5] →
 K [r0] [r5]
theorem p_negated (G) : B_negated (SG G) (KB k_negated.res 50) := by
  unfold B_negated
  intro r0 i0 r5 i5 s0
  have s0 : v5 r5 % 57896044618658097711785492504343953926634992332820282019728792003956564819949 = (v5 [0, 0, 0, 0, 0] - v5 r0) % 57896044618658097711785492504343953926634992332820282019728792003956564819949 := s0.1
  refine ⟨?_, ?_⟩
  · exact app_nil i5
  · show v5 r5 % 57896044618658097711785492504343953926634992332820282019728792003956564819949 = (0 - v5 r0) % 57896044618658097711785492504343953926634992332820282019728792003956564819949
    rw [show v5 [0, 0, 0, 0, 0] = 0 by decide] at s0
    exact s0

def B_raised (S : Nat → List (List Int) → List (List Int) → Prop) (K : List (List Int) → List (List Int) → Prop) : Prop :=
 ∀ r0 : List Int, inB (repB 0 4503599627370495 5) r0 → ∀ r5 : List Int, inB (repB 0 18446744073709551615 4) r5 → 
 ∃ (I9 : List (List Int) → Prop) (μ9 : List (List Int) → Nat), I9 [[255], [1, 0, 0, 0, 0]] ∧ (∀ z10 : Int, (-1) ≤ z10 → z10 ≤ 255 → ∀ r11 : List Int, inB (repB 0 4503599627370495 5) r11 → I9 [[z10], r11] →
  (((decide (0 ≤ z10)) = true →
   ∀ r16 : List Int, inB (repB 0 4503599627370495 5) r16 → S 47 [r11] [r16] →
   ∀ z21 : Int, 0 ≤ z21 → z21 ≤ 3 → 0 ≤ z10 - 64 * z21 → z10 - 64 * z21 < 64 →
   ∀ z22 : Int, 0 ≤ z22 → z22 ≤ 18446744073709551615 → z22 = List.getD r5 (z21).toNat 0 →
   ∀ z23 : Int, 0 ≤ z23 → z23 ≤ 3 → 0 ≤ z10 - 64 * z23 → z10 - 64 * z23 < 64 →
   ∀ z24 : Int, 0 ≤ z24 → z24 ≤ 18446744073709551615 → z24 = z22 / 2 ^ ((z10 + ((-64) * z23))).toNat →
   ∀ z25 : Int, 0 ≤ z25 → z25 ≤ 9223372036854775807 → 0 ≤ z24 - 2 * z25 → z24 - 2 * z25 < 2 →
   (((decide ((z24 + ((-2) * z25)) = 1)) = true →
    ∀ r26 : List Int, inB (repB 0 4503599627370495 5) r26 → S 33 [r16, r0] [r26] →
    (I9 [[(z10 + (-1))], r26] ∧ μ9 [[(z10 + (-1))], r26] < μ9 [[z10], r11])
   ) ∧ ((decide ((z24 + ((-2) * z25)) = 1)) = false →
    (I9 [[(z10 + (-1))], r16] ∧ μ9 [[(z10 + (-1))], r16] < μ9 [[z10], r11])
   ))
  ) ∧ ((decide (0 ≤ z10)) = false →
   K [r0, r5] [r11]
  ))
 )
theorem p_raised (G) : B_raised (SG G) (KR G) := by
  unfold B_raised
  intro r0 i0 r5 i5
  refine ⟨fun l => match l with | [[i], r] => v5 r % 57896044618658097711785492504343953926634992332820282019728792003956564819949 = pw (v5 r0) ((nw r5).toNat / 2 ^ (i + 1).toNat) ∧ r = raisedF G r0 (nw r5).toNat (255 - i).toNat | _ => False, fun l => match l with | [[i], _] => (i + 1).toNat | _ => 0, ?_, ?_⟩
  · show v5 [1, 0, 0, 0, 0] % 57896044618658097711785492504343953926634992332820282019728792003956564819949 = pw (v5 r0) ((nw r5).toNat / 2 ^ (255 + 1 : Int).toNat) ∧ [1, 0, 0, 0, 0] = raisedF G r0 (nw r5).toNat (255 - 255 : Int).toNat
    refine ⟨?_, rfl⟩
    rw [top_zero i5, pw_zero]
    decide
  · intro z10 a10 b10 r11 i11 hI
    have hI : v5 r11 % 57896044618658097711785492504343953926634992332820282019728792003956564819949 = pw (v5 r0) ((nw r5).toNat / 2 ^ (z10 + 1).toNat) ∧ r11 = raisedF G r0 (nw r5).toNat (255 - z10).toNat := hI
    refine ⟨fun h0 => ?_, fun h0 => ?_⟩
    · skip
      simp only [Bool.not_eq_true', Bool.not_eq_false', Bool.not_true, Bool.not_false, decide_eq_true_eq, decide_eq_false_iff_not] at h0
      intro r16 i16 s0 z21 a21 b21 c21 d21 z22 a22 b22 e22 z23 a23 b23 c23 d23 z24 a24 b24 e24 z25 a25 b25 c25 d25
      have s0g := s0.2
      have s0 : v5 r16 % 57896044618658097711785492504343953926634992332820282019728792003956564819949 = v5 r11 * v5 r11 % 57896044618658097711785492504343953926634992332820282019728792003956564819949 := s0.1
      refine ⟨fun h1 => ?_, fun h1 => ?_⟩
      · skip
        simp only [Bool.not_eq_true', Bool.not_eq_false', Bool.not_true, Bool.not_false, decide_eq_true_eq, decide_eq_false_iff_not] at h1
        intro r26 i26 s1
        have s1g := s1.2
        have s1 : v5 r26 % 57896044618658097711785492504343953926634992332820282019728792003956564819949 = v5 r16 * v5 r0 % 57896044618658097711785492504343953926634992332820282019728792003956564819949 := s1.1
        obtain ⟨i, rfl⟩ := Int.eq_ofNat_of_zero_le h0
        have hb := bitw i5 b10 c21 d21 e22 c23 d23 e24 c25 d25
        have ei : ((i : Int) + 1).toNat = i + 1 := by omega
        have ei2 : ((i : Int) + (-1) + 1).toNat = i := by omega
        obtain ⟨hI, hF⟩ := hI
        rw [ei] at hI
        have ek : (255 - (i : Int)).toNat = 255 - i := by omega
        have ek2 : (255 - ((i : Int) + (-1))).toNat = (255 - i) + 1 := by omega
        have ek3 : 255 - (255 - i) = i := by omega
        rw [ek] at hF
        have g0 : r16 = G 47 r11 := by have := s0g; simpa using this
        have g1 : r26 = G 33 (r16 ++ r0) := by have := s1g; simpa using this
        have hN : (nw r5).toNat / 2 ^ i % 2 = 1 := by omega
        refine ⟨⟨?_, ?_⟩, ?_⟩
        · show v5 r26 % 57896044618658097711785492504343953926634992332820282019728792003956564819949 = pw (v5 r0) ((nw r5).toNat / 2 ^ ((i : Int) + (-1) + 1).toNat)
          rw [ei2, pw_bit1 hN, s1, ← mul_mod_l (v5 r16), s0, Int.mul_emod (v5 r11) (v5 r11), hI]
        · show r26 = raisedF G r0 (nw r5).toNat (255 - ((i : Int) + (-1))).toNat
          rw [ek2, raisedF, ek3, ← hF, ← g0]
          have : ((nw r5).toNat / 2 ^ i % 2 == 1) = true := by simpa using hN
          rw [this, cond_true, ← g1]
        · show ((i : Int) + (-1) + 1).toNat < ((i : Int) + 1).toNat
          omega
      · skip
        simp only [Bool.not_eq_true', Bool.not_eq_false', Bool.not_true, Bool.not_false, decide_eq_true_eq, decide_eq_false_iff_not] at h1
        obtain ⟨i, rfl⟩ := Int.eq_ofNat_of_zero_le h0
        have hb := bitw i5 b10 c21 d21 e22 c23 d23 e24 c25 d25
        have ei : ((i : Int) + 1).toNat = i + 1 := by omega
        have ei2 : ((i : Int) + (-1) + 1).toNat = i := by omega
        obtain ⟨hI, hF⟩ := hI
        rw [ei] at hI
        have ek : (255 - (i : Int)).toNat = 255 - i := by omega
        have ek2 : (255 - ((i : Int) + (-1))).toNat = (255 - i) + 1 := by omega
        have ek3 : 255 - (255 - i) = i := by omega
        rw [ek] at hF
        have g0 : r16 = G 47 r11 := by have := s0g; simpa using this
        have hN : (nw r5).toNat / 2 ^ i % 2 ≠ 1 := by omega
        refine ⟨⟨?_, ?_⟩, ?_⟩
        · show v5 r16 % 57896044618658097711785492504343953926634992332820282019728792003956564819949 = pw (v5 r0) ((nw r5).toNat / 2 ^ ((i : Int) + (-1) + 1).toNat)
          rw [ei2, pw_bit0 hN, s0, Int.mul_emod (v5 r11) (v5 r11), hI]
        · show r16 = raisedF G r0 (nw r5).toNat (255 - ((i : Int) + (-1))).toNat
          rw [ek2, raisedF, ek3, ← hF, ← g0]
          have : ((nw r5).toNat / 2 ^ i % 2 == 1) = false := by simpa using hN
          rw [this, cond_false]
        · show ((i : Int) + (-1) + 1).toNat < ((i : Int) + 1).toNat
          omega
    · skip
      simp only [Bool.not_eq_true', Bool.not_eq_false', Bool.not_true, Bool.not_false, decide_eq_true_eq, decide_eq_false_iff_not] at h0
      obtain ⟨hI, hF⟩ := hI
      have ei : (z10 + 1).toNat = 0 := by omega
      have ek : (255 - z10).toNat = 256 := by omega
      rw [ei] at hI
      rw [ek] at hF
      refine ⟨⟨app_nil i11, ?_⟩, ?_⟩
      · show v5 r11 % 57896044618658097711785492504343953926634992332820282019728792003956564819949 = pw (v5 r0) (nw r5).toNat
        simpa using hI
      · show [r11].flatten = raisedF G r0 (nw r5).toNat 256
        simpa using hF

def B_inverted (S : Nat → List (List Int) → List (List Int) → Prop) (K : List (List Int) → List (List Int) → Prop) : Prop :=
 ∀ r0 : List Int, inB (repB 0 4503599627370495 5) r0 → 
 ∀ r5 : List Int, inB (repB 0 4503599627370495 5) r5 → S 43 [r0, [18446744073709551595, 18446744073709551615, 18446744073709551615, 9223372036854775807]] [r5] →
 K [r0] [r5]
theorem p_inverted (G) : B_inverted (SG G) (KB k_inverted.res 35) := by
  unfold B_inverted
  intro r0 i0 r5 i5 s0
  have s0 : v5 r5 % 57896044618658097711785492504343953926634992332820282019728792003956564819949 = pw (v5 r0) (nw [18446744073709551595, 18446744073709551615, 18446744073709551615, 9223372036854775807]).toNat := s0.1
  refine ⟨?_, ?_⟩
  · exact app_nil i5
  · show v5 r5 % 57896044618658097711785492504343953926634992332820282019728792003956564819949 = pw (v5 r0) eInv
    rw [eInv_eq] at s0
    exact s0

def B_same (S : Nat → List (List Int) → List (List Int) → Prop) (K : List (List Int) → List (List Int) → Prop) : Prop :=
 ∀ r0 : List Int, inB (repB 0 4503599627370495 5) r0 → ∀ r5 : List Int, inB (repB 0 4503599627370495 5) r5 → 
 ∀ r10 : List Int, inB (repB 0 255 32) r10 → S 31 [r0] [r10] →
 ∀ r42 : List Int, inB (repB 0 255 32) r42 → S 31 [r5] [r42] →
 K [r0, r5] [[(cond (decide (r10 = r42)) 1 0)]]
theorem p_same (G) : B_same (SG G) (KB k_same.res 48) := by
  unfold B_same
  intro r0 i0 r5 i5 r10 i10 s0 r42 i42 s1
  have s0 : nb r10 = v5 r0 % 57896044618658097711785492504343953926634992332820282019728792003956564819949 := s0.1
  have s1 : nb r42 = v5 r5 % 57896044618658097711785492504343953926634992332820282019728792003956564819949 := s1.1
  refine ⟨?_, ?_⟩
  · simp only [k_same, bdsL, D.bds, List.cons_append, List.nil_append, List.flatten_cons, List.flatten_nil, inB, and_true]
    rw [cond_bit]
    exact bit_in
  · show (cond (decide (r10 = r42)) 1 0) = bit (v5 r0 % 57896044618658097711785492504343953926634992332820282019728792003956564819949 = v5 r5 % 57896044618658097711785492504343953926634992332820282019728792003956564819949)
    rw [cond_bit, ← s0, ← s1]
    exact bit_congr ⟨fun h => by rw [h], fun h => nb_inj i10 i42 h⟩

def B_odd (S : Nat → List (List Int) → List (List Int) → Prop) (K : List (List Int) → List (List Int) → Prop) : Prop :=
 ∀ r0 : List Int, inB (repB 0 4503599627370495 5) r0 → 
 ∀ r5 : List Int, inB (repB 0 255 32) r5 → S 31 [r0] [r5] →
 ∀ z37 : Int, 0 ≤ z37 → z37 ≤ 127 → 0 ≤ (List.getD r5 0 0) - 2 * z37 → (List.getD r5 0 0) - 2 * z37 < 2 →
 K [r0] [[(cond (decide (((List.getD r5 0 0) + ((-2) * z37)) = 1)) 1 0)]]
theorem p_odd (G) : B_odd (SG G) (KB k_odd.res 49) := by
  unfold B_odd
  intro r0 i0 r5 i5 s0 z37 a37 b37 c37 d37
  have s0 : nb r5 = v5 r0 % 57896044618658097711785492504343953926634992332820282019728792003956564819949 := s0.1
  refine ⟨?_, ?_⟩
  · simp only [k_odd, bdsL, D.bds, List.cons_append, List.nil_append, List.flatten_cons, List.flatten_nil, inB, and_true]
    rw [cond_bit]
    exact bit_in
  · show (cond (decide (((List.getD r5 0 0) + ((-2) * z37)) = 1)) 1 0) = v5 r0 % 57896044618658097711785492504343953926634992332820282019728792003956564819949 % 2
    rw [cond_bit, ← s0]
    have hp := nb_par r5
    unfold bit
    split <;> omega

def B_rooted (S : Nat → List (List Int) → List (List Int) → Prop) (K : List (List Int) → List (List Int) → Prop) : Prop :=
 ∀ r0 : List Int, inB (repB 0 4503599627370495 5) r0 → 
 ∀ r5 : List Int, inB (repB 0 4503599627370495 5) r5 → S 43 [r0, [18446744073709551614, 18446744073709551615, 18446744073709551615, 1152921504606846975]] [r5] →
 ∀ r10 : List Int, inB (repB 0 4503599627370495 5) r10 → S 47 [r5] [r10] →
 ∀ z15 : Int, 0 ≤ z15 → z15 ≤ 1 → S 48 [r10, r0] [[z15]] →
 (((decide (z15 = 1)) = true →
  ∀ z16 : Int, 0 ≤ z16 → z16 ≤ 1 → S 49 [r5] [[z16]] →
  (((decide (z16 = 1)) = true →
   ∀ r17 : List Int, inB (repB 0 4503599627370495 5) r17 → S 50 [r5] [r17] →
   K [r0] [r17, [(cond (true) 1 0)]]
  ) ∧ ((decide (z16 = 1)) = false →
   K [r0] [r5, [(cond (true) 1 0)]]
  ))
 ) ∧ ((decide (z15 = 1)) = false →
  ∀ r16 : List Int, inB (repB 0 4503599627370495 5) r16 → S 33 [r5, [1718705420411056, 234908883556509, 2233514472574048, 2117202627021982, 765476049583133]] [r16] →
  ∀ r21 : List Int, inB (repB 0 4503599627370495 5) r21 → S 47 [r16] [r21] →
  ∀ z26 : Int, 0 ≤ z26 → z26 ≤ 1 → S 48 [r21, r0] [[z26]] →
  (((decide (z26 = 1)) = true →
   ∀ z27 : Int, 0 ≤ z27 → z27 ≤ 1 → S 49 [r16] [[z27]] →
   (((decide (z27 = 1)) = true →
    ∀ r28 : List Int, inB (repB 0 4503599627370495 5) r28 → S 50 [r16] [r28] →
    K [r0] [r28, [(cond (true) 1 0)]]
   ) ∧ ((decide (z27 = 1)) = false →
    K [r0] [r16, [(cond (true) 1 0)]]
   ))
  ) ∧ ((decide (z26 = 1)) = false →
   ∀ r27 : List Int, inB (repB 0 4503599627370495 5) r27 → S 33 [r16, [1718705420411056, 234908883556509, 2233514472574048, 2117202627021982, 765476049583133]] [r27] →
   K [r0] [[0, 0, 0, 0, 0], [(cond (false) 1 0)]]
  ))
 ))
theorem p_rooted (G) : B_rooted (SG G) (KB k_rooted.res 30) := by
  unfold B_rooted
  intro r0 i0 r5 i5 s0 r10 i10 s1 z15 a15 b15 s2
  have s0 : v5 r5 % 57896044618658097711785492504343953926634992332820282019728792003956564819949 = pw (v5 r0) (nw [18446744073709551614, 18446744073709551615, 18446744073709551615, 1152921504606846975]).toNat := s0.1
  have s1 : v5 r10 % 57896044618658097711785492504343953926634992332820282019728792003956564819949 = v5 r5 * v5 r5 % 57896044618658097711785492504343953926634992332820282019728792003956564819949 := s1.1
  have s2 : z15 = bit (v5 r10 % 57896044618658097711785492504343953926634992332820282019728792003956564819949 = v5 r0 % 57896044618658097711785492504343953926634992332820282019728792003956564819949) := s2.1
  refine ⟨fun h0 => ?_, fun h0 => ?_⟩
  · skip
    simp only [Bool.not_eq_true', Bool.not_eq_false', Bool.not_true, Bool.not_false, decide_eq_true_eq, decide_eq_false_iff_not] at h0
    intro z16 a16 b16 s3
    have s3 : z16 = v5 r5 % 57896044618658097711785492504343953926634992332820282019728792003956564819949 % 2 := s3.1
    refine ⟨fun h1 => ?_, fun h1 => ?_⟩
    · skip
      simp only [Bool.not_eq_true', Bool.not_eq_false', Bool.not_true, Bool.not_false, decide_eq_true_eq, decide_eq_false_iff_not] at h1
      intro r17 i17 s4
      have s4 : v5 r17 % 57896044618658097711785492504343953926634992332820282019728792003956564819949 = (0 - v5 r5) % 57896044618658097711785492504343953926634992332820282019728792003956564819949 := s4.1
      refine ⟨?_, ?_⟩
      · exact inB_app i17 ⟨by decide, by decide, trivial⟩
      · show (v5 r17 % 57896044618658097711785492504343953926634992332820282019728792003956564819949, (cond (true) 1 0)) = sqP (v5 r0 % 57896044618658097711785492504343953926634992332820282019728792003956564819949)
        rw [eRoot_eq, ← pw_mod] at s0
        have m0 : v5 r10 % 57896044618658097711785492504343953926634992332820282019728792003956564819949 = (v5 r5 % 57896044618658097711785492504343953926634992332820282019728792003956564819949) * (v5 r5 % 57896044618658097711785492504343953926634992332820282019728792003956564819949) % 57896044618658097711785492504343953926634992332820282019728792003956564819949 := by rw [s1, Int.mul_emod]
        rw [s0] at m0
        rw [s2] at h0
        have q0 := bit_one h0
        rw [m0] at q0
        unfold sqP
        simp only
        rw [if_pos q0]
        rw [s0] at s3
        rw [if_pos (by omega)]
        have e1 : (0 - v5 r5) % 57896044618658097711785492504343953926634992332820282019728792003956564819949 = (0 - v5 r5 % 57896044618658097711785492504343953926634992332820282019728792003956564819949) % 57896044618658097711785492504343953926634992332820282019728792003956564819949 := by omega
        rw [s4, e1, s0]
        rfl
    · skip
      simp only [Bool.not_eq_true', Bool.not_eq_false', Bool.not_true, Bool.not_false, decide_eq_true_eq, decide_eq_false_iff_not] at h1
      refine ⟨?_, ?_⟩
      · exact inB_app i5 ⟨by decide, by decide, trivial⟩
      · show (v5 r5 % 57896044618658097711785492504343953926634992332820282019728792003956564819949, (cond (true) 1 0)) = sqP (v5 r0 % 57896044618658097711785492504343953926634992332820282019728792003956564819949)
        rw [eRoot_eq, ← pw_mod] at s0
        have m0 : v5 r10 % 57896044618658097711785492504343953926634992332820282019728792003956564819949 = (v5 r5 % 57896044618658097711785492504343953926634992332820282019728792003956564819949) * (v5 r5 % 57896044618658097711785492504343953926634992332820282019728792003956564819949) % 57896044618658097711785492504343953926634992332820282019728792003956564819949 := by rw [s1, Int.mul_emod]
        rw [s0] at m0
        rw [s2] at h0
        have q0 := bit_one h0
        rw [m0] at q0
        unfold sqP
        simp only
        rw [if_pos q0]
        rw [s0] at s3
        rw [if_neg (by omega), s0]
        rfl
  · skip
    simp only [Bool.not_eq_true', Bool.not_eq_false', Bool.not_true, Bool.not_false, decide_eq_true_eq, decide_eq_false_iff_not] at h0
    intro r16 i16 s3 r21 i21 s4 z26 a26 b26 s5
    have s3 : v5 r16 % 57896044618658097711785492504343953926634992332820282019728792003956564819949 = v5 r5 * v5 [1718705420411056, 234908883556509, 2233514472574048, 2117202627021982, 765476049583133] % 57896044618658097711785492504343953926634992332820282019728792003956564819949 := s3.1
    have s4 : v5 r21 % 57896044618658097711785492504343953926634992332820282019728792003956564819949 = v5 r16 * v5 r16 % 57896044618658097711785492504343953926634992332820282019728792003956564819949 := s4.1
    have s5 : z26 = bit (v5 r21 % 57896044618658097711785492504343953926634992332820282019728792003956564819949 = v5 r0 % 57896044618658097711785492504343953926634992332820282019728792003956564819949) := s5.1
    refine ⟨fun h2 => ?_, fun h2 => ?_⟩
    · skip
      simp only [Bool.not_eq_true', Bool.not_eq_false', Bool.not_true, Bool.not_false, decide_eq_true_eq, decide_eq_false_iff_not] at h2
      intro z27 a27 b27 s6
      have s6 : z27 = v5 r16 % 57896044618658097711785492504343953926634992332820282019728792003956564819949 % 2 := s6.1
      refine ⟨fun h3 => ?_, fun h3 => ?_⟩
      · skip
        simp only [Bool.not_eq_true', Bool.not_eq_false', Bool.not_true, Bool.not_false, decide_eq_true_eq, decide_eq_false_iff_not] at h3
        intro r28 i28 s7
        have s7 : v5 r28 % 57896044618658097711785492504343953926634992332820282019728792003956564819949 = (0 - v5 r16) % 57896044618658097711785492504343953926634992332820282019728792003956564819949 := s7.1
        refine ⟨?_, ?_⟩
        · exact inB_app i28 ⟨by decide, by decide, trivial⟩
        · show (v5 r28 % 57896044618658097711785492504343953926634992332820282019728792003956564819949, (cond (true) 1 0)) = sqP (v5 r0 % 57896044618658097711785492504343953926634992332820282019728792003956564819949)
          rw [eRoot_eq, ← pw_mod] at s0
          have m0 : v5 r10 % 57896044618658097711785492504343953926634992332820282019728792003956564819949 = (v5 r5 % 57896044618658097711785492504343953926634992332820282019728792003956564819949) * (v5 r5 % 57896044618658097711785492504343953926634992332820282019728792003956564819949) % 57896044618658097711785492504343953926634992332820282019728792003956564819949 := by rw [s1, Int.mul_emod]
          rw [s0] at m0
          rw [s2] at h0
          have q0 := bit_none h0
          rw [m0] at q0
          unfold sqP
          simp only
          rw [if_neg q0]
          rw [turn_eq, ← mul_mod_l, s0] at s3
          have m1 : v5 r21 % 57896044618658097711785492504343953926634992332820282019728792003956564819949 = (v5 r16 % 57896044618658097711785492504343953926634992332820282019728792003956564819949) * (v5 r16 % 57896044618658097711785492504343953926634992332820282019728792003956564819949) % 57896044618658097711785492504343953926634992332820282019728792003956564819949 := by rw [s4, Int.mul_emod]
          rw [s3] at m1
          rw [s5] at h2
          have q1 := bit_one h2
          rw [m1] at q1
          rw [if_pos q1]
          rw [s3] at s6
          rw [if_pos (by omega)]
          have e1 : (0 - v5 r16) % 57896044618658097711785492504343953926634992332820282019728792003956564819949 = (0 - v5 r16 % 57896044618658097711785492504343953926634992332820282019728792003956564819949) % 57896044618658097711785492504343953926634992332820282019728792003956564819949 := by omega
          rw [s7, e1, s3]
          rfl
      · skip
        simp only [Bool.not_eq_true', Bool.not_eq_false', Bool.not_true, Bool.not_false, decide_eq_true_eq, decide_eq_false_iff_not] at h3
        refine ⟨?_, ?_⟩
        · exact inB_app i16 ⟨by decide, by decide, trivial⟩
        · show (v5 r16 % 57896044618658097711785492504343953926634992332820282019728792003956564819949, (cond (true) 1 0)) = sqP (v5 r0 % 57896044618658097711785492504343953926634992332820282019728792003956564819949)
          rw [eRoot_eq, ← pw_mod] at s0
          have m0 : v5 r10 % 57896044618658097711785492504343953926634992332820282019728792003956564819949 = (v5 r5 % 57896044618658097711785492504343953926634992332820282019728792003956564819949) * (v5 r5 % 57896044618658097711785492504343953926634992332820282019728792003956564819949) % 57896044618658097711785492504343953926634992332820282019728792003956564819949 := by rw [s1, Int.mul_emod]
          rw [s0] at m0
          rw [s2] at h0
          have q0 := bit_none h0
          rw [m0] at q0
          unfold sqP
          simp only
          rw [if_neg q0]
          rw [turn_eq, ← mul_mod_l, s0] at s3
          have m1 : v5 r21 % 57896044618658097711785492504343953926634992332820282019728792003956564819949 = (v5 r16 % 57896044618658097711785492504343953926634992332820282019728792003956564819949) * (v5 r16 % 57896044618658097711785492504343953926634992332820282019728792003956564819949) % 57896044618658097711785492504343953926634992332820282019728792003956564819949 := by rw [s4, Int.mul_emod]
          rw [s3] at m1
          rw [s5] at h2
          have q1 := bit_one h2
          rw [m1] at q1
          rw [if_pos q1]
          rw [s3] at s6
          rw [if_neg (by omega), s3]
          rfl
    · skip
      simp only [Bool.not_eq_true', Bool.not_eq_false', Bool.not_true, Bool.not_false, decide_eq_true_eq, decide_eq_false_iff_not] at h2
      intro r27 i27 s6
      have s6 : v5 r27 % 57896044618658097711785492504343953926634992332820282019728792003956564819949 = v5 r16 * v5 [1718705420411056, 234908883556509, 2233514472574048, 2117202627021982, 765476049583133] % 57896044618658097711785492504343953926634992332820282019728792003956564819949 := s6.1
      refine ⟨?_, ?_⟩
      · simp [k_rooted, bdsL, D.bds, e5, repB, inB]
      · show (v5 [0, 0, 0, 0, 0] % 57896044618658097711785492504343953926634992332820282019728792003956564819949, (cond (false) 1 0)) = sqP (v5 r0 % 57896044618658097711785492504343953926634992332820282019728792003956564819949)
        rw [eRoot_eq, ← pw_mod] at s0
        have m0 : v5 r10 % 57896044618658097711785492504343953926634992332820282019728792003956564819949 = (v5 r5 % 57896044618658097711785492504343953926634992332820282019728792003956564819949) * (v5 r5 % 57896044618658097711785492504343953926634992332820282019728792003956564819949) % 57896044618658097711785492504343953926634992332820282019728792003956564819949 := by rw [s1, Int.mul_emod]
        rw [s0] at m0
        rw [s2] at h0
        have q0 := bit_none h0
        rw [m0] at q0
        unfold sqP
        simp only
        rw [if_neg q0]
        rw [turn_eq, ← mul_mod_l, s0] at s3
        have m1 : v5 r21 % 57896044618658097711785492504343953926634992332820282019728792003956564819949 = (v5 r16 % 57896044618658097711785492504343953926634992332820282019728792003956564819949) * (v5 r16 % 57896044618658097711785492504343953926634992332820282019728792003956564819949) % 57896044618658097711785492504343953926634992332820282019728792003956564819949 := by rw [s4, Int.mul_emod]
        rw [s3] at m1
        rw [s5] at h2
        have q1 := bit_none h2
        rw [m1] at q1
        rw [if_neg q1]
        decide

def B_reduce (S : Nat → List (List Int) → List (List Int) → Prop) (K : List (List Int) → List (List Int) → Prop) : Prop :=
 ∀ r0 : List Int, inB (repB 0 255 32) r0 → 
 ∀ r32 : List Int, inB (repB 0 4503599627370495 5) r32 → S 29 [r0] [r32] →
 ∀ r37 : List Int, inB (repB 0 255 32) r37 → S 31 [r32] [r37] →
 K [r0] [r37]
theorem p_reduce (G) : B_reduce (SG G) (KB k_reduce.res 14) := by
  unfold B_reduce
  intro r0 i0 r32 i32 s0 r37 i37 s1
  have s0 : v5 r32 % 57896044618658097711785492504343953926634992332820282019728792003956564819949 = nb r0 % 57896044618658097711785492504343953926634992332820282019728792003956564819949 := s0.1
  have s1 : nb r37 = v5 r32 % 57896044618658097711785492504343953926634992332820282019728792003956564819949 := s1.1
  refine ⟨?_, ?_⟩
  · exact app_nil i37
  · show nb r37 = nb r0 % 57896044618658097711785492504343953926634992332820282019728792003956564819949
    rw [s1, s0]

def B_right (S : Nat → List (List Int) → List (List Int) → Prop) (K : List (List Int) → List (List Int) → Prop) : Prop :=
 ∀ r0 : List Int, inB (repB 0 255 32) r0 → 
 ∀ r32 : List Int, inB (repB 0 255 32) r32 → S 14 [r0] [r32] →
 K [r0] [[(cond (decide (r32 = r0)) 1 0)]]
theorem p_right (G) : B_right (SG G) (KB k_right.res 22) := by
  unfold B_right
  intro r0 i0 r32 i32 s0
  have s0 : nb r32 = nb r0 % 57896044618658097711785492504343953926634992332820282019728792003956564819949 := s0.1
  refine ⟨?_, ?_⟩
  · simp only [k_right, bdsL, D.bds, List.cons_append, List.nil_append, List.flatten_cons, List.flatten_nil, inB, and_true]
    rw [cond_bit]
    exact bit_in
  · show (cond (decide (r32 = r0)) 1 0) = bit (nb r0 < 57896044618658097711785492504343953926634992332820282019728792003956564819949)
    rw [cond_bit]
    have n0 := nb_b i0
    have e : r32 = r0 ↔ nb r0 < 57896044618658097711785492504343953926634992332820282019728792003956564819949 := by
      refine ⟨fun h => ?_, fun h => nb_inj i32 i0 (by rw [s0]; omega)⟩
      rw [h] at s0
      omega
    exact bit_congr e

end Go.Fd
