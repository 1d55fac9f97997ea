/- CvVcB: a part of the proof of statements of this seat. -/
import Derived.Test.YtaapajicchefdaaDoorCvHelp
set_option linter.unusedVariables false
set_option linter.unusedSimpArgs false
set_option maxRecDepth 20000
namespace Go.Fd
open Go.Rx
def B_rd (S : Nat → List (List Int) → List (List Int) → Prop) (K : List (List Int) → List (List Int) → Prop) : Prop :=
 
 K [] [[8496970652267935907, 31536524315187371, 10144147576115030168, 5909686906226998899]]
theorem p_rd (G) : B_rd (SG G) (KB k_rd.res 120) := by
  unfold B_rd
  exact ⟨by simp [k_rd, bdsL, D.bds, n4, inB, repB], by show nw _ = cd; decide⟩

def B_rzero (S : Nat → List (List Int) → List (List Int) → Prop) (K : List (List Int) → List (List Int) → Prop) : Prop :=
 
 K [] [[0, 0, 0, 0], [1, 0, 0, 0], [1, 0, 0, 0]]
theorem p_rzero (G) : B_rzero (SG G) (KB k_rzero.res 121) := by
  unfold B_rzero
  exact ⟨in_rpt in_zero4 in_one4 in_one4, by decide, by decide, by decide⟩

def B_rcsum (S : Nat → List (List Int) → List (List Int) → Prop) (K : List (List Int) → List (List Int) → Prop) : Prop :=
 ∀ r0 : List Int, inB (repB 0 18446744073709551615 4) r0 → ∀ r4 : List Int, inB (repB 0 18446744073709551615 4) r4 → ∀ r8 : List Int, inB (repB 0 18446744073709551615 4) r8 → ∀ r12 : List Int, inB (repB 0 18446744073709551615 4) r12 → ∀ r16 : List Int, inB (repB 0 18446744073709551615 4) r16 → ∀ r20 : List Int, inB (repB 0 18446744073709551615 4) r20 → 
 ∀ r24 : List Int, inB (repB 0 18446744073709551615 4) r24 → S 36 [r8, r20] [r24] →
 ∀ r28 : List Int, inB (repB 0 18446744073709551615 4) r28 → S 36 [r24, r24] [r28] →
 ∀ r32 : List Int, inB (repB 0 18446744073709551615 4) r32 → S 36 [r0, r12] [r32] →
 ∀ r36 : List Int, inB (repB 0 18446744073709551615 4) r36 → S 36 [r4, r16] [r36] →
 ∀ r40 : List Int, inB (repB 0 18446744073709551615 4) r40 → S 120 [] [r40] →
 ∀ r44 : List Int, inB (repB 0 18446744073709551615 4) r44 → S 36 [r32, r36] [r44] →
 ∀ r48 : List Int, inB (repB 0 18446744073709551615 4) r48 → S 36 [r40, r44] [r48] →
 ∀ r52 : List Int, inB (repB 0 18446744073709551615 4) r52 → S 41 [r28, r48] [r52] →
 ∀ r56 : List Int, inB (repB 0 18446744073709551615 4) r56 → S 40 [r28, r48] [r56] →
 ∀ r60 : List Int, inB (repB 0 18446744073709551615 4) r60 → S 36 [r0, r16] [r60] →
 ∀ r64 : List Int, inB (repB 0 18446744073709551615 4) r64 → S 36 [r4, r12] [r64] →
 ∀ r68 : List Int, inB (repB 0 18446744073709551615 4) r68 → S 40 [r60, r64] [r68] →
 ∀ r72 : List Int, inB (repB 0 18446744073709551615 4) r72 → S 40 [r36, r32] [r72] →
 ∀ r76 : List Int, inB (repB 0 18446744073709551615 4) r76 → S 36 [r24, r52] [r76] →
 ∀ r80 : List Int, inB (repB 0 18446744073709551615 4) r80 → S 36 [r76, r68] [r80] →
 ∀ r84 : List Int, inB (repB 0 18446744073709551615 4) r84 → S 36 [r24, r56] [r84] →
 ∀ r88 : List Int, inB (repB 0 18446744073709551615 4) r88 → S 36 [r84, r72] [r88] →
 ∀ r92 : List Int, inB (repB 0 18446744073709551615 4) r92 → S 36 [r52, r56] [r92] →
 K [r0, r4, r8, r12, r16, r20] [r80, r88, r92]
theorem p_rcsum (G) : B_rcsum (SG G) (KB k_rcsum.res 122) := by
  unfold B_rcsum
  intro r0 i0 r4 i4 r8 i8 r12 i12 r16 i16 r20 i20 r24 i24 s0 r28 i28 s1 r32 i32 s2 r36 i36 s3 r40 i40 s4 r44 i44 s5 r48 i48 s6 r52 i52 s7 r56 i56 s8 r60 i60 s9 r64 i64 s10 r68 i68 s11 r72 i72 s12 r76 i76 s13 r80 i80 s14 r84 i84 s15 r88 i88 s16 r92 i92 s17
  have s0 : nw r24 = nw r8 * nw r20 % 57896044618658097711785492504343953926634992332820282019728792003956564819949 := s0.1
  have s1 : nw r28 = nw r24 * nw r24 % 57896044618658097711785492504343953926634992332820282019728792003956564819949 := s1.1
  have s2 : nw r32 = nw r0 * nw r12 % 57896044618658097711785492504343953926634992332820282019728792003956564819949 := s2.1
  have s3 : nw r36 = nw r4 * nw r16 % 57896044618658097711785492504343953926634992332820282019728792003956564819949 := s3.1
  have s4 : nw r40 = cd := s4.1
  have s5 : nw r44 = nw r32 * nw r36 % 57896044618658097711785492504343953926634992332820282019728792003956564819949 := s5.1
  have s6 : nw r48 = nw r40 * nw r44 % 57896044618658097711785492504343953926634992332820282019728792003956564819949 := s6.1
  have s7 : nw r52 = (nw r28 - nw r48 + (if nw r28 < nw r48 then 57896044618658097711785492504343953926634992332820282019728792003956564819949 else 0)) % 115792089237316195423570985008687907853269984665640564039457584007913129639936 := s7.1
  have s8 : nw r56 = (nw r28 + nw r48) % 115792089237316195423570985008687907853269984665640564039457584007913129639936 % 57896044618658097711785492504343953926634992332820282019728792003956564819949 := s8.1
  have s9 : nw r60 = nw r0 * nw r16 % 57896044618658097711785492504343953926634992332820282019728792003956564819949 := s9.1
  have s10 : nw r64 = nw r4 * nw r12 % 57896044618658097711785492504343953926634992332820282019728792003956564819949 := s10.1
  have s11 : nw r68 = (nw r60 + nw r64) % 115792089237316195423570985008687907853269984665640564039457584007913129639936 % 57896044618658097711785492504343953926634992332820282019728792003956564819949 := s11.1
  have s12 : nw r72 = (nw r36 + nw r32) % 115792089237316195423570985008687907853269984665640564039457584007913129639936 % 57896044618658097711785492504343953926634992332820282019728792003956564819949 := s12.1
  have s13 : nw r76 = nw r24 * nw r52 % 57896044618658097711785492504343953926634992332820282019728792003956564819949 := s13.1
  have s14 : nw r80 = nw r76 * nw r68 % 57896044618658097711785492504343953926634992332820282019728792003956564819949 := s14.1
  have s15 : nw r84 = nw r24 * nw r56 % 57896044618658097711785492504343953926634992332820282019728792003956564819949 := s15.1
  have s16 : nw r88 = nw r84 * nw r72 % 57896044618658097711785492504343953926634992332820282019728792003956564819949 := s16.1
  have s17 : nw r92 = nw r52 * nw r56 % 57896044618658097711785492504343953926634992332820282019728792003956564819949 := s17.1
  refine ⟨in_rpt i80 i88 i92, ?_⟩
  intro A B hA hB q1 q2
  have gs1 := pr_r s1
  have gs6 := pr_r s6
  have gs9 := pr_r s9
  have gs10 := pr_r s10
  have gs3 := pr_r s3
  have gs2 := pr_r s2
  have k1 : nw r48 % 57896044618658097711785492504343953926634992332820282019728792003956564819949 = cd * nw r44 % 57896044618658097711785492504343953926634992332820282019728792003956564819949 := by rw [s6, s4]; exact Int.emod_emod _ _
  have k2 : nw r52 % 57896044618658097711785492504343953926634992332820282019728792003956564819949 = (nw r28 - nw r48) % 57896044618658097711785492504343953926634992332820282019728792003956564819949 := by rw [s7]; exact dmod gs1 gs6
  have k3 : nw r56 % 57896044618658097711785492504343953926634992332820282019728792003956564819949 = (nw r28 + nw r48) % 57896044618658097711785492504343953926634992332820282019728792003956564819949 := by rw [s8]; exact smod gs1 gs6
  have k4 : nw r68 % 57896044618658097711785492504343953926634992332820282019728792003956564819949 = (nw r60 + nw r64) % 57896044618658097711785492504343953926634992332820282019728792003956564819949 := by rw [s11]; exact smod gs9 gs10
  have k5 : nw r72 % 57896044618658097711785492504343953926634992332820282019728792003956564819949 = (nw r36 + nw r32) % 57896044618658097711785492504343953926634992332820282019728792003956564819949 := by rw [s12]; exact smod gs3 gs2
  exact rep_sum hA hB q1 q2 (pmod s0) (pmod s1) (pmod s2) (pmod s3) (pmod s5) k1 k2 k3 (pmod s9) (pmod s10) k4 k5 (pmod s13) (pmod s14) (pmod s15) (pmod s16) (pmod s17)

def B_rmany (S : Nat → List (List Int) → List (List Int) → Prop) (K : List (List Int) → List (List Int) → Prop) : Prop :=
 ∀ r0 : List Int, inB (repB 0 255 32) r0 → ∀ r32 : List Int, inB (repB 0 18446744073709551615 4) r32 → ∀ r36 : List Int, inB (repB 0 18446744073709551615 4) r36 → ∀ r40 : List Int, inB (repB 0 18446744073709551615 4) r40 → 
 ∀ r44 : List Int, inB (repB 0 18446744073709551615 4) r44 → ∀ r48 : List Int, inB (repB 0 18446744073709551615 4) r48 → ∀ r52 : List Int, inB (repB 0 18446744073709551615 4) r52 → S 121 [] [r44, r48, r52] →
 ∃ (I56 : List (List Int) → Prop) (μ56 : List (List Int) → Nat), I56 [[255], r44, r48, r52] ∧ (∀ z57 : Int, (-1) ≤ z57 → z57 ≤ 255 → ∀ r58 : List Int, inB (repB 0 18446744073709551615 4) r58 → ∀ r62 : List Int, inB (repB 0 18446744073709551615 4) r62 → ∀ r66 : List Int, inB (repB 0 18446744073709551615 4) r66 → I56 [[z57], r58, r62, r66] →
  (((decide (0 ≤ z57)) = true →
   ∀ r70 : List Int, inB (repB 0 18446744073709551615 4) r70 → ∀ r74 : List Int, inB (repB 0 18446744073709551615 4) r74 → ∀ r78 : List Int, inB (repB 0 18446744073709551615 4) r78 → S 122 [r58, r62, r66, r58, r62, r66] [r70, r74, r78] →
   ∀ z82 : Int, 0 ≤ z82 → z82 ≤ 31 → 0 ≤ z57 - 8 * z82 → z57 - 8 * z82 < 8 →
   ∀ z83 : Int, 0 ≤ z83 → z83 ≤ 255 → z83 = List.getD r0 (z82).toNat 0 →
   ∀ z84 : Int, 0 ≤ z84 → z84 ≤ 31 → 0 ≤ z57 - 8 * z84 → z57 - 8 * z84 < 8 →
   ∀ z85 : Int, 0 ≤ z85 → z85 ≤ 255 → z85 = z83 / 2 ^ ((z57 + ((-8) * z84))).toNat →
   ∀ z86 : Int, 0 ≤ z86 → z86 ≤ 127 → 0 ≤ z85 - 2 * z86 → z85 - 2 * z86 < 2 →
   (((decide ((z85 + ((-2) * z86)) = 1)) = true →
    ∀ r87 : List Int, inB (repB 0 18446744073709551615 4) r87 → ∀ r91 : List Int, inB (repB 0 18446744073709551615 4) r91 → ∀ r95 : List Int, inB (repB 0 18446744073709551615 4) r95 → S 122 [r70, r74, r78, r32, r36, r40] [r87, r91, r95] →
    (I56 [[(z57 + (-1))], r87, r91, r95] ∧ μ56 [[(z57 + (-1))], r87, r91, r95] < μ56 [[z57], r58, r62, r66])
   ) ∧ ((decide ((z85 + ((-2) * z86)) = 1)) = false →
    (I56 [[(z57 + (-1))], r70, r74, r78] ∧ μ56 [[(z57 + (-1))], r70, r74, r78] < μ56 [[z57], r58, r62, r66])
   ))
  ) ∧ ((decide (0 ≤ z57)) = false →
   K [r0, r32, r36, r40] [r58, r62, r66]
  ))
 )
theorem p_rmany (G) : B_rmany (SG G) (KMR G) := by
  unfold B_rmany
  intro r0 i0 r32 i32 r36 i36 r40 i40 r44 i44 r48 i48 r52 i52 s0
  have s0g := s0.2
  have s0 : s_rzero [] [r44, r48, r52] := s0.1
  refine ⟨fun l => match l with | [[i], x, y, z] => (∀ A, on A → RepJ (nw r32) (nw r36) (nw r40) A → RepJ (nw x) (nw y) (nw z) (mulP ((nb r0).toNat / 2 ^ (i + 1).toNat) A)) ∧ [x, y, z].flatten = rmanyF G [r32, r36, r40].flatten (nb r0).toNat (255 - i).toNat | _ => False, fun l => match l with | [[i], _, _, _] => (i + 1).toNat | _ => 0, ?_, ?_⟩
  · show (∀ A, on A → RepJ (nw r32) (nw r36) (nw r40) A → RepJ (nw r44) (nw r48) (nw r52) (mulP ((nb r0).toNat / 2 ^ (255 + 1 : Int).toNat) A)) ∧ [r44, r48, r52].flatten = rmanyF G [r32, r36, r40].flatten (nb r0).toNat (255 - 255 : Int).toNat
    refine ⟨fun A hA hq => ?_, s0g⟩
    rw [top_zero32 i0]
    exact rzero_is s0
  · intro z57 a57 b57 r58 i58 r62 i62 r66 i66 hI
    have hI : (∀ A, on A → RepJ (nw r32) (nw r36) (nw r40) A → RepJ (nw r58) (nw r62) (nw r66) (mulP ((nb r0).toNat / 2 ^ (z57 + 1).toNat) A)) ∧ [r58, r62, r66].flatten = rmanyF G [r32, r36, r40].flatten (nb r0).toNat (255 - z57).toNat := hI
    refine ⟨fun h0 => ?_, fun h0 => ?_⟩
    · skip
      simp only [Bool.not_eq_true', Bool.not_eq_false', Bool.not_true, Bool.not_false, decide_eq_true_eq, decide_eq_false_iff_not] at h0
      intro r70 i70 r74 i74 r78 i78 s1 z82 a82 b82 c82 d82 z83 a83 b83 e83 z84 a84 b84 c84 d84 z85 a85 b85 e85 z86 a86 b86 c86 d86
      have s1g := s1.2
      have s1 : s_rcsum [r58, r62, r66, r58, r62, r66] [r70, r74, r78] := s1.1
      refine ⟨fun h1 => ?_, fun h1 => ?_⟩
      · skip
        simp only [Bool.not_eq_true', Bool.not_eq_false', Bool.not_true, Bool.not_false, decide_eq_true_eq, decide_eq_false_iff_not] at h1
        intro r87 i87 r91 i91 r95 i95 s2
        have s2g := s2.2
        have s2 : s_rcsum [r70, r74, r78, r32, r36, r40] [r87, r91, r95] := s2.1
        obtain ⟨i, rfl⟩ := Int.eq_ofNat_of_zero_le h0
        have hb := bit32 i0 b57 c82 d82 e83 c84 d84 e85 c86 d86
        have ei : ((i : Int) + 1).toNat = i + 1 := by omega
        have ei2 : ((i : Int) + (-1) + 1).toNat = i := by omega
        obtain ⟨hI, hF⟩ := hI
        rw [ei] at hI
        have ek : (255 - (i : Int)).toNat = 255 - i := by omega
        have ek2 : (255 - ((i : Int) + (-1))).toNat = (255 - i) + 1 := by omega
        have ek3 : 255 - (255 - i) = i := by omega
        rw [ek] at hF
        have g0 : [r70, r74, r78].flatten = G 122 [r58, r62, r66, r58, r62, r66].flatten := s1g
        rw [flat6, hF] at g0
        have g1 : [r87, r91, r95].flatten = G 122 [r70, r74, r78, r32, r36, r40].flatten := s2g
        rw [flat6, g0] at g1
        have hN : (nb r0).toNat / 2 ^ i % 2 = 1 := by omega
        refine ⟨⟨fun A hA hq => ?_, ?_⟩, ?_⟩
        · show RepJ (nw r87) (nw r91) (nw r95) (mulP ((nb r0).toNat / 2 ^ ((i : Int) + (-1) + 1).toNat) A)
          rw [ei2, mulP_bit1 hA hN]
          have k0 := hI A hA hq
          have k1 := s1 _ _ (mulP_on hA _) (mulP_on hA _) k0 k0
          exact s2 _ _ (addP_on (mulP_on hA _) (mulP_on hA _)) hA k1 hq
        · show [r87, r91, r95].flatten = rmanyF G [r32, r36, r40].flatten (nb r0).toNat (255 - ((i : Int) + (-1))).toNat
          rw [ek2, rmanyF, ek3]
          have : ((nb r0).toNat / 2 ^ i % 2 == 1) = true := by simpa using hN
          rw [this, cond_true]
          exact g1
        · show ((i : Int) + (-1) + 1).toNat < ((i : Int) + 1).toNat
          omega
      · skip
        simp only [Bool.not_eq_true', Bool.not_eq_false', Bool.not_true, Bool.not_false, decide_eq_true_eq, decide_eq_false_iff_not] at h1
        obtain ⟨i, rfl⟩ := Int.eq_ofNat_of_zero_le h0
        have hb := bit32 i0 b57 c82 d82 e83 c84 d84 e85 c86 d86
        have ei : ((i : Int) + 1).toNat = i + 1 := by omega
        have ei2 : ((i : Int) + (-1) + 1).toNat = i := by omega
        obtain ⟨hI, hF⟩ := hI
        rw [ei] at hI
        have ek : (255 - (i : Int)).toNat = 255 - i := by omega
        have ek2 : (255 - ((i : Int) + (-1))).toNat = (255 - i) + 1 := by omega
        have ek3 : 255 - (255 - i) = i := by omega
        rw [ek] at hF
        have g0 : [r70, r74, r78].flatten = G 122 [r58, r62, r66, r58, r62, r66].flatten := s1g
        rw [flat6, hF] at g0
        have hN : (nb r0).toNat / 2 ^ i % 2 ≠ 1 := by omega
        refine ⟨⟨fun A hA hq => ?_, ?_⟩, ?_⟩
        · show RepJ (nw r70) (nw r74) (nw r78) (mulP ((nb r0).toNat / 2 ^ ((i : Int) + (-1) + 1).toNat) A)
          rw [ei2, mulP_bit0 hA hN]
          have k0 := hI A hA hq
          exact s1 _ _ (mulP_on hA _) (mulP_on hA _) k0 k0
        · show [r70, r74, r78].flatten = rmanyF G [r32, r36, r40].flatten (nb r0).toNat (255 - ((i : Int) + (-1))).toNat
          rw [ek2, rmanyF, ek3]
          have : ((nb r0).toNat / 2 ^ i % 2 == 1) = false := by simpa using hN
          rw [this, cond_false]
          exact g0
        · show ((i : Int) + (-1) + 1).toNat < ((i : Int) + 1).toNat
          omega
    · skip
      simp only [Bool.not_eq_true', Bool.not_eq_false', Bool.not_true, Bool.not_false, decide_eq_true_eq, decide_eq_false_iff_not] at h0
      obtain ⟨hI, hF⟩ := hI
      have ei : (z57 + 1).toNat = 0 := by omega
      have ek : (255 - z57).toNat = 256 := by omega
      rw [ei] at hI
      rw [ek] at hF
      refine ⟨⟨in_rpt i58 i62 i66, ?_⟩, hF⟩
      intro A hA hq
      have hI := hI A hA hq
      rwa [Nat.pow_zero, Nat.div_one] at hI

def B_rcbytes (S : Nat → List (List Int) → List (List Int) → Prop) (K : List (List Int) → List (List Int) → Prop) : Prop :=
 ∀ r0 : List Int, inB (repB 0 18446744073709551615 4) r0 → ∀ r4 : List Int, inB (repB 0 18446744073709551615 4) r4 → ∀ r8 : List Int, inB (repB 0 18446744073709551615 4) r8 → 
 ∀ r12 : List Int, inB (repB 0 18446744073709551615 4) r12 → S 45 [r8] [r12] →
 ∀ r16 : List Int, inB (repB 0 18446744073709551615 4) r16 → S 36 [r0, r12] [r16] →
 ∀ r20 : List Int, inB (repB 0 18446744073709551615 4) r20 → S 36 [r4, r12] [r20] →
 ∀ r24 : List Int, inB (repB 0 255 32) r24 → S 27 [r20] [r24] →
 ∀ z56 : Int, 0 ≤ z56 → z56 ≤ 9223372036854775807 → 0 ≤ (List.getD r16 0 0) - 2 * z56 → (List.getD r16 0 0) - 2 * z56 < 2 →
 ∀ z57 : Int, 0 ≤ z57 → z57 ≤ 1 → 0 ≤ ((128 * (List.getD r16 0 0)) + ((List.getD r24 31 0) + ((-256) * z56))) - 256 * z57 → ((128 * (List.getD r16 0 0)) + ((List.getD r24 31 0) + ((-256) * z56))) - 256 * z57 < 256 →
 K [r0, r4, r8] [[(List.getD r24 0 0), (List.getD r24 1 0), (List.getD r24 2 0), (List.getD r24 3 0), (List.getD r24 4 0), (List.getD r24 5 0), (List.getD r24 6 0), (List.getD r24 7 0), (List.getD r24 8 0), (List.getD r24 9 0), (List.getD r24 10 0), (List.getD r24 11 0), (List.getD r24 12 0), (List.getD r24 13 0), (List.getD r24 14 0), (List.getD r24 15 0), (List.getD r24 16 0), (List.getD r24 17 0), (List.getD r24 18 0), (List.getD r24 19 0), (List.getD r24 20 0), (List.getD r24 21 0), (List.getD r24 22 0), (List.getD r24 23 0), (List.getD r24 24 0), (List.getD r24 25 0), (List.getD r24 26 0), (List.getD r24 27 0), (List.getD r24 28 0), (List.getD r24 29 0), (List.getD r24 30 0), ((128 * (List.getD r16 0 0)) + ((List.getD r24 31 0) + (((-256) * z56) + ((-256) * z57))))]]
theorem p_rcbytes (G) : B_rcbytes (SG G) (KB k_rcbytes.res 124) := by
  unfold B_rcbytes
  intro r0 i0 r4 i4 r8 i8 r12 i12 s0 r16 i16 s1 r20 i20 s2 r24 i24 s3 z56 a56 b56 c56 d56 z57 a57 b57 c57 d57
  have s0 : nw r12 = pw (nw r8) eInv := s0.1
  have s1 : nw r16 = nw r0 * nw r12 % 57896044618658097711785492504343953926634992332820282019728792003956564819949 := s1.1
  have s2 : nw r20 = nw r4 * nw r12 % 57896044618658097711785492504343953926634992332820282019728792003956564819949 := s2.1
  have s3 : nb r24 = nw r20 := s3.1
  have q0 : nw r20 = nw r4 * iv (nw r8) % 57896044618658097711785492504343953926634992332820282019728792003956564819949 := s2.trans (by rw [s0]; rfl)
  have q1 : nw r16 = nw r0 * iv (nw r8) % 57896044618658097711785492504343953926634992332820282019728792003956564819949 := s1.trans (by rw [s0]; rfl)
  rw [q0] at s3
  have hlt : nb r24 < top1 := by rw [s3]; exact Int.lt_trans (mod_r _).2 (by decide)
  have ht := top_lt i24 hlt
  have hg := getD_b i24
  have hp := nw_par r16
  have hz : z57 = 0 := by clear s0 s1 s2 s3 q0 q1 hlt; omega
  subst hz
  refine ⟨in_set i24 (by clear s0 s1 s2 s3 q0 q1 hlt; omega) (by clear s0 s1 s2 s3 q0 q1 hlt; omega), ?_⟩
  show nb _ = encI (nw r0) (nw r4) (nw r8)
  rw [nb_set i24]
  unfold encI
  rw [← q1, s3, hp]
  unfold top1
  clear s0 s1 s2 s3 q0 q1 hlt
  omega

def B_rread (S : Nat → List (List Int) → List (List Int) → Prop) (K : List (List Int) → List (List Int) → Prop) : Prop :=
 ∀ r0 : List Int, inB (repB 0 255 32) r0 → 
 ∀ z32 : Int, 0 ≤ z32 → z32 ≤ 1 → 0 ≤ (List.getD r0 31 0) - 128 * z32 → (List.getD r0 31 0) - 128 * z32 < 128 →
 ∀ r33 : List Int, inB (repB 0 18446744073709551615 4) r33 → S 37 [[(List.getD r0 0 0), (List.getD r0 1 0), (List.getD r0 2 0), (List.getD r0 3 0), (List.getD r0 4 0), (List.getD r0 5 0), (List.getD r0 6 0), (List.getD r0 7 0), (List.getD r0 8 0), (List.getD r0 9 0), (List.getD r0 10 0), (List.getD r0 11 0), (List.getD r0 12 0), (List.getD r0 13 0), (List.getD r0 14 0), (List.getD r0 15 0), (List.getD r0 16 0), (List.getD r0 17 0), (List.getD r0 18 0), (List.getD r0 19 0), (List.getD r0 20 0), (List.getD r0 21 0), (List.getD r0 22 0), (List.getD r0 23 0), (List.getD r0 24 0), (List.getD r0 25 0), (List.getD r0 26 0), (List.getD r0 27 0), (List.getD r0 28 0), (List.getD r0 29 0), (List.getD r0 30 0), ((List.getD r0 31 0) + ((-128) * z32))]] [r33] →
 ∀ r37 : List Int, inB (repB 0 18446744073709551615 4) r37 → S 28 [] [r37] →
 ∀ z41 : Int, 0 ≤ z41 → z41 ≤ 1 → S 42 [r33, r37] [[z41]] →
 ((((!(decide (z41 = 1)))) = true →
  K [r0] [[0, 0, 0, 0], [0, 0, 0, 0], [0, 0, 0, 0], [(cond (false) 1 0)]]
 ) ∧ (((!(decide (z41 = 1)))) = false →
  ∀ r42 : List Int, inB (repB 0 18446744073709551615 4) r42 → S 36 [r33, r33] [r42] →
  ∀ r46 : List Int, inB (repB 0 18446744073709551615 4) r46 → S 120 [] [r46] →
  ∀ r50 : List Int, inB (repB 0 18446744073709551615 4) r50 → S 36 [r46, r42] [r50] →
  ∀ r54 : List Int, inB (repB 0 18446744073709551615 4) r54 → S 40 [r50, [1, 0, 0, 0]] [r54] →
  ∀ r58 : List Int, inB (repB 0 18446744073709551615 4) r58 → S 41 [r42, [1, 0, 0, 0]] [r58] →
  ∀ r62 : List Int, inB (repB 0 18446744073709551615 4) r62 → S 45 [r54] [r62] →
  ∀ r66 : List Int, inB (repB 0 18446744073709551615 4) r66 → S 36 [r58, r62] [r66] →
  ∀ r70 : List Int, inB (repB 0 18446744073709551615 4) r70 → ∀ z74 : Int, 0 ≤ z74 → z74 ≤ 1 → S 38 [r66] [r70, [z74]] →
  ((((!(decide (z74 = 1)))) = true →
   K [r0] [[0, 0, 0, 0], [0, 0, 0, 0], [0, 0, 0, 0], [(cond (false) 1 0)]]
  ) ∧ (((!(decide (z74 = 1)))) = false →
   (((decide (128 ≤ (List.getD r0 31 0))) = true →
    (((decide (r70 = [0, 0, 0, 0])) = true →
     K [r0] [[0, 0, 0, 0], [0, 0, 0, 0], [0, 0, 0, 0], [(cond (false) 1 0)]]
    ) ∧ ((decide (r70 = [0, 0, 0, 0])) = false →
     ∀ r75 : List Int, inB (repB 0 18446744073709551615 4) r75 → S 41 [[0, 0, 0, 0], r70] [r75] →
     K [r0] [r75, r33, [1, 0, 0, 0], [(cond (true) 1 0)]]
    ))
   ) ∧ ((decide (128 ≤ (List.getD r0 31 0))) = false →
    K [r0] [r70, r33, [1, 0, 0, 0], [(cond (true) 1 0)]]
   ))
  ))
 ))
theorem p_rread (G) : B_rread (SG G) (KB k_rread.res 125) := by
  unfold B_rread
  intro r0 i0 z32 a32 b32 c32 d32 r33 i33 s0 r37 i37 s1 z41 a41 b41 s2
  have s0 : nw r33 = nb [(List.getD r0 0 0), (List.getD r0 1 0), (List.getD r0 2 0), (List.getD r0 3 0), (List.getD r0 4 0), (List.getD r0 5 0), (List.getD r0 6 0), (List.getD r0 7 0), (List.getD r0 8 0), (List.getD r0 9 0), (List.getD r0 10 0), (List.getD r0 11 0), (List.getD r0 12 0), (List.getD r0 13 0), (List.getD r0 14 0), (List.getD r0 15 0), (List.getD r0 16 0), (List.getD r0 17 0), (List.getD r0 18 0), (List.getD r0 19 0), (List.getD r0 20 0), (List.getD r0 21 0), (List.getD r0 22 0), (List.getD r0 23 0), (List.getD r0 24 0), (List.getD r0 25 0), (List.getD r0 26 0), (List.getD r0 27 0), (List.getD r0 28 0), (List.getD r0 29 0), (List.getD r0 30 0), ((List.getD r0 31 0) + ((-128) * z32))] := s0.1
  have s1 : nw r37 = 57896044618658097711785492504343953926634992332820282019728792003956564819949 := s1.1
  have s2 : z41 = bit (nw r33 < nw r37) := s2.1
  refine ⟨fun h0 => ?_, fun h0 => ?_⟩
  · skip
    simp only [Bool.not_eq_true', Bool.not_eq_false', Bool.not_true, Bool.not_false, decide_eq_true_eq, decide_eq_false_iff_not] at h0
    have hm := mask31 i0 c32 d32
    rw [hm.1] at s0
    rw [s0, s1] at s2
    refine ⟨in_rptb in_zero4 in_zero4 in_zero4 (by decide), ?_⟩
    rw [s2] at h0
    show RDJ (dec (nb r0)) _ _ _ _
    rw [dec_big (bit_none h0)]
    rfl
  · skip
    simp only [Bool.not_eq_true', Bool.not_eq_false', Bool.not_true, Bool.not_false, decide_eq_true_eq, decide_eq_false_iff_not] at h0
    intro r42 i42 s3 r46 i46 s4 r50 i50 s5 r54 i54 s6 r58 i58 s7 r62 i62 s8 r66 i66 s9 r70 i70 z74 a74 b74 s10
    have s3 : nw r42 = nw r33 * nw r33 % 57896044618658097711785492504343953926634992332820282019728792003956564819949 := s3.1
    have s4 : nw r46 = cd := s4.1
    have s5 : nw r50 = nw r46 * nw r42 % 57896044618658097711785492504343953926634992332820282019728792003956564819949 := s5.1
    have s6 : nw r54 = (nw r50 + nw [1, 0, 0, 0]) % 115792089237316195423570985008687907853269984665640564039457584007913129639936 % 57896044618658097711785492504343953926634992332820282019728792003956564819949 := s6.1
    have s7 : nw r58 = (nw r42 - nw [1, 0, 0, 0] + (if nw r42 < nw [1, 0, 0, 0] then 57896044618658097711785492504343953926634992332820282019728792003956564819949 else 0)) % 115792089237316195423570985008687907853269984665640564039457584007913129639936 := s7.1
    have s8 : nw r62 = pw (nw r54) eInv := s8.1
    have s9 : nw r66 = nw r58 * nw r62 % 57896044618658097711785492504343953926634992332820282019728792003956564819949 := s9.1
    have s10 : (nw r70, z74) = sqF (nw r66) := s10.1
    refine ⟨fun h1 => ?_, fun h1 => ?_⟩
    · skip
      simp only [Bool.not_eq_true', Bool.not_eq_false', Bool.not_true, Bool.not_false, decide_eq_true_eq, decide_eq_false_iff_not] at h1
      have hm := mask31 i0 c32 d32
      rw [hm.1] at s0
      rw [s0, s1] at s2
      have hy : nb r0 % top1 < 57896044618658097711785492504343953926634992332820282019728792003956564819949 := bit_one (by rw [← s2]; exact h0)
      have q := rread_q s0 s3 s4 s5 s6 s7 s8 s9
      rw [q, ← sqP_sqF (mod_r _).1 (mod_r _).2] at s10
      have hk : z74 = 0 := by omega
      refine ⟨in_rptb in_zero4 in_zero4 in_zero4 (by decide), ?_⟩
      show RDJ (dec (nb r0)) _ _ _ _
      rw [dec_none hy s10 hk]
      rfl
    · skip
      simp only [Bool.not_eq_true', Bool.not_eq_false', Bool.not_true, Bool.not_false, decide_eq_true_eq, decide_eq_false_iff_not] at h1
      refine ⟨fun h2 => ?_, fun h2 => ?_⟩
      · skip
        simp only [Bool.not_eq_true', Bool.not_eq_false', Bool.not_true, Bool.not_false, decide_eq_true_eq, decide_eq_false_iff_not] at h2
        refine ⟨fun h3 => ?_, fun h3 => ?_⟩
        · skip
          simp only [Bool.not_eq_true', Bool.not_eq_false', Bool.not_true, Bool.not_false, decide_eq_true_eq, decide_eq_false_iff_not] at h3
          have hm := mask31 i0 c32 d32
          rw [hm.1] at s0
          rw [s0, s1] at s2
          have hy : nb r0 % top1 < 57896044618658097711785492504343953926634992332820282019728792003956564819949 := bit_one (by rw [← s2]; exact h0)
          have q := rread_q s0 s3 s4 s5 s6 s7 s8 s9
          rw [q, ← sqP_sqF (mod_r _).1 (mod_r _).2] at s10
          have hk : z74 ≠ 0 := by omega
          have ho : nb r0 / top1 = 1 := by rw [← hm.2]; omega
          have hq : nw r70 = 0 := by rw [h3]; decide
          refine ⟨in_rptb in_zero4 in_zero4 in_zero4 (by decide), ?_⟩
          show RDJ (dec (nb r0)) _ _ _ _
          rw [dec_odd0 hy s10 hk ho hq]
          rfl
        · skip
          simp only [Bool.not_eq_true', Bool.not_eq_false', Bool.not_true, Bool.not_false, decide_eq_true_eq, decide_eq_false_iff_not] at h3
          intro r75 i75 s11
          have s11 : nw r75 = (nw [0, 0, 0, 0] - nw r70 + (if nw [0, 0, 0, 0] < nw r70 then 57896044618658097711785492504343953926634992332820282019728792003956564819949 else 0)) % 115792089237316195423570985008687907853269984665640564039457584007913129639936 := s11.1
          have hm := mask31 i0 c32 d32
          rw [hm.1] at s0
          rw [s0, s1] at s2
          have hy : nb r0 % top1 < 57896044618658097711785492504343953926634992332820282019728792003956564819949 := bit_one (by rw [← s2]; exact h0)
          have q := rread_q s0 s3 s4 s5 s6 s7 s8 s9
          rw [q, ← sqP_sqF (mod_r _).1 (mod_r _).2] at s10
          have hk : z74 ≠ 0 := by omega
          have ho : nb r0 / top1 = 1 := by rw [← hm.2]; omega
          have hq : nw r70 ≠ 0 := fun h => h3 (nw_inj i70 in_zero4 (h.trans (by decide)))
          refine ⟨in_rptb i75 i33 in_one4 (by decide), ?_⟩
          show RDJ (dec (nb r0)) _ _ _ _
          rw [dec_odd hy s10 hk ho hq]
          have hr := sqP_r s10
          have u1 : nw r75 = (0 - nw r70) % 57896044618658097711785492504343953926634992332820282019728792003956564819949 := s11.trans (by rw [show nw [0, 0, 0, 0] = 0 by decide]; exact diff_eq (by decide) hr)
          exact ⟨rfl, u1, s0, by decide⟩
      · skip
        simp only [Bool.not_eq_true', Bool.not_eq_false', Bool.not_true, Bool.not_false, decide_eq_true_eq, decide_eq_false_iff_not] at h2
        have hm := mask31 i0 c32 d32
        rw [hm.1] at s0
        rw [s0, s1] at s2
        have hy : nb r0 % top1 < 57896044618658097711785492504343953926634992332820282019728792003956564819949 := bit_one (by rw [← s2]; exact h0)
        have q := rread_q s0 s3 s4 s5 s6 s7 s8 s9
        rw [q, ← sqP_sqF (mod_r _).1 (mod_r _).2] at s10
        have hk : z74 ≠ 0 := by omega
        have ho : ¬ nb r0 / top1 = 1 := by rw [← hm.2]; omega
        refine ⟨in_rptb i70 i33 in_one4 (by decide), ?_⟩
        show RDJ (dec (nb r0)) _ _ _ _
        rw [dec_even hy s10 hk ho]
        exact ⟨rfl, rfl, s0, by decide⟩

def B_rfirst (S : Nat → List (List Int) → List (List Int) → Prop) (K : List (List Int) → List (List Int) → Prop) : Prop :=
 
 K [] [[14507833142362363162, 7578651490590762930, 13881468655802702940, 2407515759118799870], [7378697629483820632, 7378697629483820646, 7378697629483820646, 7378697629483820646], [1, 0, 0, 0]]
theorem p_rfirst (G) : B_rfirst (SG G) (KB k_rfirst.res 126) := by
  unfold B_rfirst
  exact ⟨by simp [k_rfirst, bdsL, D.bds, rpt, inB, repB], by decide, by decide, by decide⟩

def B_rcright (S : Nat → List (List Int) → List (List Int) → Prop) (K : List (List Int) → List (List Int) → Prop) : Prop :=
 ∀ r0 : List Int, inB (repB 0 255 32) r0 → 
 ∀ r32 : List Int, inB (repB 0 18446744073709551615 4) r32 → ∀ r36 : List Int, inB (repB 0 18446744073709551615 4) r36 → ∀ r40 : List Int, inB (repB 0 18446744073709551615 4) r40 → ∀ z44 : Int, 0 ≤ z44 → z44 ≤ 1 → S 125 [r0] [r32, r36, r40, [z44]] →
 K [r0] [[(cond (decide (z44 = 1)) 1 0)]]
theorem p_rcright (G) : B_rcright (SG G) (KB k_rcright.res 127) := by
  unfold B_rcright
  intro r0 i0 r32 i32 r36 i36 r40 i40 z44 a44 b44 s0
  have s0 : s_rread [r0] [r32, r36, r40, [z44]] := s0.1
  refine ⟨⟨(cond_in _).1, (cond_in _).2, trivial⟩, ?_⟩
  show cond _ _ _ = bit _
  rw [cond_bit]
  exact rrd_bit s0

def B_rcadd (S : Nat → List (List Int) → List (List Int) → Prop) (K : List (List Int) → List (List Int) → Prop) : Prop :=
 ∀ r0 : List Int, inB (repB 0 255 32) r0 → ∀ r32 : List Int, inB (repB 0 255 32) r32 → 
 ∀ r64 : List Int, inB (repB 0 18446744073709551615 4) r64 → ∀ r68 : List Int, inB (repB 0 18446744073709551615 4) r68 → ∀ r72 : List Int, inB (repB 0 18446744073709551615 4) r72 → ∀ z76 : Int, 0 ≤ z76 → z76 ≤ 1 → S 125 [r0] [r64, r68, r72, [z76]] →
 ∀ r77 : List Int, inB (repB 0 18446744073709551615 4) r77 → ∀ r81 : List Int, inB (repB 0 18446744073709551615 4) r81 → ∀ r85 : List Int, inB (repB 0 18446744073709551615 4) r85 → ∀ z89 : Int, 0 ≤ z89 → z89 ≤ 1 → S 125 [r32] [r77, r81, r85, [z89]] →
 ((((!(decide (z76 = 1)))) = true →
  K [r0, r32] [[0, 0, 0, 0, 0, 0, 0, 0, 0, 0, 0, 0, 0, 0, 0, 0, 0, 0, 0, 0, 0, 0, 0, 0, 0, 0, 0, 0, 0, 0, 0, 0], [1]]
 ) ∧ (((!(decide (z76 = 1)))) = false →
  ((((!(decide (z89 = 1)))) = true →
   K [r0, r32] [[0, 0, 0, 0, 0, 0, 0, 0, 0, 0, 0, 0, 0, 0, 0, 0, 0, 0, 0, 0, 0, 0, 0, 0, 0, 0, 0, 0, 0, 0, 0, 0], [1]]
  ) ∧ (((!(decide (z89 = 1)))) = false →
   ∀ r90 : List Int, inB (repB 0 18446744073709551615 4) r90 → ∀ r94 : List Int, inB (repB 0 18446744073709551615 4) r94 → ∀ r98 : List Int, inB (repB 0 18446744073709551615 4) r98 → S 122 [r64, r68, r72, r77, r81, r85] [r90, r94, r98] →
   ∀ r102 : List Int, inB (repB 0 255 32) r102 → S 124 [r90, r94, r98] [r102] →
   K [r0, r32] [r102, [0]]
  ))
 ))
theorem p_rcadd (G) : B_rcadd (SG G) (KB k_rcadd.res 128) := by
  unfold B_rcadd
  intro r0 i0 r32 i32 r64 i64 r68 i68 r72 i72 z76 a76 b76 s0 r77 i77 r81 i81 r85 i85 z89 a89 b89 s1
  have s0 : s_rread [r0] [r64, r68, r72, [z76]] := s0.1
  have s1 : s_rread [r32] [r77, r81, r85, [z89]] := s1.1
  refine ⟨fun h0 => ?_, fun h0 => ?_⟩
  · skip
    simp only [Bool.not_eq_true', Bool.not_eq_false', Bool.not_true, Bool.not_false, decide_eq_true_eq, decide_eq_false_iff_not] at h0
    have e := rrd_none s0 h0
    refine ⟨in_be in_zero32 (by decide), ?_⟩
    show RT _ _ _
    rw [e]
    exact ⟨rfl, by decide⟩
  · skip
    simp only [Bool.not_eq_true', Bool.not_eq_false', Bool.not_true, Bool.not_false, decide_eq_true_eq, decide_eq_false_iff_not] at h0
    refine ⟨fun h1 => ?_, fun h1 => ?_⟩
    · skip
      simp only [Bool.not_eq_true', Bool.not_eq_false', Bool.not_true, Bool.not_false, decide_eq_true_eq, decide_eq_false_iff_not] at h1
      obtain ⟨A1, e1, q1⟩ := rrd_some s0 h0
      have e := rrd_none s1 h1
      refine ⟨in_be in_zero32 (by decide), ?_⟩
      show RT _ _ _
      rw [e1, e]
      exact ⟨rfl, by decide⟩
    · skip
      simp only [Bool.not_eq_true', Bool.not_eq_false', Bool.not_true, Bool.not_false, decide_eq_true_eq, decide_eq_false_iff_not] at h1
      intro r90 i90 r94 i94 r98 i98 s2 r102 i102 s3
      have s2 : s_rcsum [r64, r68, r72, r77, r81, r85] [r90, r94, r98] := s2.1
      have s3 : s_rcbytes [r90, r94, r98] [r102] := s3.1
      obtain ⟨A1, e1, q1⟩ := rrd_some s0 h0
      obtain ⟨A2, e2, q2⟩ := rrd_some s1 h1
      have o1 := dec_on e1
      have o2 := dec_on e2
      have q := s2 _ _ o1 o2 q1 q2
      refine ⟨in_be i102 (by decide), ?_⟩
      show RT _ _ _
      rw [e1, e2]
      exact ⟨rfl, s3.trans (rep_enc (addP_on o1 o2) q)⟩

def B_rcneg (S : Nat → List (List Int) → List (List Int) → Prop) (K : List (List Int) → List (List Int) → Prop) : Prop :=
 ∀ r0 : List Int, inB (repB 0 255 32) r0 → 
 ∀ r32 : List Int, inB (repB 0 18446744073709551615 4) r32 → ∀ r36 : List Int, inB (repB 0 18446744073709551615 4) r36 → ∀ r40 : List Int, inB (repB 0 18446744073709551615 4) r40 → ∀ z44 : Int, 0 ≤ z44 → z44 ≤ 1 → S 125 [r0] [r32, r36, r40, [z44]] →
 ((((!(decide (z44 = 1)))) = true →
  K [r0] [[0, 0, 0, 0, 0, 0, 0, 0, 0, 0, 0, 0, 0, 0, 0, 0, 0, 0, 0, 0, 0, 0, 0, 0, 0, 0, 0, 0, 0, 0, 0, 0], [1]]
 ) ∧ (((!(decide (z44 = 1)))) = false →
  ∀ r45 : List Int, inB (repB 0 18446744073709551615 4) r45 → S 41 [[0, 0, 0, 0], r32] [r45] →
  ∀ r49 : List Int, inB (repB 0 255 32) r49 → S 124 [r45, r36, r40] [r49] →
  K [r0] [r49, [0]]
 ))
theorem p_rcneg (G) : B_rcneg (SG G) (KB k_rcneg.res 129) := by
  unfold B_rcneg
  intro r0 i0 r32 i32 r36 i36 r40 i40 z44 a44 b44 s0
  have s0 : s_rread [r0] [r32, r36, r40, [z44]] := s0.1
  refine ⟨fun h0 => ?_, fun h0 => ?_⟩
  · skip
    simp only [Bool.not_eq_true', Bool.not_eq_false', Bool.not_true, Bool.not_false, decide_eq_true_eq, decide_eq_false_iff_not] at h0
    have e := rrd_none s0 h0
    refine ⟨in_be in_zero32 (by decide), ?_⟩
    show RT _ _ _
    rw [e]
    exact ⟨rfl, by decide⟩
  · skip
    simp only [Bool.not_eq_true', Bool.not_eq_false', Bool.not_true, Bool.not_false, decide_eq_true_eq, decide_eq_false_iff_not] at h0
    intro r45 i45 s1 r49 i49 s2
    have s1 : nw r45 = (nw [0, 0, 0, 0] - nw r32 + (if nw [0, 0, 0, 0] < nw r32 then 57896044618658097711785492504343953926634992332820282019728792003956564819949 else 0)) % 115792089237316195423570985008687907853269984665640564039457584007913129639936 := s1.1
    have s2 : s_rcbytes [r45, r36, r40] [r49] := s2.1
    obtain ⟨A1, e1, q1⟩ := rrd_some s0 h0
    have o1 := dec_on e1
    refine ⟨in_be i49 (by decide), ?_⟩
    show RT _ _ _
    rw [e1]
    exact ⟨rfl, s2.trans (rep_enc (negP_on o1) (neg_rep (rneg (s1) (rrd_r s0 e1)) q1))⟩

def B_rctimes (S : Nat → List (List Int) → List (List Int) → Prop) (K : List (List Int) → List (List Int) → Prop) : Prop :=
 ∀ r0 : List Int, inB (repB 0 255 32) r0 → ∀ r32 : List Int, inB (repB 0 255 32) r32 → 
 ∀ r64 : List Int, inB (repB 0 18446744073709551615 4) r64 → ∀ r68 : List Int, inB (repB 0 18446744073709551615 4) r68 → ∀ r72 : List Int, inB (repB 0 18446744073709551615 4) r72 → ∀ z76 : Int, 0 ≤ z76 → z76 ≤ 1 → S 125 [r32] [r64, r68, r72, [z76]] →
 ((((!(decide (z76 = 1)))) = true →
  K [r0, r32] [[0, 0, 0, 0, 0, 0, 0, 0, 0, 0, 0, 0, 0, 0, 0, 0, 0, 0, 0, 0, 0, 0, 0, 0, 0, 0, 0, 0, 0, 0, 0, 0], [1]]
 ) ∧ (((!(decide (z76 = 1)))) = false →
  ∀ r77 : List Int, inB (repB 0 18446744073709551615 4) r77 → ∀ r81 : List Int, inB (repB 0 18446744073709551615 4) r81 → ∀ r85 : List Int, inB (repB 0 18446744073709551615 4) r85 → S 123 [r0, r64, r68, r72] [r77, r81, r85] →
  ∀ r89 : List Int, inB (repB 0 255 32) r89 → S 124 [r77, r81, r85] [r89] →
  K [r0, r32] [r89, [0]]
 ))
theorem p_rctimes (G) : B_rctimes (SG G) (KB k_rctimes.res 130) := by
  unfold B_rctimes
  intro r0 i0 r32 i32 r64 i64 r68 i68 r72 i72 z76 a76 b76 s0
  have s0 : s_rread [r32] [r64, r68, r72, [z76]] := s0.1
  refine ⟨fun h0 => ?_, fun h0 => ?_⟩
  · skip
    simp only [Bool.not_eq_true', Bool.not_eq_false', Bool.not_true, Bool.not_false, decide_eq_true_eq, decide_eq_false_iff_not] at h0
    have e := rrd_none s0 h0
    refine ⟨in_be in_zero32 (by decide), ?_⟩
    show RT _ _ _
    rw [e]
    exact ⟨rfl, by decide⟩
  · skip
    simp only [Bool.not_eq_true', Bool.not_eq_false', Bool.not_true, Bool.not_false, decide_eq_true_eq, decide_eq_false_iff_not] at h0
    intro r77 i77 r81 i81 r85 i85 s1 r89 i89 s2
    have s1 : s_rmany [r0, r64, r68, r72] [r77, r81, r85] := s1.1
    have s2 : s_rcbytes [r77, r81, r85] [r89] := s2.1
    obtain ⟨A1, e1, q1⟩ := rrd_some s0 h0
    have o1 := dec_on e1
    refine ⟨in_be i89 (by decide), ?_⟩
    show RT _ _ _
    rw [e1]
    exact ⟨rfl, s2.trans (rep_enc (mulP_on o1 _) (s1 _ o1 q1))⟩

def B_rbase (S : Nat → List (List Int) → List (List Int) → Prop) (K : List (List Int) → List (List Int) → Prop) : Prop :=
 ∀ r0 : List Int, inB (repB 0 255 32) r0 → 
 ∀ r32 : List Int, inB (repB 0 18446744073709551615 4) r32 → ∀ r36 : List Int, inB (repB 0 18446744073709551615 4) r36 → ∀ r40 : List Int, inB (repB 0 18446744073709551615 4) r40 → S 126 [] [r32, r36, r40] →
 ∀ r44 : List Int, inB (repB 0 18446744073709551615 4) r44 → ∀ r48 : List Int, inB (repB 0 18446744073709551615 4) r48 → ∀ r52 : List Int, inB (repB 0 18446744073709551615 4) r52 → S 123 [r0, r32, r36, r40] [r44, r48, r52] →
 ∀ r56 : List Int, inB (repB 0 255 32) r56 → S 124 [r44, r48, r52] [r56] →
 K [r0] [r56]
theorem p_rbase (G) : B_rbase (SG G) (KB k_rbase.res 131) := by
  unfold B_rbase
  intro r0 i0 r32 i32 r36 i36 r40 i40 s0 r44 i44 r48 i48 r52 i52 s1 r56 i56 s2
  have s0 : s_rfirst [] [r32, r36, r40] := s0.1
  have s1 : s_rmany [r0, r32, r36, r40] [r44, r48, r52] := s1.1
  have s2 : s_rcbytes [r44, r48, r52] [r56] := s2.1
  exact ⟨app_nil i56, s2.trans (rep_enc (mulP_on base_on _) (s1 _ base_on (first_rep s0)))⟩

def B_rcmix (S : Nat → List (List Int) → List (List Int) → Prop) (K : List (List Int) → List (List Int) → Prop) : Prop :=
 ∀ r0 : List Int, inB (repB 0 255 32) r0 → ∀ r32 : List Int, inB (repB 0 255 32) r32 → ∀ r64 : List Int, inB (repB 0 255 32) r64 → 
 ∀ r96 : List Int, inB (repB 0 18446744073709551615 4) r96 → ∀ r100 : List Int, inB (repB 0 18446744073709551615 4) r100 → ∀ r104 : List Int, inB (repB 0 18446744073709551615 4) r104 → ∀ z108 : Int, 0 ≤ z108 → z108 ≤ 1 → S 125 [r32] [r96, r100, r104, [z108]] →
 ((((!(decide (z108 = 1)))) = true →
  K [r0, r32, r64] [[0, 0, 0, 0, 0, 0, 0, 0, 0, 0, 0, 0, 0, 0, 0, 0, 0, 0, 0, 0, 0, 0, 0, 0, 0, 0, 0, 0, 0, 0, 0, 0], [1]]
 ) ∧ (((!(decide (z108 = 1)))) = false →
  ∀ r109 : List Int, inB (repB 0 18446744073709551615 4) r109 → ∀ r113 : List Int, inB (repB 0 18446744073709551615 4) r113 → ∀ r117 : List Int, inB (repB 0 18446744073709551615 4) r117 → S 123 [r0, r96, r100, r104] [r109, r113, r117] →
  ∀ r121 : List Int, inB (repB 0 18446744073709551615 4) r121 → ∀ r125 : List Int, inB (repB 0 18446744073709551615 4) r125 → ∀ r129 : List Int, inB (repB 0 18446744073709551615 4) r129 → S 126 [] [r121, r125, r129] →
  ∀ r133 : List Int, inB (repB 0 18446744073709551615 4) r133 → ∀ r137 : List Int, inB (repB 0 18446744073709551615 4) r137 → ∀ r141 : List Int, inB (repB 0 18446744073709551615 4) r141 → S 123 [r64, r121, r125, r129] [r133, r137, r141] →
  ∀ r145 : List Int, inB (repB 0 18446744073709551615 4) r145 → ∀ r149 : List Int, inB (repB 0 18446744073709551615 4) r149 → ∀ r153 : List Int, inB (repB 0 18446744073709551615 4) r153 → S 122 [r109, r113, r117, r133, r137, r141] [r145, r149, r153] →
  ∀ r157 : List Int, inB (repB 0 255 32) r157 → S 124 [r145, r149, r153] [r157] →
  K [r0, r32, r64] [r157, [0]]
 ))
theorem p_rcmix (G) : B_rcmix (SG G) (KB k_rcmix.res 132) := by
  unfold B_rcmix
  intro r0 i0 r32 i32 r64 i64 r96 i96 r100 i100 r104 i104 z108 a108 b108 s0
  have s0 : s_rread [r32] [r96, r100, r104, [z108]] := s0.1
  refine ⟨fun h0 => ?_, fun h0 => ?_⟩
  · skip
    simp only [Bool.not_eq_true', Bool.not_eq_false', Bool.not_true, Bool.not_false, decide_eq_true_eq, decide_eq_false_iff_not] at h0
    have e := rrd_none s0 h0
    refine ⟨in_be in_zero32 (by decide), ?_⟩
    show RT _ _ _
    rw [e]
    exact ⟨rfl, by decide⟩
  · skip
    simp only [Bool.not_eq_true', Bool.not_eq_false', Bool.not_true, Bool.not_false, decide_eq_true_eq, decide_eq_false_iff_not] at h0
    intro r109 i109 r113 i113 r117 i117 s1 r121 i121 r125 i125 r129 i129 s2 r133 i133 r137 i137 r141 i141 s3 r145 i145 r149 i149 r153 i153 s4 r157 i157 s5
    have s1 : s_rmany [r0, r96, r100, r104] [r109, r113, r117] := s1.1
    have s2 : s_rfirst [] [r121, r125, r129] := s2.1
    have s3 : s_rmany [r64, r121, r125, r129] [r133, r137, r141] := s3.1
    have s4 : s_rcsum [r109, r113, r117, r133, r137, r141] [r145, r149, r153] := s4.1
    have s5 : s_rcbytes [r145, r149, r153] [r157] := s5.1
    obtain ⟨A1, e1, q1⟩ := rrd_some s0 h0
    have o1 := dec_on e1
    refine ⟨in_be i157 (by decide), ?_⟩
    show RT _ _ _
    rw [e1]
    have k1 := s1 _ o1 q1
    have k2 := s3 _ base_on (first_rep s2)
    exact ⟨rfl, s5.trans (rep_enc (addP_on (mulP_on o1 _) (mulP_on base_on _)) (s4 _ _ (mulP_on o1 _) (mulP_on base_on _) k1 k2))⟩

def B_rl (S : Nat → List (List Int) → List (List Int) → Prop) (K : List (List Int) → List (List Int) → Prop) : Prop :=
 
 K [] [[6346243789798364141, 1503914060200516822, 0, 1152921504606846976]]
theorem p_rl (G) : B_rl (SG G) (KB k_rl.res 133) := by
  unfold B_rl
  exact ⟨by simp [k_rl, bdsL, D.bds, n4, inB, repB], by show nw _ = (ordL : Int); decide⟩
end Go.Fd
