/- FdVcE: a part of the proof of statements of this seat. -/
import Derived.Test.YtjngbbnmcadolaaDoorFdMath
set_option linter.unusedVariables false
set_option linter.unusedSimpArgs false
set_option maxRecDepth 20000
namespace Go.Fd
open Go.Rx
theorem in_z0 : inB (repB 0 255 32) [0, 0, 0, 0, 0, 0, 0, 0, 0, 0, 0, 0, 0, 0, 0, 0, 0, 0, 0, 0, 0, 0, 0, 0, 0, 0, 0, 0, 0, 0, 0, 0] := by simp [repB, inB]
theorem nb_z0 : nb [0, 0, 0, 0, 0, 0, 0, 0, 0, 0, 0, 0, 0, 0, 0, 0, 0, 0, 0, 0, 0, 0, 0, 0, 0, 0, 0, 0, 0, 0, 0, 0] = 0 := by decide
theorem in_z1 : inB (repB 0 255 32) [1, 0, 0, 0, 0, 0, 0, 0, 0, 0, 0, 0, 0, 0, 0, 0, 0, 0, 0, 0, 0, 0, 0, 0, 0, 0, 0, 0, 0, 0, 0, 0] := by simp [repB, inB]
theorem nb_z1 : nb [1, 0, 0, 0, 0, 0, 0, 0, 0, 0, 0, 0, 0, 0, 0, 0, 0, 0, 0, 0, 0, 0, 0, 0, 0, 0, 0, 0, 0, 0, 0, 0] = 1 := by decide
theorem in_z2 : inB (repB 0 255 32) [2, 0, 0, 0, 0, 0, 0, 0, 0, 0, 0, 0, 0, 0, 0, 0, 0, 0, 0, 0, 0, 0, 0, 0, 0, 0, 0, 0, 0, 0, 0, 0] := by simp [repB, inB]
theorem nb_z2 : nb [2, 0, 0, 0, 0, 0, 0, 0, 0, 0, 0, 0, 0, 0, 0, 0, 0, 0, 0, 0, 0, 0, 0, 0, 0, 0, 0, 0, 0, 0, 0, 0] = 2 := by decide
theorem in_z3 : inB (repB 0 255 32) [3, 0, 0, 0, 0, 0, 0, 0, 0, 0, 0, 0, 0, 0, 0, 0, 0, 0, 0, 0, 0, 0, 0, 0, 0, 0, 0, 0, 0, 0, 0, 0] := by simp [repB, inB]
theorem nb_z3 : nb [3, 0, 0, 0, 0, 0, 0, 0, 0, 0, 0, 0, 0, 0, 0, 0, 0, 0, 0, 0, 0, 0, 0, 0, 0, 0, 0, 0, 0, 0, 0, 0] = 3 := by decide
theorem in_z4 : inB (repB 0 255 32) [4, 0, 0, 0, 0, 0, 0, 0, 0, 0, 0, 0, 0, 0, 0, 0, 0, 0, 0, 0, 0, 0, 0, 0, 0, 0, 0, 0, 0, 0, 0, 0] := by simp [repB, inB]
theorem nb_z4 : nb [4, 0, 0, 0, 0, 0, 0, 0, 0, 0, 0, 0, 0, 0, 0, 0, 0, 0, 0, 0, 0, 0, 0, 0, 0, 0, 0, 0, 0, 0, 0, 0] = 4 := by decide
theorem in_z5 : inB (repB 0 255 32) [5, 0, 0, 0, 0, 0, 0, 0, 0, 0, 0, 0, 0, 0, 0, 0, 0, 0, 0, 0, 0, 0, 0, 0, 0, 0, 0, 0, 0, 0, 0, 0] := by simp [repB, inB]
theorem nb_z5 : nb [5, 0, 0, 0, 0, 0, 0, 0, 0, 0, 0, 0, 0, 0, 0, 0, 0, 0, 0, 0, 0, 0, 0, 0, 0, 0, 0, 0, 0, 0, 0, 0] = 5 := by decide
theorem in_z10 : inB (repB 0 255 32) [10, 0, 0, 0, 0, 0, 0, 0, 0, 0, 0, 0, 0, 0, 0, 0, 0, 0, 0, 0, 0, 0, 0, 0, 0, 0, 0, 0, 0, 0, 0, 0] := by simp [repB, inB]
theorem nb_z10 : nb [10, 0, 0, 0, 0, 0, 0, 0, 0, 0, 0, 0, 0, 0, 0, 0, 0, 0, 0, 0, 0, 0, 0, 0, 0, 0, 0, 0, 0, 0, 0, 0] = 10 := by decide
theorem in_z15 : inB (repB 0 255 32) [15, 0, 0, 0, 0, 0, 0, 0, 0, 0, 0, 0, 0, 0, 0, 0, 0, 0, 0, 0, 0, 0, 0, 0, 0, 0, 0, 0, 0, 0, 0, 0] := by simp [repB, inB]
theorem nb_z15 : nb [15, 0, 0, 0, 0, 0, 0, 0, 0, 0, 0, 0, 0, 0, 0, 0, 0, 0, 0, 0, 0, 0, 0, 0, 0, 0, 0, 0, 0, 0, 0, 0] = 15 := by decide
theorem kt_alive : KB k_alive.res 10 [] [[1]] := ⟨by simp [k_alive, bdsL, D.bds, inB], rfl⟩
theorem kt_lone {a0 : List Int} : KB k_lone.res 3 [a0] [[1]] := ⟨by simp [k_lone, bdsL, D.bds, inB], rfl⟩
theorem kt_llaws {a0 a1 a2 : List Int} : KB k_llaws.res 4 [a0, a1, a2] [[1]] := ⟨by simp [k_llaws, bdsL, D.bds, inB], rfl⟩
theorem kt_lproducts {a0 a1 : List Int} : KB k_lproducts.res 5 [a0, a1] [[1]] := ⟨by simp [k_lproducts, bdsL, D.bds, inB], rfl⟩
theorem kt_lroots {a0 : List Int} : KB k_lroots.res 6 [a0] [[1]] := ⟨by simp [k_lroots, bdsL, D.bds, inB], rfl⟩
theorem kt_lsums {a0 a1 : List Int} : KB k_lsums.res 7 [a0, a1] [[1]] := ⟨by simp [k_lsums, bdsL, D.bds, inB], rfl⟩
theorem kt_lsteps {a0 a1 a2 : List Int} : KB k_lsteps.res 8 [a0, a1, a2] [[1]] := ⟨by simp [k_lsteps, bdsL, D.bds, inB], rfl⟩
theorem kt_lpowers {a0 a1 : List Int} : KB k_lpowers.res 9 [a0, a1] [[1]] := ⟨by simp [k_lpowers, bdsL, D.bds, inB], rfl⟩
def B_alive (S : Nat → List (List Int) → List (List Int) → Prop) (K : List (List Int) → List (List Int) → Prop) : Prop :=
 
 ∀ r0 : List Int, inB (repB 0 18446744073709551615 4) r0 → S 28 [] [r0] →
 ∀ r4 : List Int, inB (repB 0 255 32) r4 → S 27 [r0] [r4] →
 ∀ r36 : List Int, inB (repB 0 255 32) r36 → ∀ z68 : Int, 0 ≤ z68 → z68 ≤ 1 → S 11 [[4, 0, 0, 0, 0, 0, 0, 0, 0, 0, 0, 0, 0, 0, 0, 0, 0, 0, 0, 0, 0, 0, 0, 0, 0, 0, 0, 0, 0, 0, 0, 0]] [r36, [z68]] →
 ∀ r69 : List Int, inB (repB 0 255 32) r69 → ∀ z101 : Int, 0 ≤ z101 → z101 ≤ 1 → S 11 [[2, 0, 0, 0, 0, 0, 0, 0, 0, 0, 0, 0, 0, 0, 0, 0, 0, 0, 0, 0, 0, 0, 0, 0, 0, 0, 0, 0, 0, 0, 0, 0]] [r69, [z101]] →
 ∀ r102 : List Int, inB (repB 0 255 32) r102 → S 14 [r4] [r102] →
 (((decide (r102 = [0, 0, 0, 0, 0, 0, 0, 0, 0, 0, 0, 0, 0, 0, 0, 0, 0, 0, 0, 0, 0, 0, 0, 0, 0, 0, 0, 0, 0, 0, 0, 0])) = true →
  ∀ r134 : List Int, inB (repB 0 255 32) r134 → S 15 [r4, [1, 0, 0, 0, 0, 0, 0, 0, 0, 0, 0, 0, 0, 0, 0, 0, 0, 0, 0, 0, 0, 0, 0, 0, 0, 0, 0, 0, 0, 0, 0, 0]] [r134] →
  (((decide (r134 = [1, 0, 0, 0, 0, 0, 0, 0, 0, 0, 0, 0, 0, 0, 0, 0, 0, 0, 0, 0, 0, 0, 0, 0, 0, 0, 0, 0, 0, 0, 0, 0])) = true →
   (((decide (z68 = 1)) = true →
    (((decide (r36 = [2, 0, 0, 0, 0, 0, 0, 0, 0, 0, 0, 0, 0, 0, 0, 0, 0, 0, 0, 0, 0, 0, 0, 0, 0, 0, 0, 0, 0, 0, 0, 0])) = true →
     ((((!(decide (z101 = 1)))) = true →
      ∀ r166 : List Int, inB (repB 0 255 32) r166 → S 13 [[3, 0, 0, 0, 0, 0, 0, 0, 0, 0, 0, 0, 0, 0, 0, 0, 0, 0, 0, 0, 0, 0, 0, 0, 0, 0, 0, 0, 0, 0, 0, 0], [5, 0, 0, 0, 0, 0, 0, 0, 0, 0, 0, 0, 0, 0, 0, 0, 0, 0, 0, 0, 0, 0, 0, 0, 0, 0, 0, 0, 0, 0, 0, 0]] [r166] →
      (((decide (r166 = [15, 0, 0, 0, 0, 0, 0, 0, 0, 0, 0, 0, 0, 0, 0, 0, 0, 0, 0, 0, 0, 0, 0, 0, 0, 0, 0, 0, 0, 0, 0, 0])) = true →
       ∀ z198 : Int, 0 ≤ z198 → z198 ≤ 1 → S 22 [r4] [[z198]] →
       K [] [[(cond ((!(decide (z198 = 1)))) 1 0)]]
      ) ∧ ((decide (r166 = [15, 0, 0, 0, 0, 0, 0, 0, 0, 0, 0, 0, 0, 0, 0, 0, 0, 0, 0, 0, 0, 0, 0, 0, 0, 0, 0, 0, 0, 0, 0, 0])) = false →
       K [] [[(cond (false) 1 0)]]
      ))
     ) ∧ (((!(decide (z101 = 1)))) = false →
      K [] [[(cond (false) 1 0)]]
     ))
    ) ∧ ((decide (r36 = [2, 0, 0, 0, 0, 0, 0, 0, 0, 0, 0, 0, 0, 0, 0, 0, 0, 0, 0, 0, 0, 0, 0, 0, 0, 0, 0, 0, 0, 0, 0, 0])) = false →
     K [] [[(cond (false) 1 0)]]
    ))
   ) ∧ ((decide (z68 = 1)) = false →
    K [] [[(cond (false) 1 0)]]
   ))
  ) ∧ ((decide (r134 = [1, 0, 0, 0, 0, 0, 0, 0, 0, 0, 0, 0, 0, 0, 0, 0, 0, 0, 0, 0, 0, 0, 0, 0, 0, 0, 0, 0, 0, 0, 0, 0])) = false →
   K [] [[(cond (false) 1 0)]]
  ))
 ) ∧ ((decide (r102 = [0, 0, 0, 0, 0, 0, 0, 0, 0, 0, 0, 0, 0, 0, 0, 0, 0, 0, 0, 0, 0, 0, 0, 0, 0, 0, 0, 0, 0, 0, 0, 0])) = false →
  K [] [[(cond (false) 1 0)]]
 ))
theorem p_alive (G) : B_alive (SG G) (KB k_alive.res 10) := by
  unfold B_alive
  intro r0 i0 s0 r4 i4 s1 r36 i36 z68 a68 b68 s2 r69 i69 z101 a101 b101 s3 r102 i102 s4
  have s0 : nw r0 = 57896044618658097711785492504343953926634992332820282019728792003956564819949 := s0.1
  have s1 : nb r4 = nw r0 := s1.1
  have s2 : (nb r36, z68) = sqP (nb [4, 0, 0, 0, 0, 0, 0, 0, 0, 0, 0, 0, 0, 0, 0, 0, 0, 0, 0, 0, 0, 0, 0, 0, 0, 0, 0, 0, 0, 0, 0, 0] % 57896044618658097711785492504343953926634992332820282019728792003956564819949) := s2.1
  have s3 : (nb r69, z101) = sqP (nb [2, 0, 0, 0, 0, 0, 0, 0, 0, 0, 0, 0, 0, 0, 0, 0, 0, 0, 0, 0, 0, 0, 0, 0, 0, 0, 0, 0, 0, 0, 0, 0] % 57896044618658097711785492504343953926634992332820282019728792003956564819949) := s3.1
  have s4 : nb r102 = nb r4 % 57896044618658097711785492504343953926634992332820282019728792003956564819949 := s4.1
  have g4 : nb r4 = 57896044618658097711785492504343953926634992332820282019728792003956564819949 := s1.trans s0
  rw [nb_z4] at s2
  have x4 : ((2 : Int) * 2) % 57896044618658097711785492504343953926634992332820282019728792003956564819949 = 4 % 57896044618658097711785492504343953926634992332820282019728792003956564819949 := by decide
  obtain ⟨q, hq, hr⟩ := sqP_some x4
  rw [hq] at s2
  simp only [Prod.mk.injEq] at s2
  have hq2 : q = 2 := root_uniq hr ⟨by decide, by decide, by decide, by decide⟩
  have e36 := nb_inj i36 in_z2 (by rw [s2.1, hq2, nb_z2])
  rw [nb_z2] at s3
  have no2 : z101 ≠ 1 := by
    intro h
    have h2 : (sqP (2 % 57896044618658097711785492504343953926634992332820282019728792003956564819949)).2 = 1 := by rw [← s3]; exact h
    have h3 := (euler (a := 2) (by decide)).1 h2
    have h4 := pw_nat 2 eH (by decide)
    rw [show pw 2 eH = pw ((2 : Nat) : Int) eH by rfl, h4] at h3
    revert h3
    decide +kernel
  have e102 := nb_inj i102 in_z0 (by rw [s4, g4, nb_z0]; decide)
  refine ⟨fun _ => ?_, fun h => absurd (e102) (by simpa using h)⟩
  intro r134 i134 s5
  have s5 : nb r134 = (nb r4 + nb [1, 0, 0, 0, 0, 0, 0, 0, 0, 0, 0, 0, 0, 0, 0, 0, 0, 0, 0, 0, 0, 0, 0, 0, 0, 0, 0, 0, 0, 0, 0, 0]) % 57896044618658097711785492504343953926634992332820282019728792003956564819949 := s5.1
  have e134 := nb_inj i134 in_z1 (by rw [s5, g4, nb_z1]; decide)
  refine ⟨fun _ => ?_, fun h => absurd (e134) (by simpa using h)⟩
  refine ⟨fun _ => ?_, fun h => absurd (s2.2) (by simpa using h)⟩
  refine ⟨fun _ => ?_, fun h => absurd (e36) (by simpa using h)⟩
  refine ⟨fun _ => ?_, fun h => absurd (no2) (by simpa using h)⟩
  intro r166 i166 s6
  have s6 : nb r166 = nb [3, 0, 0, 0, 0, 0, 0, 0, 0, 0, 0, 0, 0, 0, 0, 0, 0, 0, 0, 0, 0, 0, 0, 0, 0, 0, 0, 0, 0, 0, 0, 0] * nb [5, 0, 0, 0, 0, 0, 0, 0, 0, 0, 0, 0, 0, 0, 0, 0, 0, 0, 0, 0, 0, 0, 0, 0, 0, 0, 0, 0, 0, 0, 0, 0] % 57896044618658097711785492504343953926634992332820282019728792003956564819949 := s6.1
  have e166 := nb_inj i166 in_z15 (by rw [s6, nb_z3, nb_z5, nb_z15]; decide)
  refine ⟨fun _ => ?_, fun h => absurd (e166) (by simpa using h)⟩
  intro z198 a198 b198 s7
  have s7 : z198 = bit (nb r4 < 57896044618658097711785492504343953926634992332820282019728792003956564819949) := s7.1
  have e198 : z198 = 0 := by rw [s7, g4]; exact bit_f (by decide)
  subst e198
  exact kt_alive

def B_lone (S : Nat → List (List Int) → List (List Int) → Prop) (K : List (List Int) → List (List Int) → Prop) : Prop :=
 ∀ r0 : List Int, inB (repB 0 255 32) r0 → 
 ∀ z32 : Int, 0 ≤ z32 → z32 ≤ 1 → S 10 [] [[z32]] →
 ((((!(decide (z32 = 1)))) = true →
  K [r0] [[(cond (false) 1 0)]]
 ) ∧ (((!(decide (z32 = 1)))) = false →
  ∀ r33 : List Int, inB (repB 0 255 32) r33 → S 12 [[0, 0, 0, 0, 0, 0, 0, 0, 0, 0, 0, 0, 0, 0, 0, 0, 0, 0, 0, 0, 0, 0, 0, 0, 0, 0, 0, 0, 0, 0, 0, 0], [1, 0, 0, 0, 0, 0, 0, 0, 0, 0, 0, 0, 0, 0, 0, 0, 0, 0, 0, 0, 0, 0, 0, 0, 0, 0, 0, 0, 0, 0, 0, 0]] [r33] →
  ∀ r65 : List Int, inB (repB 0 255 32) r65 → ∀ z97 : Int, 0 ≤ z97 → z97 ≤ 1 → S 11 [r33] [r65, [z97]] →
  ∀ r98 : List Int, inB (repB 0 255 32) r98 → ∀ z130 : Int, 0 ≤ z130 → z130 ≤ 1 → S 11 [r0] [r98, [z130]] →
  ∀ r131 : List Int, inB (repB 0 255 32) r131 → S 13 [r0, r65] [r131] →
  ∀ r163 : List Int, inB (repB 0 255 32) r163 → ∀ z195 : Int, 0 ≤ z195 → z195 ≤ 1 → S 11 [r131] [r163, [z195]] →
  ∀ r196 : List Int, inB (repB 0 255 32) r196 → S 12 [[0, 0, 0, 0, 0, 0, 0, 0, 0, 0, 0, 0, 0, 0, 0, 0, 0, 0, 0, 0, 0, 0, 0, 0, 0, 0, 0, 0, 0, 0, 0, 0], r0] [r196] →
  ∀ r228 : List Int, inB (repB 0 255 32) r228 → ∀ z260 : Int, 0 ≤ z260 → z260 ≤ 1 → S 11 [r196] [r228, [z260]] →
  ∀ r261 : List Int, inB (repB 0 255 32) r261 → S 14 [r0] [r261] →
  (((decide (r261 = [0, 0, 0, 0, 0, 0, 0, 0, 0, 0, 0, 0, 0, 0, 0, 0, 0, 0, 0, 0, 0, 0, 0, 0, 0, 0, 0, 0, 0, 0, 0, 0])) = true →
   (((decide (z97 = 1)) = true →
    (((decide (z130 = 1)) = true →
     (((decide (z195 = 1)) = true →
      K [r0] [[(cond (decide (z260 = 1)) 1 0)]]
     ) ∧ ((decide (z195 = 1)) = false →
      K [r0] [[(cond (false) 1 0)]]
     ))
    ) ∧ ((decide (z130 = 1)) = false →
     K [r0] [[(cond (false) 1 0)]]
    ))
   ) ∧ ((decide (z97 = 1)) = false →
    K [r0] [[(cond (false) 1 0)]]
   ))
  ) ∧ ((decide (r261 = [0, 0, 0, 0, 0, 0, 0, 0, 0, 0, 0, 0, 0, 0, 0, 0, 0, 0, 0, 0, 0, 0, 0, 0, 0, 0, 0, 0, 0, 0, 0, 0])) = false →
   (((decide (z97 = 1)) = true →
    ((((!(((decide (z130 = 1)) == (decide (z195 = 1)))))) = true →
     K [r0] [[(cond (((decide (z130 = 1)) == (decide (z260 = 1)))) 1 0)]]
    ) ∧ (((!(((decide (z130 = 1)) == (decide (z195 = 1)))))) = false →
     K [r0] [[(cond (false) 1 0)]]
    ))
   ) ∧ ((decide (z97 = 1)) = false →
    K [r0] [[(cond (false) 1 0)]]
   ))
  ))
 ))
theorem p_lone (G) : B_lone (SG G) (KB k_lone.res 3) := by
  unfold B_lone
  intro r0 i0 z32 a32 b32 s0
  have s0 : z32 = 1 := s0.1
  refine ⟨fun h => absurd (s0) (by simpa using h), fun _ => ?_⟩
  intro r33 i33 s1 r65 i65 z97 a97 b97 s2 r98 i98 z130 a130 b130 s3 r131 i131 s4 r163 i163 z195 a195 b195 s5 r196 i196 s6 r228 i228 z260 a260 b260 s7 r261 i261 s8
  have s1 : nb r33 = (nb [0, 0, 0, 0, 0, 0, 0, 0, 0, 0, 0, 0, 0, 0, 0, 0, 0, 0, 0, 0, 0, 0, 0, 0, 0, 0, 0, 0, 0, 0, 0, 0] - nb [1, 0, 0, 0, 0, 0, 0, 0, 0, 0, 0, 0, 0, 0, 0, 0, 0, 0, 0, 0, 0, 0, 0, 0, 0, 0, 0, 0, 0, 0, 0, 0]) % 57896044618658097711785492504343953926634992332820282019728792003956564819949 := s1.1
  have s2 : (nb r65, z97) = sqP (nb r33 % 57896044618658097711785492504343953926634992332820282019728792003956564819949) := s2.1
  have s3 : (nb r98, z130) = sqP (nb r0 % 57896044618658097711785492504343953926634992332820282019728792003956564819949) := s3.1
  have s4 : nb r131 = nb r0 * nb r65 % 57896044618658097711785492504343953926634992332820282019728792003956564819949 := s4.1
  have s5 : (nb r163, z195) = sqP (nb r131 % 57896044618658097711785492504343953926634992332820282019728792003956564819949) := s5.1
  have s6 : nb r196 = (nb [0, 0, 0, 0, 0, 0, 0, 0, 0, 0, 0, 0, 0, 0, 0, 0, 0, 0, 0, 0, 0, 0, 0, 0, 0, 0, 0, 0, 0, 0, 0, 0] - nb r0) % 57896044618658097711785492504343953926634992332820282019728792003956564819949 := s6.1
  have s7 : (nb r228, z260) = sqP (nb r196 % 57896044618658097711785492504343953926634992332820282019728792003956564819949) := s7.1
  have s8 : nb r261 = nb r0 % 57896044618658097711785492504343953926634992332820282019728792003956564819949 := s8.1
  rw [nb_z0, nb_z1] at s1
  have g33 : nb r33 = 57896044618658097711785492504343953926634992332820282019728792003956564819948 := by rw [s1]; decide
  rw [g33] at s2
  have xt : turn * turn % 57896044618658097711785492504343953926634992332820282019728792003956564819949 = 57896044618658097711785492504343953926634992332820282019728792003956564819948 % 57896044618658097711785492504343953926634992332820282019728792003956564819949 := by rw [turn_sq]; decide
  obtain ⟨q, hq, hr⟩ := sqP_some xt
  rw [hq] at s2
  simp only [Prod.mk.injEq] at s2
  obtain ⟨s2a, s2b⟩ := s2
  subst s2a
  have hi : nb r65 * nb r65 % 57896044618658097711785492504343953926634992332820282019728792003956564819949 = 57896044618658097711785492504343953926634992332820282019728792003956564819948 := by rw [hr.2.2.2]; decide
  rw [nb_z0] at s6
  have f3 : z130 = (sqP (nb r0 % 57896044618658097711785492504343953926634992332820282019728792003956564819949)).2 := by rw [← s3]
  have f5 : z195 = (sqP (nb r131 % 57896044618658097711785492504343953926634992332820282019728792003956564819949)).2 := by rw [← s5]
  have f7 : z260 = (sqP (nb r196 % 57896044618658097711785492504343953926634992332820282019728792003956564819949)).2 := by rw [← s7]
  refine ⟨fun h => ?_, fun h => ?_⟩
  · simp only [Bool.not_eq_true', Bool.not_eq_false', decide_eq_true_eq, decide_eq_false_iff_not] at h
    have g : nb r0 % 57896044618658097711785492504343953926634992332820282019728792003956564819949 = 0 := by rw [← s8, h, nb_z0]
    have g131 : nb r131 % 57896044618658097711785492504343953926634992332820282019728792003956564819949 = 0 := by rw [s4, Int.emod_emod, Int.mul_emod, g, Int.zero_mul]; rfl
    have g196 : nb r196 % 57896044618658097711785492504343953926634992332820282019728792003956564819949 = 0 := by rw [s6]; omega
    have z0 : (sqP 0).2 = 1 := by
      obtain ⟨q, hq, _⟩ := sqP_some (a := 0) (x := 0) (by decide)
      have hq' : sqP 0 = (q, 1) := hq
      rw [hq']
    rw [g, z0] at f3
    rw [g131, z0] at f5
    rw [g196, z0] at f7
    refine ⟨fun _ => ?_, fun h => absurd (s2b) (by simpa using h)⟩
    refine ⟨fun _ => ?_, fun h => absurd (f3) (by simpa using h)⟩
    refine ⟨fun _ => ?_, fun h => absurd (f5) (by simpa using h)⟩
    rw [decide_eq_true f7]
    exact kt_lone
  · simp only [Bool.not_eq_true', Bool.not_eq_false', decide_eq_true_eq, decide_eq_false_iff_not] at h
    have g : nb r0 % 57896044618658097711785492504343953926634992332820282019728792003956564819949 ≠ 0 := fun g0 => h (nb_inj i261 in_z0 (by rw [s8, g0, nb_z0]))
    have gi : nb r65 % 57896044618658097711785492504343953926634992332820282019728792003956564819949 ≠ 0 := fun g0 => by
      rw [Int.mul_emod, g0] at hi
      exact absurd hi (by decide)
    have g131 : nb r131 % 57896044618658097711785492504343953926634992332820282019728792003956564819949 ≠ 0 := fun g0 => by
      rw [s4, Int.emod_emod] at g0
      rcases no_zero g0 with h1 | h1
      · exact g h1
      · exact gi h1
    have g196 : nb r196 % 57896044618658097711785492504343953926634992332820282019728792003956564819949 ≠ 0 := fun g0 => by
      rw [s6, Int.emod_emod] at g0
      apply g
      clear s3 s4 s5 s6 s7 f3 f5 f7 hi hr
      omega
    have p131 : pw (nb r131) eH = pw (nb r0) eH * 57896044618658097711785492504343953926634992332820282019728792003956564819948 % 57896044618658097711785492504343953926634992332820282019728792003956564819949 := by rw [s4, pw_mod, mul_pw, root_i hi]
    have p196 : pw (nb r196) eH = pw (nb r0) eH := by
      rw [s6, pw_mod, show 0 - nb r0 = nb r0 * (-1) by omega, mul_pw]
      have : pw (-1) eH = 1 := (pw_of_mod (by decide) eH).trans pwn1_h
      rw [this, Int.mul_one, pw_self]
    have k3 := euler g
    have k5 := euler g131
    have k7 := euler g196
    rw [p131] at k5
    rw [p196] at k7
    rw [← f3] at k3
    rw [← f5] at k5
    rw [← f7] at k7
    have c3 := sqP_01 (nb r0)
    have c5 := sqP_01 (nb r131)
    have c7 := sqP_01 (nb r196)
    rw [← f3] at c3
    rw [← f5] at c5
    rw [← f7] at c7
    have e37 : z130 = z260 := by
      rcases c3 with c | c <;> rcases c7 with c' | c'
      · rw [c, c']
      · exact absurd (k3.2 (k7.1 c')) (by rw [c]; decide)
      · exact absurd (k7.2 (k3.1 c)) (by rw [c']; decide)
      · rw [c, c']
    have e35 : ¬ z130 = z195 := by
      intro e
      rcases eH_cases g with c | c
      · rw [c] at k5
        have h5 := k5.1 (by rw [← e]; exact k3.2 c)
        exact absurd h5 (by decide)
      · rw [c] at k5
        have h5 := k5.2 (by decide)
        have h3 := k3.1 (by rw [e]; exact h5)
        rw [c] at h3
        exact absurd h3 (by decide)
    subst e37
    have e35' : ¬ ((z130 = 1) ↔ (z195 = 1)) := by
      intro hh
      apply e35
      rcases c3 with c | c <;> rcases c5 with c' | c'
      · rw [c, c']
      · exact absurd (hh.2 c') (by rw [c]; decide)
      · exact absurd (hh.1 c) (by rw [c']; decide)
      · rw [c, c']
    refine ⟨fun _ => ?_, fun h => absurd (s2b) (by simpa using h)⟩
    refine ⟨fun _ => ?_, fun h => absurd (show (decide (z130 = 1) == decide (z195 = 1)) = false by cases h1 : decide (z130 = 1) <;> cases h2 : decide (z195 = 1) <;> simp_all) (by simpa using h)⟩
    rw [beq_self_eq_true]
    exact kt_lone

def B_llaws (S : Nat → List (List Int) → List (List Int) → Prop) (K : List (List Int) → List (List Int) → Prop) : Prop :=
 ∀ r0 : List Int, inB (repB 0 255 32) r0 → ∀ r32 : List Int, inB (repB 0 255 32) r32 → ∀ r64 : List Int, inB (repB 0 255 32) r64 → 
 ∀ z96 : Int, 0 ≤ z96 → z96 ≤ 1 → S 10 [] [[z96]] →
 ((((!(decide (z96 = 1)))) = true →
  K [r0, r32, r64] [[(cond (false) 1 0)]]
 ) ∧ (((!(decide (z96 = 1)))) = false →
  ∀ r97 : List Int, inB (repB 0 255 32) r97 → S 15 [r0, r32] [r97] →
  ∀ r129 : List Int, inB (repB 0 255 32) r129 → S 15 [r32, r0] [r129] →
  ((((!(decide (r97 = r129)))) = true →
   K [r0, r32, r64] [[(cond (false) 1 0)]]
  ) ∧ (((!(decide (r97 = r129)))) = false →
   ∀ r161 : List Int, inB (repB 0 255 32) r161 → S 13 [r0, r32] [r161] →
   ∀ r193 : List Int, inB (repB 0 255 32) r193 → S 13 [r32, r0] [r193] →
   ((((!(decide (r161 = r193)))) = true →
    K [r0, r32, r64] [[(cond (false) 1 0)]]
   ) ∧ (((!(decide (r161 = r193)))) = false →
    ∀ r225 : List Int, inB (repB 0 255 32) r225 → S 15 [r0, r32] [r225] →
    ∀ r257 : List Int, inB (repB 0 255 32) r257 → S 15 [r225, r64] [r257] →
    ∀ r289 : List Int, inB (repB 0 255 32) r289 → S 15 [r32, r64] [r289] →
    ∀ r321 : List Int, inB (repB 0 255 32) r321 → S 15 [r0, r289] [r321] →
    ((((!(decide (r257 = r321)))) = true →
     K [r0, r32, r64] [[(cond (false) 1 0)]]
    ) ∧ (((!(decide (r257 = r321)))) = false →
     ∀ r353 : List Int, inB (repB 0 255 32) r353 → S 13 [r0, r32] [r353] →
     ∀ r385 : List Int, inB (repB 0 255 32) r385 → S 13 [r353, r64] [r385] →
     ∀ r417 : List Int, inB (repB 0 255 32) r417 → S 13 [r32, r64] [r417] →
     ∀ r449 : List Int, inB (repB 0 255 32) r449 → S 13 [r0, r417] [r449] →
     ((((!(decide (r385 = r449)))) = true →
      K [r0, r32, r64] [[(cond (false) 1 0)]]
     ) ∧ (((!(decide (r385 = r449)))) = false →
      ∀ r481 : List Int, inB (repB 0 255 32) r481 → S 15 [r32, r64] [r481] →
      ∀ r513 : List Int, inB (repB 0 255 32) r513 → S 13 [r0, r481] [r513] →
      ∀ r545 : List Int, inB (repB 0 255 32) r545 → S 13 [r0, r32] [r545] →
      ∀ r577 : List Int, inB (repB 0 255 32) r577 → S 13 [r0, r64] [r577] →
      ∀ r609 : List Int, inB (repB 0 255 32) r609 → S 15 [r545, r577] [r609] →
      ((((!(decide (r513 = r609)))) = true →
       K [r0, r32, r64] [[(cond (false) 1 0)]]
      ) ∧ (((!(decide (r513 = r609)))) = false →
       ∀ r641 : List Int, inB (repB 0 255 32) r641 → S 15 [r0, r32] [r641] →
       ∀ r673 : List Int, inB (repB 0 255 32) r673 → S 12 [r641, r32] [r673] →
       ∀ r705 : List Int, inB (repB 0 255 32) r705 → S 14 [r0] [r705] →
       ((((!(decide (r673 = r705)))) = true →
        K [r0, r32, r64] [[(cond (false) 1 0)]]
       ) ∧ (((!(decide (r673 = r705)))) = false →
        ∀ r737 : List Int, inB (repB 0 255 32) r737 → S 16 [r0] [r737] →
        ∀ r769 : List Int, inB (repB 0 255 32) r769 → S 13 [r0, r737] [r769] →
        ∀ r801 : List Int, inB (repB 0 255 32) r801 → S 14 [r0] [r801] →
        (((decide (r801 = [0, 0, 0, 0, 0, 0, 0, 0, 0, 0, 0, 0, 0, 0, 0, 0, 0, 0, 0, 0, 0, 0, 0, 0, 0, 0, 0, 0, 0, 0, 0, 0])) = true →
         K [r0, r32, r64] [[(cond (decide (r769 = [0, 0, 0, 0, 0, 0, 0, 0, 0, 0, 0, 0, 0, 0, 0, 0, 0, 0, 0, 0, 0, 0, 0, 0, 0, 0, 0, 0, 0, 0, 0, 0])) 1 0)]]
        ) ∧ ((decide (r801 = [0, 0, 0, 0, 0, 0, 0, 0, 0, 0, 0, 0, 0, 0, 0, 0, 0, 0, 0, 0, 0, 0, 0, 0, 0, 0, 0, 0, 0, 0, 0, 0])) = false →
         K [r0, r32, r64] [[(cond (decide (r769 = [1, 0, 0, 0, 0, 0, 0, 0, 0, 0, 0, 0, 0, 0, 0, 0, 0, 0, 0, 0, 0, 0, 0, 0, 0, 0, 0, 0, 0, 0, 0, 0])) 1 0)]]
        ))
       ))
      ))
     ))
    ))
   ))
  ))
 ))
theorem p_llaws (G) : B_llaws (SG G) (KB k_llaws.res 4) := by
  unfold B_llaws
  intro r0 i0 r32 i32 r64 i64 z96 a96 b96 s0
  have s0 : z96 = 1 := s0.1
  refine ⟨fun h => absurd (s0) (by simpa using h), fun _ => ?_⟩
  intro r97 i97 s1 r129 i129 s2
  have s1 : nb r97 = (nb r0 + nb r32) % 57896044618658097711785492504343953926634992332820282019728792003956564819949 := s1.1
  have s2 : nb r129 = (nb r32 + nb r0) % 57896044618658097711785492504343953926634992332820282019728792003956564819949 := s2.1
  refine ⟨fun h => absurd (nb_inj i97 i129 (by rw [s1, s2, Int.add_comm (nb r0)])) (by simpa using h), fun _ => ?_⟩
  intro r161 i161 s3 r193 i193 s4
  have s3 : nb r161 = nb r0 * nb r32 % 57896044618658097711785492504343953926634992332820282019728792003956564819949 := s3.1
  have s4 : nb r193 = nb r32 * nb r0 % 57896044618658097711785492504343953926634992332820282019728792003956564819949 := s4.1
  refine ⟨fun h => absurd (nb_inj i161 i193 (by rw [s3, s4, Int.mul_comm (nb r0)])) (by simpa using h), fun _ => ?_⟩
  intro r225 i225 s5 r257 i257 s6 r289 i289 s7 r321 i321 s8
  have s5 : nb r225 = (nb r0 + nb r32) % 57896044618658097711785492504343953926634992332820282019728792003956564819949 := s5.1
  have s6 : nb r257 = (nb r225 + nb r64) % 57896044618658097711785492504343953926634992332820282019728792003956564819949 := s6.1
  have s7 : nb r289 = (nb r32 + nb r64) % 57896044618658097711785492504343953926634992332820282019728792003956564819949 := s7.1
  have s8 : nb r321 = (nb r0 + nb r289) % 57896044618658097711785492504343953926634992332820282019728792003956564819949 := s8.1
  refine ⟨fun h => absurd (nb_inj i257 i321 (by rw [s6, s5, s8, s7]; omega)) (by simpa using h), fun _ => ?_⟩
  intro r353 i353 s9 r385 i385 s10 r417 i417 s11 r449 i449 s12
  have s9 : nb r353 = nb r0 * nb r32 % 57896044618658097711785492504343953926634992332820282019728792003956564819949 := s9.1
  have s10 : nb r385 = nb r353 * nb r64 % 57896044618658097711785492504343953926634992332820282019728792003956564819949 := s10.1
  have s11 : nb r417 = nb r32 * nb r64 % 57896044618658097711785492504343953926634992332820282019728792003956564819949 := s11.1
  have s12 : nb r449 = nb r0 * nb r417 % 57896044618658097711785492504343953926634992332820282019728792003956564819949 := s12.1
  refine ⟨fun h => absurd (nb_inj i385 i449 (by rw [s10, s9, s12, s11, mul_mod_l, mul_mod_r, Int.mul_assoc])) (by simpa using h), fun _ => ?_⟩
  intro r481 i481 s13 r513 i513 s14 r545 i545 s15 r577 i577 s16 r609 i609 s17
  have s13 : nb r481 = (nb r32 + nb r64) % 57896044618658097711785492504343953926634992332820282019728792003956564819949 := s13.1
  have s14 : nb r513 = nb r0 * nb r481 % 57896044618658097711785492504343953926634992332820282019728792003956564819949 := s14.1
  have s15 : nb r545 = nb r0 * nb r32 % 57896044618658097711785492504343953926634992332820282019728792003956564819949 := s15.1
  have s16 : nb r577 = nb r0 * nb r64 % 57896044618658097711785492504343953926634992332820282019728792003956564819949 := s16.1
  have s17 : nb r609 = (nb r545 + nb r577) % 57896044618658097711785492504343953926634992332820282019728792003956564819949 := s17.1
  refine ⟨fun h => absurd (nb_inj i513 i609 (by rw [s14, s13, s17, s15, s16, mul_mod_r, ← Int.add_emod, Int.mul_add])) (by simpa using h), fun _ => ?_⟩
  intro r641 i641 s18 r673 i673 s19 r705 i705 s20
  have s18 : nb r641 = (nb r0 + nb r32) % 57896044618658097711785492504343953926634992332820282019728792003956564819949 := s18.1
  have s19 : nb r673 = (nb r641 - nb r32) % 57896044618658097711785492504343953926634992332820282019728792003956564819949 := s19.1
  have s20 : nb r705 = nb r0 % 57896044618658097711785492504343953926634992332820282019728792003956564819949 := s20.1
  refine ⟨fun h => absurd (nb_inj i673 i705 (by rw [s19, s18, s20]; omega)) (by simpa using h), fun _ => ?_⟩
  intro r737 i737 s21 r769 i769 s22 r801 i801 s23
  have s21 : nb r737 = pw (nb r0) eInv := s21.1
  have s22 : nb r769 = nb r0 * nb r737 % 57896044618658097711785492504343953926634992332820282019728792003956564819949 := s22.1
  have s23 : nb r801 = nb r0 % 57896044618658097711785492504343953926634992332820282019728792003956564819949 := s23.1
  refine ⟨fun h => ?_, fun h => ?_⟩
  · simp only [Bool.not_eq_true', Bool.not_eq_false', decide_eq_true_eq, decide_eq_false_iff_not] at h
    have g : nb r0 % 57896044618658097711785492504343953926634992332820282019728792003956564819949 = 0 := by rw [← s23, h, nb_z0]
    have e := nb_inj i769 in_z0 (by rw [s22, Int.mul_emod, g, Int.zero_mul, nb_z0]; rfl)
    rw [decide_eq_true e]
    exact kt_llaws
  · simp only [Bool.not_eq_true', Bool.not_eq_false', decide_eq_true_eq, decide_eq_false_iff_not] at h
    have g : nb r0 % 57896044618658097711785492504343953926634992332820282019728792003956564819949 ≠ 0 := fun g0 => h (nb_inj i801 in_z0 (by rw [s23, g0, nb_z0]))
    have e := nb_inj i769 in_z1 (by rw [s22, s21, inv_mul g, nb_z1])
    rw [decide_eq_true e]
    exact kt_llaws

def B_lproducts (S : Nat → List (List Int) → List (List Int) → Prop) (K : List (List Int) → List (List Int) → Prop) : Prop :=
 ∀ r0 : List Int, inB (repB 0 255 32) r0 → ∀ r32 : List Int, inB (repB 0 255 32) r32 → 
 ∀ z64 : Int, 0 ≤ z64 → z64 ≤ 1 → S 10 [] [[z64]] →
 (((decide (z64 = 1)) = true →
  ∀ r65 : List Int, inB (repB 0 255 32) r65 → S 13 [r0, r32] [r65] →
  ∀ r97 : List Int, inB (repB 0 255 32) r97 → S 17 [r0, r32] [r97] →
  K [r0, r32] [[(cond (decide (r65 = r97)) 1 0)]]
 ) ∧ ((decide (z64 = 1)) = false →
  K [r0, r32] [[(cond (false) 1 0)]]
 ))
theorem p_lproducts (G) : B_lproducts (SG G) (KB k_lproducts.res 5) := by
  unfold B_lproducts
  intro r0 i0 r32 i32 z64 a64 b64 s0
  have s0 : z64 = 1 := s0.1
  refine ⟨fun _ => ?_, fun h => absurd (s0) (by simpa using h)⟩
  intro r65 i65 s1 r97 i97 s2
  have s1 : nb r65 = nb r0 * nb r32 % 57896044618658097711785492504343953926634992332820282019728792003956564819949 := s1.1
  have s2 : nb r97 = nb r0 * nb r32 % 57896044618658097711785492504343953926634992332820282019728792003956564819949 := s2.1
  rw [decide_eq_true (nb_inj i65 i97 (s1.trans s2.symm))]
  exact kt_lproducts

def B_lroots (S : Nat → List (List Int) → List (List Int) → Prop) (K : List (List Int) → List (List Int) → Prop) : Prop :=
 ∀ r0 : List Int, inB (repB 0 255 32) r0 → 
 ∀ z32 : Int, 0 ≤ z32 → z32 ≤ 1 → S 10 [] [[z32]] →
 ((((!(decide (z32 = 1)))) = true →
  K [r0] [[(cond (false) 1 0)]]
 ) ∧ (((!(decide (z32 = 1)))) = false →
  ∀ r33 : List Int, inB (repB 0 255 32) r33 → ∀ z65 : Int, 0 ≤ z65 → z65 ≤ 1 → S 11 [r0] [r33, [z65]] →
  ∀ r66 : List Int, inB (repB 0 255 32) r66 → ∀ z98 : Int, 0 ≤ z98 → z98 ≤ 1 → S 18 [r0] [r66, [z98]] →
  ((((!(decide (r33 = r66)))) = true →
   K [r0] [[(cond (false) 1 0)]]
  ) ∧ (((!(decide (r33 = r66)))) = false →
   ((((!(((decide (z65 = 1)) == (decide (z98 = 1)))))) = true →
    K [r0] [[(cond (false) 1 0)]]
   ) ∧ (((!(((decide (z65 = 1)) == (decide (z98 = 1)))))) = false →
    ∀ r99 : List Int, inB (repB 0 255 32) r99 → S 13 [r0, r0] [r99] →
    ∀ r131 : List Int, inB (repB 0 255 32) r131 → ∀ z163 : Int, 0 ≤ z163 → z163 ≤ 1 → S 11 [r99] [r131, [z163]] →
    (((decide (z163 = 1)) = true →
     ∀ z164 : Int, 0 ≤ z164 → z164 ≤ 127 → 0 ≤ (List.getD r131 0 0) - 2 * z164 → (List.getD r131 0 0) - 2 * z164 < 2 →
     (((decide (((List.getD r131 0 0) + ((-2) * z164)) = 0)) = true →
      ∀ r165 : List Int, inB (repB 0 255 32) r165 → S 13 [r131, r131] [r165] →
      ∀ r197 : List Int, inB (repB 0 255 32) r197 → S 13 [r0, r0] [r197] →
      (((decide (r165 = r197)) = true →
       ((((!(decide (z65 = 1)))) = true →
        K [r0] [[(cond (true) 1 0)]]
       ) ∧ (((!(decide (z65 = 1)))) = false →
        ∀ r229 : List Int, inB (repB 0 255 32) r229 → S 13 [r33, r33] [r229] →
        ∀ r261 : List Int, inB (repB 0 255 32) r261 → S 14 [r0] [r261] →
        K [r0] [[(cond (decide (r229 = r261)) 1 0)]]
       ))
      ) ∧ ((decide (r165 = r197)) = false →
       K [r0] [[(cond (false) 1 0)]]
      ))
     ) ∧ ((decide (((List.getD r131 0 0) + ((-2) * z164)) = 0)) = false →
      K [r0] [[(cond (false) 1 0)]]
     ))
    ) ∧ ((decide (z163 = 1)) = false →
     K [r0] [[(cond (false) 1 0)]]
    ))
   ))
  ))
 ))
theorem p_lroots (G) : B_lroots (SG G) (KB k_lroots.res 6) := by
  unfold B_lroots
  intro r0 i0 z32 a32 b32 s0
  have s0 : z32 = 1 := s0.1
  refine ⟨fun h => absurd (s0) (by simpa using h), fun _ => ?_⟩
  intro r33 i33 z65 a65 b65 s1 r66 i66 z98 a98 b98 s2
  have s1 : (nb r33, z65) = sqP (nb r0 % 57896044618658097711785492504343953926634992332820282019728792003956564819949) := s1.1
  have s2 : (nb r66, z98) = sqF (nb r0 % 57896044618658097711785492504343953926634992332820282019728792003956564819949) := s2.1
  rw [← sqP_sqF (mod_r (nb r0)).1 (mod_r (nb r0)).2] at s2
  have s12 := s1.trans s2.symm
  simp only [Prod.mk.injEq] at s12
  have e1 := nb_inj i33 i66 s12.1
  refine ⟨fun h => absurd (e1) (by simpa using h), fun _ => ?_⟩
  refine ⟨fun h => absurd (show (decide (z65 = 1) == decide (z98 = 1)) = true by rw [s12.2]; simp) (by simpa using h), fun _ => ?_⟩
  intro r99 i99 s3 r131 i131 z163 a163 b163 s4
  have s3 : nb r99 = nb r0 * nb r0 % 57896044618658097711785492504343953926634992332820282019728792003956564819949 := s3.1
  have s4 : (nb r131, z163) = sqP (nb r99 % 57896044618658097711785492504343953926634992332820282019728792003956564819949) := s4.1
  have xx : nb r0 * nb r0 % 57896044618658097711785492504343953926634992332820282019728792003956564819949 = (nb r99) % 57896044618658097711785492504343953926634992332820282019728792003956564819949 := by rw [s3, Int.emod_emod]
  obtain ⟨q, hq, hr⟩ := sqP_some xx
  rw [hq] at s4
  simp only [Prod.mk.injEq] at s4
  obtain ⟨s4a, s4b⟩ := s4
  subst s4a
  refine ⟨fun _ => ?_, fun h => absurd (s4b) (by simpa using h)⟩
  intro z164 a164 b164 c164 d164
  have hp := nb_par r131
  have hr2 := hr.2.2.1
  have h131 : r131.getD 0 0 % 2 = 0 := by clear s3 xx; omega
  refine ⟨fun _ => ?_, fun h => absurd (show r131.getD 0 0 + (-2) * z164 = 0 by clear s3 xx; omega) (by simpa using h)⟩
  intro r165 i165 s5 r197 i197 s6
  have s5 : nb r165 = nb r131 * nb r131 % 57896044618658097711785492504343953926634992332820282019728792003956564819949 := s5.1
  have s6 : nb r197 = nb r0 * nb r0 % 57896044618658097711785492504343953926634992332820282019728792003956564819949 := s6.1
  have e2 := nb_inj i165 i197 (by rw [s5, s6, hr.2.2.2, s3, Int.emod_emod])
  refine ⟨fun _ => ?_, fun h => absurd (e2) (by simpa using h)⟩
  refine ⟨fun h => ?_, fun h => ?_⟩
  · simp only [Bool.not_eq_true', Bool.not_eq_false', decide_eq_true_eq, decide_eq_false_iff_not] at h
    exact kt_lroots
  · simp only [Bool.not_eq_true', Bool.not_eq_false', decide_eq_true_eq, decide_eq_false_iff_not] at h
    intro r229 i229 s7 r261 i261 s8
    have s7 : nb r229 = nb r33 * nb r33 % 57896044618658097711785492504343953926634992332820282019728792003956564819949 := s7.1
    have s8 : nb r261 = nb r0 % 57896044618658097711785492504343953926634992332820282019728792003956564819949 := s8.1
    rcases sqP_spec (mod_r (nb r0)).1 (mod_r (nb r0)).2 with ⟨t, et, ht⟩ | ⟨et, _⟩
    · rw [et] at s1
      simp only [Prod.mk.injEq] at s1
      have e3 := nb_inj i229 i261 (by rw [s7, s8, s1.1, ht.2.2.2])
      rw [decide_eq_true e3]
      exact kt_lroots
    · rw [et] at s1
      simp only [Prod.mk.injEq] at s1
      exact absurd (s1.2.symm.trans h) (by decide)

def B_lsums (S : Nat → List (List Int) → List (List Int) → Prop) (K : List (List Int) → List (List Int) → Prop) : Prop :=
 ∀ r0 : List Int, inB (repB 0 255 32) r0 → ∀ r32 : List Int, inB (repB 0 255 32) r32 → 
 ∀ z64 : Int, 0 ≤ z64 → z64 ≤ 1 → S 10 [] [[z64]] →
 (((decide (z64 = 1)) = true →
  ∀ r65 : List Int, inB (repB 0 255 32) r65 → S 15 [r0, r32] [r65] →
  ∀ r97 : List Int, inB (repB 0 255 32) r97 → S 19 [r0, r32] [r97] →
  (((decide (r65 = r97)) = true →
   ∀ r129 : List Int, inB (repB 0 255 32) r129 → S 12 [r0, r32] [r129] →
   ∀ r161 : List Int, inB (repB 0 255 32) r161 → S 20 [r0, r32] [r161] →
   (((decide (r129 = r161)) = true →
    ∀ r193 : List Int, inB (repB 0 255 32) r193 → S 14 [r0] [r193] →
    ∀ r225 : List Int, inB (repB 0 255 32) r225 → S 21 [r0] [r225] →
    (((decide (r193 = r225)) = true →
     ∀ z257 : Int, 0 ≤ z257 → z257 ≤ 1 → S 22 [r0] [[z257]] →
     ∀ z258 : Int, 0 ≤ z258 → z258 ≤ 1 → S 23 [r0] [[z258]] →
     K [r0, r32] [[(cond (((decide (z257 = 1)) == (decide (z258 = 1)))) 1 0)]]
    ) ∧ ((decide (r193 = r225)) = false →
     K [r0, r32] [[(cond (false) 1 0)]]
    ))
   ) ∧ ((decide (r129 = r161)) = false →
    K [r0, r32] [[(cond (false) 1 0)]]
   ))
  ) ∧ ((decide (r65 = r97)) = false →
   K [r0, r32] [[(cond (false) 1 0)]]
  ))
 ) ∧ ((decide (z64 = 1)) = false →
  K [r0, r32] [[(cond (false) 1 0)]]
 ))
theorem p_lsums (G) : B_lsums (SG G) (KB k_lsums.res 7) := by
  unfold B_lsums
  intro r0 i0 r32 i32 z64 a64 b64 s0
  have s0 : z64 = 1 := s0.1
  refine ⟨fun _ => ?_, fun h => absurd (s0) (by simpa using h)⟩
  intro r65 i65 s1 r97 i97 s2
  have s1 : nb r65 = (nb r0 + nb r32) % 57896044618658097711785492504343953926634992332820282019728792003956564819949 := s1.1
  have s2 : nb r97 = (nb r0 + nb r32) % 57896044618658097711785492504343953926634992332820282019728792003956564819949 := s2.1
  refine ⟨fun _ => ?_, fun h => absurd (nb_inj i65 i97 (s1.trans s2.symm)) (by simpa using h)⟩
  intro r129 i129 s3 r161 i161 s4
  have s3 : nb r129 = (nb r0 - nb r32) % 57896044618658097711785492504343953926634992332820282019728792003956564819949 := s3.1
  have s4 : nb r161 = (nb r0 - nb r32) % 57896044618658097711785492504343953926634992332820282019728792003956564819949 := s4.1
  refine ⟨fun _ => ?_, fun h => absurd (nb_inj i129 i161 (s3.trans s4.symm)) (by simpa using h)⟩
  intro r193 i193 s5 r225 i225 s6
  have s5 : nb r193 = nb r0 % 57896044618658097711785492504343953926634992332820282019728792003956564819949 := s5.1
  have s6 : nb r225 = nb r0 % 57896044618658097711785492504343953926634992332820282019728792003956564819949 := s6.1
  refine ⟨fun _ => ?_, fun h => absurd (nb_inj i193 i225 (s5.trans s6.symm)) (by simpa using h)⟩
  intro z257 a257 b257 s7 z258 a258 b258 s8
  have s7 : z257 = bit (nb r0 < 57896044618658097711785492504343953926634992332820282019728792003956564819949) := s7.1
  have s8 : z258 = bit (nb r0 < 57896044618658097711785492504343953926634992332820282019728792003956564819949) := s8.1
  have e : z257 = z258 := s7.trans s8.symm
  subst e
  rw [beq_self_eq_true]
  exact kt_lsums

def B_lsteps (S : Nat → List (List Int) → List (List Int) → Prop) (K : List (List Int) → List (List Int) → Prop) : Prop :=
 ∀ r0 : List Int, inB (repB 0 255 32) r0 → ∀ z32 : Int, 0 ≤ z32 → z32 ≤ 255 → ∀ z33 : Int, 0 ≤ z33 → z33 ≤ 255 → 
 ∀ z34 : Int, 0 ≤ z34 → z34 ≤ 1 → S 10 [] [[z34]] →
 ((((!(decide (z34 = 1)))) = true →
  K [r0, [z32], [z33]] [[(cond (false) 1 0)]]
 ) ∧ (((!(decide (z34 = 1)))) = false →
  ∀ r35 : List Int, inB (repB 0 255 32) r35 → S 24 [r0, [z32, 0, 0, 0, 0, 0, 0, 0, 0, 0, 0, 0, 0, 0, 0, 0, 0, 0, 0, 0, 0, 0, 0, 0, 0, 0, 0, 0, 0, 0, 0, 0]] [r35] →
  ∀ r67 : List Int, inB (repB 0 255 32) r67 → S 24 [r0, [z33, 0, 0, 0, 0, 0, 0, 0, 0, 0, 0, 0, 0, 0, 0, 0, 0, 0, 0, 0, 0, 0, 0, 0, 0, 0, 0, 0, 0, 0, 0, 0]] [r67] →
  ∀ r99 : List Int, inB (repB 0 255 32) r99 → S 13 [r35, r67] [r99] →
  ∀ z131 : Int, 0 ≤ z131 → z131 ≤ 1 → 0 ≤ (z32 + z33) - 256 * z131 → (z32 + z33) - 256 * z131 < 256 →
  ∀ z132 : Int, 0 ≤ z132 → z132 ≤ 1 → 0 ≤ (z32 + z33) - 256 * z132 → (z32 + z33) - 256 * z132 < 256 →
  ∀ r133 : List Int, inB (repB 0 255 32) r133 → S 24 [r0, [(z32 + (z33 + ((-256) * z131))), z132, 0, 0, 0, 0, 0, 0, 0, 0, 0, 0, 0, 0, 0, 0, 0, 0, 0, 0, 0, 0, 0, 0, 0, 0, 0, 0, 0, 0, 0, 0]] [r133] →
  (((decide (r99 = r133)) = true →
   ∀ r165 : List Int, inB (repB 0 255 32) r165 → S 24 [r0, [1, 0, 0, 0, 0, 0, 0, 0, 0, 0, 0, 0, 0, 0, 0, 0, 0, 0, 0, 0, 0, 0, 0, 0, 0, 0, 0, 0, 0, 0, 0, 0]] [r165] →
   ∀ r197 : List Int, inB (repB 0 255 32) r197 → S 14 [r0] [r197] →
   K [r0, [z32], [z33]] [[(cond (decide (r165 = r197)) 1 0)]]
  ) ∧ ((decide (r99 = r133)) = false →
   K [r0, [z32], [z33]] [[(cond (false) 1 0)]]
  ))
 ))
theorem p_lsteps (G) : B_lsteps (SG G) (KB k_lsteps.res 8) := by
  unfold B_lsteps
  intro r0 i0 z32 a32 b32 z33 a33 b33 z34 a34 b34 s0
  have s0 : z34 = 1 := s0.1
  refine ⟨fun h => absurd (s0) (by simpa using h), fun _ => ?_⟩
  intro r35 i35 s1 r67 i67 s2 r99 i99 s3 z131 a131 b131 c131 d131 z132 a132 b132 c132 d132 r133 i133 s4
  have s1 : nb r35 = pw (nb r0) (nb [z32, 0, 0, 0, 0, 0, 0, 0, 0, 0, 0, 0, 0, 0, 0, 0, 0, 0, 0, 0, 0, 0, 0, 0, 0, 0, 0, 0, 0, 0, 0, 0]).toNat := s1.1
  have s2 : nb r67 = pw (nb r0) (nb [z33, 0, 0, 0, 0, 0, 0, 0, 0, 0, 0, 0, 0, 0, 0, 0, 0, 0, 0, 0, 0, 0, 0, 0, 0, 0, 0, 0, 0, 0, 0, 0]).toNat := s2.1
  have s3 : nb r99 = nb r35 * nb r67 % 57896044618658097711785492504343953926634992332820282019728792003956564819949 := s3.1
  have s4 : nb r133 = pw (nb r0) (nb [(z32 + (z33 + ((-256) * z131))), z132, 0, 0, 0, 0, 0, 0, 0, 0, 0, 0, 0, 0, 0, 0, 0, 0, 0, 0, 0, 0, 0, 0, 0, 0, 0, 0, 0, 0, 0, 0]).toNat := s4.1
  have n1 : nb [z32, 0, 0, 0, 0, 0, 0, 0, 0, 0, 0, 0, 0, 0, 0, 0, 0, 0, 0, 0, 0, 0, 0, 0, 0, 0, 0, 0, 0, 0, 0, 0] = z32 := by simp only [num]; omega
  have n2 : nb [z33, 0, 0, 0, 0, 0, 0, 0, 0, 0, 0, 0, 0, 0, 0, 0, 0, 0, 0, 0, 0, 0, 0, 0, 0, 0, 0, 0, 0, 0, 0, 0] = z33 := by simp only [num]; omega
  have n3 : nb [(z32 + (z33 + ((-256) * z131))), z132, 0, 0, 0, 0, 0, 0, 0, 0, 0, 0, 0, 0, 0, 0, 0, 0, 0, 0, 0, 0, 0, 0, 0, 0, 0, 0, 0, 0, 0, 0] = z32 + z33 := by
    have : z131 = z132 := dup c131 d131 c132 d132
    simp only [num]; omega
  rw [n1] at s1
  rw [n2] at s2
  rw [n3] at s4
  have e1 := nb_inj i99 i133 (by rw [s3, s1, s2, s4, Int.toNat_add a32 a33, pw_add])
  refine ⟨fun _ => ?_, fun h => absurd (e1) (by simpa using h)⟩
  intro r165 i165 s5 r197 i197 s6
  have s5 : nb r165 = pw (nb r0) (nb [1, 0, 0, 0, 0, 0, 0, 0, 0, 0, 0, 0, 0, 0, 0, 0, 0, 0, 0, 0, 0, 0, 0, 0, 0, 0, 0, 0, 0, 0, 0, 0]).toNat := s5.1
  have s6 : nb r197 = nb r0 % 57896044618658097711785492504343953926634992332820282019728792003956564819949 := s6.1
  rw [nb_z1] at s5
  have e2 := nb_inj i165 i197 (by rw [s5, s6]; exact pw_one _)
  rw [decide_eq_true e2]
  exact kt_lsteps

def B_lpowers (S : Nat → List (List Int) → List (List Int) → Prop) (K : List (List Int) → List (List Int) → Prop) : Prop :=
 ∀ r0 : List Int, inB (repB 0 255 32) r0 → ∀ r32 : List Int, inB (repB 0 255 32) r32 → 
 ∀ z64 : Int, 0 ≤ z64 → z64 ≤ 1 → S 10 [] [[z64]] →
 (((decide (z64 = 1)) = true →
  ∀ r65 : List Int, inB (repB 0 255 32) r65 → S 24 [r0, r32] [r65] →
  ∀ r97 : List Int, inB (repB 0 255 32) r97 → S 25 [r0, r32] [r97] →
  (((decide (r65 = r97)) = true →
   ∀ r129 : List Int, inB (repB 0 255 32) r129 → S 16 [r0] [r129] →
   ∀ r161 : List Int, inB (repB 0 255 32) r161 → S 26 [r0] [r161] →
   K [r0, r32] [[(cond (decide (r129 = r161)) 1 0)]]
  ) ∧ ((decide (r65 = r97)) = false →
   K [r0, r32] [[(cond (false) 1 0)]]
  ))
 ) ∧ ((decide (z64 = 1)) = false →
  K [r0, r32] [[(cond (false) 1 0)]]
 ))
theorem p_lpowers (G) : B_lpowers (SG G) (KB k_lpowers.res 9) := by
  unfold B_lpowers
  intro r0 i0 r32 i32 z64 a64 b64 s0
  have s0 : z64 = 1 := s0.1
  refine ⟨fun _ => ?_, fun h => absurd (s0) (by simpa using h)⟩
  intro r65 i65 s1 r97 i97 s2
  have s1 : nb r65 = pw (nb r0) (nb r32).toNat := s1.1
  have s2 : nb r97 = pw (nb r0) (nb r32).toNat := s2.1
  refine ⟨fun _ => ?_, fun h => absurd (nb_inj i65 i97 (s1.trans s2.symm)) (by simpa using h)⟩
  intro r129 i129 s3 r161 i161 s4
  have s3 : nb r129 = pw (nb r0) eInv := s3.1
  have s4 : nb r161 = pw (nb r0) eInv := s4.1
  rw [decide_eq_true (nb_inj i129 i161 (s3.trans s4.symm))]
  exact kt_lpowers
end Go.Fd
