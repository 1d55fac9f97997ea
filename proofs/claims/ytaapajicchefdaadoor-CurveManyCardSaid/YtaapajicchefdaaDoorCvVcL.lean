/- CvVcL: a part of the proof of statements of this seat. -/
import Derived.Test.YtaapajicchefdaaDoorCvLawH
set_option linter.unusedVariables false
set_option linter.unusedSimpArgs false
set_option maxRecDepth 20000
namespace Go.Fd
open Go.Rx
def B_calive (S : Nat → List (List Int) → List (List Int) → Prop) (K : List (List Int) → List (List Int) → Prop) : Prop :=
 
 ∀ r0 : List Int, inB (repB 0 255 32) r0 → S 114 [[1, 0, 0, 0, 0, 0, 0, 0, 0, 0, 0, 0, 0, 0, 0, 0, 0, 0, 0, 0, 0, 0, 0, 0, 0, 0, 0, 0, 0, 0, 0, 0]] [r0] →
 (((decide ((List.getD r0 0 0) = 88)) = true →
  (((decide ((List.getD r0 1 0) = 102)) = true →
   (((decide ((List.getD r0 31 0) = 102)) = true →
    ∀ r32 : List Int, inB (repB 0 255 32) r32 → S 114 [[0, 0, 0, 0, 0, 0, 0, 0, 0, 0, 0, 0, 0, 0, 0, 0, 0, 0, 0, 0, 0, 0, 0, 0, 0, 0, 0, 0, 0, 0, 0, 0]] [r32] →
    (((decide (r32 = [1, 0, 0, 0, 0, 0, 0, 0, 0, 0, 0, 0, 0, 0, 0, 0, 0, 0, 0, 0, 0, 0, 0, 0, 0, 0, 0, 0, 0, 0, 0, 0])) = true →
     ∀ z64 : Int, 0 ≤ z64 → z64 ≤ 1 → S 110 [r0] [[z64]] →
     (((decide (z64 = 1)) = true →
      ∀ z65 : Int, 0 ≤ z65 → z65 ≤ 1 → S 110 [[2, 0, 0, 0, 0, 0, 0, 0, 0, 0, 0, 0, 0, 0, 0, 0, 0, 0, 0, 0, 0, 0, 0, 0, 0, 0, 0, 0, 0, 0, 0, 0]] [[z65]] →
      K [] [[(cond ((!(decide (z65 = 1)))) 1 0)]]
     ) ∧ ((decide (z64 = 1)) = false →
      K [] [[(cond (false) 1 0)]]
     ))
    ) ∧ ((decide (r32 = [1, 0, 0, 0, 0, 0, 0, 0, 0, 0, 0, 0, 0, 0, 0, 0, 0, 0, 0, 0, 0, 0, 0, 0, 0, 0, 0, 0, 0, 0, 0, 0])) = false →
     K [] [[(cond (false) 1 0)]]
    ))
   ) ∧ ((decide ((List.getD r0 31 0) = 102)) = false →
    K [] [[(cond (false) 1 0)]]
   ))
  ) ∧ ((decide ((List.getD r0 1 0) = 102)) = false →
   K [] [[(cond (false) 1 0)]]
  ))
 ) ∧ ((decide ((List.getD r0 0 0) = 88)) = false →
  K [] [[(cond (false) 1 0)]]
 ))
theorem p_calive (G) : B_calive (SG G) (KB k_calive.res 140) := by
  unfold B_calive
  intro r0 i0 s0
  have s0 : s_base [[1, 0, 0, 0, 0, 0, 0, 0, 0, 0, 0, 0, 0, 0, 0, 0, 0, 0, 0, 0, 0, 0, 0, 0, 0, 0, 0, 0, 0, 0, 0, 0]] [r0] := s0.1
  have e0 : nb r0 = enc baseP := s0.trans (by rw [nb_z1, show (1 : Int).toNat = 1 by rfl, mulP_one base_on])
  have q0 : r0 = [88, 102, 102, 102, 102, 102, 102, 102, 102, 102, 102, 102, 102, 102, 102, 102, 102, 102, 102, 102, 102, 102, 102, 102, 102, 102, 102, 102, 102, 102, 102, 102] := nb_inj i0 in_BL (e0.trans nb_BL.symm)
  have g0 : r0.getD 0 0 = 88 := by rw [q0]; rfl
  have g1 : r0.getD 1 0 = 102 := by rw [q0]; rfl
  have g31 : r0.getD 31 0 = 102 := by rw [q0]; rfl
  refine ⟨fun _ => ?_, fun h => absurd (g0) (by simpa using h)⟩
  refine ⟨fun _ => ?_, fun h => absurd (g1) (by simpa using h)⟩
  refine ⟨fun _ => ?_, fun h => absurd (g31) (by simpa using h)⟩
  intro r32 i32 s1
  have s1 : s_base [[0, 0, 0, 0, 0, 0, 0, 0, 0, 0, 0, 0, 0, 0, 0, 0, 0, 0, 0, 0, 0, 0, 0, 0, 0, 0, 0, 0, 0, 0, 0, 0]] [r32] := s1.1
  have q1 : r32 = [1, 0, 0, 0, 0, 0, 0, 0, 0, 0, 0, 0, 0, 0, 0, 0, 0, 0, 0, 0, 0, 0, 0, 0, 0, 0, 0, 0, 0, 0, 0, 0] := nb_inj i32 in_z1 (s1.trans (by rw [nb_z0, nb_z1]; exact enc_zero))
  refine ⟨fun _ => ?_, fun h => absurd (q1) (by simpa using h)⟩
  intro z64 a64 b64 s2
  have s2 : s_cright [r0] [[z64]] := s2.1
  have t2 : z64 = 1 := sm_is s2 (dec_of base_on e0)
  refine ⟨fun _ => ?_, fun h => absurd (t2) (by simpa using h)⟩
  intro z65 a65 b65 s3
  have s3 : s_cright [[2, 0, 0, 0, 0, 0, 0, 0, 0, 0, 0, 0, 0, 0, 0, 0, 0, 0, 0, 0, 0, 0, 0, 0, 0, 0, 0, 0, 0, 0, 0, 0]] [[z65]] := s3.1
  have t3 : ¬ z65 = 1 := by rw [s3, nb_z2, dec_2]; decide
  have hz := k1 (b := !decide (z65 = 1)) (by simpa using t3)
  exact ⟨kt hz, hz⟩
end Go.Fd
