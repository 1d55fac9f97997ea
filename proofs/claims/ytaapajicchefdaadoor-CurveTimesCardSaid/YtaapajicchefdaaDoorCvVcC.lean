/- CvVcC: a part of the proof of statements of this seat. -/
import Derived.Test.YtaapajicchefdaaDoorCvLawH
set_option linter.unusedVariables false
set_option linter.unusedSimpArgs false
set_option maxRecDepth 20000
namespace Go.Fd
open Go.Rx
def B_calive (S : Nat → List (List Int) → List (List Int) → Prop) (K : List (List Int) → List (List Int) → Prop) : Prop :=
 
 ∀ r0 : List Int, inB (repB 0 255 32) r0 → S 114 [[1, 0, 0, 0, 0, 0, 0, 0, 0, 0, 0, 0, 0, 0, 0, 0, 0, 0, 0, 0, 0, 0, 0, 0, 0, 0, 0, 0, 0, 0, 0, 0]] [r0] →
 (((decide ((List.getD r0 0 0) = 88)) = true →
  (((decide ((List.getD r0 1 0) = 102)) = true →
   (((decide ((List.getD r0 31 0) = 102)) = true →
    ∀ r32 : List Int, inB (repB 0 255 32) r32 → S 114 [[0, 0, 0, 0, 0, 0, 0, 0, 0, 0, 0, 0, 0, 0, 0, 0, 0, 0, 0, 0, 0, 0, 0, 0, 0, 0, 0, 0, 0, 0, 0, 0]] [r32] →
    (((decide (r32 = [1, 0, 0, 0, 0, 0, 0, 0, 0, 0, 0, 0, 0, 0, 0, 0, 0, 0, 0, 0, 0, 0, 0, 0, 0, 0, 0, 0, 0, 0, 0, 0])) = true →
     ∀ z64 : Int, 0 ≤ z64 → z64 ≤ 1 → S 110 [r0] [[z64]] →
     (((decide (z64 = 1)) = true →
      ∀ z65 : Int, 0 ≤ z65 → z65 ≤ 1 → S 110 [[2, 0, 0, 0, 0, 0, 0, 0, 0, 0, 0, 0, 0, 0, 0, 0, 0, 0, 0, 0, 0, 0, 0, 0, 0, 0, 0, 0, 0, 0, 0, 0]] [[z65]] →
      K [] [[(cond ((!(decide (z65 = 1)))) 1 0)]]
     ) ∧ ((decide (z64 = 1)) = false →
      K [] [[(cond (false) 1 0)]]
     ))
    ) ∧ ((decide (r32 = [1, 0, 0, 0, 0, 0, 0, 0, 0, 0, 0, 0, 0, 0, 0, 0, 0, 0, 0, 0, 0, 0, 0, 0, 0, 0, 0, 0, 0, 0, 0, 0])) = false →
     K [] [[(cond (false) 1 0)]]
    ))
   ) ∧ ((decide ((List.getD r0 31 0) = 102)) = false →
    K [] [[(cond (false) 1 0)]]
   ))
  ) ∧ ((decide ((List.getD r0 1 0) = 102)) = false →
   K [] [[(cond (false) 1 0)]]
  ))
 ) ∧ ((decide ((List.getD r0 0 0) = 88)) = false →
  K [] [[(cond (false) 1 0)]]
 ))
theorem p_calive (G) : B_calive (SG G) (KB k_calive.res 140) := by
  unfold B_calive
  intro r0 i0 s0
  have s0 : s_base [[1, 0, 0, 0, 0, 0, 0, 0, 0, 0, 0, 0, 0, 0, 0, 0, 0, 0, 0, 0, 0, 0, 0, 0, 0, 0, 0, 0, 0, 0, 0, 0]] [r0] := s0.1
  have e0 : nb r0 = enc baseP := s0.trans (by rw [nb_z1, show (1 : Int).toNat = 1 by rfl, mulP_one base_on])
  have q0 : r0 = [88, 102, 102, 102, 102, 102, 102, 102, 102, 102, 102, 102, 102, 102, 102, 102, 102, 102, 102, 102, 102, 102, 102, 102, 102, 102, 102, 102, 102, 102, 102, 102] := nb_inj i0 in_BL (e0.trans nb_BL.symm)
  have g0 : r0.getD 0 0 = 88 := by rw [q0]; rfl
  have g1 : r0.getD 1 0 = 102 := by rw [q0]; rfl
  have g31 : r0.getD 31 0 = 102 := by rw [q0]; rfl
  refine ⟨fun _ => ?_, fun h => absurd (g0) (by simpa using h)⟩
  refine ⟨fun _ => ?_, fun h => absurd (g1) (by simpa using h)⟩
  refine ⟨fun _ => ?_, fun h => absurd (g31) (by simpa using h)⟩
  intro r32 i32 s1
  have s1 : s_base [[0, 0, 0, 0, 0, 0, 0, 0, 0, 0, 0, 0, 0, 0, 0, 0, 0, 0, 0, 0, 0, 0, 0, 0, 0, 0, 0, 0, 0, 0, 0, 0]] [r32] := s1.1
  have q1 : r32 = [1, 0, 0, 0, 0, 0, 0, 0, 0, 0, 0, 0, 0, 0, 0, 0, 0, 0, 0, 0, 0, 0, 0, 0, 0, 0, 0, 0, 0, 0, 0, 0] := nb_inj i32 in_z1 (s1.trans (by rw [nb_z0, nb_z1]; exact enc_zero))
  refine ⟨fun _ => ?_, fun h => absurd (q1) (by simpa using h)⟩
  intro z64 a64 b64 s2
  have s2 : s_cright [r0] [[z64]] := s2.1
  have t2 : z64 = 1 := sm_is s2 (dec_of base_on e0)
  refine ⟨fun _ => ?_, fun h => absurd (t2) (by simpa using h)⟩
  intro z65 a65 b65 s3
  have s3 : s_cright [[2, 0, 0, 0, 0, 0, 0, 0, 0, 0, 0, 0, 0, 0, 0, 0, 0, 0, 0, 0, 0, 0, 0, 0, 0, 0, 0, 0, 0, 0, 0, 0]] [[z65]] := s3.1
  have t3 : ¬ z65 = 1 := by rw [s3, nb_z2, dec_2]; decide
  have hz := k1 (b := !decide (z65 = 1)) (by simpa using t3)
  exact ⟨kt hz, hz⟩

def B_lorder (S : Nat → List (List Int) → List (List Int) → Prop) (K : List (List Int) → List (List Int) → Prop) : Prop :=
 ∀ r0 : List Int, inB (repB 0 255 32) r0 → 
 ∀ z32 : Int, 0 ≤ z32 → z32 ≤ 1 → S 140 [] [[z32]] →
 ((((!(decide (z32 = 1)))) = true →
  K [r0] [[(cond (false) 1 0)]]
 ) ∧ (((!(decide (z32 = 1)))) = false →
  ∀ z33 : Int, 0 ≤ z33 → z33 ≤ 1 → S 110 [r0] [[z33]] →
  ((((!(decide (z33 = 1)))) = true →
   ∀ r34 : List Int, inB (repB 0 255 32) r34 → ∀ z66 : Int, 0 ≤ z66 → z66 ≤ 1 → S 113 [[8, 0, 0, 0, 0, 0, 0, 0, 0, 0, 0, 0, 0, 0, 0, 0, 0, 0, 0, 0, 0, 0, 0, 0, 0, 0, 0, 0, 0, 0, 0, 0], r0] [r34, [z66]] →
   K [r0] [[(cond (decide (z66 = 1)) 1 0)]]
  ) ∧ (((!(decide (z33 = 1)))) = false →
   ∀ r34 : List Int, inB (repB 0 255 32) r34 → ∀ z66 : Int, 0 ≤ z66 → z66 ≤ 1 → S 113 [[8, 0, 0, 0, 0, 0, 0, 0, 0, 0, 0, 0, 0, 0, 0, 0, 0, 0, 0, 0, 0, 0, 0, 0, 0, 0, 0, 0, 0, 0, 0, 0], r0] [r34, [z66]] →
   ∀ r67 : List Int, inB (repB 0 18446744073709551615 4) r67 → S 133 [] [r67] →
   ∀ r71 : List Int, inB (repB 0 255 32) r71 → S 27 [r67] [r71] →
   ∀ r103 : List Int, inB (repB 0 255 32) r103 → ∀ z135 : Int, 0 ≤ z135 → z135 ≤ 1 → S 113 [r71, r34] [r103, [z135]] →
   (((decide (z66 = 0)) = true →
    (((decide (z135 = 0)) = true →
     K [r0] [[(cond (decide (r103 = [1, 0, 0, 0, 0, 0, 0, 0, 0, 0, 0, 0, 0, 0, 0, 0, 0, 0, 0, 0, 0, 0, 0, 0, 0, 0, 0, 0, 0, 0, 0, 0])) 1 0)]]
    ) ∧ ((decide (z135 = 0)) = false →
     K [r0] [[(cond (false) 1 0)]]
    ))
   ) ∧ ((decide (z66 = 0)) = false →
    K [r0] [[(cond (false) 1 0)]]
   ))
  ))
 ))
theorem p_lorder (G) : B_lorder (SG G) (KB k_lorder.res 141) := by
  unfold B_lorder
  intro r0 i0 z32 a32 b32 s0
  have s0 : z32 = 1 := s0.1
  refine ⟨fun h => absurd (s0) (by simpa using h), fun _ => ?_⟩
  intro z33 a33 b33 s1
  have s1 : s_cright [r0] [[z33]] := s1.1
  refine ⟨fun h => ?_, fun h => ?_⟩
  · simp only [Bool.not_eq_true', Bool.not_eq_false', decide_eq_true_eq, decide_eq_false_iff_not] at h
    intro r34 i34 z66 a66 b66 s2
    have s2 : s_ctimes [[8, 0, 0, 0, 0, 0, 0, 0, 0, 0, 0, 0, 0, 0, 0, 0, 0, 0, 0, 0, 0, 0, 0, 0, 0, 0, 0, 0, 0, 0, 0, 0], r0] [r34, [z66]] := s2.1
    have t := tm_none s2 (sm_none s1 h)
    have hz := k1 (decide_eq_true t)
    exact ⟨kt hz, hz⟩
  · simp only [Bool.not_eq_true', Bool.not_eq_false', decide_eq_true_eq, decide_eq_false_iff_not] at h
    intro r34 i34 z66 a66 b66 s2 r67 i67 s3 r71 i71 s4 r103 i103 z135 a135 b135 s5
    have s2 : s_ctimes [[8, 0, 0, 0, 0, 0, 0, 0, 0, 0, 0, 0, 0, 0, 0, 0, 0, 0, 0, 0, 0, 0, 0, 0, 0, 0, 0, 0, 0, 0, 0, 0], r0] [r34, [z66]] := s2.1
    have s3 : s_rl [] [r67] := s3.1
    have s4 : nb r71 = nw r67 := s4.1
    have s5 : s_ctimes [r71, r34] [r103, [z135]] := s5.1
    obtain ⟨A, hA⟩ := sm_some s1 h
    have o := dec_on hA
    have t2 := tm_some s2 hA
    rw [nb_z8] at t2
    have t5 := tm_some s5 (dec_of (mulP_on o _) t2.2)
    rw [L_toNat s3 s4, show (8 : Int).toNat = 8 by rfl, ord_any o, enc_zero] at t5
    refine ⟨fun _ => ?_, fun h => absurd (t2.1) (by simpa using h)⟩
    refine ⟨fun _ => ?_, fun h => absurd (t5.1) (by simpa using h)⟩
    have hz := k1 (decide_eq_true (nb_inj i103 in_z1 (t5.2.trans nb_z1.symm)))
    exact ⟨kt hz, hz⟩

def B_lgroup (S : Nat → List (List Int) → List (List Int) → Prop) (K : List (List Int) → List (List Int) → Prop) : Prop :=
 ∀ r0 : List Int, inB (repB 0 255 32) r0 → ∀ r32 : List Int, inB (repB 0 255 32) r32 → ∀ r64 : List Int, inB (repB 0 255 32) r64 → 
 ∀ z96 : Int, 0 ≤ z96 → z96 ≤ 1 → S 140 [] [[z96]] →
 ((((!(decide (z96 = 1)))) = true →
  K [r0, r32, r64] [[(cond (false) 1 0)]]
 ) ∧ (((!(decide (z96 = 1)))) = false →
  ∀ z97 : Int, 0 ≤ z97 → z97 ≤ 1 → S 110 [r0] [[z97]] →
  ((((!(decide (z97 = 1)))) = true →
   ∀ r98 : List Int, inB (repB 0 255 32) r98 → ∀ z130 : Int, 0 ≤ z130 → z130 ≤ 1 → S 111 [r0, r32] [r98, [z130]] →
   ∀ r131 : List Int, inB (repB 0 255 32) r131 → ∀ z163 : Int, 0 ≤ z163 → z163 ≤ 1 → S 111 [r32, r64] [r131, [z163]] →
   (((decide (z130 = 1)) = true →
    K [r0, r32, r64] [[(cond (true) 1 0)]]
   ) ∧ ((decide (z130 = 1)) = false →
    K [r0, r32, r64] [[(cond (decide (z163 = 1)) 1 0)]]
   ))
  ) ∧ (((!(decide (z97 = 1)))) = false →
   ∀ z98 : Int, 0 ≤ z98 → z98 ≤ 1 → S 110 [r32] [[z98]] →
   ((((!(decide (z98 = 1)))) = true →
    ∀ r99 : List Int, inB (repB 0 255 32) r99 → ∀ z131 : Int, 0 ≤ z131 → z131 ≤ 1 → S 111 [r0, r32] [r99, [z131]] →
    ∀ r132 : List Int, inB (repB 0 255 32) r132 → ∀ z164 : Int, 0 ≤ z164 → z164 ≤ 1 → S 111 [r32, r64] [r132, [z164]] →
    (((decide (z131 = 1)) = true →
     K [r0, r32, r64] [[(cond (true) 1 0)]]
    ) ∧ ((decide (z131 = 1)) = false →
     K [r0, r32, r64] [[(cond (decide (z164 = 1)) 1 0)]]
    ))
   ) ∧ (((!(decide (z98 = 1)))) = false →
    ∀ z99 : Int, 0 ≤ z99 → z99 ≤ 1 → S 110 [r64] [[z99]] →
    ((((!(decide (z99 = 1)))) = true →
     ∀ r100 : List Int, inB (repB 0 255 32) r100 → ∀ z132 : Int, 0 ≤ z132 → z132 ≤ 1 → S 111 [r0, r32] [r100, [z132]] →
     ∀ r133 : List Int, inB (repB 0 255 32) r133 → ∀ z165 : Int, 0 ≤ z165 → z165 ≤ 1 → S 111 [r32, r64] [r133, [z165]] →
     (((decide (z132 = 1)) = true →
      K [r0, r32, r64] [[(cond (true) 1 0)]]
     ) ∧ ((decide (z132 = 1)) = false →
      K [r0, r32, r64] [[(cond (decide (z165 = 1)) 1 0)]]
     ))
    ) ∧ (((!(decide (z99 = 1)))) = false →
     ∀ r100 : List Int, inB (repB 0 255 32) r100 → ∀ z132 : Int, 0 ≤ z132 → z132 ≤ 1 → S 111 [r0, r32] [r100, [z132]] →
     ∀ r133 : List Int, inB (repB 0 255 32) r133 → ∀ z165 : Int, 0 ≤ z165 → z165 ≤ 1 → S 111 [r32, r0] [r133, [z165]] →
     ∀ r166 : List Int, inB (repB 0 255 32) r166 → ∀ z198 : Int, 0 ≤ z198 → z198 ≤ 1 → S 111 [r100, r64] [r166, [z198]] →
     ∀ r199 : List Int, inB (repB 0 255 32) r199 → ∀ z231 : Int, 0 ≤ z231 → z231 ≤ 1 → S 111 [r32, r64] [r199, [z231]] →
     ∀ r232 : List Int, inB (repB 0 255 32) r232 → ∀ z264 : Int, 0 ≤ z264 → z264 ≤ 1 → S 111 [r0, r199] [r232, [z264]] →
     ∀ r265 : List Int, inB (repB 0 255 32) r265 → ∀ z297 : Int, 0 ≤ z297 → z297 ≤ 1 → S 112 [r0] [r265, [z297]] →
     ∀ r298 : List Int, inB (repB 0 255 32) r298 → ∀ z330 : Int, 0 ≤ z330 → z330 ≤ 1 → S 111 [r0, r265] [r298, [z330]] →
     (((decide (z132 = 0)) = true →
      (((decide (z165 = 0)) = true →
       (((decide (z198 = 0)) = true →
        (((decide (z231 = 0)) = true →
         (((decide (z264 = 0)) = true →
          (((decide (z297 = 0)) = true →
           (((decide (z330 = 0)) = true →
            (((decide (r100 = r133)) = true →
             (((decide (r166 = r232)) = true →
              K [r0, r32, r64] [[(cond (decide (r298 = [1, 0, 0, 0, 0, 0, 0, 0, 0, 0, 0, 0, 0, 0, 0, 0, 0, 0, 0, 0, 0, 0, 0, 0, 0, 0, 0, 0, 0, 0, 0, 0])) 1 0)]]
             ) ∧ ((decide (r166 = r232)) = false →
              K [r0, r32, r64] [[(cond (false) 1 0)]]
             ))
            ) ∧ ((decide (r100 = r133)) = false →
             K [r0, r32, r64] [[(cond (false) 1 0)]]
            ))
           ) ∧ ((decide (z330 = 0)) = false →
            K [r0, r32, r64] [[(cond (false) 1 0)]]
           ))
          ) ∧ ((decide (z297 = 0)) = false →
           K [r0, r32, r64] [[(cond (false) 1 0)]]
          ))
         ) ∧ ((decide (z264 = 0)) = false →
          K [r0, r32, r64] [[(cond (false) 1 0)]]
         ))
        ) ∧ ((decide (z231 = 0)) = false →
         K [r0, r32, r64] [[(cond (false) 1 0)]]
        ))
       ) ∧ ((decide (z198 = 0)) = false →
        K [r0, r32, r64] [[(cond (false) 1 0)]]
       ))
      ) ∧ ((decide (z165 = 0)) = false →
       K [r0, r32, r64] [[(cond (false) 1 0)]]
      ))
     ) ∧ ((decide (z132 = 0)) = false →
      K [r0, r32, r64] [[(cond (false) 1 0)]]
     ))
    ))
   ))
  ))
 ))
theorem p_lgroup (G) : B_lgroup (SG G) (KB k_lgroup.res 142) := by
  unfold B_lgroup
  intro r0 i0 r32 i32 r64 i64 z96 a96 b96 s0
  have s0 : z96 = 1 := s0.1
  refine ⟨fun h => absurd (s0) (by simpa using h), fun _ => ?_⟩
  intro z97 a97 b97 s1
  have s1 : s_cright [r0] [[z97]] := s1.1
  refine ⟨fun h => ?_, fun h => ?_⟩
  · simp only [Bool.not_eq_true', Bool.not_eq_false', decide_eq_true_eq, decide_eq_false_iff_not] at h
    intro r98 i98 z130 a130 b130 s2 r131 i131 z163 a163 b163 s3
    have s2 : s_cadd [r0, r32] [r98, [z130]] := s2.1
    have s3 : s_cadd [r32, r64] [r131, [z163]] := s3.1
    have t := add_none1 s2 (sm_none s1 h)
    refine ⟨fun _ => ?_, fun h => absurd (t) (by simpa using h)⟩
    exact ⟨kt rfl, rfl⟩
  · simp only [Bool.not_eq_true', Bool.not_eq_false', decide_eq_true_eq, decide_eq_false_iff_not] at h
    intro z98 a98 b98 s2
    have s2 : s_cright [r32] [[z98]] := s2.1
    refine ⟨fun h => ?_, fun h => ?_⟩
    · simp only [Bool.not_eq_true', Bool.not_eq_false', decide_eq_true_eq, decide_eq_false_iff_not] at h
      intro r99 i99 z131 a131 b131 s3 r132 i132 z164 a164 b164 s4
      have s3 : s_cadd [r0, r32] [r99, [z131]] := s3.1
      have s4 : s_cadd [r32, r64] [r132, [z164]] := s4.1
      have t := add_none2 s3 (sm_none s2 h)
      refine ⟨fun _ => ?_, fun h => absurd (t) (by simpa using h)⟩
      exact ⟨kt rfl, rfl⟩
    · simp only [Bool.not_eq_true', Bool.not_eq_false', decide_eq_true_eq, decide_eq_false_iff_not] at h
      intro z99 a99 b99 s3
      have s3 : s_cright [r64] [[z99]] := s3.1
      refine ⟨fun h => ?_, fun h => ?_⟩
      · simp only [Bool.not_eq_true', Bool.not_eq_false', decide_eq_true_eq, decide_eq_false_iff_not] at h
        intro r100 i100 z132 a132 b132 s4 r133 i133 z165 a165 b165 s5
        have s4 : s_cadd [r0, r32] [r100, [z132]] := s4.1
        have s5 : s_cadd [r32, r64] [r133, [z165]] := s5.1
        have t := add_none2 s5 (sm_none s3 h)
        refine ⟨fun h => ?_, fun h => ?_⟩
        · simp only [Bool.not_eq_true', Bool.not_eq_false', decide_eq_true_eq, decide_eq_false_iff_not] at h
          exact ⟨kt rfl, rfl⟩
        · simp only [Bool.not_eq_true', Bool.not_eq_false', decide_eq_true_eq, decide_eq_false_iff_not] at h
          have hz := k1 (decide_eq_true t)
          exact ⟨kt hz, hz⟩
      · simp only [Bool.not_eq_true', Bool.not_eq_false', decide_eq_true_eq, decide_eq_false_iff_not] at h
        intro r100 i100 z132 a132 b132 s4 r133 i133 z165 a165 b165 s5 r166 i166 z198 a198 b198 s6 r199 i199 z231 a231 b231 s7 r232 i232 z264 a264 b264 s8 r265 i265 z297 a297 b297 s9 r298 i298 z330 a330 b330 s10
        have s4 : s_cadd [r0, r32] [r100, [z132]] := s4.1
        have s5 : s_cadd [r32, r0] [r133, [z165]] := s5.1
        have s6 : s_cadd [r100, r64] [r166, [z198]] := s6.1
        have s7 : s_cadd [r32, r64] [r199, [z231]] := s7.1
        have s8 : s_cadd [r0, r199] [r232, [z264]] := s8.1
        have s9 : s_cneg [r0] [r265, [z297]] := s9.1
        have s10 : s_cadd [r0, r265] [r298, [z330]] := s10.1
        obtain ⟨A, hA⟩ := sm_some s1 (by assumption)
        obtain ⟨B, hB⟩ := sm_some s2 (by assumption)
        obtain ⟨C, hC⟩ := sm_some s3 h
        have oA := dec_on hA
        have oB := dec_on hB
        have oC := dec_on hC
        have t4 := add_some s4 hA hB
        have t5 := add_some s5 hB hA
        have t6 := add_some s6 (dec_of (addP_on oA oB) t4.2) hC
        have t7 := add_some s7 hB hC
        have t8 := add_some s8 hA (dec_of (addP_on oB oC) t7.2)
        have t9 := neg_some s9 hA
        have t10 := add_some s10 hA (dec_of (negP_on oA) t9.2)
        rw [addP_neg oA, enc_zero] at t10
        rw [addP_comm] at t5
        rw [addP_assoc oA oB oC] at t6
        refine ⟨fun _ => ?_, fun h => absurd (t4.1) (by simpa using h)⟩
        refine ⟨fun _ => ?_, fun h => absurd (t5.1) (by simpa using h)⟩
        refine ⟨fun _ => ?_, fun h => absurd (t6.1) (by simpa using h)⟩
        refine ⟨fun _ => ?_, fun h => absurd (t7.1) (by simpa using h)⟩
        refine ⟨fun _ => ?_, fun h => absurd (t8.1) (by simpa using h)⟩
        refine ⟨fun _ => ?_, fun h => absurd (t9.1) (by simpa using h)⟩
        refine ⟨fun _ => ?_, fun h => absurd (t10.1) (by simpa using h)⟩
        refine ⟨fun _ => ?_, fun h => absurd (nb_inj i100 i133 (t4.2.trans t5.2.symm)) (by simpa using h)⟩
        refine ⟨fun _ => ?_, fun h => absurd (nb_inj i166 i232 (t6.2.trans t8.2.symm)) (by simpa using h)⟩
        have hz := k1 (decide_eq_true (nb_inj i298 in_z1 (t10.2.trans nb_z1.symm)))
        exact ⟨kt hz, hz⟩

def B_lnegs (S : Nat → List (List Int) → List (List Int) → Prop) (K : List (List Int) → List (List Int) → Prop) : Prop :=
 ∀ r0 : List Int, inB (repB 0 255 32) r0 → ∀ r32 : List Int, inB (repB 0 255 32) r32 → 
 ∀ z64 : Int, 0 ≤ z64 → z64 ≤ 1 → S 140 [] [[z64]] →
 ((((!(decide (z64 = 1)))) = true →
  K [r0, r32] [[(cond (false) 1 0)]]
 ) ∧ (((!(decide (z64 = 1)))) = false →
  ∀ r65 : List Int, inB (repB 0 255 32) r65 → ∀ z97 : Int, 0 ≤ z97 → z97 ≤ 1 → S 112 [r32] [r65, [z97]] →
  ∀ r98 : List Int, inB (repB 0 255 32) r98 → ∀ z130 : Int, 0 ≤ z130 → z130 ≤ 1 → S 113 [r0, r65] [r98, [z130]] →
  ∀ r131 : List Int, inB (repB 0 255 32) r131 → ∀ z163 : Int, 0 ≤ z163 → z163 ≤ 1 → S 113 [r0, r32] [r131, [z163]] →
  ∀ r164 : List Int, inB (repB 0 255 32) r164 → ∀ z196 : Int, 0 ≤ z196 → z196 ≤ 1 → S 112 [r131] [r164, [z196]] →
  ∀ z197 : Int, 0 ≤ z197 → z197 ≤ 1 → S 110 [r32] [[z197]] →
  ((((!(decide (z197 = 1)))) = true →
   (((decide (z97 = 1)) = true →
    K [r0, r32] [[(cond (decide (z163 = 1)) 1 0)]]
   ) ∧ ((decide (z97 = 1)) = false →
    K [r0, r32] [[(cond (false) 1 0)]]
   ))
  ) ∧ (((!(decide (z197 = 1)))) = false →
   (((decide (z97 = 0)) = true →
    (((decide (z130 = 0)) = true →
     (((decide (z163 = 0)) = true →
      (((decide (z196 = 0)) = true →
       K [r0, r32] [[(cond (decide (r98 = r164)) 1 0)]]
      ) ∧ ((decide (z196 = 0)) = false →
       K [r0, r32] [[(cond (false) 1 0)]]
      ))
     ) ∧ ((decide (z163 = 0)) = false →
      K [r0, r32] [[(cond (false) 1 0)]]
     ))
    ) ∧ ((decide (z130 = 0)) = false →
     K [r0, r32] [[(cond (false) 1 0)]]
    ))
   ) ∧ ((decide (z97 = 0)) = false →
    K [r0, r32] [[(cond (false) 1 0)]]
   ))
  ))
 ))
theorem p_lnegs (G) : B_lnegs (SG G) (KB k_lnegs.res 143) := by
  unfold B_lnegs
  intro r0 i0 r32 i32 z64 a64 b64 s0
  have s0 : z64 = 1 := s0.1
  refine ⟨fun h => absurd (s0) (by simpa using h), fun _ => ?_⟩
  intro r65 i65 z97 a97 b97 s1 r98 i98 z130 a130 b130 s2 r131 i131 z163 a163 b163 s3 r164 i164 z196 a196 b196 s4 z197 a197 b197 s5
  have s1 : s_cneg [r32] [r65, [z97]] := s1.1
  have s2 : s_ctimes [r0, r65] [r98, [z130]] := s2.1
  have s3 : s_ctimes [r0, r32] [r131, [z163]] := s3.1
  have s4 : s_cneg [r131] [r164, [z196]] := s4.1
  have s5 : s_cright [r32] [[z197]] := s5.1
  refine ⟨fun h => ?_, fun h => ?_⟩
  · simp only [Bool.not_eq_true', Bool.not_eq_false', decide_eq_true_eq, decide_eq_false_iff_not] at h
    have hd := sm_none s5 h
    have t1 := neg_none s1 hd
    have t3 := tm_none s3 hd
    refine ⟨fun _ => ?_, fun h => absurd (t1) (by simpa using h)⟩
    have hz := k1 (decide_eq_true t3)
    exact ⟨kt hz, hz⟩
  · simp only [Bool.not_eq_true', Bool.not_eq_false', decide_eq_true_eq, decide_eq_false_iff_not] at h
    obtain ⟨A, hA⟩ := sm_some s5 h
    have oA := dec_on hA
    have t1 := neg_some s1 hA
    have t2 := tm_some s2 (dec_of (negP_on oA) t1.2)
    have t3 := tm_some s3 hA
    have t4 := neg_some s4 (dec_of (mulP_on oA _) t3.2)
    rw [mulP_neg oA] at t2
    refine ⟨fun _ => ?_, fun h => absurd (t1.1) (by simpa using h)⟩
    refine ⟨fun _ => ?_, fun h => absurd (t2.1) (by simpa using h)⟩
    refine ⟨fun _ => ?_, fun h => absurd (t3.1) (by simpa using h)⟩
    refine ⟨fun _ => ?_, fun h => absurd (t4.1) (by simpa using h)⟩
    have hz := k1 (decide_eq_true (nb_inj i98 i164 (t2.2.trans t4.2.symm)))
    exact ⟨kt hz, hz⟩

def B_ltimes (S : Nat → List (List Int) → List (List Int) → Prop) (K : List (List Int) → List (List Int) → Prop) : Prop :=
 ∀ r0 : List Int, inB (repB 0 255 32) r0 → ∀ r32 : List Int, inB (repB 0 255 32) r32 → 
 ∀ z64 : Int, 0 ≤ z64 → z64 ≤ 1 → S 140 [] [[z64]] →
 ((((!(decide (z64 = 1)))) = true →
  K [r0, r32] [[(cond (false) 1 0)]]
 ) ∧ (((!(decide (z64 = 1)))) = false →
  ∀ r65 : List Int, inB (repB 0 255 32) r65 → ∀ z97 : Int, 0 ≤ z97 → z97 ≤ 1 → S 113 [r0, r32] [r65, [z97]] →
  ∀ r98 : List Int, inB (repB 0 255 32) r98 → ∀ z130 : Int, 0 ≤ z130 → z130 ≤ 1 → S 130 [r0, r32] [r98, [z130]] →
  (((decide (r65 = r98)) = true →
   (((decide (z97 = z130)) = true →
    ∀ r131 : List Int, inB (repB 0 255 32) r131 → S 114 [r0] [r131] →
    ∀ r163 : List Int, inB (repB 0 255 32) r163 → S 131 [r0] [r163] →
    K [r0, r32] [[(cond (decide (r131 = r163)) 1 0)]]
   ) ∧ ((decide (z97 = z130)) = false →
    K [r0, r32] [[(cond (false) 1 0)]]
   ))
  ) ∧ ((decide (r65 = r98)) = false →
   K [r0, r32] [[(cond (false) 1 0)]]
  ))
 ))
theorem p_ltimes (G) : B_ltimes (SG G) (KB k_ltimes.res 144) := by
  unfold B_ltimes
  intro r0 i0 r32 i32 z64 a64 b64 s0
  have s0 : z64 = 1 := s0.1
  refine ⟨fun h => absurd (s0) (by simpa using h), fun _ => ?_⟩
  intro r65 i65 z97 a97 b97 s1 r98 i98 z130 a130 b130 s2
  have s1 : s_ctimes [r0, r32] [r65, [z97]] := s1.1
  have s2 : s_ctimes [r0, r32] [r98, [z130]] := s2.1
  have t := RT_eq s1 s2 i65 i98
  refine ⟨fun _ => ?_, fun h => absurd (t.1) (by simpa using h)⟩
  refine ⟨fun _ => ?_, fun h => absurd (t.2) (by simpa using h)⟩
  intro r131 i131 s3 r163 i163 s4
  have s3 : s_base [r0] [r131] := s3.1
  have s4 : s_base [r0] [r163] := s4.1
  have hz := k1 (decide_eq_true (nb_inj i131 i163 (s3.trans s4.symm)))
  exact ⟨kt hz, hz⟩

def B_lmixes (S : Nat → List (List Int) → List (List Int) → Prop) (K : List (List Int) → List (List Int) → Prop) : Prop :=
 ∀ r0 : List Int, inB (repB 0 255 32) r0 → ∀ r32 : List Int, inB (repB 0 255 32) r32 → ∀ r64 : List Int, inB (repB 0 255 32) r64 → 
 ∀ z96 : Int, 0 ≤ z96 → z96 ≤ 1 → S 140 [] [[z96]] →
 ((((!(decide (z96 = 1)))) = true →
  K [r0, r32, r64] [[(cond (false) 1 0)]]
 ) ∧ (((!(decide (z96 = 1)))) = false →
  ∀ r97 : List Int, inB (repB 0 255 32) r97 → ∀ z129 : Int, 0 ≤ z129 → z129 ≤ 1 → S 115 [r0, r32, r64] [r97, [z129]] →
  ∀ r130 : List Int, inB (repB 0 255 32) r130 → ∀ z162 : Int, 0 ≤ z162 → z162 ≤ 1 → S 132 [r0, r32, r64] [r130, [z162]] →
  (((decide (r97 = r130)) = true →
   K [r0, r32, r64] [[(cond (decide (z129 = z162)) 1 0)]]
  ) ∧ ((decide (r97 = r130)) = false →
   K [r0, r32, r64] [[(cond (false) 1 0)]]
  ))
 ))
theorem p_lmixes (G) : B_lmixes (SG G) (KB k_lmixes.res 145) := by
  unfold B_lmixes
  intro r0 i0 r32 i32 r64 i64 z96 a96 b96 s0
  have s0 : z96 = 1 := s0.1
  refine ⟨fun h => absurd (s0) (by simpa using h), fun _ => ?_⟩
  intro r97 i97 z129 a129 b129 s1 r130 i130 z162 a162 b162 s2
  have s1 : s_cmix [r0, r32, r64] [r97, [z129]] := s1.1
  have s2 : s_cmix [r0, r32, r64] [r130, [z162]] := s2.1
  have t := RT_eq s1 s2 i97 i130
  refine ⟨fun _ => ?_, fun h => absurd (t.1) (by simpa using h)⟩
  have hz := k1 (decide_eq_true t.2)
  exact ⟨kt hz, hz⟩

def B_ladds (S : Nat → List (List Int) → List (List Int) → Prop) (K : List (List Int) → List (List Int) → Prop) : Prop :=
 ∀ r0 : List Int, inB (repB 0 255 32) r0 → ∀ r32 : List Int, inB (repB 0 255 32) r32 → 
 ∀ z64 : Int, 0 ≤ z64 → z64 ≤ 1 → S 140 [] [[z64]] →
 ((((!(decide (z64 = 1)))) = true →
  K [r0, r32] [[(cond (false) 1 0)]]
 ) ∧ (((!(decide (z64 = 1)))) = false →
  ∀ r65 : List Int, inB (repB 0 255 32) r65 → ∀ z97 : Int, 0 ≤ z97 → z97 ≤ 1 → S 111 [r0, r32] [r65, [z97]] →
  ∀ r98 : List Int, inB (repB 0 255 32) r98 → ∀ z130 : Int, 0 ≤ z130 → z130 ≤ 1 → S 128 [r0, r32] [r98, [z130]] →
  ∀ r131 : List Int, inB (repB 0 255 32) r131 → ∀ z163 : Int, 0 ≤ z163 → z163 ≤ 1 → S 112 [r0] [r131, [z163]] →
  ∀ r164 : List Int, inB (repB 0 255 32) r164 → ∀ z196 : Int, 0 ≤ z196 → z196 ≤ 1 → S 129 [r0] [r164, [z196]] →
  ∀ z197 : Int, 0 ≤ z197 → z197 ≤ 1 → S 110 [r0] [[z197]] →
  ∀ z198 : Int, 0 ≤ z198 → z198 ≤ 1 → S 127 [r0] [[z198]] →
  (((((decide (z197 = 1)) == (decide (z198 = 1)))) = true →
   (((decide (r65 = r98)) = true →
    (((decide (z97 = z130)) = true →
     (((decide (r131 = r164)) = true →
      K [r0, r32] [[(cond (decide (z163 = z196)) 1 0)]]
     ) ∧ ((decide (r131 = r164)) = false →
      K [r0, r32] [[(cond (false) 1 0)]]
     ))
    ) ∧ ((decide (z97 = z130)) = false →
     K [r0, r32] [[(cond (false) 1 0)]]
    ))
   ) ∧ ((decide (r65 = r98)) = false →
    K [r0, r32] [[(cond (false) 1 0)]]
   ))
  ) ∧ ((((decide (z197 = 1)) == (decide (z198 = 1)))) = false →
   K [r0, r32] [[(cond (false) 1 0)]]
  ))
 ))
theorem p_ladds (G) : B_ladds (SG G) (KB k_ladds.res 146) := by
  unfold B_ladds
  intro r0 i0 r32 i32 z64 a64 b64 s0
  have s0 : z64 = 1 := s0.1
  refine ⟨fun h => absurd (s0) (by simpa using h), fun _ => ?_⟩
  intro r65 i65 z97 a97 b97 s1 r98 i98 z130 a130 b130 s2 r131 i131 z163 a163 b163 s3 r164 i164 z196 a196 b196 s4 z197 a197 b197 s5 z198 a198 b198 s6
  have s1 : s_cadd [r0, r32] [r65, [z97]] := s1.1
  have s2 : s_cadd [r0, r32] [r98, [z130]] := s2.1
  have s3 : s_cneg [r0] [r131, [z163]] := s3.1
  have s4 : s_cneg [r0] [r164, [z196]] := s4.1
  have s5 : s_cright [r0] [[z197]] := s5.1
  have s6 : s_cright [r0] [[z198]] := s6.1
  have t := RT_eq s1 s2 i65 i98
  have u := RT_eq s3 s4 i131 i164
  have w : (decide (z197 = 1) == decide (z198 = 1)) = true := by rw [s5, s6]; simp
  refine ⟨fun _ => ?_, fun h => absurd (w) (by simpa using h)⟩
  refine ⟨fun _ => ?_, fun h => absurd (t.1) (by simpa using h)⟩
  refine ⟨fun _ => ?_, fun h => absurd (t.2) (by simpa using h)⟩
  refine ⟨fun _ => ?_, fun h => absurd (u.1) (by simpa using h)⟩
  have hz := k1 (decide_eq_true u.2)
  exact ⟨kt hz, hz⟩
end Go.Fd
