/- The curve seat: the order times, and sums of times; with the scalar's contract. -/
import Derived.Test.YtaapajicchefdaaDoorCvOkM
import Derived.Test.YtaapajicchefdaaDoorScOk
set_option linter.unusedVariables false
set_option linter.unusedSimpArgs false
set_option maxRecDepth 100000
namespace Go.Fd
open Go Go.Rx Go.Proofs
theorem rl_num {l : List Int} (h : s_rl [] [l]) : nw l = (ordL : Int) := h
theorem base_of {k : List Int} {r : List Int} (h : s_base [k] [r]) {n : Nat} (e : (nb k).toNat % ordL = n % ordL) : nb r = enc (mulP n baseP) := by
  have h : nb r = enc (mulP (nb k).toNat baseP) := h
  rw [h, ← base_mod, e, base_mod]
theorem mod_toNat {x : Int} (h : 0 ≤ x) : (x % (ordL : Int)).toNat % ordL = x.toNat % ordL := by
  obtain ⟨n, rfl⟩ := Int.eq_ofNat_of_zero_le h
  have e : ((n : Int) % (ordL : Int)) = ((n % ordL : Nat) : Int) := (Int.natCast_emod n ordL).symm
  rw [e, Int.toNat_natCast, Int.toNat_natCast, Nat.mod_mod]
def B_lmany (S : Nat → List (List Int) → List (List Int) → Prop) (K : List (List Int) → List (List Int) → Prop) : Prop :=
 ∀ r0 : List Int, inB (repB 0 255 32) r0 → ∀ r32 : List Int, inB (repB 0 255 32) r32 → 
 ∀ z64 : Int, 0 ≤ z64 → z64 ≤ 1 → S 140 [] [[z64]] →
 ((((!(decide (z64 = 1)))) = true →
  K [r0, r32] [[(cond (false) 1 0)]]
 ) ∧ (((!(decide (z64 = 1)))) = false →
  ∀ r65 : List Int, inB (repB 0 18446744073709551615 4) r65 → S 133 [] [r65] →
  ∀ r69 : List Int, inB (repB 0 255 32) r69 → S 27 [r65] [r69] →
  ∀ r101 : List Int, inB (repB 0 255 32) r101 → S 114 [r0] [r101] →
  ∀ r133 : List Int, inB (repB 0 255 32) r133 → S 114 [r32] [r133] →
  ∀ r165 : List Int, inB (repB 0 255 32) r165 → ∀ z197 : Int, 0 ≤ z197 → z197 ≤ 1 → S 111 [r101, r133] [r165, [z197]] →
  ∀ r198 : List Int, inB (repB 0 255 32) r198 → S 114 [r0] [r198] →
  ∀ r230 : List Int, inB (repB 0 255 32) r230 → ∀ z262 : Int, 0 ≤ z262 → z262 ≤ 1 → S 113 [r32, r198] [r230, [z262]] →
  (((decide (z197 = 0)) = true →
   (((decide (z262 = 0)) = true →
    ∀ r263 : List Int, inB (repB 0 255 32) r263 → S 150 [r0, [1, 0, 0, 0, 0, 0, 0, 0, 0, 0, 0, 0, 0, 0, 0, 0, 0, 0, 0, 0, 0, 0, 0, 0, 0, 0, 0, 0, 0, 0, 0, 0], r32] [r263] →
    ∀ r295 : List Int, inB (repB 0 255 32) r295 → S 114 [r263] [r295] →
    (((decide (r165 = r295)) = true →
     ∀ r327 : List Int, inB (repB 0 255 32) r327 → S 150 [r0, r32, [0, 0, 0, 0, 0, 0, 0, 0, 0, 0, 0, 0, 0, 0, 0, 0, 0, 0, 0, 0, 0, 0, 0, 0, 0, 0, 0, 0, 0, 0, 0, 0]] [r327] →
     ∀ r359 : List Int, inB (repB 0 255 32) r359 → S 114 [r327] [r359] →
     (((decide (r230 = r359)) = true →
      ∀ r391 : List Int, inB (repB 0 255 32) r391 → S 114 [r69] [r391] →
      K [r0, r32] [[(cond (decide (r391 = [1, 0, 0, 0, 0, 0, 0, 0, 0, 0, 0, 0, 0, 0, 0, 0, 0, 0, 0, 0, 0, 0, 0, 0, 0, 0, 0, 0, 0, 0, 0, 0])) 1 0)]]
     ) ∧ ((decide (r230 = r359)) = false →
      K [r0, r32] [[(cond (false) 1 0)]]
     ))
    ) ∧ ((decide (r165 = r295)) = false →
     K [r0, r32] [[(cond (false) 1 0)]]
    ))
   ) ∧ ((decide (z262 = 0)) = false →
    K [r0, r32] [[(cond (false) 1 0)]]
   ))
  ) ∧ ((decide (z197 = 0)) = false →
   K [r0, r32] [[(cond (false) 1 0)]]
  ))
 ))
theorem p_lmany (G) : B_lmany (SG G) (KB k_lmany.res 147) := by
  unfold B_lmany
  intro r0 i0 r32 i32 z64 a64 b64 s0
  have s0 : z64 = 1 := s0.1
  refine ⟨fun h => absurd (s0) (by simpa using h), fun _ => ?_⟩
  intro r65 i65 s1 r69 i69 s2 r101 i101 s3 r133 i133 s4 r165 i165 z197 a197 b197 s5 r198 i198 s6 r230 i230 z262 a262 b262 s7
  have s1 : s_rl [] [r65] := s1.1
  have s2 : nb r69 = nw r65 := s2.1
  have s3 : s_base [r0] [r101] := s3.1
  have s4 : s_base [r32] [r133] := s4.1
  have s5 : s_cadd [r101, r133] [r165, [z197]] := s5.1
  have s6 : s_base [r0] [r198] := s6.1
  have s7 : s_ctimes [r32, r198] [r230, [z262]] := s7.1
  have t5 := add_some s5 (dec_of (mulP_on base_on _) s3) (dec_of (mulP_on base_on _) s4)
  rw [← mulP_add base_on] at t5
  have t7 := tm_some s7 (dec_of (mulP_on base_on _) s6)
  rw [mulP_mul base_on] at t7
  have b0 := (nb_b i0).1
  have b1 := (nb_b i32).1
  refine ⟨fun _ => ?_, fun h => absurd (t5.1) (by simpa using h)⟩
  refine ⟨fun _ => ?_, fun h => absurd (t7.1) (by simpa using h)⟩
  intro r263 i263 s8 r295 i295 s9
  have s8 : nb r263 = (nb r0 * nb [1, 0, 0, 0, 0, 0, 0, 0, 0, 0, 0, 0, 0, 0, 0, 0, 0, 0, 0, 0, 0, 0, 0, 0, 0, 0, 0, 0, 0, 0, 0, 0] + nb r32) % (ordL : Int) := s8.1
  have s9 : s_base [r263] [r295] := s9.1
  have q9 : nb r295 = enc (mulP ((nb r0).toNat + (nb r32).toNat) baseP) := base_of s9 (by rw [s8, nb_z1, Int.mul_one, mod_toNat (by omega), Int.toNat_add b0 b1])
  refine ⟨fun _ => ?_, fun h => absurd (nb_inj i165 i295 (t5.2.trans q9.symm)) (by simpa using h)⟩
  intro r327 i327 s10 r359 i359 s11
  have s10 : nb r327 = (nb r0 * nb r32 + nb [0, 0, 0, 0, 0, 0, 0, 0, 0, 0, 0, 0, 0, 0, 0, 0, 0, 0, 0, 0, 0, 0, 0, 0, 0, 0, 0, 0, 0, 0, 0, 0]) % (ordL : Int) := s10.1
  have s11 : s_base [r327] [r359] := s11.1
  have q11 : nb r359 = enc (mulP ((nb r0).toNat * (nb r32).toNat) baseP) := base_of s11 (by rw [s10, nb_z0, Int.add_zero, mod_toNat (Int.mul_nonneg b0 b1), Int.toNat_mul b0 b1])
  refine ⟨fun _ => ?_, fun h => absurd (nb_inj i230 i359 (t7.2.trans q11.symm)) (by simpa using h)⟩
  intro r391 i391 s12
  have s12 : s_base [r69] [r391] := s12.1
  have q12 : nb r391 = 1 := s12.trans (by rw [L_toNat s1 s2, base_ord, enc_zero])
  have hz := k1 (decide_eq_true (nb_inj i391 in_z1 (q12.trans nb_z1.symm)))
  exact ⟨kt hz, hz⟩
theorem ok_smuladd {wb : World} (hg2 : GOk Go.Sc.gl ⟨wb, wb, fun _ => False⟩) : k_smuladd.Ok Tryd.prog wb (fS 150) := by
  have h := Go.Sc.ok_muladd hg2
  refine ⟨h.1, fun zs hz => ?_⟩
  obtain ⟨rs, h1, h2, h3⟩ := h.2 zs hz
  refine ⟨rs, h1, ?_, h3⟩
  have lz : zs.length = 32 + (32 + 32) := inB_len hz
  have lr : rs.length = 32 := inB_len h1
  have h2 : nb rs = (nb (zs.take 32) * nb ((zs.drop 32).take 32) + nb (zs.drop 64)) % (ordL : Int) := h2
  unfold fS
  rw [show sh 150 = ([32, 32, 32], [32]) by rfl]
  simp only [split3 lz, split1 lr]
  show nb rs = (nb (zs.take 32) * nb ((zs.drop 32).take 32) + nb ((zs.drop 32).drop 32)) % (ordL : Int)
  rw [h2, List.drop_drop]
theorem u_lmany (S K) : VcB sh lsh_none S K [32, 32] (bdsL k_lmany.args) k_lmany.res (k_lmany.tree Tryd.prog gl (calS [] [k_calive, k_cadd, k_base, k_ctimes, k_smuladd, k_rbytes, k_rl] 76 77 87) li_none 600 6) = B_lmany S K := by kernel_rfl
theorem pl_lmany : (k_lmany.tree Tryd.prog gl (calS [] [k_calive, k_cadd, k_base, k_ctimes, k_smuladd, k_rbytes, k_rl] 76 77 87) li_none 600 6).plain = true := by kernel_rfl

theorem many_ok {wb : World} (hg : GOk gl ⟨wb, wb, fun _ => False⟩) (hg2 : GOk Go.Sc.gl ⟨wb, wb, fun _ => False⟩) : ∃ G, k_lmany.Ok Tryd.prog wb (FG G 147) := by
  obtain ⟨G0, h0⟩ := all_ok hg
  obtain ⟨G1, h1⟩ := AllOk.step (c := k_smuladd) h0 (by decide) (ok_smuladd hg2)
  have h : ∀ c ∈ [k_calive, k_cadd, k_base, k_ctimes, k_smuladd, k_rbytes, k_rl], c.Ok Tryd.prog wb (FG G1 c.id) := (List.forall_mem_cons.2 ⟨h1 _ (mem_at (i := 1) rfl), (List.forall_mem_cons.2 ⟨h1 _ (mem_at (i := 5) rfl), (List.forall_mem_cons.2 ⟨h1 _ (mem_at (i := 3) rfl), (List.forall_mem_cons.2 ⟨h1 _ (mem_at (i := 4) rfl), (List.forall_mem_cons.2 ⟨h1 _ (mem_at (i := 0) rfl), (List.forall_mem_cons.2 ⟨h1 _ (mem_at (i := 32) rfl), (List.forall_mem_cons.2 ⟨h1 _ (mem_at (i := 2) rfl), nil0⟩)⟩)⟩)⟩)⟩)⟩)⟩)
  have ok : k_lmany.Ok Tryd.prog wb (fS 147) := by
    refine of_vcb (G := G1) (c := k_lmany) (cal := (calS [] [k_calive, k_cadd, k_base, k_ctimes, k_smuladd, k_rbytes, k_rl] 76 77 87)) (li := li_none) (rounds := 600) (d := 6) (lsh := lsh_none) (fun r ex => calS_ok mul76 add77 sub87 nil0 h) hg (enters (by kernel_rfl)) pl_lmany rfl rfl (lens := [32, 32]) ?_
    rw [u_lmany]
    exact p_lmany G1
  obtain ⟨G2, h2⟩ := AllOk.step (c := k_lmany) h1 (by decide) ok
  exact ⟨G2, h2 _ (mem_at (i := 0) rfl)⟩
end Go.Fd
