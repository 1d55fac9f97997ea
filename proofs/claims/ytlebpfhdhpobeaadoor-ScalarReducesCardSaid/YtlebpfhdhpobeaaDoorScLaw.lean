/- ScLaw: a part of the proof of statements of this seat. -/
import Derived.Test.YtlebpfhdhpobeaaDoorScBase
set_option linter.unusedVariables false
set_option linter.unusedSimpArgs false
set_option maxRecDepth 20000
namespace Go.Sc
open Go.Rx
theorem flatS_SB : flatS sh SB = SC := by
  funext id zs rs
  simp only [flatS, SB, splitL_flatten]
theorem len_of {n : Nat} {l : List Int} {lo hi : Int} (h : inB (repB lo hi n) l) : l.length = n := by rw [inB_len h, repB_len]
theorem nb_inj {n : Nat} {l l' : List Int} (h : inB (repB 0 255 n) l) (h' : inB (repB 0 255 n) l') (e : nb l = nb l') : l = l' := num_inj (b := 256) (by decide) h h' e
theorem sb1 {id : Nat} {a r : List Int} : SB id [a] [r] ↔ SC id a r := by simp [SB]
theorem sb8 {a b c r : List Int} (ha : a.length = 32) (hb : b.length = 32) : SC 8 [a, b, c].flatten [r].flatten ↔ nb r = (nb a * nb b + nb c) % 7237005577332262213973186563042994240857116359379907606001950938285454250989 := by
  have e1 : (a ++ (b ++ (c ++ []))).take 32 = a := by rw [← ha]; exact List.take_left
  have e2 : (a ++ (b ++ (c ++ []))).drop 32 = b ++ (c ++ []) := by rw [← ha]; exact List.drop_left
  have e3 : (b ++ (c ++ [])).take 32 = b := by rw [← hb]; exact List.take_left
  have e4 : (a ++ (b ++ (c ++ []))).drop 64 = c := by
    rw [← List.append_assoc, show 64 = (a ++ b).length by simp [ha, hb], List.drop_left, List.append_nil]
  simp only [SC, s_muladd, List.flatten_cons, List.flatten_nil]
  rw [e1, e2, e3, e4, List.append_nil]
theorem sb9 {a b c r : List Int} (ha : a.length = 32) (hb : b.length = 32) : SC 9 [a, b, c].flatten [r].flatten ↔ nb r = (nb a * nb b + nb c) % 7237005577332262213973186563042994240857116359379907606001950938285454250989 := sb8 ha hb
theorem nb_one : nb [1, 0, 0, 0, 0, 0, 0, 0, 0, 0, 0, 0, 0, 0, 0, 0, 0, 0, 0, 0, 0, 0, 0, 0, 0, 0, 0, 0, 0, 0, 0, 0] = 1 := by decide
theorem zero32 : inB (repB 0 255 32) [0, 0, 0, 0, 0, 0, 0, 0, 0, 0, 0, 0, 0, 0, 0, 0, 0, 0, 0, 0, 0, 0, 0, 0, 0, 0, 0, 0, 0, 0, 0, 0] := by simp [repB, inB]
theorem nb_z : nb [0, 0, 0, 0, 0, 0, 0, 0, 0, 0, 0, 0, 0, 0, 0, 0, 0, 0, 0, 0, 0, 0, 0, 0, 0, 0, 0, 0, 0, 0, 0, 0] = 0 := by decide
theorem ten32 : inB (repB 0 255 32) [10, 0, 0, 0, 0, 0, 0, 0, 0, 0, 0, 0, 0, 0, 0, 0, 0, 0, 0, 0, 0, 0, 0, 0, 0, 0, 0, 0, 0, 0, 0, 0] := by simp [repB, inB]
theorem nb_ten : nb [10, 0, 0, 0, 0, 0, 0, 0, 0, 0, 0, 0, 0, 0, 0, 0, 0, 0, 0, 0, 0, 0, 0, 0, 0, 0, 0, 0, 0, 0, 0, 0] = 10 := by decide
theorem t_true : inB (bdsL [.bool]) [[1]].flatten ∧ [[1]].flatten = [1] := by simp [bdsL, D.bds, inB]
theorem cl_mul (a : Int) : a / 8 * 8 % 8 = 0 := Int.mul_emod_left _ _
theorem clamp_form {r : List Int} (h : r.length = 32) : r = [r.getD 0 0, r.getD 1 0, r.getD 2 0, r.getD 3 0, r.getD 4 0, r.getD 5 0, r.getD 6 0, r.getD 7 0, r.getD 8 0, r.getD 9 0, r.getD 10 0, r.getD 11 0, r.getD 12 0, r.getD 13 0, r.getD 14 0, r.getD 15 0, r.getD 16 0, r.getD 17 0, r.getD 18 0, r.getD 19 0, r.getD 20 0, r.getD 21 0, r.getD 22 0, r.getD 23 0, r.getD 24 0, r.getD 25 0, r.getD 26 0, r.getD 27 0, r.getD 28 0, r.getD 29 0, r.getD 30 0, r.getD 31 0] := by
  refine list_ext_getD (by simp [h]) fun j hj => ?_
  have hj : j < 32 := by omega
  have : j = 0 ∨ j = 1 ∨ j = 2 ∨ j = 3 ∨ j = 4 ∨ j = 5 ∨ j = 6 ∨ j = 7 ∨ j = 8 ∨ j = 9 ∨ j = 10 ∨ j = 11 ∨ j = 12 ∨ j = 13 ∨ j = 14 ∨ j = 15 ∨ j = 16 ∨ j = 17 ∨ j = 18 ∨ j = 19 ∨ j = 20 ∨ j = 21 ∨ j = 22 ∨ j = 23 ∨ j = 24 ∨ j = 25 ∨ j = 26 ∨ j = 27 ∨ j = 28 ∨ j = 29 ∨ j = 30 ∨ j = 31 := by omega
  rcases this with rfl | rfl | rfl | rfl | rfl | rfl | rfl | rfl | rfl | rfl | rfl | rfl | rfl | rfl | rfl | rfl | rfl | rfl | rfl | rfl | rfl | rfl | rfl | rfl | rfl | rfl | rfl | rfl | rfl | rfl | rfl | rfl <;> rfl
theorem nb_clamped {r c : List Int} (hr : inB (repB 0 255 32) r) (hc : inB (repB 0 255 32) c) (h : s_clamp r c) : nb c ≥ 7237005577332262213973186563042994240857116359379907606001950938285454250989 := by
  have e := clamp_form (len_of hc)
  have e31 : c.getD 31 0 = r.getD 31 0 % 64 + 64 := by
    have el := len_of hr
    rw [h]
    simp [List.getD_eq_getElem?_getD, el, List.getElem?_append]
  have hb : ∀ j, 0 ≤ c.getD j 0 := inB_nonneg hc
  have h31 : c.getD 31 0 ≥ 64 := by rw [e31]; have := Int.emod_nonneg (r.getD 31 0) (show (64 : Int) ≠ 0 by decide); omega
  rw [e]
  simp only [num]
  have := hb 0
  have := hb 1
  have := hb 2
  have := hb 3
  have := hb 4
  have := hb 5
  have := hb 6
  have := hb 7
  have := hb 8
  have := hb 9
  have := hb 10
  have := hb 11
  have := hb 12
  have := hb 13
  have := hb 14
  have := hb 15
  have := hb 16
  have := hb 17
  have := hb 18
  have := hb 19
  have := hb 20
  have := hb 21
  have := hb 22
  have := hb 23
  have := hb 24
  have := hb 25
  have := hb 26
  have := hb 27
  have := hb 28
  have := hb 29
  have := hb 30
  have := hb 31
  omega
def B_alive (S : Nat → List (List Int) → List (List Int) → Prop) (K : List (List Int) → List (List Int) → Prop) : Prop :=
 
 ∀ r0 : List Int, inB (repB 0 18446744073709551615 4) r0 → S 20 [] [r0] →
 ∀ r4 : List Int, inB (repB 0 255 32) r4 → S 19 [r0] [r4] →
 ∀ r36 : List Int, inB (repB 0 255 64) r36 → S 12 [r4] [r36] →
 ∀ r100 : List Int, inB (repB 0 255 32) r100 → S 11 [r36] [r100] →
 (((decide (r100 = [0, 0, 0, 0, 0, 0, 0, 0, 0, 0, 0, 0, 0, 0, 0, 0, 0, 0, 0, 0, 0, 0, 0, 0, 0, 0, 0, 0, 0, 0, 0, 0])) = true →
  ∀ r132 : List Int, inB (repB 0 255 32) r132 → S 8 [[2, 0, 0, 0, 0, 0, 0, 0, 0, 0, 0, 0, 0, 0, 0, 0, 0, 0, 0, 0, 0, 0, 0, 0, 0, 0, 0, 0, 0, 0, 0, 0], [3, 0, 0, 0, 0, 0, 0, 0, 0, 0, 0, 0, 0, 0, 0, 0, 0, 0, 0, 0, 0, 0, 0, 0, 0, 0, 0, 0, 0, 0, 0, 0], [4, 0, 0, 0, 0, 0, 0, 0, 0, 0, 0, 0, 0, 0, 0, 0, 0, 0, 0, 0, 0, 0, 0, 0, 0, 0, 0, 0, 0, 0, 0, 0]] [r132] →
  (((decide (r132 = [10, 0, 0, 0, 0, 0, 0, 0, 0, 0, 0, 0, 0, 0, 0, 0, 0, 0, 0, 0, 0, 0, 0, 0, 0, 0, 0, 0, 0, 0, 0, 0])) = true →
   ∀ z164 : Int, 0 ≤ z164 → z164 ≤ 1 → S 13 [r4] [[z164]] →
   ((((!(decide (z164 = 1)))) = true →
    ∀ z165 : Int, 0 ≤ z165 → z165 ≤ 1 → S 13 [[5, 0, 0, 0, 0, 0, 0, 0, 0, 0, 0, 0, 0, 0, 0, 0, 0, 0, 0, 0, 0, 0, 0, 0, 0, 0, 0, 0, 0, 0, 0, 0]] [[z165]] →
    K [] [[(cond (decide (z165 = 1)) 1 0)]]
   ) ∧ (((!(decide (z164 = 1)))) = false →
    K [] [[(cond (false) 1 0)]]
   ))
  ) ∧ ((decide (r132 = [10, 0, 0, 0, 0, 0, 0, 0, 0, 0, 0, 0, 0, 0, 0, 0, 0, 0, 0, 0, 0, 0, 0, 0, 0, 0, 0, 0, 0, 0, 0, 0])) = false →
   K [] [[(cond (false) 1 0)]]
  ))
 ) ∧ ((decide (r100 = [0, 0, 0, 0, 0, 0, 0, 0, 0, 0, 0, 0, 0, 0, 0, 0, 0, 0, 0, 0, 0, 0, 0, 0, 0, 0, 0, 0, 0, 0, 0, 0])) = false →
  K [] [[(cond (false) 1 0)]]
 ))
theorem q_alive : B_alive SB fun zs rs => inB (bdsL k_alive.res) rs.flatten ∧ SC 7 zs.flatten rs.flatten := by
  unfold B_alive
  intro r0 i0 s0 r4 i4 s1 r36 i36 s2 r100 i100 s3
  have s0 : nw r0 = 7237005577332262213973186563042994240857116359379907606001950938285454250989 := by simpa [SB, SC, s_l] using s0
  rw [sb1] at s1 s2 s3
  have s1 : nb r4 = nw r0 := s1
  have s2 : nb r36 = nb r4 := s2
  have s3 : nb r100 = nb r36 % 7237005577332262213973186563042994240857116359379907606001950938285454250989 := s3
  have e3 : nb r100 = 0 := by rw [s3, s2, s1, s0]; exact Int.emod_self
  have e100 := nb_inj i100 zero32 (e3.trans nb_z.symm)
  refine ⟨fun _ => ?_, fun h => absurd e100 (by simpa using h)⟩
  intro r132 i132 s4
  have s4 := (sb8 (by rfl) (by rfl)).1 s4
  have e132 := nb_inj i132 ten32 (by rw [s4, nb_ten]; decide)
  refine ⟨fun _ => ?_, fun h => absurd e132 (by simpa using h)⟩
  intro z164 a164 b164 s5
  rw [sb1] at s5
  have s5 : [z164] = [if nb r4 < 7237005577332262213973186563042994240857116359379907606001950938285454250989 then 1 else 0] := s5
  rw [s1, s0, if_neg (by decide)] at s5
  have e5 : z164 = 0 := by simpa using s5
  subst e5
  refine ⟨fun _ => ?_, fun h => by simp at h⟩
  intro z165 a165 b165 s6
  rw [sb1] at s6
  have s6 : [z165] = [if nb [5, 0, 0, 0, 0, 0, 0, 0, 0, 0, 0, 0, 0, 0, 0, 0, 0, 0, 0, 0, 0, 0, 0, 0, 0, 0, 0, 0, 0, 0, 0, 0] < 7237005577332262213973186563042994240857116359379907606001950938285454250989 then 1 else 0] := s6
  rw [if_pos (by decide)] at s6
  have e6 : z165 = 1 := by simpa using s6
  subst e6
  simp [SC, s_true, bdsL, D.bds, inB, k_alive, k_lmuladds, k_llaws, k_lreduces, k_lclamps]
def B_lmuladds (S : Nat → List (List Int) → List (List Int) → Prop) (K : List (List Int) → List (List Int) → Prop) : Prop :=
 ∀ r0 : List Int, inB (repB 0 255 32) r0 → ∀ r32 : List Int, inB (repB 0 255 32) r32 → ∀ r64 : List Int, inB (repB 0 255 32) r64 → 
 ∀ z96 : Int, 0 ≤ z96 → z96 ≤ 1 → S 7 [] [[z96]] →
 (((decide (z96 = 1)) = true →
  ∀ r97 : List Int, inB (repB 0 255 32) r97 → S 8 [r0, r32, r64] [r97] →
  ∀ r129 : List Int, inB (repB 0 255 32) r129 → S 9 [r0, r32, r64] [r129] →
  K [r0, r32, r64] [[(cond (decide (r97 = r129)) 1 0)]]
 ) ∧ ((decide (z96 = 1)) = false →
  K [r0, r32, r64] [[(cond (false) 1 0)]]
 ))
theorem q_lmuladds : B_lmuladds SB fun zs rs => inB (bdsL k_lmuladds.res) rs.flatten ∧ SC 3 zs.flatten rs.flatten := by
  unfold B_lmuladds
  intro r0 i0 r32 i32 r64 i64 z96 a96 b96 s0
  have s0 : [[z96]].flatten = [1] := s0
  have e0 : z96 = 1 := by simpa using s0
  subst e0
  refine ⟨fun _ => ?_, fun h => by simp at h⟩
  intro r97 i97 s1 r129 i129 s2
  have s1 := (sb8 (len_of i0) (len_of i32)).1 s1
  have s2 := (sb9 (len_of i0) (len_of i32)).1 s2
  have e := nb_inj i97 i129 (s1.trans s2.symm)
  rw [decide_eq_true e]
  simp [SC, s_true, bdsL, D.bds, inB, k_alive, k_lmuladds, k_llaws, k_lreduces, k_lclamps]
def B_llaws (S : Nat → List (List Int) → List (List Int) → Prop) (K : List (List Int) → List (List Int) → Prop) : Prop :=
 ∀ r0 : List Int, inB (repB 0 255 32) r0 → ∀ r32 : List Int, inB (repB 0 255 32) r32 → ∀ r64 : List Int, inB (repB 0 255 32) r64 → 
 ∀ z96 : Int, 0 ≤ z96 → z96 ≤ 1 → S 7 [] [[z96]] →
 ((((!(decide (z96 = 1)))) = true →
  K [r0, r32, r64] [[(cond (false) 1 0)]]
 ) ∧ (((!(decide (z96 = 1)))) = false →
  ∀ r97 : List Int, inB (repB 0 255 32) r97 → S 8 [r0, [1, 0, 0, 0, 0, 0, 0, 0, 0, 0, 0, 0, 0, 0, 0, 0, 0, 0, 0, 0, 0, 0, 0, 0, 0, 0, 0, 0, 0, 0, 0, 0], r32] [r97] →
  ∀ r129 : List Int, inB (repB 0 255 32) r129 → S 10 [r32] [r129] →
  ∀ r161 : List Int, inB (repB 0 255 32) r161 → S 8 [r97, [1, 0, 0, 0, 0, 0, 0, 0, 0, 0, 0, 0, 0, 0, 0, 0, 0, 0, 0, 0, 0, 0, 0, 0, 0, 0, 0, 0, 0, 0, 0, 0], r129] [r161] →
  ∀ r193 : List Int, inB (repB 0 255 32) r193 → S 8 [r0, r32, r64] [r193] →
  ∀ r225 : List Int, inB (repB 0 255 32) r225 → S 8 [r32, r0, r64] [r225] →
  (((decide (r193 = r225)) = true →
   ∀ r257 : List Int, inB (repB 0 255 32) r257 → S 8 [r32, [1, 0, 0, 0, 0, 0, 0, 0, 0, 0, 0, 0, 0, 0, 0, 0, 0, 0, 0, 0, 0, 0, 0, 0, 0, 0, 0, 0, 0, 0, 0, 0], r0] [r257] →
   (((decide (r97 = r257)) = true →
    ∀ r289 : List Int, inB (repB 0 255 64) r289 → S 12 [r0] [r289] →
    ∀ r353 : List Int, inB (repB 0 255 32) r353 → S 11 [r289] [r353] →
    (((decide (r161 = r353)) = true →
     ∀ z385 : Int, 0 ≤ z385 → z385 ≤ 1 → S 13 [r97] [[z385]] →
     (((decide (z385 = 1)) = true →
      ∀ z386 : Int, 0 ≤ z386 → z386 ≤ 1 → S 13 [r161] [[z386]] →
      K [r0, r32, r64] [[(cond (decide (z386 = 1)) 1 0)]]
     ) ∧ ((decide (z385 = 1)) = false →
      K [r0, r32, r64] [[(cond (false) 1 0)]]
     ))
    ) ∧ ((decide (r161 = r353)) = false →
     K [r0, r32, r64] [[(cond (false) 1 0)]]
    ))
   ) ∧ ((decide (r97 = r257)) = false →
    K [r0, r32, r64] [[(cond (false) 1 0)]]
   ))
  ) ∧ ((decide (r193 = r225)) = false →
   K [r0, r32, r64] [[(cond (false) 1 0)]]
  ))
 ))
theorem q_llaws : B_llaws SB fun zs rs => inB (bdsL k_llaws.res) rs.flatten ∧ SC 4 zs.flatten rs.flatten := by
  unfold B_llaws
  intro r0 i0 r32 i32 r64 i64 z96 a96 b96 s0
  have s0 : [[z96]].flatten = [1] := s0
  have e0 : z96 = 1 := by simpa using s0
  subst e0
  refine ⟨fun h => by simp at h, fun _ => ?_⟩
  intro r97 i97 s1 r129 i129 s2 r161 i161 s3 r193 i193 s4 r225 i225 s5
  have s1 := (sb8 (len_of i0) (by rfl)).1 s1
  rw [sb1] at s2
  have s2 : nb r129 = (-nb r32) % 7237005577332262213973186563042994240857116359379907606001950938285454250989 := s2
  have s3 := (sb8 (len_of i97) (by rfl)).1 s3
  have s4 := (sb8 (len_of i0) (len_of i32)).1 s4
  have s5 := (sb8 (len_of i32) (len_of i0)).1 s5
  rw [nb_one, Int.mul_one] at s1 s3
  have e1 := nb_inj i193 i225 (by rw [s4, s5, Int.mul_comm (nb r0)])
  refine ⟨fun _ => ?_, fun h => absurd e1 (by simpa using h)⟩
  intro r257 i257 s6
  have s6 := (sb8 (len_of i32) (by rfl)).1 s6
  rw [nb_one, Int.mul_one] at s6
  have e2 := nb_inj i97 i257 (by rw [s1, s6, Int.add_comm (nb r0)])
  refine ⟨fun _ => ?_, fun h => absurd e2 (by simpa using h)⟩
  intro r289 i289 s7 r353 i353 s8
  rw [sb1] at s7 s8
  have s7 : nb r289 = nb r0 := s7
  have s8 : nb r353 = nb r289 % 7237005577332262213973186563042994240857116359379907606001950938285454250989 := s8
  have e3 := nb_inj i161 i353 (by rw [s3, s8, s7, s1, s2]; omega)
  refine ⟨fun _ => ?_, fun h => absurd e3 (by simpa using h)⟩
  intro z385 a385 b385 s9
  rw [sb1] at s9
  have s9 : [z385] = [if nb r97 < 7237005577332262213973186563042994240857116359379907606001950938285454250989 then 1 else 0] := s9
  rw [if_pos (by rw [s1]; exact Int.emod_lt_of_pos _ (by decide))] at s9
  have e9 : z385 = 1 := by simpa using s9
  subst e9
  refine ⟨fun _ => ?_, fun h => by simp at h⟩
  intro z386 a386 b386 s10
  rw [sb1] at s10
  have s10 : [z386] = [if nb r161 < 7237005577332262213973186563042994240857116359379907606001950938285454250989 then 1 else 0] := s10
  rw [if_pos (by rw [s3]; exact Int.emod_lt_of_pos _ (by decide))] at s10
  have e10 : z386 = 1 := by simpa using s10
  subst e10
  simp [SC, s_true, bdsL, D.bds, inB, k_alive, k_lmuladds, k_llaws, k_lreduces, k_lclamps]
def B_lreduces (S : Nat → List (List Int) → List (List Int) → Prop) (K : List (List Int) → List (List Int) → Prop) : Prop :=
 ∀ r0 : List Int, inB (repB 0 255 64) r0 → ∀ r64 : List Int, inB (repB 0 255 32) r64 → 
 ∀ z96 : Int, 0 ≤ z96 → z96 ≤ 1 → S 7 [] [[z96]] →
 (((decide (z96 = 1)) = true →
  ∀ r97 : List Int, inB (repB 0 255 32) r97 → S 11 [r0] [r97] →
  ∀ r129 : List Int, inB (repB 0 255 32) r129 → S 15 [r0] [r129] →
  (((decide (r97 = r129)) = true →
   ∀ z161 : Int, 0 ≤ z161 → z161 ≤ 1 → S 13 [r64] [[z161]] →
   ∀ z162 : Int, 0 ≤ z162 → z162 ≤ 1 → S 16 [r64] [[z162]] →
   (((((decide (z161 = 1)) == (decide (z162 = 1)))) = true →
    ∀ r163 : List Int, inB (repB 0 255 32) r163 → S 10 [r64] [r163] →
    ∀ r195 : List Int, inB (repB 0 255 32) r195 → S 17 [r64] [r195] →
    (((decide (r163 = r195)) = true →
     ∀ r227 : List Int, inB (repB 0 255 32) r227 → S 14 [r64] [r227] →
     ∀ r259 : List Int, inB (repB 0 255 32) r259 → S 18 [r64] [r259] →
     K [r0, r64] [[(cond (decide (r227 = r259)) 1 0)]]
    ) ∧ ((decide (r163 = r195)) = false →
     K [r0, r64] [[(cond (false) 1 0)]]
    ))
   ) ∧ ((((decide (z161 = 1)) == (decide (z162 = 1)))) = false →
    K [r0, r64] [[(cond (false) 1 0)]]
   ))
  ) ∧ ((decide (r97 = r129)) = false →
   K [r0, r64] [[(cond (false) 1 0)]]
  ))
 ) ∧ ((decide (z96 = 1)) = false →
  K [r0, r64] [[(cond (false) 1 0)]]
 ))
theorem q_lreduces : B_lreduces SB fun zs rs => inB (bdsL k_lreduces.res) rs.flatten ∧ SC 6 zs.flatten rs.flatten := by
  unfold B_lreduces
  intro r0 i0 r64 i64 z96 a96 b96 s0
  have s0 : [[z96]].flatten = [1] := s0
  have e0 : z96 = 1 := by simpa using s0
  subst e0
  refine ⟨fun _ => ?_, fun h => by simp at h⟩
  intro r97 i97 s1 r129 i129 s2
  rw [sb1] at s1 s2
  have s1 : nb r97 = nb r0 % 7237005577332262213973186563042994240857116359379907606001950938285454250989 := s1
  have s2 : nb r129 = nb r0 % 7237005577332262213973186563042994240857116359379907606001950938285454250989 := s2
  have e1 := nb_inj i97 i129 (s1.trans s2.symm)
  refine ⟨fun _ => ?_, fun h => absurd e1 (by simpa using h)⟩
  intro z161 a161 b161 s3 z162 a162 b162 s4
  rw [sb1] at s3 s4
  have s3 : [z161] = [if nb r64 < 7237005577332262213973186563042994240857116359379907606001950938285454250989 then 1 else 0] := s3
  have s4 : [z162] = [if nb r64 < 7237005577332262213973186563042994240857116359379907606001950938285454250989 then 1 else 0] := s4
  have e2 : z161 = z162 := by simpa using s3.trans s4.symm
  subst e2
  refine ⟨fun _ => ?_, fun h => by simp at h⟩
  intro r163 i163 s5 r195 i195 s6
  rw [sb1] at s5 s6
  have s5 : nb r163 = (-nb r64) % 7237005577332262213973186563042994240857116359379907606001950938285454250989 := s5
  have s6 : nb r195 = (-nb r64) % 7237005577332262213973186563042994240857116359379907606001950938285454250989 := s6
  have e3 := nb_inj i163 i195 (s5.trans s6.symm)
  refine ⟨fun _ => ?_, fun h => absurd e3 (by simpa using h)⟩
  intro r227 i227 s7 r259 i259 s8
  rw [sb1] at s7 s8
  have s7 : s_clamp r64 r227 := s7
  have s8 : s_clamp r64 r259 := s8
  have e4 : r227 = r259 := s7.trans s8.symm
  rw [decide_eq_true e4]
  simp [SC, s_true, bdsL, D.bds, inB, k_alive, k_lmuladds, k_llaws, k_lreduces, k_lclamps]
def B_lclamps (S : Nat → List (List Int) → List (List Int) → Prop) (K : List (List Int) → List (List Int) → Prop) : Prop :=
 ∀ r0 : List Int, inB (repB 0 255 32) r0 → 
 ∀ z32 : Int, 0 ≤ z32 → z32 ≤ 1 → S 7 [] [[z32]] →
 ((((!(decide (z32 = 1)))) = true →
  K [r0] [[(cond (false) 1 0)]]
 ) ∧ (((!(decide (z32 = 1)))) = false →
  ∀ r33 : List Int, inB (repB 0 255 32) r33 → S 14 [r0] [r33] →
  ∀ z65 : Int, 0 ≤ z65 → z65 ≤ 31 → 0 ≤ (List.getD r33 0 0) - 8 * z65 → (List.getD r33 0 0) - 8 * z65 < 8 →
  ∀ z66 : Int, 0 ≤ z66 → z66 ≤ 31 → 0 ≤ (List.getD r0 0 0) - 8 * z66 → (List.getD r0 0 0) - 8 * z66 < 8 →
  (((decide (z65 = z66)) = true →
   ∀ z67 : Int, 0 ≤ z67 → z67 ≤ 3 → 0 ≤ (List.getD r33 31 0) - 64 * z67 → (List.getD r33 31 0) - 64 * z67 < 64 →
   ∀ z68 : Int, 0 ≤ z68 → z68 ≤ 3 → 0 ≤ (List.getD r0 31 0) - 64 * z68 → (List.getD r0 31 0) - 64 * z68 < 64 →
   (((decide (((List.getD r33 31 0) + ((-64) * z67)) = ((List.getD r0 31 0) + ((-64) * z68)))) = true →
    (((decide ((List.getD r33 1 0) = (List.getD r0 1 0))) = true →
     (((decide ((List.getD r33 2 0) = (List.getD r0 2 0))) = true →
      (((decide ((List.getD r33 3 0) = (List.getD r0 3 0))) = true →
       (((decide ((List.getD r33 4 0) = (List.getD r0 4 0))) = true →
        (((decide ((List.getD r33 5 0) = (List.getD r0 5 0))) = true →
         (((decide ((List.getD r33 6 0) = (List.getD r0 6 0))) = true →
          (((decide ((List.getD r33 7 0) = (List.getD r0 7 0))) = true →
           (((decide ((List.getD r33 8 0) = (List.getD r0 8 0))) = true →
            (((decide ((List.getD r33 9 0) = (List.getD r0 9 0))) = true →
             (((decide ((List.getD r33 10 0) = (List.getD r0 10 0))) = true →
              (((decide ((List.getD r33 11 0) = (List.getD r0 11 0))) = true →
               (((decide ((List.getD r33 12 0) = (List.getD r0 12 0))) = true →
                (((decide ((List.getD r33 13 0) = (List.getD r0 13 0))) = true →
                 (((decide ((List.getD r33 14 0) = (List.getD r0 14 0))) = true →
                  (((decide ((List.getD r33 15 0) = (List.getD r0 15 0))) = true →
                   (((decide ((List.getD r33 16 0) = (List.getD r0 16 0))) = true →
                    (((decide ((List.getD r33 17 0) = (List.getD r0 17 0))) = true →
                     (((decide ((List.getD r33 18 0) = (List.getD r0 18 0))) = true →
                      (((decide ((List.getD r33 19 0) = (List.getD r0 19 0))) = true →
                       (((decide ((List.getD r33 20 0) = (List.getD r0 20 0))) = true →
                        (((decide ((List.getD r33 21 0) = (List.getD r0 21 0))) = true →
                         (((decide ((List.getD r33 22 0) = (List.getD r0 22 0))) = true →
                          (((decide ((List.getD r33 23 0) = (List.getD r0 23 0))) = true →
                           (((decide ((List.getD r33 24 0) = (List.getD r0 24 0))) = true →
                            (((decide ((List.getD r33 25 0) = (List.getD r0 25 0))) = true →
                             (((decide ((List.getD r33 26 0) = (List.getD r0 26 0))) = true →
                              (((decide ((List.getD r33 27 0) = (List.getD r0 27 0))) = true →
                               (((decide ((List.getD r33 28 0) = (List.getD r0 28 0))) = true →
                                (((decide ((List.getD r33 29 0) = (List.getD r0 29 0))) = true →
                                 (((decide ((List.getD r33 30 0) = (List.getD r0 30 0))) = true →
                                  ∀ r69 : List Int, inB (repB 0 255 32) r69 → S 14 [r33] [r69] →
                                  (((decide (r69 = r33)) = true →
                                   ∀ z101 : Int, 0 ≤ z101 → z101 ≤ 31 → 0 ≤ (List.getD r33 0 0) - 8 * z101 → (List.getD r33 0 0) - 8 * z101 < 8 →
                                   (((decide (((List.getD r33 0 0) + ((-8) * z101)) = 0)) = true →
                                    ∀ z102 : Int, 0 ≤ z102 → z102 ≤ 3 → 0 ≤ (List.getD r33 31 0) - 64 * z102 → (List.getD r33 31 0) - 64 * z102 < 64 →
                                    (((decide (z102 = 1)) = true →
                                     ∀ z103 : Int, 0 ≤ z103 → z103 ≤ 1 → S 13 [r33] [[z103]] →
                                     K [r0] [[(cond ((!(decide (z103 = 1)))) 1 0)]]
                                    ) ∧ ((decide (z102 = 1)) = false →
                                     K [r0] [[(cond (false) 1 0)]]
                                    ))
                                   ) ∧ ((decide (((List.getD r33 0 0) + ((-8) * z101)) = 0)) = false →
                                    K [r0] [[(cond (false) 1 0)]]
                                   ))
                                  ) ∧ ((decide (r69 = r33)) = false →
                                   K [r0] [[(cond (false) 1 0)]]
                                  ))
                                 ) ∧ ((decide ((List.getD r33 30 0) = (List.getD r0 30 0))) = false →
                                  K [r0] [[(cond (false) 1 0)]]
                                 ))
                                ) ∧ ((decide ((List.getD r33 29 0) = (List.getD r0 29 0))) = false →
                                 K [r0] [[(cond (false) 1 0)]]
                                ))
                               ) ∧ ((decide ((List.getD r33 28 0) = (List.getD r0 28 0))) = false →
                                K [r0] [[(cond (false) 1 0)]]
                               ))
                              ) ∧ ((decide ((List.getD r33 27 0) = (List.getD r0 27 0))) = false →
                               K [r0] [[(cond (false) 1 0)]]
                              ))
                             ) ∧ ((decide ((List.getD r33 26 0) = (List.getD r0 26 0))) = false →
                              K [r0] [[(cond (false) 1 0)]]
                             ))
                            ) ∧ ((decide ((List.getD r33 25 0) = (List.getD r0 25 0))) = false →
                             K [r0] [[(cond (false) 1 0)]]
                            ))
                           ) ∧ ((decide ((List.getD r33 24 0) = (List.getD r0 24 0))) = false →
                            K [r0] [[(cond (false) 1 0)]]
                           ))
                          ) ∧ ((decide ((List.getD r33 23 0) = (List.getD r0 23 0))) = false →
                           K [r0] [[(cond (false) 1 0)]]
                          ))
                         ) ∧ ((decide ((List.getD r33 22 0) = (List.getD r0 22 0))) = false →
                          K [r0] [[(cond (false) 1 0)]]
                         ))
                        ) ∧ ((decide ((List.getD r33 21 0) = (List.getD r0 21 0))) = false →
                         K [r0] [[(cond (false) 1 0)]]
                        ))
                       ) ∧ ((decide ((List.getD r33 20 0) = (List.getD r0 20 0))) = false →
                        K [r0] [[(cond (false) 1 0)]]
                       ))
                      ) ∧ ((decide ((List.getD r33 19 0) = (List.getD r0 19 0))) = false →
                       K [r0] [[(cond (false) 1 0)]]
                      ))
                     ) ∧ ((decide ((List.getD r33 18 0) = (List.getD r0 18 0))) = false →
                      K [r0] [[(cond (false) 1 0)]]
                     ))
                    ) ∧ ((decide ((List.getD r33 17 0) = (List.getD r0 17 0))) = false →
                     K [r0] [[(cond (false) 1 0)]]
                    ))
                   ) ∧ ((decide ((List.getD r33 16 0) = (List.getD r0 16 0))) = false →
                    K [r0] [[(cond (false) 1 0)]]
                   ))
                  ) ∧ ((decide ((List.getD r33 15 0) = (List.getD r0 15 0))) = false →
                   K [r0] [[(cond (false) 1 0)]]
                  ))
                 ) ∧ ((decide ((List.getD r33 14 0) = (List.getD r0 14 0))) = false →
                  K [r0] [[(cond (false) 1 0)]]
                 ))
                ) ∧ ((decide ((List.getD r33 13 0) = (List.getD r0 13 0))) = false →
                 K [r0] [[(cond (false) 1 0)]]
                ))
               ) ∧ ((decide ((List.getD r33 12 0) = (List.getD r0 12 0))) = false →
                K [r0] [[(cond (false) 1 0)]]
               ))
              ) ∧ ((decide ((List.getD r33 11 0) = (List.getD r0 11 0))) = false →
               K [r0] [[(cond (false) 1 0)]]
              ))
             ) ∧ ((decide ((List.getD r33 10 0) = (List.getD r0 10 0))) = false →
              K [r0] [[(cond (false) 1 0)]]
             ))
            ) ∧ ((decide ((List.getD r33 9 0) = (List.getD r0 9 0))) = false →
             K [r0] [[(cond (false) 1 0)]]
            ))
           ) ∧ ((decide ((List.getD r33 8 0) = (List.getD r0 8 0))) = false →
            K [r0] [[(cond (false) 1 0)]]
           ))
          ) ∧ ((decide ((List.getD r33 7 0) = (List.getD r0 7 0))) = false →
           K [r0] [[(cond (false) 1 0)]]
          ))
         ) ∧ ((decide ((List.getD r33 6 0) = (List.getD r0 6 0))) = false →
          K [r0] [[(cond (false) 1 0)]]
         ))
        ) ∧ ((decide ((List.getD r33 5 0) = (List.getD r0 5 0))) = false →
         K [r0] [[(cond (false) 1 0)]]
        ))
       ) ∧ ((decide ((List.getD r33 4 0) = (List.getD r0 4 0))) = false →
        K [r0] [[(cond (false) 1 0)]]
       ))
      ) ∧ ((decide ((List.getD r33 3 0) = (List.getD r0 3 0))) = false →
       K [r0] [[(cond (false) 1 0)]]
      ))
     ) ∧ ((decide ((List.getD r33 2 0) = (List.getD r0 2 0))) = false →
      K [r0] [[(cond (false) 1 0)]]
     ))
    ) ∧ ((decide ((List.getD r33 1 0) = (List.getD r0 1 0))) = false →
     K [r0] [[(cond (false) 1 0)]]
    ))
   ) ∧ ((decide (((List.getD r33 31 0) + ((-64) * z67)) = ((List.getD r0 31 0) + ((-64) * z68)))) = false →
    K [r0] [[(cond (false) 1 0)]]
   ))
  ) ∧ ((decide (z65 = z66)) = false →
   K [r0] [[(cond (false) 1 0)]]
  ))
 ))
theorem q_lclamps : B_lclamps SB fun zs rs => inB (bdsL k_lclamps.res) rs.flatten ∧ SC 5 zs.flatten rs.flatten := by
  unfold B_lclamps
  intro r0 i0 z32 a32 b32 s0
  have s0 : [[z32]].flatten = [1] := s0
  have e0 : z32 = 1 := by simpa using s0
  subst e0
  refine ⟨fun h => by simp at h, fun _ => ?_⟩
  intro r33 i33 s1
  rw [sb1] at s1
  have s1 : s_clamp r0 r33 := s1
  have hge := nb_clamped i0 i33 s1
  have hl := len_of i0
  have g0 : r33.getD 0 0 = r0.getD 0 0 / 8 * 8 := by rw [s1]; rfl
  have g31 : r33.getD 31 0 = r0.getD 31 0 % 64 + 64 := by rw [s1]; simp [List.getD_eq_getElem?_getD, hl, List.getElem?_append]
  have g1 : r33.getD 1 0 = r0.getD 1 0 := by rw [s1]; simp [List.getD_eq_getElem?_getD, hl, List.getElem?_append]
  have g2 : r33.getD 2 0 = r0.getD 2 0 := by rw [s1]; simp [List.getD_eq_getElem?_getD, hl, List.getElem?_append]
  have g3 : r33.getD 3 0 = r0.getD 3 0 := by rw [s1]; simp [List.getD_eq_getElem?_getD, hl, List.getElem?_append]
  have g4 : r33.getD 4 0 = r0.getD 4 0 := by rw [s1]; simp [List.getD_eq_getElem?_getD, hl, List.getElem?_append]
  have g5 : r33.getD 5 0 = r0.getD 5 0 := by rw [s1]; simp [List.getD_eq_getElem?_getD, hl, List.getElem?_append]
  have g6 : r33.getD 6 0 = r0.getD 6 0 := by rw [s1]; simp [List.getD_eq_getElem?_getD, hl, List.getElem?_append]
  have g7 : r33.getD 7 0 = r0.getD 7 0 := by rw [s1]; simp [List.getD_eq_getElem?_getD, hl, List.getElem?_append]
  have g8 : r33.getD 8 0 = r0.getD 8 0 := by rw [s1]; simp [List.getD_eq_getElem?_getD, hl, List.getElem?_append]
  have g9 : r33.getD 9 0 = r0.getD 9 0 := by rw [s1]; simp [List.getD_eq_getElem?_getD, hl, List.getElem?_append]
  have g10 : r33.getD 10 0 = r0.getD 10 0 := by rw [s1]; simp [List.getD_eq_getElem?_getD, hl, List.getElem?_append]
  have g11 : r33.getD 11 0 = r0.getD 11 0 := by rw [s1]; simp [List.getD_eq_getElem?_getD, hl, List.getElem?_append]
  have g12 : r33.getD 12 0 = r0.getD 12 0 := by rw [s1]; simp [List.getD_eq_getElem?_getD, hl, List.getElem?_append]
  have g13 : r33.getD 13 0 = r0.getD 13 0 := by rw [s1]; simp [List.getD_eq_getElem?_getD, hl, List.getElem?_append]
  have g14 : r33.getD 14 0 = r0.getD 14 0 := by rw [s1]; simp [List.getD_eq_getElem?_getD, hl, List.getElem?_append]
  have g15 : r33.getD 15 0 = r0.getD 15 0 := by rw [s1]; simp [List.getD_eq_getElem?_getD, hl, List.getElem?_append]
  have g16 : r33.getD 16 0 = r0.getD 16 0 := by rw [s1]; simp [List.getD_eq_getElem?_getD, hl, List.getElem?_append]
  have g17 : r33.getD 17 0 = r0.getD 17 0 := by rw [s1]; simp [List.getD_eq_getElem?_getD, hl, List.getElem?_append]
  have g18 : r33.getD 18 0 = r0.getD 18 0 := by rw [s1]; simp [List.getD_eq_getElem?_getD, hl, List.getElem?_append]
  have g19 : r33.getD 19 0 = r0.getD 19 0 := by rw [s1]; simp [List.getD_eq_getElem?_getD, hl, List.getElem?_append]
  have g20 : r33.getD 20 0 = r0.getD 20 0 := by rw [s1]; simp [List.getD_eq_getElem?_getD, hl, List.getElem?_append]
  have g21 : r33.getD 21 0 = r0.getD 21 0 := by rw [s1]; simp [List.getD_eq_getElem?_getD, hl, List.getElem?_append]
  have g22 : r33.getD 22 0 = r0.getD 22 0 := by rw [s1]; simp [List.getD_eq_getElem?_getD, hl, List.getElem?_append]
  have g23 : r33.getD 23 0 = r0.getD 23 0 := by rw [s1]; simp [List.getD_eq_getElem?_getD, hl, List.getElem?_append]
  have g24 : r33.getD 24 0 = r0.getD 24 0 := by rw [s1]; simp [List.getD_eq_getElem?_getD, hl, List.getElem?_append]
  have g25 : r33.getD 25 0 = r0.getD 25 0 := by rw [s1]; simp [List.getD_eq_getElem?_getD, hl, List.getElem?_append]
  have g26 : r33.getD 26 0 = r0.getD 26 0 := by rw [s1]; simp [List.getD_eq_getElem?_getD, hl, List.getElem?_append]
  have g27 : r33.getD 27 0 = r0.getD 27 0 := by rw [s1]; simp [List.getD_eq_getElem?_getD, hl, List.getElem?_append]
  have g28 : r33.getD 28 0 = r0.getD 28 0 := by rw [s1]; simp [List.getD_eq_getElem?_getD, hl, List.getElem?_append]
  have g29 : r33.getD 29 0 = r0.getD 29 0 := by rw [s1]; simp [List.getD_eq_getElem?_getD, hl, List.getElem?_append]
  have g30 : r33.getD 30 0 = r0.getD 30 0 := by rw [s1]; simp [List.getD_eq_getElem?_getD, hl, List.getElem?_append]
  have h0 := inB_at i0 0 (by decide)
  have h31 := inB_at i0 31 (by decide)
  intro z65 a65 b65 c65 d65 z66 a66 b66 c66 d66
  refine ⟨fun _ => ?_, fun h => absurd (show z65 = z66 by omega) (by simpa using h)⟩
  intro z67 a67 b67 c67 d67 z68 a68 b68 c68 d68
  refine ⟨fun _ => ?_, fun h => absurd (show r33.getD 31 0 + (-64) * z67 = r0.getD 31 0 + (-64) * z68 by omega) (by simpa using h)⟩
  refine ⟨fun _ => ?_, fun h => absurd (g1) (by simpa using h)⟩
  refine ⟨fun _ => ?_, fun h => absurd (g2) (by simpa using h)⟩
  refine ⟨fun _ => ?_, fun h => absurd (g3) (by simpa using h)⟩
  refine ⟨fun _ => ?_, fun h => absurd (g4) (by simpa using h)⟩
  refine ⟨fun _ => ?_, fun h => absurd (g5) (by simpa using h)⟩
  refine ⟨fun _ => ?_, fun h => absurd (g6) (by simpa using h)⟩
  refine ⟨fun _ => ?_, fun h => absurd (g7) (by simpa using h)⟩
  refine ⟨fun _ => ?_, fun h => absurd (g8) (by simpa using h)⟩
  refine ⟨fun _ => ?_, fun h => absurd (g9) (by simpa using h)⟩
  refine ⟨fun _ => ?_, fun h => absurd (g10) (by simpa using h)⟩
  refine ⟨fun _ => ?_, fun h => absurd (g11) (by simpa using h)⟩
  refine ⟨fun _ => ?_, fun h => absurd (g12) (by simpa using h)⟩
  refine ⟨fun _ => ?_, fun h => absurd (g13) (by simpa using h)⟩
  refine ⟨fun _ => ?_, fun h => absurd (g14) (by simpa using h)⟩
  refine ⟨fun _ => ?_, fun h => absurd (g15) (by simpa using h)⟩
  refine ⟨fun _ => ?_, fun h => absurd (g16) (by simpa using h)⟩
  refine ⟨fun _ => ?_, fun h => absurd (g17) (by simpa using h)⟩
  refine ⟨fun _ => ?_, fun h => absurd (g18) (by simpa using h)⟩
  refine ⟨fun _ => ?_, fun h => absurd (g19) (by simpa using h)⟩
  refine ⟨fun _ => ?_, fun h => absurd (g20) (by simpa using h)⟩
  refine ⟨fun _ => ?_, fun h => absurd (g21) (by simpa using h)⟩
  refine ⟨fun _ => ?_, fun h => absurd (g22) (by simpa using h)⟩
  refine ⟨fun _ => ?_, fun h => absurd (g23) (by simpa using h)⟩
  refine ⟨fun _ => ?_, fun h => absurd (g24) (by simpa using h)⟩
  refine ⟨fun _ => ?_, fun h => absurd (g25) (by simpa using h)⟩
  refine ⟨fun _ => ?_, fun h => absurd (g26) (by simpa using h)⟩
  refine ⟨fun _ => ?_, fun h => absurd (g27) (by simpa using h)⟩
  refine ⟨fun _ => ?_, fun h => absurd (g28) (by simpa using h)⟩
  refine ⟨fun _ => ?_, fun h => absurd (g29) (by simpa using h)⟩
  refine ⟨fun _ => ?_, fun h => absurd (g30) (by simpa using h)⟩
  intro r69 i69 s2
  rw [sb1] at s2
  have s2 : s_clamp r33 r69 := s2
  have e69 : r69 = r33 := by
    have q : r33 = (r0.getD 0 0 / 8 * 8) :: ((r0.drop 1).take 30 ++ [r0.getD 31 0 % 64 + 64]) := s1
    have q2 : (r33.drop 1).take 30 = (r0.drop 1).take 30 := by
      rw [q]; simp [hl, List.take_append]
    unfold s_clamp at s2
    rw [q2, g0, g31] at s2
    rw [s2, q]
    congr 2
    · omega
    · congr 2; omega
  refine ⟨fun _ => ?_, fun h => absurd e69 (by simpa using h)⟩
  intro z101 a101 b101 c101 d101
  refine ⟨fun _ => ?_, fun h => absurd (show r33.getD 0 0 + (-8) * z101 = 0 by omega) (by simpa using h)⟩
  intro z102 a102 b102 c102 d102
  refine ⟨fun _ => ?_, fun h => absurd (show z102 = 1 by omega) (by simpa using h)⟩
  intro z103 a103 b103 s3
  rw [sb1] at s3
  have s3 : [z103] = [if nb r33 < 7237005577332262213973186563042994240857116359379907606001950938285454250989 then 1 else 0] := s3
  rw [if_neg (by omega)] at s3
  have e3 : z103 = 0 := by simpa using s3
  subst e3
  simp [SC, s_true, bdsL, D.bds, inB, k_alive, k_lmuladds, k_llaws, k_lreduces, k_lclamps]
end Go.Sc
