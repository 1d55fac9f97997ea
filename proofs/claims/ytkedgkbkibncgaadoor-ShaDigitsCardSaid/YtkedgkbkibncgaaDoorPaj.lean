/- Paj: a part of the proof of statements of this seat. -/
import Derived.Test.YtkedgkbkibncgaaDoorPai
set_option maxRecDepth 100000
set_option linter.unusedVariables false
set_option linter.unusedSimpArgs false
namespace Go.Ad
open Go Go.Rx
def B_spd32 (S : Nat → List (List Int) → List (List Int) → Prop) (K : List (List Int) → List (List Int) → Prop) : Prop :=
 ∀ z0 : Int, 0 ≤ z0 → z0 ≤ RB → 
 (chkD 71 [z0] →
 ∀ z1 : Int, 0 ≤ z1 →
 ∀ z2 : Int, (-1) ≤ z2 → z2 ≤ 9223372036854775807 → 
 ∀ z3 : Int, 0 ≤ z3 → z3 ≤ 9223372036854775807 → z3 = fnD 20 [z0] →
 ∀ z4 : Int, (-9223372036854775808) ≤ z4 → z4 ≤ 9223372036854775807 → S 440 [[z3], [32]] [[z4]] →
 chkD 49 [z4, z4] ∧
 ∀ z5 : Int, 0 ≤ z5 → z5 ≤ RB → z5 = fnD 26 [z4, 0] →
 ∀ z6 : Int, (-1) ≤ z6 → z6 ≤ 9223372036854775807 → 
 chkD 65 [z5, 0, z4] ∧
 chkD 22 [z0, 0, z3] ∧
 ∀ z7 : Int, 0 ≤ z7 → z7 ≤ 9223372036854775807 → z7 = fnD 62 [z3, z4] →
 ∀ z8 : Int, 0 ≤ z8 → z8 ≤ RB → z8 = fnD 22 [z0, 0, z7] →
 ∀ z9 : Int, 0 ≤ z9 → z9 ≤ RB → z9 = fnD 63 [z5, 0, z8] →
 chkD 30 [z3, z4] ∧
 chkD 21 [z9, z3] ∧
 (chkD 67 [z9, z3, 1] →
 ∀ z10 : Int, 0 ≤ z10 → z10 ≤ RB → z10 = fnD 42 [z9, z3, 0, 128] →
 ∀ z11 : Int, 0 ≤ z11 → z11 ≤ 3 → 0 ≤ (8 * z3) - 18446744073709551616 * z11 → (8 * z3) - 18446744073709551616 * z11 < 18446744073709551616 →
 ∃ (I12 : List (List Int) → Prop) (μ12 : List (List Int) → Nat), I12 [[((8 * z3) + ((-18446744073709551616) * z11))], [(z4 + (-1))], [z10]] ∧ (∀ z13 : Int, 0 ≤ z13 → z13 ≤ 18446744073709551615 → ∀ z14 : Int, (-1) ≤ z14 → z14 ≤ 9223372036854775807 → ∀ z15 : Int, 0 ≤ z15 → z15 ≤ RB → I12 [[z13], [z14], [z15]] →
  (((decide (0 < z13)) = true →
   ∀ z16 : Int, 0 ≤ z16 → z16 ≤ 72057594037927935 → 0 ≤ z13 - 256 * z16 → z13 - 256 * z16 < 256 →
   chkD 30 [z14, z4] ∧
   chkD 21 [z15, z14] ∧
   (chkD 67 [z15, z14, 1] →
   ∀ z17 : Int, 0 ≤ z17 → z17 ≤ RB → z17 = fnD 42 [z15, z14, 0, (z13 + ((-256) * z16))] →
   ∀ z18 : Int, 0 ≤ z18 → z18 ≤ 72057594037927935 → 0 ≤ z13 - 256 * z18 → z13 - 256 * z18 < 256 →
   chkD 39 [(z14 + (-1)), (-1), 9223372036854775807] ∧
   (I12 [[z18], [(z14 + (-1))], [z17]] ∧ μ12 [[z18], [(z14 + (-1))], [z17]] < μ12 [[z13], [z14], [z15]])
   )
  ) ∧ ((decide (0 < z13)) = false →
   chkD 22 [z15, 0, z4] ∧
   ∀ z16 : Int, 0 ≤ z16 → z16 ≤ RB → z16 = fnD 22 [z15, 0, z4] →
   K [[z0]] [[z16]]
  ))
 )
 )
 )
def B_spd64 (S : Nat → List (List Int) → List (List Int) → Prop) (K : List (List Int) → List (List Int) → Prop) : Prop :=
 ∀ z0 : Int, 0 ≤ z0 → z0 ≤ RB → 
 (chkD 71 [z0] →
 ∀ z1 : Int, 0 ≤ z1 →
 ∀ z2 : Int, (-1) ≤ z2 → z2 ≤ 9223372036854775807 → 
 ∀ z3 : Int, 0 ≤ z3 → z3 ≤ 9223372036854775807 → z3 = fnD 20 [z0] →
 ∀ z4 : Int, (-9223372036854775808) ≤ z4 → z4 ≤ 9223372036854775807 → S 440 [[z3], [64]] [[z4]] →
 chkD 49 [z4, z4] ∧
 ∀ z5 : Int, 0 ≤ z5 → z5 ≤ RB → z5 = fnD 26 [z4, 0] →
 ∀ z6 : Int, (-1) ≤ z6 → z6 ≤ 9223372036854775807 → 
 chkD 65 [z5, 0, z4] ∧
 chkD 22 [z0, 0, z3] ∧
 ∀ z7 : Int, 0 ≤ z7 → z7 ≤ 9223372036854775807 → z7 = fnD 62 [z3, z4] →
 ∀ z8 : Int, 0 ≤ z8 → z8 ≤ RB → z8 = fnD 22 [z0, 0, z7] →
 ∀ z9 : Int, 0 ≤ z9 → z9 ≤ RB → z9 = fnD 63 [z5, 0, z8] →
 chkD 30 [z3, z4] ∧
 chkD 21 [z9, z3] ∧
 (chkD 67 [z9, z3, 1] →
 ∀ z10 : Int, 0 ≤ z10 → z10 ≤ RB → z10 = fnD 42 [z9, z3, 0, 128] →
 ∀ z11 : Int, 0 ≤ z11 → z11 ≤ 3 → 0 ≤ (8 * z3) - 18446744073709551616 * z11 → (8 * z3) - 18446744073709551616 * z11 < 18446744073709551616 →
 ∃ (I12 : List (List Int) → Prop) (μ12 : List (List Int) → Nat), I12 [[((8 * z3) + ((-18446744073709551616) * z11))], [(z4 + (-1))], [z10]] ∧ (∀ z13 : Int, 0 ≤ z13 → z13 ≤ 18446744073709551615 → ∀ z14 : Int, (-1) ≤ z14 → z14 ≤ 9223372036854775807 → ∀ z15 : Int, 0 ≤ z15 → z15 ≤ RB → I12 [[z13], [z14], [z15]] →
  (((decide (0 < z13)) = true →
   ∀ z16 : Int, 0 ≤ z16 → z16 ≤ 72057594037927935 → 0 ≤ z13 - 256 * z16 → z13 - 256 * z16 < 256 →
   chkD 30 [z14, z4] ∧
   chkD 21 [z15, z14] ∧
   (chkD 67 [z15, z14, 1] →
   ∀ z17 : Int, 0 ≤ z17 → z17 ≤ RB → z17 = fnD 42 [z15, z14, 0, (z13 + ((-256) * z16))] →
   ∀ z18 : Int, 0 ≤ z18 → z18 ≤ 72057594037927935 → 0 ≤ z13 - 256 * z18 → z13 - 256 * z18 < 256 →
   chkD 39 [(z14 + (-1)), (-1), 9223372036854775807] ∧
   (I12 [[z18], [(z14 + (-1))], [z17]] ∧ μ12 [[z18], [(z14 + (-1))], [z17]] < μ12 [[z13], [z14], [z15]])
   )
  ) ∧ ((decide (0 < z13)) = false →
   chkD 22 [z15, 0, z4] ∧
   ∀ z16 : Int, 0 ≤ z16 → z16 ≤ RB → z16 = fnD 22 [z15, 0, z4] →
   K [[z0]] [[z16]]
  ))
 )
 )
 )
/-- A list of numbers as rows of one. -/
def rws (l : List Int) : List (List Int) := l.map fun x => [x]
theorem bys_rws {z : Int} {l : List Int} (h : rOf z = rws l) : bys z = l := by
  unfold bys rws at *
  rw [h, List.map_map]
  exact (List.map_congr_left fun x _ => rfl).trans (List.map_id l)
theorem rws_len (l : List Int) : (rws l).length = l.length := by simp [rws]
theorem rws_append (a b : List Int) : rws (a ++ b) = rws a ++ rws b := by simp [rws]
theorem rws_rep (n : Nat) (x : Int) : rws (List.replicate n x) = List.replicate n [x] := by simp [rws]
/-- The last bytes of a number. -/
def tl8 (v : Nat) (j : Nat) : List Int := (List.range j).map fun q => ((v / 256 ^ (j - 1 - q) % 256 : Nat) : Int)
theorem tl8_len (v j : Nat) : (tl8 v j).length = j := by simp [tl8]
theorem tl8_succ (v j : Nat) : tl8 v (j + 1) = ((v / 256 ^ j % 256 : Nat) : Int) :: tl8 v j := by
  unfold tl8
  rw [List.range_succ_eq_map, List.map_cons, List.map_map]
  refine congr (congrArg _ (by simp)) (List.map_congr_left fun q hq => ?_)
  have : q < j := List.mem_range.1 hq
  simp only [Function.comp]
  rw [show j + 1 - 1 - (q + 1) = j - 1 - q by omega]
theorem tl8_be (v : Nat) : ∀ (d j : Nat), j + d = 8 → v / 256 ^ j = 0 → be8 v = List.replicate (8 - j) 0 ++ tl8 v j := by
  have base : be8 v = tl8 v 8 := by
    unfold be8 tl8
    refine List.map_congr_left fun q hq => ?_
    have : q < 8 := List.mem_range.1 hq
    have e : (256 : Nat) ^ (8 - 1 - q) = 2 ^ (56 - 8 * q) := by
      rw [show (256 : Nat) = 2 ^ 8 by rfl, ← Nat.pow_mul]; congr 1; omega
    rw [e]
  intro d
  induction d with
  | zero =>
    intro j hj _
    have : j = 8 := by omega
    subst this
    simpa using base
  | succ d ih =>
    intro j hj h0
    have h1 : v / 256 ^ (j + 1) = 0 := by rw [Nat.pow_succ, ← Nat.div_div_eq_div_mul, h0]
    rw [ih (j + 1) (by omega) h1, tl8_succ, h0, show 8 - j = (8 - (j + 1)) + 1 by omega, List.replicate_succ']
    simp
theorem set_at {α : Type} (a b : List α) (x y : α) (n : Nat) (h : a.length = n) : (a ++ x :: b).set n y = a ++ y :: b := by
  subst h
  induction a with
  | nil => rfl
  | cons z a ih => simp [ih]
theorem getD_at {α : Type} (a b : List α) (x d : α) (n : Nat) (h : a.length = n) : (a ++ x :: b).getD n d = x := by
  subst h
  simp [List.getD]
/-- Writing one byte. -/
theorem fn42 {c i z v : Int} {a b : List Int} {x : Int} (h : z = fnD 42 [c, i, 0, v]) (hc : rOf c = rws (a ++ x :: b)) (hi : i = (a.length : Int)) : rOf z = rws (a ++ v :: b) := by
  rw [h]
  show rOf (rc ((rOf c).set i.toNat (((rOf c).getD i.toNat []).take (0 : Int).toNat ++ [v] ++ ((rOf c).getD i.toNat []).drop ((0 : Int).toNat + [v].length)))) = _
  rw [rOf_rc, hc, rws_append, rws_append]
  have e : rws (x :: b) = [x] :: rws b := rfl
  have e2 : rws (v :: b) = [v] :: rws b := rfl
  have hl : (rws a).length = i.toNat := by rw [rws_len, hi]; simp
  rw [e, e2, getD_at (rws a) (rws b) [x] [] i.toNat hl]
  simp only [Int.toNat_zero, List.take_zero, List.nil_append, List.length_singleton, List.drop_succ_cons, List.drop_zero, Nat.zero_add, List.append_nil]
  exact set_at (rws a) (rws b) [x] [v] i.toNat hl
theorem p_spd32 : B_spd32 SB (KBb SB [ou8] 442) := by
  intro z0 a0 a1 hp z1 b0 z2 c0 c1 z3 d0 d1 h3 z4 e0 e1 h4
  have hp : (rOf z0).length ≤ 1000000000 := hp
  have h3 : z3 = ((rOf z0).length : Int) := h3
  have h4 : [[z4]] = [[padI z3 32]] := h4
  obtain ⟨n, hn⟩ : ∃ n, (rOf z0).length = n := ⟨_, rfl⟩
  rw [hn] at h3 hp
  have hbn : (bys z0).length = n := by rw [bys_len, hn]
  obtain ⟨P, hP⟩ : ∃ P, padN 32 n = P := ⟨_, rfl⟩
  have hPe : P = (n + 1 + 8 + 63) / 64 * 64 := hP.symm
  have h4 : z4 = (P : Int) := by
    have : z4 = padI z3 32 := by simpa using h4
    rw [this]; unfold padI
    rw [if_neg (by omega), h3]
    simp only [Int.toNat_natCast]
    rw [show (32 : Int).toNat = 32 from rfl, hP]
  have g1 : n + 9 ≤ P := by omega
  have g2 : P ≤ 1000001000 := by omega
  refine ⟨⟨by omega, by omega, by omega⟩, fun z5 f0 f1 h5 z6 i0 i1 => ?_⟩
  have h5 : rOf z5 = rws (List.replicate P 0) := by
    rw [h5]
    show rOf (rc (List.replicate z4.toNat [0])) = _
    rw [rOf_rc, rws_rep, h4]; simp
  have l5 : (rOf z5).length = P := by rw [h5, rws_len]; simp
  refine ⟨⟨Int.le_refl _, by omega, by rw [l5]; omega⟩, ⟨Int.le_refl _, by omega, by rw [hn]; omega⟩, fun z7 j0 j1 h7 z8 k0 k1 h8 z9 m0 m1 h9 => ?_⟩
  have h7 : z7 = (n : Int) := by
    have : z7 = min z3 z4 := h7
    rw [this, h3, h4]; omega
  have h8 : rOf z8 = rOf z0 := sub_all h8 (by rw [h7, hn])
  obtain ⟨zr, hzr⟩ : ∃ l : List (List Int), rOf z0 = l := ⟨_, rfl⟩
  have h9 : rOf z9 = rOf z0 ++ rws (0 :: List.replicate (P - n - 1) 0) := by
    rw [h9]
    show rOf (rc ((rOf z5).take (0 : Int).toNat ++ rOf z8 ++ (rOf z5).drop ((0 : Int).toNat + (rOf z8).length))) = _
    rw [rOf_rc, h8, h5, hn]
    simp only [Int.toNat_zero, List.take_zero, List.nil_append, Nat.zero_add]
    congr 1
    rw [rws_rep, List.drop_replicate, ← List.replicate_succ, rws_rep]
    rw [show P - n - 1 + 1 = P - n by omega]
  have l9 : (rOf z9).length = P := by rw [h9, List.length_append, hn, rws_len]; simp; omega
  refine ⟨⟨by omega, by omega⟩, ⟨by omega, by rw [l9]; omega⟩, fun _ z10 n0 n1 h10 z11 o0 o1 o2 o3 => ?_⟩
  have : z11 = 0 := by omega
  subst this
  have h10 : rOf z10 = rOf z0 ++ rws (128 :: List.replicate (P - n - 1) 0) := by
    rw [h10]
    show rOf (rc ((rOf z9).set z3.toNat (((rOf z9).getD z3.toNat []).take (0 : Int).toNat ++ [128] ++ ((rOf z9).getD z3.toNat []).drop ((0 : Int).toNat + [(128 : Int)].length)))) = _
    have e1 : rws (0 :: List.replicate (P - n - 1) 0) = [0] :: rws (List.replicate (P - n - 1) 0) := rfl
    have e2 : rws (128 :: List.replicate (P - n - 1) 0) = [128] :: rws (List.replicate (P - n - 1) 0) := rfl
    have hl : (rOf z0).length = z3.toNat := by rw [hn, h3]; simp
    rw [rOf_rc, h9, e1, e2, getD_at _ _ _ _ _ hl]
    simp only [Int.toNat_zero, List.take_zero, List.nil_append, List.length_singleton, List.drop_succ_cons, List.drop_zero, Nat.zero_add, List.append_nil]
    exact set_at _ _ _ _ _ hl
  refine ⟨fun l => ∃ (j : Nat) (c : Int), j ≤ 8 ∧ l = [[((8 * n / 256 ^ j : Nat) : Int)], [(P : Int) - 1 - j], [c]] ∧ rOf c = rOf z0 ++ rws (128 :: List.replicate (P - n - 1 - j) 0 ++ tl8 (8 * n) j), fun l => ((l.getD 0 []).getD 0 0).toNat, ⟨0, z10, by decide, by
    rw [Nat.pow_zero, Nat.div_one, show (8 * z3 + -18446744073709551616 * 0 : Int) = ((8 * n : Nat) : Int) by omega, show (z4 + -1 : Int) = (P : Int) - 1 - ((0 : Nat) : Int) by omega], by rw [h10]; simp [tl8]⟩, ?_⟩
  intro z13 p0 p1 z14 q0 q1 z15 r0 r1 hI
  obtain ⟨j, c, hj, hl, hc⟩ := hI
  simp only [List.cons.injEq, and_true] at hl
  obtain ⟨e13, e14, e15⟩ := hl
  subst e15
  have l15 : (rOf z15).length = P := by
    rw [hc, List.length_append, hn, rws_len]
    simp only [List.length_append, List.length_cons, List.length_replicate, tl8_len]
    omega
  refine ⟨fun hpos => ?_, fun hneg => ⟨⟨Int.le_refl _, by omega, by rw [l15]; omega⟩, fun z16 s0 s1 h16 => ⟨⟨s0, s1, trivial⟩, ?_⟩⟩⟩
  · have hpos := of_decide_eq_true hpos
    intro z16 s0 s1 s2 s3
    have hj8 : j < 8 := by
      rcases Nat.lt_or_ge j 8 with h | h
      · exact h
      · have : j = 8 := by omega
        subst this
        have : 8 * n / 256 ^ 8 = 0 := Nat.div_eq_of_lt (by omega)
        omega
    refine ⟨⟨by omega, by omega⟩, ⟨by omega, by rw [l15]; omega⟩, fun _ z17 t0 t1 h17 z18 u0 u1 u2 u3 => ?_⟩
    have hsplit : rOf z15 = rOf z0 ++ rws ((128 :: List.replicate (P - n - 1 - j - 1) 0) ++ 0 :: tl8 (8 * n) j) := by
      rw [hc]; congr 2
      rw [show P - n - 1 - j = (P - n - 1 - j - 1) + 1 by omega, List.replicate_succ']
      simp
    have hz17 : rOf z17 = rOf z0 ++ rws ((128 :: List.replicate (P - n - 1 - j - 1) 0) ++ (z13 + -256 * z16) :: tl8 (8 * n) j) := by
      rw [h17]
      show rOf (rc ((rOf z15).set z14.toNat (((rOf z15).getD z14.toNat []).take (0 : Int).toNat ++ [z13 + -256 * z16] ++ ((rOf z15).getD z14.toNat []).drop ((0 : Int).toNat + [z13 + -256 * z16].length)))) = _
      have e1 : ∀ x : Int, rOf z0 ++ rws ((128 :: List.replicate (P - n - 1 - j - 1) 0) ++ x :: tl8 (8 * n) j) = (rOf z0 ++ rws (128 :: List.replicate (P - n - 1 - j - 1) 0)) ++ [x] :: rws (tl8 (8 * n) j) := fun x => by
        rw [rws_append, List.append_assoc]; rfl
      have hl : (rOf z0 ++ rws (128 :: List.replicate (P - n - 1 - j - 1) 0)).length = z14.toNat := by
        rw [List.length_append, hn, rws_len]
        simp only [List.length_cons, List.length_replicate]
        omega
      rw [rOf_rc, hsplit, e1, e1, getD_at _ _ _ _ _ hl]
      simp only [Int.toNat_zero, List.take_zero, List.nil_append, List.length_singleton, List.drop_succ_cons, List.drop_zero, Nat.zero_add, List.append_nil]
      exact set_at _ _ _ _ _ hl
    have e16 : z16 = z13 / 256 := by omega
    have e18 : z18 = z13 / 256 := by omega
    refine ⟨⟨by omega, by omega⟩, ⟨j + 1, z17, by omega, ?_, ?_⟩, ?_⟩
    · rw [show z18 = ((8 * n / 256 ^ (j + 1) : Nat) : Int) by rw [Nat.pow_succ, ← Nat.div_div_eq_div_mul, e18, e13]; simp, show (z14 + -1 : Int) = (P : Int) - 1 - ((j + 1 : Nat) : Int) by omega]
    · rw [hz17, tl8_succ]
      congr 2
      rw [show P - n - 1 - (j + 1) = P - n - 1 - j - 1 by omega]
      congr 2
      rw [e16, e13]; omega
    · show z18.toNat < z13.toNat
      omega
  · have hneg := of_decide_eq_false hneg
    have h0 : 8 * n / 256 ^ j = 0 := by omega
    show bys z16 = padW W32 (bys z0)
    have h16 := sub_all h16 (by rw [l15, h4])
    have e0 : rOf z15 = rOf z0 ++ rws (128 :: List.replicate (P - n - 9) 0 ++ be8 (8 * n)) := by
      rw [hc, tl8_be (8 * n) (8 - j) j (by omega) h0]
      congr 2
      rw [show P - n - 1 - j = (P - n - 9) + (8 - j) by omega, ← List.replicate_append_replicate]
      simp only [List.cons_append, List.append_assoc]
    unfold padW
    rw [hbn, show W32.w = 32 from rfl, hP]
    unfold bys
    rw [h16, e0, List.map_append]
    have := bys_rws (z := rc (rws (128 :: List.replicate (P - n - 9) 0 ++ be8 (8 * n)))) (rOf_rc _)
    unfold bys at this
    rw [rOf_rc] at this
    rw [this]
    simp
theorem p_spd64 : B_spd64 SB (KBb SB [ou8] 443) := by
  intro z0 a0 a1 hp z1 b0 z2 c0 c1 z3 d0 d1 h3 z4 e0 e1 h4
  have hp : (rOf z0).length ≤ 1000000000 := hp
  have h3 : z3 = ((rOf z0).length : Int) := h3
  have h4 : [[z4]] = [[padI z3 64]] := h4
  obtain ⟨n, hn⟩ : ∃ n, (rOf z0).length = n := ⟨_, rfl⟩
  rw [hn] at h3 hp
  have hbn : (bys z0).length = n := by rw [bys_len, hn]
  obtain ⟨P, hP⟩ : ∃ P, padN 64 n = P := ⟨_, rfl⟩
  have hPe : P = (n + 1 + 16 + 127) / 128 * 128 := hP.symm
  have h4 : z4 = (P : Int) := by
    have : z4 = padI z3 64 := by simpa using h4
    rw [this]; unfold padI
    rw [if_neg (by omega), h3]
    simp only [Int.toNat_natCast]
    rw [show (64 : Int).toNat = 64 from rfl, hP]
  have g1 : n + 9 ≤ P := by omega
  have g2 : P ≤ 1000001000 := by omega
  refine ⟨⟨by omega, by omega, by omega⟩, fun z5 f0 f1 h5 z6 i0 i1 => ?_⟩
  have h5 : rOf z5 = rws (List.replicate P 0) := by
    rw [h5]
    show rOf (rc (List.replicate z4.toNat [0])) = _
    rw [rOf_rc, rws_rep, h4]; simp
  have l5 : (rOf z5).length = P := by rw [h5, rws_len]; simp
  refine ⟨⟨Int.le_refl _, by omega, by rw [l5]; omega⟩, ⟨Int.le_refl _, by omega, by rw [hn]; omega⟩, fun z7 j0 j1 h7 z8 k0 k1 h8 z9 m0 m1 h9 => ?_⟩
  have h7 : z7 = (n : Int) := by
    have : z7 = min z3 z4 := h7
    rw [this, h3, h4]; omega
  have h8 : rOf z8 = rOf z0 := sub_all h8 (by rw [h7, hn])
  obtain ⟨zr, hzr⟩ : ∃ l : List (List Int), rOf z0 = l := ⟨_, rfl⟩
  have h9 : rOf z9 = rOf z0 ++ rws (0 :: List.replicate (P - n - 1) 0) := by
    rw [h9]
    show rOf (rc ((rOf z5).take (0 : Int).toNat ++ rOf z8 ++ (rOf z5).drop ((0 : Int).toNat + (rOf z8).length))) = _
    rw [rOf_rc, h8, h5, hn]
    simp only [Int.toNat_zero, List.take_zero, List.nil_append, Nat.zero_add]
    congr 1
    rw [rws_rep, List.drop_replicate, ← List.replicate_succ, rws_rep]
    rw [show P - n - 1 + 1 = P - n by omega]
  have l9 : (rOf z9).length = P := by rw [h9, List.length_append, hn, rws_len]; simp; omega
  refine ⟨⟨by omega, by omega⟩, ⟨by omega, by rw [l9]; omega⟩, fun _ z10 n0 n1 h10 z11 o0 o1 o2 o3 => ?_⟩
  have : z11 = 0 := by omega
  subst this
  have h10 : rOf z10 = rOf z0 ++ rws (128 :: List.replicate (P - n - 1) 0) := by
    rw [h10]
    show rOf (rc ((rOf z9).set z3.toNat (((rOf z9).getD z3.toNat []).take (0 : Int).toNat ++ [128] ++ ((rOf z9).getD z3.toNat []).drop ((0 : Int).toNat + [(128 : Int)].length)))) = _
    have e1 : rws (0 :: List.replicate (P - n - 1) 0) = [0] :: rws (List.replicate (P - n - 1) 0) := rfl
    have e2 : rws (128 :: List.replicate (P - n - 1) 0) = [128] :: rws (List.replicate (P - n - 1) 0) := rfl
    have hl : (rOf z0).length = z3.toNat := by rw [hn, h3]; simp
    rw [rOf_rc, h9, e1, e2, getD_at _ _ _ _ _ hl]
    simp only [Int.toNat_zero, List.take_zero, List.nil_append, List.length_singleton, List.drop_succ_cons, List.drop_zero, Nat.zero_add, List.append_nil]
    exact set_at _ _ _ _ _ hl
  refine ⟨fun l => ∃ (j : Nat) (c : Int), j ≤ 8 ∧ l = [[((8 * n / 256 ^ j : Nat) : Int)], [(P : Int) - 1 - j], [c]] ∧ rOf c = rOf z0 ++ rws (128 :: List.replicate (P - n - 1 - j) 0 ++ tl8 (8 * n) j), fun l => ((l.getD 0 []).getD 0 0).toNat, ⟨0, z10, by decide, by
    rw [Nat.pow_zero, Nat.div_one, show (8 * z3 + -18446744073709551616 * 0 : Int) = ((8 * n : Nat) : Int) by omega, show (z4 + -1 : Int) = (P : Int) - 1 - ((0 : Nat) : Int) by omega], by rw [h10]; simp [tl8]⟩, ?_⟩
  intro z13 p0 p1 z14 q0 q1 z15 r0 r1 hI
  obtain ⟨j, c, hj, hl, hc⟩ := hI
  simp only [List.cons.injEq, and_true] at hl
  obtain ⟨e13, e14, e15⟩ := hl
  subst e15
  have l15 : (rOf z15).length = P := by
    rw [hc, List.length_append, hn, rws_len]
    simp only [List.length_append, List.length_cons, List.length_replicate, tl8_len]
    omega
  refine ⟨fun hpos => ?_, fun hneg => ⟨⟨Int.le_refl _, by omega, by rw [l15]; omega⟩, fun z16 s0 s1 h16 => ⟨⟨s0, s1, trivial⟩, ?_⟩⟩⟩
  · have hpos := of_decide_eq_true hpos
    intro z16 s0 s1 s2 s3
    have hj8 : j < 8 := by
      rcases Nat.lt_or_ge j 8 with h | h
      · exact h
      · have : j = 8 := by omega
        subst this
        have : 8 * n / 256 ^ 8 = 0 := Nat.div_eq_of_lt (by omega)
        omega
    refine ⟨⟨by omega, by omega⟩, ⟨by omega, by rw [l15]; omega⟩, fun _ z17 t0 t1 h17 z18 u0 u1 u2 u3 => ?_⟩
    have hsplit : rOf z15 = rOf z0 ++ rws ((128 :: List.replicate (P - n - 1 - j - 1) 0) ++ 0 :: tl8 (8 * n) j) := by
      rw [hc]; congr 2
      rw [show P - n - 1 - j = (P - n - 1 - j - 1) + 1 by omega, List.replicate_succ']
      simp
    have hz17 : rOf z17 = rOf z0 ++ rws ((128 :: List.replicate (P - n - 1 - j - 1) 0) ++ (z13 + -256 * z16) :: tl8 (8 * n) j) := by
      rw [h17]
      show rOf (rc ((rOf z15).set z14.toNat (((rOf z15).getD z14.toNat []).take (0 : Int).toNat ++ [z13 + -256 * z16] ++ ((rOf z15).getD z14.toNat []).drop ((0 : Int).toNat + [z13 + -256 * z16].length)))) = _
      have e1 : ∀ x : Int, rOf z0 ++ rws ((128 :: List.replicate (P - n - 1 - j - 1) 0) ++ x :: tl8 (8 * n) j) = (rOf z0 ++ rws (128 :: List.replicate (P - n - 1 - j - 1) 0)) ++ [x] :: rws (tl8 (8 * n) j) := fun x => by
        rw [rws_append, List.append_assoc]; rfl
      have hl : (rOf z0 ++ rws (128 :: List.replicate (P - n - 1 - j - 1) 0)).length = z14.toNat := by
        rw [List.length_append, hn, rws_len]
        simp only [List.length_cons, List.length_replicate]
        omega
      rw [rOf_rc, hsplit, e1, e1, getD_at _ _ _ _ _ hl]
      simp only [Int.toNat_zero, List.take_zero, List.nil_append, List.length_singleton, List.drop_succ_cons, List.drop_zero, Nat.zero_add, List.append_nil]
      exact set_at _ _ _ _ _ hl
    have e16 : z16 = z13 / 256 := by omega
    have e18 : z18 = z13 / 256 := by omega
    refine ⟨⟨by omega, by omega⟩, ⟨j + 1, z17, by omega, ?_, ?_⟩, ?_⟩
    · rw [show z18 = ((8 * n / 256 ^ (j + 1) : Nat) : Int) by rw [Nat.pow_succ, ← Nat.div_div_eq_div_mul, e18, e13]; simp, show (z14 + -1 : Int) = (P : Int) - 1 - ((j + 1 : Nat) : Int) by omega]
    · rw [hz17, tl8_succ]
      congr 2
      rw [show P - n - 1 - (j + 1) = P - n - 1 - j - 1 by omega]
      congr 2
      rw [e16, e13]; omega
    · show z18.toNat < z13.toNat
      omega
  · have hneg := of_decide_eq_false hneg
    have h0 : 8 * n / 256 ^ j = 0 := by omega
    show bys z16 = padW W64 (bys z0)
    have h16 := sub_all h16 (by rw [l15, h4])
    have e0 : rOf z15 = rOf z0 ++ rws (128 :: List.replicate (P - n - 9) 0 ++ be8 (8 * n)) := by
      rw [hc, tl8_be (8 * n) (8 - j) j (by omega) h0]
      congr 2
      rw [show P - n - 1 - j = (P - n - 9) + (8 - j) by omega, ← List.replicate_append_replicate]
      simp only [List.cons_append, List.append_assoc]
    unfold padW
    rw [hbn, show W64.w = 64 from rfl, hP]
    unfold bys
    rw [h16, e0, List.map_append]
    have := bys_rws (z := rc (rws (128 :: List.replicate (P - n - 9) 0 ++ be8 (8 * n)))) (rOf_rc _)
    unfold bys at this
    rw [rOf_rc] at this
    rw [this]
    simp

end Go.Ad

set_option maxRecDepth 100000
set_option linter.unusedVariables false
set_option linter.unusedSimpArgs false
namespace Go.Ad
open Go Go.Rx
theorem extW_succ (p : Wd) : ∀ (j : Nat) (m : List Int), extW p (j + 1) m = extW p j m ++ [nxt p (extW p j m)]
  | 0, m => rfl
  | j + 1, m => by
    show extW p (j + 1) (m ++ [nxt p m]) = _
    rw [extW_succ p j]; rfl
theorem extW_len (p : Wd) : ∀ (j : Nat) (m : List Int), (extW p j m).length = m.length + j
  | 0, _ => rfl
  | j + 1, m => by
    show (extW p j (m ++ [nxt p m])).length = _
    rw [extW_len p j]; simp; omega
theorem runW_snoc (p : Wd) : ∀ (m : List Int) (i : Nat) (x : Int) (v : List Int), runW p i (m ++ [x]) v = stepW p (i + m.length) x (runW p i m v)
  | [], i, x, v => rfl
  | y :: m, i, x, v => by
    show runW p (i + 1) (m ++ [x]) _ = stepW p _ x (runW p (i + 1) m _)
    rw [runW_snoc p m]
    congr 1
    simp only [List.length_cons]; omega
theorem take_snoc (m : List Int) (i : Nat) (h : i < m.length) : m.take (i + 1) = m.take i ++ [m.getD i 0] := by
  rw [List.take_add_one, List.getElem?_eq_getElem h]; simp [List.getD, h]
theorem list8 {r : List Int} (h : r.length = 8) : r = [r.getD 0 0, r.getD 1 0, r.getD 2 0, r.getD 3 0, r.getD 4 0, r.getD 5 0, r.getD 6 0, r.getD 7 0] := getD_range r 8 h
theorem fn23 {c z x : Int} {l : List Int} (h : z = fnD 23 [c, x]) (hc : rOf c = rws l) : rOf z = rws (l ++ [x]) := by
  rw [h]
  show rOf (rc (rOf c ++ [[x]])) = _
  rw [rOf_rc, hc, rws_append]; rfl
theorem fn21r {c i z : Int} {l : List Int} (h : z = fnD 21 [c, i, 0]) (hc : rOf c = rws l) : z = l.getD i.toNat 0 := by
  rw [fn21 h, bys_rws hc]
theorem inB_rep {lo hi : Int} : ∀ (n : Nat) (l : List Int), inB (repB lo hi n) l → l.length = n ∧ ∀ x ∈ l, lo ≤ x ∧ x ≤ hi
  | 0, [], _ => ⟨rfl, fun _ h => by cases h⟩
  | n + 1, x :: l, h => by
    obtain ⟨h1, h2⟩ := inB_rep n l h.2.2
    refine ⟨by simp [h1], fun y hy => ?_⟩
    rcases List.mem_cons.1 hy with rfl | hy
    · exact ⟨h.1, h.2.1⟩
    · exact h2 y hy
  | 0, _ :: _, h => h.elim
  | _ + 1, [], h => h.elim
theorem drop_getD (b : List Int) (o n k : Nat) (hk : k < n) : ((b.drop o).take n).getD k 0 = b.getD (o + k) 0 := by
  simp only [List.getD, List.getElem?_take, List.getElem?_drop, hk, if_true]
theorem tail32 {x c l k : Int} {pre : List Int} {Next : Int → Int → Int → Prop} (hc : rOf c = rws pre) (hl : l = (pre.length : Int)) (hb : pre.length ≤ 1000)
    (hn : ∀ c' l' k' : Int, 0 ≤ c' → c' ≤ RB → rOf c' = rws (pre ++ (List.range 4).map (byteW W32 x)) → l' = ((pre.length + 4 : Nat) : Int) → Next c' l' k') :
    ∃ (I : List (List Int) → Prop) (μ : List (List Int) → Nat), I [[3], [c], [l], [k]] ∧ (∀ z15 : Int, (-1) ≤ z15 → z15 ≤ 3 → ∀ z16 : Int, 0 ≤ z16 → z16 ≤ RB → ∀ z17 : Int, 0 ≤ z17 → z17 ≤ 9223372036854775807 → ∀ z18 : Int, (-1) ≤ z18 → z18 ≤ 9223372036854775807 → I [[z15], [z16], [z17], [z18]] →
    (((decide (0 ≤ z15)) = true →
     ∀ z19 : Int, 0 ≤ z19 → z19 ≤ 4294967295 → z19 = x / 2 ^ ((8 * z15)).toNat →
     ∀ z20 : Int, 0 ≤ z20 → z20 ≤ 16777215 → 0 ≤ z19 - 256 * z20 → z19 - 256 * z20 < 256 →
     chkD 31 [z16, z17] ∧
     chkD 23 [z16, 1] ∧
     ∀ z21 : Int, 0 ≤ z21 → z21 ≤ RB → z21 = fnD 23 [z16, (z19 + ((-256) * z20))] →
     ∀ z22 : Int, (-1) ≤ z22 → z22 ≤ 9223372036854775807 →
     (I [[(z15 + (-1))], [z21], [(z17 + 1)], [z22]] ∧ μ [[(z15 + (-1))], [z21], [(z17 + 1)], [z22]] < μ [[z15], [z16], [z17], [z18]])
    ) ∧ ((decide (0 ≤ z15)) = false → Next z16 z17 z18))) := by
  refine ⟨fun l => ∃ (j : Nat) (c' k' : Int), j ≤ 4 ∧ l = [[3 - (j : Int)], [c'], [((pre.length + j : Nat) : Int)], [k']] ∧ rOf c' = rws (pre ++ (List.range j).map (byteW W32 x)), fun l => ((l.getD 0 []).getD 0 0 + 1).toNat, ⟨0, c, k, by decide, by rw [hl]; rfl, by rw [hc]; simp⟩, ?_⟩
  intro z15 a0 a1 z16 b0 b1 z17 c0 c1 z18 d0 d1 ⟨j, c', k', hj, e, hr⟩
  simp only [List.cons.injEq, and_true] at e
  obtain ⟨e1, e2, e3, e4⟩ := e
  subst e2
  have hlen : (rOf z16).length = pre.length + j := by rw [hr, rws_len]; simp
  refine ⟨fun h z19 f0 f1 f2 z20 g0 g1 g2 g3 => ?_, fun h => ?_⟩
  · have h := of_decide_eq_true h
    refine ⟨by show z17 = ((rOf z16).length : Int); rw [hlen, e3], by show (rOf z16).length + (1 : Int) ≤ 1073741824; rw [hlen]; omega, fun z21 i0 i1 i2 z22 j0 j1 => ⟨⟨j + 1, z21, z22, by omega, ?_, ?_⟩, ?_⟩⟩
    · rw [show z15 + -1 = 3 - ((j + 1 : Nat) : Int) by omega, show z17 + 1 = ((pre.length + (j + 1) : Nat) : Int) by omega]
    · rw [fn23 i2 hr, List.append_assoc, List.range_succ, List.map_append]
      congr 3
      show [z19 + -256 * z20] = [x / 2 ^ (32 - 8 - 8 * j) % 256]
      have : (8 * z15).toNat = 32 - 8 - 8 * j := by omega
      rw [← this, ← f2]
      congr 1; omega
    · show (z15 + -1 + 1).toNat < (z15 + 1).toNat
      omega
  · have h := of_decide_eq_false h
    have : j = 4 := by omega
    subst this
    exact hn z16 z17 z18 b0 b1 hr e3
theorem tail64 {x c l k : Int} {pre : List Int} {Next : Int → Int → Int → Prop} (hc : rOf c = rws pre) (hl : l = (pre.length : Int)) (hb : pre.length ≤ 1000)
    (hn : ∀ c' l' k' : Int, 0 ≤ c' → c' ≤ RB → rOf c' = rws (pre ++ (List.range 8).map (byteW W64 x)) → l' = ((pre.length + 8 : Nat) : Int) → Next c' l' k') :
    ∃ (I : List (List Int) → Prop) (μ : List (List Int) → Nat), I [[7], [c], [l], [k]] ∧ (∀ z15 : Int, (-1) ≤ z15 → z15 ≤ 7 → ∀ z16 : Int, 0 ≤ z16 → z16 ≤ RB → ∀ z17 : Int, 0 ≤ z17 → z17 ≤ 9223372036854775807 → ∀ z18 : Int, (-1) ≤ z18 → z18 ≤ 9223372036854775807 → I [[z15], [z16], [z17], [z18]] →
    (((decide (0 ≤ z15)) = true →
     ∀ z19 : Int, 0 ≤ z19 → z19 ≤ 18446744073709551615 → z19 = x / 2 ^ ((8 * z15)).toNat →
     ∀ z20 : Int, 0 ≤ z20 → z20 ≤ 72057594037927935 → 0 ≤ z19 - 256 * z20 → z19 - 256 * z20 < 256 →
     chkD 31 [z16, z17] ∧
     chkD 23 [z16, 1] ∧
     ∀ z21 : Int, 0 ≤ z21 → z21 ≤ RB → z21 = fnD 23 [z16, (z19 + ((-256) * z20))] →
     ∀ z22 : Int, (-1) ≤ z22 → z22 ≤ 9223372036854775807 →
     (I [[(z15 + (-1))], [z21], [(z17 + 1)], [z22]] ∧ μ [[(z15 + (-1))], [z21], [(z17 + 1)], [z22]] < μ [[z15], [z16], [z17], [z18]])
    ) ∧ ((decide (0 ≤ z15)) = false → Next z16 z17 z18))) := by
  refine ⟨fun l => ∃ (j : Nat) (c' k' : Int), j ≤ 8 ∧ l = [[7 - (j : Int)], [c'], [((pre.length + j : Nat) : Int)], [k']] ∧ rOf c' = rws (pre ++ (List.range j).map (byteW W64 x)), fun l => ((l.getD 0 []).getD 0 0 + 1).toNat, ⟨0, c, k, by decide, by rw [hl]; rfl, by rw [hc]; simp⟩, ?_⟩
  intro z15 a0 a1 z16 b0 b1 z17 c0 c1 z18 d0 d1 ⟨j, c', k', hj, e, hr⟩
  simp only [List.cons.injEq, and_true] at e
  obtain ⟨e1, e2, e3, e4⟩ := e
  subst e2
  have hlen : (rOf z16).length = pre.length + j := by rw [hr, rws_len]; simp
  refine ⟨fun h z19 f0 f1 f2 z20 g0 g1 g2 g3 => ?_, fun h => ?_⟩
  · have h := of_decide_eq_true h
    refine ⟨by show z17 = ((rOf z16).length : Int); rw [hlen, e3], by show (rOf z16).length + (1 : Int) ≤ 1073741824; rw [hlen]; omega, fun z21 i0 i1 i2 z22 j0 j1 => ⟨⟨j + 1, z21, z22, by omega, ?_, ?_⟩, ?_⟩⟩
    · rw [show z15 + -1 = 7 - ((j + 1 : Nat) : Int) by omega, show z17 + 1 = ((pre.length + (j + 1) : Nat) : Int) by omega]
    · rw [fn23 i2 hr, List.append_assoc, List.range_succ, List.map_append]
      congr 3
      show [z19 + -256 * z20] = [x / 2 ^ (64 - 8 - 8 * j) % 256]
      have : (8 * z15).toNat = 64 - 8 - 8 * j := by omega
      rw [← this, ← f2]
      congr 1; omega
    · show (z15 + -1 + 1).toNat < (z15 + 1).toNat
      omega
  · have h := of_decide_eq_false h
    have : j = 8 := by omega
    subst this
    exact hn z16 z17 z18 b0 b1 hr e3

end Go.Ad

set_option maxRecDepth 100000
set_option linter.unusedVariables false
set_option linter.unusedSimpArgs false
namespace Go.Ad
open Go Go.Rx
def B_all32 (S : Nat → List (List Int) → List (List Int) → Prop) (K : List (List Int) → List (List Int) → Prop) : Prop :=
 ∀ z0 : Int, 0 ≤ z0 → z0 ≤ RB → 
 (chkD 72 [z0] →
 ∀ z1 : Int, 0 ≤ z1 →
 ∀ z2 : Int, (-1) ≤ z2 → z2 ≤ 9223372036854775807 → 
 ∀ z3 : Int, 0 ≤ z3 → z3 ≤ 9223372036854775807 → z3 = fnD 20 [z0] →
 chkD 70 [z3, 64] ∧
 ∃ (I4 : List (List Int) → Prop) (μ4 : List (List Int) → Nat), I4 [[1779033703, 3144134277, 1013904242, 2773480762, 1359893119, 2600822924, 528734635, 1541459225], [0]] ∧ (∀ r5 : List Int, inB (repB 0 4294967295 8) r5 → ∀ z13 : Int, 0 ≤ z13 → z13 ≤ 9223372036854775807 → I4 [r5, [z13]] →
  (((decide ((64 * z13) < z3)) = true →
   chkD 21 [z0, (64 * z13)] ∧
   ∀ z14 : Int, 0 ≤ z14 → z14 ≤ 255 → z14 = fnD 21 [z0, (64 * z13), 0] →
   chkD 21 [z0, ((64 * z13) + 1)] ∧
   ∀ z15 : Int, 0 ≤ z15 → z15 ≤ 255 → z15 = fnD 21 [z0, ((64 * z13) + 1), 0] →
   chkD 21 [z0, ((64 * z13) + 2)] ∧
   ∀ z16 : Int, 0 ≤ z16 → z16 ≤ 255 → z16 = fnD 21 [z0, ((64 * z13) + 2), 0] →
   chkD 21 [z0, ((64 * z13) + 3)] ∧
   ∀ z17 : Int, 0 ≤ z17 → z17 ≤ 255 → z17 = fnD 21 [z0, ((64 * z13) + 3), 0] →
   chkD 21 [z0, ((64 * z13) + 4)] ∧
   ∀ z18 : Int, 0 ≤ z18 → z18 ≤ 255 → z18 = fnD 21 [z0, ((64 * z13) + 4), 0] →
   chkD 21 [z0, ((64 * z13) + 5)] ∧
   ∀ z19 : Int, 0 ≤ z19 → z19 ≤ 255 → z19 = fnD 21 [z0, ((64 * z13) + 5), 0] →
   chkD 21 [z0, ((64 * z13) + 6)] ∧
   ∀ z20 : Int, 0 ≤ z20 → z20 ≤ 255 → z20 = fnD 21 [z0, ((64 * z13) + 6), 0] →
   chkD 21 [z0, ((64 * z13) + 7)] ∧
   ∀ z21 : Int, 0 ≤ z21 → z21 ≤ 255 → z21 = fnD 21 [z0, ((64 * z13) + 7), 0] →
   chkD 21 [z0, ((64 * z13) + 8)] ∧
   ∀ z22 : Int, 0 ≤ z22 → z22 ≤ 255 → z22 = fnD 21 [z0, ((64 * z13) + 8), 0] →
   chkD 21 [z0, ((64 * z13) + 9)] ∧
   ∀ z23 : Int, 0 ≤ z23 → z23 ≤ 255 → z23 = fnD 21 [z0, ((64 * z13) + 9), 0] →
   chkD 21 [z0, ((64 * z13) + 10)] ∧
   ∀ z24 : Int, 0 ≤ z24 → z24 ≤ 255 → z24 = fnD 21 [z0, ((64 * z13) + 10), 0] →
   chkD 21 [z0, ((64 * z13) + 11)] ∧
   ∀ z25 : Int, 0 ≤ z25 → z25 ≤ 255 → z25 = fnD 21 [z0, ((64 * z13) + 11), 0] →
   chkD 21 [z0, ((64 * z13) + 12)] ∧
   ∀ z26 : Int, 0 ≤ z26 → z26 ≤ 255 → z26 = fnD 21 [z0, ((64 * z13) + 12), 0] →
   chkD 21 [z0, ((64 * z13) + 13)] ∧
   ∀ z27 : Int, 0 ≤ z27 → z27 ≤ 255 → z27 = fnD 21 [z0, ((64 * z13) + 13), 0] →
   chkD 21 [z0, ((64 * z13) + 14)] ∧
   ∀ z28 : Int, 0 ≤ z28 → z28 ≤ 255 → z28 = fnD 21 [z0, ((64 * z13) + 14), 0] →
   chkD 21 [z0, ((64 * z13) + 15)] ∧
   ∀ z29 : Int, 0 ≤ z29 → z29 ≤ 255 → z29 = fnD 21 [z0, ((64 * z13) + 15), 0] →
   chkD 21 [z0, ((64 * z13) + 16)] ∧
   ∀ z30 : Int, 0 ≤ z30 → z30 ≤ 255 → z30 = fnD 21 [z0, ((64 * z13) + 16), 0] →
   chkD 21 [z0, ((64 * z13) + 17)] ∧
   ∀ z31 : Int, 0 ≤ z31 → z31 ≤ 255 → z31 = fnD 21 [z0, ((64 * z13) + 17), 0] →
   chkD 21 [z0, ((64 * z13) + 18)] ∧
   ∀ z32 : Int, 0 ≤ z32 → z32 ≤ 255 → z32 = fnD 21 [z0, ((64 * z13) + 18), 0] →
   chkD 21 [z0, ((64 * z13) + 19)] ∧
   ∀ z33 : Int, 0 ≤ z33 → z33 ≤ 255 → z33 = fnD 21 [z0, ((64 * z13) + 19), 0] →
   chkD 21 [z0, ((64 * z13) + 20)] ∧
   ∀ z34 : Int, 0 ≤ z34 → z34 ≤ 255 → z34 = fnD 21 [z0, ((64 * z13) + 20), 0] →
   chkD 21 [z0, ((64 * z13) + 21)] ∧
   ∀ z35 : Int, 0 ≤ z35 → z35 ≤ 255 → z35 = fnD 21 [z0, ((64 * z13) + 21), 0] →
   chkD 21 [z0, ((64 * z13) + 22)] ∧
   ∀ z36 : Int, 0 ≤ z36 → z36 ≤ 255 → z36 = fnD 21 [z0, ((64 * z13) + 22), 0] →
   chkD 21 [z0, ((64 * z13) + 23)] ∧
   ∀ z37 : Int, 0 ≤ z37 → z37 ≤ 255 → z37 = fnD 21 [z0, ((64 * z13) + 23), 0] →
   chkD 21 [z0, ((64 * z13) + 24)] ∧
   ∀ z38 : Int, 0 ≤ z38 → z38 ≤ 255 → z38 = fnD 21 [z0, ((64 * z13) + 24), 0] →
   chkD 21 [z0, ((64 * z13) + 25)] ∧
   ∀ z39 : Int, 0 ≤ z39 → z39 ≤ 255 → z39 = fnD 21 [z0, ((64 * z13) + 25), 0] →
   chkD 21 [z0, ((64 * z13) + 26)] ∧
   ∀ z40 : Int, 0 ≤ z40 → z40 ≤ 255 → z40 = fnD 21 [z0, ((64 * z13) + 26), 0] →
   chkD 21 [z0, ((64 * z13) + 27)] ∧
   ∀ z41 : Int, 0 ≤ z41 → z41 ≤ 255 → z41 = fnD 21 [z0, ((64 * z13) + 27), 0] →
   chkD 21 [z0, ((64 * z13) + 28)] ∧
   ∀ z42 : Int, 0 ≤ z42 → z42 ≤ 255 → z42 = fnD 21 [z0, ((64 * z13) + 28), 0] →
   chkD 21 [z0, ((64 * z13) + 29)] ∧
   ∀ z43 : Int, 0 ≤ z43 → z43 ≤ 255 → z43 = fnD 21 [z0, ((64 * z13) + 29), 0] →
   chkD 21 [z0, ((64 * z13) + 30)] ∧
   ∀ z44 : Int, 0 ≤ z44 → z44 ≤ 255 → z44 = fnD 21 [z0, ((64 * z13) + 30), 0] →
   chkD 21 [z0, ((64 * z13) + 31)] ∧
   ∀ z45 : Int, 0 ≤ z45 → z45 ≤ 255 → z45 = fnD 21 [z0, ((64 * z13) + 31), 0] →
   chkD 21 [z0, ((64 * z13) + 32)] ∧
   ∀ z46 : Int, 0 ≤ z46 → z46 ≤ 255 → z46 = fnD 21 [z0, ((64 * z13) + 32), 0] →
   chkD 21 [z0, ((64 * z13) + 33)] ∧
   ∀ z47 : Int, 0 ≤ z47 → z47 ≤ 255 → z47 = fnD 21 [z0, ((64 * z13) + 33), 0] →
   chkD 21 [z0, ((64 * z13) + 34)] ∧
   ∀ z48 : Int, 0 ≤ z48 → z48 ≤ 255 → z48 = fnD 21 [z0, ((64 * z13) + 34), 0] →
   chkD 21 [z0, ((64 * z13) + 35)] ∧
   ∀ z49 : Int, 0 ≤ z49 → z49 ≤ 255 → z49 = fnD 21 [z0, ((64 * z13) + 35), 0] →
   chkD 21 [z0, ((64 * z13) + 36)] ∧
   ∀ z50 : Int, 0 ≤ z50 → z50 ≤ 255 → z50 = fnD 21 [z0, ((64 * z13) + 36), 0] →
   chkD 21 [z0, ((64 * z13) + 37)] ∧
   ∀ z51 : Int, 0 ≤ z51 → z51 ≤ 255 → z51 = fnD 21 [z0, ((64 * z13) + 37), 0] →
   chkD 21 [z0, ((64 * z13) + 38)] ∧
   ∀ z52 : Int, 0 ≤ z52 → z52 ≤ 255 → z52 = fnD 21 [z0, ((64 * z13) + 38), 0] →
   chkD 21 [z0, ((64 * z13) + 39)] ∧
   ∀ z53 : Int, 0 ≤ z53 → z53 ≤ 255 → z53 = fnD 21 [z0, ((64 * z13) + 39), 0] →
   chkD 21 [z0, ((64 * z13) + 40)] ∧
   ∀ z54 : Int, 0 ≤ z54 → z54 ≤ 255 → z54 = fnD 21 [z0, ((64 * z13) + 40), 0] →
   chkD 21 [z0, ((64 * z13) + 41)] ∧
   ∀ z55 : Int, 0 ≤ z55 → z55 ≤ 255 → z55 = fnD 21 [z0, ((64 * z13) + 41), 0] →
   chkD 21 [z0, ((64 * z13) + 42)] ∧
   ∀ z56 : Int, 0 ≤ z56 → z56 ≤ 255 → z56 = fnD 21 [z0, ((64 * z13) + 42), 0] →
   chkD 21 [z0, ((64 * z13) + 43)] ∧
   ∀ z57 : Int, 0 ≤ z57 → z57 ≤ 255 → z57 = fnD 21 [z0, ((64 * z13) + 43), 0] →
   chkD 21 [z0, ((64 * z13) + 44)] ∧
   ∀ z58 : Int, 0 ≤ z58 → z58 ≤ 255 → z58 = fnD 21 [z0, ((64 * z13) + 44), 0] →
   chkD 21 [z0, ((64 * z13) + 45)] ∧
   ∀ z59 : Int, 0 ≤ z59 → z59 ≤ 255 → z59 = fnD 21 [z0, ((64 * z13) + 45), 0] →
   chkD 21 [z0, ((64 * z13) + 46)] ∧
   ∀ z60 : Int, 0 ≤ z60 → z60 ≤ 255 → z60 = fnD 21 [z0, ((64 * z13) + 46), 0] →
   chkD 21 [z0, ((64 * z13) + 47)] ∧
   ∀ z61 : Int, 0 ≤ z61 → z61 ≤ 255 → z61 = fnD 21 [z0, ((64 * z13) + 47), 0] →
   chkD 21 [z0, ((64 * z13) + 48)] ∧
   ∀ z62 : Int, 0 ≤ z62 → z62 ≤ 255 → z62 = fnD 21 [z0, ((64 * z13) + 48), 0] →
   chkD 21 [z0, ((64 * z13) + 49)] ∧
   ∀ z63 : Int, 0 ≤ z63 → z63 ≤ 255 → z63 = fnD 21 [z0, ((64 * z13) + 49), 0] →
   chkD 21 [z0, ((64 * z13) + 50)] ∧
   ∀ z64 : Int, 0 ≤ z64 → z64 ≤ 255 → z64 = fnD 21 [z0, ((64 * z13) + 50), 0] →
   chkD 21 [z0, ((64 * z13) + 51)] ∧
   ∀ z65 : Int, 0 ≤ z65 → z65 ≤ 255 → z65 = fnD 21 [z0, ((64 * z13) + 51), 0] →
   chkD 21 [z0, ((64 * z13) + 52)] ∧
   ∀ z66 : Int, 0 ≤ z66 → z66 ≤ 255 → z66 = fnD 21 [z0, ((64 * z13) + 52), 0] →
   chkD 21 [z0, ((64 * z13) + 53)] ∧
   ∀ z67 : Int, 0 ≤ z67 → z67 ≤ 255 → z67 = fnD 21 [z0, ((64 * z13) + 53), 0] →
   chkD 21 [z0, ((64 * z13) + 54)] ∧
   ∀ z68 : Int, 0 ≤ z68 → z68 ≤ 255 → z68 = fnD 21 [z0, ((64 * z13) + 54), 0] →
   chkD 21 [z0, ((64 * z13) + 55)] ∧
   ∀ z69 : Int, 0 ≤ z69 → z69 ≤ 255 → z69 = fnD 21 [z0, ((64 * z13) + 55), 0] →
   chkD 21 [z0, ((64 * z13) + 56)] ∧
   ∀ z70 : Int, 0 ≤ z70 → z70 ≤ 255 → z70 = fnD 21 [z0, ((64 * z13) + 56), 0] →
   chkD 21 [z0, ((64 * z13) + 57)] ∧
   ∀ z71 : Int, 0 ≤ z71 → z71 ≤ 255 → z71 = fnD 21 [z0, ((64 * z13) + 57), 0] →
   chkD 21 [z0, ((64 * z13) + 58)] ∧
   ∀ z72 : Int, 0 ≤ z72 → z72 ≤ 255 → z72 = fnD 21 [z0, ((64 * z13) + 58), 0] →
   chkD 21 [z0, ((64 * z13) + 59)] ∧
   ∀ z73 : Int, 0 ≤ z73 → z73 ≤ 255 → z73 = fnD 21 [z0, ((64 * z13) + 59), 0] →
   chkD 21 [z0, ((64 * z13) + 60)] ∧
   ∀ z74 : Int, 0 ≤ z74 → z74 ≤ 255 → z74 = fnD 21 [z0, ((64 * z13) + 60), 0] →
   chkD 21 [z0, ((64 * z13) + 61)] ∧
   ∀ z75 : Int, 0 ≤ z75 → z75 ≤ 255 → z75 = fnD 21 [z0, ((64 * z13) + 61), 0] →
   chkD 21 [z0, ((64 * z13) + 62)] ∧
   ∀ z76 : Int, 0 ≤ z76 → z76 ≤ 255 → z76 = fnD 21 [z0, ((64 * z13) + 62), 0] →
   chkD 21 [z0, ((64 * z13) + 63)] ∧
   ∀ z77 : Int, 0 ≤ z77 → z77 ≤ 255 → z77 = fnD 21 [z0, ((64 * z13) + 63), 0] →
   ∀ z78 : Int, 0 ≤ z78 → z78 ≤ RB → z78 = fnD 23 [0, ((16777216 * z14) + ((65536 * z15) + ((256 * z16) + z17)))] →
   ∀ z79 : Int, 0 ≤ z79 → z79 ≤ RB → z79 = fnD 23 [z78, ((16777216 * z18) + ((65536 * z19) + ((256 * z20) + z21)))] →
   ∀ z80 : Int, 0 ≤ z80 → z80 ≤ RB → z80 = fnD 23 [z79, ((16777216 * z22) + ((65536 * z23) + ((256 * z24) + z25)))] →
   ∀ z81 : Int, 0 ≤ z81 → z81 ≤ RB → z81 = fnD 23 [z80, ((16777216 * z26) + ((65536 * z27) + ((256 * z28) + z29)))] →
   ∀ z82 : Int, 0 ≤ z82 → z82 ≤ RB → z82 = fnD 23 [z81, ((16777216 * z30) + ((65536 * z31) + ((256 * z32) + z33)))] →
   ∀ z83 : Int, 0 ≤ z83 → z83 ≤ RB → z83 = fnD 23 [z82, ((16777216 * z34) + ((65536 * z35) + ((256 * z36) + z37)))] →
   ∀ z84 : Int, 0 ≤ z84 → z84 ≤ RB → z84 = fnD 23 [z83, ((16777216 * z38) + ((65536 * z39) + ((256 * z40) + z41)))] →
   ∀ z85 : Int, 0 ≤ z85 → z85 ≤ RB → z85 = fnD 23 [z84, ((16777216 * z42) + ((65536 * z43) + ((256 * z44) + z45)))] →
   ∀ z86 : Int, 0 ≤ z86 → z86 ≤ RB → z86 = fnD 23 [z85, ((16777216 * z46) + ((65536 * z47) + ((256 * z48) + z49)))] →
   ∀ z87 : Int, 0 ≤ z87 → z87 ≤ RB → z87 = fnD 23 [z86, ((16777216 * z50) + ((65536 * z51) + ((256 * z52) + z53)))] →
   ∀ z88 : Int, 0 ≤ z88 → z88 ≤ RB → z88 = fnD 23 [z87, ((16777216 * z54) + ((65536 * z55) + ((256 * z56) + z57)))] →
   ∀ z89 : Int, 0 ≤ z89 → z89 ≤ RB → z89 = fnD 23 [z88, ((16777216 * z58) + ((65536 * z59) + ((256 * z60) + z61)))] →
   ∀ z90 : Int, 0 ≤ z90 → z90 ≤ RB → z90 = fnD 23 [z89, ((16777216 * z62) + ((65536 * z63) + ((256 * z64) + z65)))] →
   ∀ z91 : Int, 0 ≤ z91 → z91 ≤ RB → z91 = fnD 23 [z90, ((16777216 * z66) + ((65536 * z67) + ((256 * z68) + z69)))] →
   ∀ z92 : Int, 0 ≤ z92 → z92 ≤ RB → z92 = fnD 23 [z91, ((16777216 * z70) + ((65536 * z71) + ((256 * z72) + z73)))] →
   ∀ z93 : Int, 0 ≤ z93 → z93 ≤ RB → z93 = fnD 23 [z92, ((16777216 * z74) + ((65536 * z75) + ((256 * z76) + z77)))] →
   chkD 66 [z93] ∧
   ∀ z94 : Int, 0 ≤ z94 → z94 ≤ RB → S 462 [[z93]] [[z94]] →
   ∀ z95 : Int, (-1) ≤ z95 → z95 ≤ 9223372036854775807 → 
   ∀ z96 : Int, 0 ≤ z96 → z96 ≤ 9223372036854775807 → z96 = fnD 20 [z94] →
   ∃ (I97 : List (List Int) → Prop) (μ97 : List (List Int) → Nat), I97 [[16], [z94], [z96], [z95]] ∧ (∀ z98 : Int, 16 ≤ z98 → z98 ≤ 9223372036854775807 → ∀ z99 : Int, 0 ≤ z99 → z99 ≤ RB → ∀ z100 : Int, 0 ≤ z100 → z100 ≤ 9223372036854775807 → ∀ z101 : Int, (-1) ≤ z101 → z101 ≤ 9223372036854775807 → I97 [[z98], [z99], [z100], [z101]] →
    (((decide (z98 < 64)) = true →
     chkD 30 [(z98 + (-16)), z100] ∧
     chkD 21 [z99, (z98 + (-16))] ∧
     ∀ z102 : Int, 0 ≤ z102 → z102 ≤ 4294967295 → z102 = fnD 21 [z99, (z98 + (-16)), 0] →
     chkD 30 [(z98 + (-15)), z100] ∧
     chkD 21 [z99, (z98 + (-15))] ∧
     ∀ z103 : Int, 0 ≤ z103 → z103 ≤ 4294967295 → z103 = fnD 21 [z99, (z98 + (-15)), 0] →
     ∀ z104 : Int, 0 ≤ z104 → z104 ≤ 4294967295 → S 446 [[z103]] [[z104]] →
     ∀ z105 : Int, 0 ≤ z105 → z105 ≤ 1 → 0 ≤ (z102 + z104) - 4294967296 * z105 → (z102 + z104) - 4294967296 * z105 < 4294967296 →
     chkD 30 [(z98 + (-7)), z100] ∧
     chkD 21 [z99, (z98 + (-7))] ∧
     ∀ z106 : Int, 0 ≤ z106 → z106 ≤ 4294967295 → z106 = fnD 21 [z99, (z98 + (-7)), 0] →
     ∀ z107 : Int, 0 ≤ z107 → z107 ≤ 1 → 0 ≤ (z102 + (z104 + (((-4294967296) * z105) + z106))) - 4294967296 * z107 → (z102 + (z104 + (((-4294967296) * z105) + z106))) - 4294967296 * z107 < 4294967296 →
     chkD 30 [(z98 + (-2)), z100] ∧
     chkD 21 [z99, (z98 + (-2))] ∧
     ∀ z108 : Int, 0 ≤ z108 → z108 ≤ 4294967295 → z108 = fnD 21 [z99, (z98 + (-2)), 0] →
     ∀ z109 : Int, 0 ≤ z109 → z109 ≤ 4294967295 → S 447 [[z108]] [[z109]] →
     ∀ z110 : Int, 0 ≤ z110 → z110 ≤ 1 → 0 ≤ (z102 + (z104 + (((-4294967296) * z105) + (z106 + (((-4294967296) * z107) + z109))))) - 4294967296 * z110 → (z102 + (z104 + (((-4294967296) * z105) + (z106 + (((-4294967296) * z107) + z109))))) - 4294967296 * z110 < 4294967296 →
     chkD 31 [z99, z100] ∧
     chkD 23 [z99, 1] ∧
     ∀ z111 : Int, 0 ≤ z111 → z111 ≤ RB → z111 = fnD 23 [z99, (z102 + (z104 + (((-4294967296) * z105) + (z106 + (((-4294967296) * z107) + (z109 + ((-4294967296) * z110)))))))] →
     ∀ z112 : Int, (-1) ≤ z112 → z112 ≤ 9223372036854775807 → 
     (I97 [[(z98 + 1)], [z111], [(z100 + 1)], [z112]] ∧ μ97 [[(z98 + 1)], [z111], [(z100 + 1)], [z112]] < μ97 [[z98], [z99], [z100], [z101]])
    ) ∧ ((decide (z98 < 64)) = false →
     ∃ (I102 : List (List Int) → Prop) (μ102 : List (List Int) → Nat), I102 [r5, [0]] ∧ (∀ r103 : List Int, inB (repB 0 4294967295 8) r103 → ∀ z111 : Int, 0 ≤ z111 → z111 ≤ 9223372036854775807 → I102 [r103, [z111]] →
      (((decide (z111 < z100)) = true →
       chkD 30 [z111, z100] ∧
       chkD 21 [z99, z111] ∧
       ∀ z112 : Int, 0 ≤ z112 → z112 ≤ 4294967295 → z112 = fnD 21 [z99, z111, 0] →
       ∀ z113 : Int, 0 ≤ z113 → z113 ≤ 4294967295 → S 445 [[(List.getD r103 4 0)]] [[z113]] →
       ∀ z114 : Int, 0 ≤ z114 → z114 ≤ 1 → 0 ≤ ((List.getD r103 7 0) + z113) - 4294967296 * z114 → ((List.getD r103 7 0) + z113) - 4294967296 * z114 < 4294967296 →
       ∀ z115 : Int, 0 ≤ z115 → z115 ≤ IntKind.max .u32 → z115 = bitI .and .u32 (List.getD r103 4 0) (List.getD r103 5 0) →
       ∀ z116 : Int, 0 ≤ z116 → z116 ≤ IntKind.max .u32 → z116 = bitI .and .u32 (((-1) * (List.getD r103 4 0)) + 4294967295) (List.getD r103 6 0) →
       ∀ z117 : Int, 0 ≤ z117 → z117 ≤ IntKind.max .u32 → z117 = bitI .xor .u32 z115 z116 →
       ∀ z118 : Int, 0 ≤ z118 → z118 ≤ 1 → 0 ≤ ((List.getD r103 7 0) + (z113 + (((-4294967296) * z114) + z117))) - 4294967296 * z118 → ((List.getD r103 7 0) + (z113 + (((-4294967296) * z114) + z117))) - 4294967296 * z118 < 4294967296 →
       chkD 39 [z111, 0, 79] ∧
       ∀ z119 : Int, 0 ≤ z119 → z119 ≤ 4294967295 → S 466 [[z111]] [[z119]] →
       ∀ z120 : Int, 0 ≤ z120 → z120 ≤ 1 → 0 ≤ ((List.getD r103 7 0) + (z113 + (((-4294967296) * z114) + (z117 + (((-4294967296) * z118) + z119))))) - 4294967296 * z120 → ((List.getD r103 7 0) + (z113 + (((-4294967296) * z114) + (z117 + (((-4294967296) * z118) + z119))))) - 4294967296 * z120 < 4294967296 →
       ∀ z121 : Int, 0 ≤ z121 → z121 ≤ 1 → 0 ≤ ((List.getD r103 7 0) + (z112 + (z113 + (((-4294967296) * z114) + (z117 + (((-4294967296) * z118) + (z119 + ((-4294967296) * z120)))))))) - 4294967296 * z121 → ((List.getD r103 7 0) + (z112 + (z113 + (((-4294967296) * z114) + (z117 + (((-4294967296) * z118) + (z119 + ((-4294967296) * z120)))))))) - 4294967296 * z121 < 4294967296 →
       ∀ z122 : Int, 0 ≤ z122 → z122 ≤ 4294967295 → S 444 [[(List.getD r103 0 0)]] [[z122]] →
       ∀ z123 : Int, 0 ≤ z123 → z123 ≤ IntKind.max .u32 → z123 = bitI .and .u32 (List.getD r103 0 0) (List.getD r103 1 0) →
       ∀ z124 : Int, 0 ≤ z124 → z124 ≤ IntKind.max .u32 → z124 = bitI .and .u32 (List.getD r103 0 0) (List.getD r103 2 0) →
       ∀ z125 : Int, 0 ≤ z125 → z125 ≤ IntKind.max .u32 → z125 = bitI .xor .u32 z123 z124 →
       ∀ z126 : Int, 0 ≤ z126 → z126 ≤ IntKind.max .u32 → z126 = bitI .and .u32 (List.getD r103 1 0) (List.getD r103 2 0) →
       ∀ z127 : Int, 0 ≤ z127 → z127 ≤ IntKind.max .u32 → z127 = bitI .xor .u32 z125 z126 →
       ∀ z128 : Int, 0 ≤ z128 → z128 ≤ 1 → 0 ≤ (z122 + z127) - 4294967296 * z128 → (z122 + z127) - 4294967296 * z128 < 4294967296 →
       ∀ z129 : Int, 0 ≤ z129 → z129 ≤ 1 → 0 ≤ ((List.getD r103 3 0) + ((List.getD r103 7 0) + (z112 + (z113 + (((-4294967296) * z114) + (z117 + (((-4294967296) * z118) + (z119 + (((-4294967296) * z120) + ((-4294967296) * z121)))))))))) - 4294967296 * z129 → ((List.getD r103 3 0) + ((List.getD r103 7 0) + (z112 + (z113 + (((-4294967296) * z114) + (z117 + (((-4294967296) * z118) + (z119 + (((-4294967296) * z120) + ((-4294967296) * z121)))))))))) - 4294967296 * z129 < 4294967296 →
       ∀ z130 : Int, 0 ≤ z130 → z130 ≤ 1 → 0 ≤ ((List.getD r103 7 0) + (z112 + (z113 + (((-4294967296) * z114) + (z117 + (((-4294967296) * z118) + (z119 + (((-4294967296) * z120) + (((-4294967296) * z121) + (z122 + (z127 + ((-4294967296) * z128)))))))))))) - 4294967296 * z130 → ((List.getD r103 7 0) + (z112 + (z113 + (((-4294967296) * z114) + (z117 + (((-4294967296) * z118) + (z119 + (((-4294967296) * z120) + (((-4294967296) * z121) + (z122 + (z127 + ((-4294967296) * z128)))))))))))) - 4294967296 * z130 < 4294967296 →
       ∀ z131 : Int, 0 ≤ z131 → z131 ≤ 1 → 0 ≤ (z111 + 9223372036854775809) - 18446744073709551616 * z131 → (z111 + 9223372036854775809) - 18446744073709551616 * z131 < 18446744073709551616 →
       chkD 39 [((z111 + ((-18446744073709551616) * z131)) + 1), 0, 9223372036854775807] ∧
       (I102 [[((List.getD r103 7 0) + (z112 + (z113 + (((-4294967296) * z114) + (z117 + (((-4294967296) * z118) + (z119 + (((-4294967296) * z120) + (((-4294967296) * z121) + (z122 + (z127 + (((-4294967296) * z128) + ((-4294967296) * z130))))))))))))), (List.getD r103 0 0), (List.getD r103 1 0), (List.getD r103 2 0), ((List.getD r103 3 0) + ((List.getD r103 7 0) + (z112 + (z113 + (((-4294967296) * z114) + (z117 + (((-4294967296) * z118) + (z119 + (((-4294967296) * z120) + (((-4294967296) * z121) + ((-4294967296) * z129))))))))))), (List.getD r103 4 0), (List.getD r103 5 0), (List.getD r103 6 0)], [((z111 + ((-18446744073709551616) * z131)) + 1)]] ∧ μ102 [[((List.getD r103 7 0) + (z112 + (z113 + (((-4294967296) * z114) + (z117 + (((-4294967296) * z118) + (z119 + (((-4294967296) * z120) + (((-4294967296) * z121) + (z122 + (z127 + (((-4294967296) * z128) + ((-4294967296) * z130))))))))))))), (List.getD r103 0 0), (List.getD r103 1 0), (List.getD r103 2 0), ((List.getD r103 3 0) + ((List.getD r103 7 0) + (z112 + (z113 + (((-4294967296) * z114) + (z117 + (((-4294967296) * z118) + (z119 + (((-4294967296) * z120) + (((-4294967296) * z121) + ((-4294967296) * z129))))))))))), (List.getD r103 4 0), (List.getD r103 5 0), (List.getD r103 6 0)], [((z111 + ((-18446744073709551616) * z131)) + 1)]] < μ102 [r103, [z111]])
      ) ∧ ((decide (z111 < z100)) = false →
       ∀ z112 : Int, 0 ≤ z112 → z112 ≤ 1 → 0 ≤ ((List.getD r5 0 0) + (List.getD r103 0 0)) - 4294967296 * z112 → ((List.getD r5 0 0) + (List.getD r103 0 0)) - 4294967296 * z112 < 4294967296 →
       ∀ z113 : Int, 0 ≤ z113 → z113 ≤ 1 → 0 ≤ ((List.getD r5 1 0) + (List.getD r103 1 0)) - 4294967296 * z113 → ((List.getD r5 1 0) + (List.getD r103 1 0)) - 4294967296 * z113 < 4294967296 →
       ∀ z114 : Int, 0 ≤ z114 → z114 ≤ 1 → 0 ≤ ((List.getD r5 2 0) + (List.getD r103 2 0)) - 4294967296 * z114 → ((List.getD r5 2 0) + (List.getD r103 2 0)) - 4294967296 * z114 < 4294967296 →
       ∀ z115 : Int, 0 ≤ z115 → z115 ≤ 1 → 0 ≤ ((List.getD r5 3 0) + (List.getD r103 3 0)) - 4294967296 * z115 → ((List.getD r5 3 0) + (List.getD r103 3 0)) - 4294967296 * z115 < 4294967296 →
       ∀ z116 : Int, 0 ≤ z116 → z116 ≤ 1 → 0 ≤ ((List.getD r5 4 0) + (List.getD r103 4 0)) - 4294967296 * z116 → ((List.getD r5 4 0) + (List.getD r103 4 0)) - 4294967296 * z116 < 4294967296 →
       ∀ z117 : Int, 0 ≤ z117 → z117 ≤ 1 → 0 ≤ ((List.getD r5 5 0) + (List.getD r103 5 0)) - 4294967296 * z117 → ((List.getD r5 5 0) + (List.getD r103 5 0)) - 4294967296 * z117 < 4294967296 →
       ∀ z118 : Int, 0 ≤ z118 → z118 ≤ 1 → 0 ≤ ((List.getD r5 6 0) + (List.getD r103 6 0)) - 4294967296 * z118 → ((List.getD r5 6 0) + (List.getD r103 6 0)) - 4294967296 * z118 < 4294967296 →
       ∀ z119 : Int, 0 ≤ z119 → z119 ≤ 1 → 0 ≤ ((List.getD r5 7 0) + (List.getD r103 7 0)) - 4294967296 * z119 → ((List.getD r5 7 0) + (List.getD r103 7 0)) - 4294967296 * z119 < 4294967296 →
       (I4 [[((List.getD r5 0 0) + ((List.getD r103 0 0) + ((-4294967296) * z112))), ((List.getD r5 1 0) + ((List.getD r103 1 0) + ((-4294967296) * z113))), ((List.getD r5 2 0) + ((List.getD r103 2 0) + ((-4294967296) * z114))), ((List.getD r5 3 0) + ((List.getD r103 3 0) + ((-4294967296) * z115))), ((List.getD r5 4 0) + ((List.getD r103 4 0) + ((-4294967296) * z116))), ((List.getD r5 5 0) + ((List.getD r103 5 0) + ((-4294967296) * z117))), ((List.getD r5 6 0) + ((List.getD r103 6 0) + ((-4294967296) * z118))), ((List.getD r5 7 0) + ((List.getD r103 7 0) + ((-4294967296) * z119)))], [(z13 + 1)]] ∧ μ4 [[((List.getD r5 0 0) + ((List.getD r103 0 0) + ((-4294967296) * z112))), ((List.getD r5 1 0) + ((List.getD r103 1 0) + ((-4294967296) * z113))), ((List.getD r5 2 0) + ((List.getD r103 2 0) + ((-4294967296) * z114))), ((List.getD r5 3 0) + ((List.getD r103 3 0) + ((-4294967296) * z115))), ((List.getD r5 4 0) + ((List.getD r103 4 0) + ((-4294967296) * z116))), ((List.getD r5 5 0) + ((List.getD r103 5 0) + ((-4294967296) * z117))), ((List.getD r5 6 0) + ((List.getD r103 6 0) + ((-4294967296) * z118))), ((List.getD r5 7 0) + ((List.getD r103 7 0) + ((-4294967296) * z119)))], [(z13 + 1)]] < μ4 [r5, [z13]])
      ))
     )
    ))
   )
  ) ∧ ((decide ((64 * z13) < z3)) = false →
   ∃ (I14 : List (List Int) → Prop) (μ14 : List (List Int) → Nat), I14 [[3], [0], [0], [(-1)]] ∧ (∀ z15 : Int, (-1) ≤ z15 → z15 ≤ 3 → ∀ z16 : Int, 0 ≤ z16 → z16 ≤ RB → ∀ z17 : Int, 0 ≤ z17 → z17 ≤ 9223372036854775807 → ∀ z18 : Int, (-1) ≤ z18 → z18 ≤ 9223372036854775807 → I14 [[z15], [z16], [z17], [z18]] →
    (((decide (0 ≤ z15)) = true →
     ∀ z19 : Int, 0 ≤ z19 → z19 ≤ 4294967295 → z19 = (List.getD r5 0 0) / 2 ^ ((8 * z15)).toNat →
     ∀ z20 : Int, 0 ≤ z20 → z20 ≤ 16777215 → 0 ≤ z19 - 256 * z20 → z19 - 256 * z20 < 256 →
     chkD 31 [z16, z17] ∧
     chkD 23 [z16, 1] ∧
     ∀ z21 : Int, 0 ≤ z21 → z21 ≤ RB → z21 = fnD 23 [z16, (z19 + ((-256) * z20))] →
     ∀ z22 : Int, (-1) ≤ z22 → z22 ≤ 9223372036854775807 → 
     (I14 [[(z15 + (-1))], [z21], [(z17 + 1)], [z22]] ∧ μ14 [[(z15 + (-1))], [z21], [(z17 + 1)], [z22]] < μ14 [[z15], [z16], [z17], [z18]])
    ) ∧ ((decide (0 ≤ z15)) = false →
     ∃ (I19 : List (List Int) → Prop) (μ19 : List (List Int) → Nat), I19 [[3], [z16], [z17], [z18]] ∧ (∀ z20 : Int, (-1) ≤ z20 → z20 ≤ 3 → ∀ z21 : Int, 0 ≤ z21 → z21 ≤ RB → ∀ z22 : Int, 0 ≤ z22 → z22 ≤ 9223372036854775807 → ∀ z23 : Int, (-1) ≤ z23 → z23 ≤ 9223372036854775807 → I19 [[z20], [z21], [z22], [z23]] →
      (((decide (0 ≤ z20)) = true →
       ∀ z24 : Int, 0 ≤ z24 → z24 ≤ 4294967295 → z24 = (List.getD r5 1 0) / 2 ^ ((8 * z20)).toNat →
       ∀ z25 : Int, 0 ≤ z25 → z25 ≤ 16777215 → 0 ≤ z24 - 256 * z25 → z24 - 256 * z25 < 256 →
       chkD 31 [z21, z22] ∧
       chkD 23 [z21, 1] ∧
       ∀ z26 : Int, 0 ≤ z26 → z26 ≤ RB → z26 = fnD 23 [z21, (z24 + ((-256) * z25))] →
       ∀ z27 : Int, (-1) ≤ z27 → z27 ≤ 9223372036854775807 → 
       (I19 [[(z20 + (-1))], [z26], [(z22 + 1)], [z27]] ∧ μ19 [[(z20 + (-1))], [z26], [(z22 + 1)], [z27]] < μ19 [[z20], [z21], [z22], [z23]])
      ) ∧ ((decide (0 ≤ z20)) = false →
       ∃ (I24 : List (List Int) → Prop) (μ24 : List (List Int) → Nat), I24 [[3], [z21], [z22], [z23]] ∧ (∀ z25 : Int, (-1) ≤ z25 → z25 ≤ 3 → ∀ z26 : Int, 0 ≤ z26 → z26 ≤ RB → ∀ z27 : Int, 0 ≤ z27 → z27 ≤ 9223372036854775807 → ∀ z28 : Int, (-1) ≤ z28 → z28 ≤ 9223372036854775807 → I24 [[z25], [z26], [z27], [z28]] →
        (((decide (0 ≤ z25)) = true →
         ∀ z29 : Int, 0 ≤ z29 → z29 ≤ 4294967295 → z29 = (List.getD r5 2 0) / 2 ^ ((8 * z25)).toNat →
         ∀ z30 : Int, 0 ≤ z30 → z30 ≤ 16777215 → 0 ≤ z29 - 256 * z30 → z29 - 256 * z30 < 256 →
         chkD 31 [z26, z27] ∧
         chkD 23 [z26, 1] ∧
         ∀ z31 : Int, 0 ≤ z31 → z31 ≤ RB → z31 = fnD 23 [z26, (z29 + ((-256) * z30))] →
         ∀ z32 : Int, (-1) ≤ z32 → z32 ≤ 9223372036854775807 → 
         (I24 [[(z25 + (-1))], [z31], [(z27 + 1)], [z32]] ∧ μ24 [[(z25 + (-1))], [z31], [(z27 + 1)], [z32]] < μ24 [[z25], [z26], [z27], [z28]])
        ) ∧ ((decide (0 ≤ z25)) = false →
         ∃ (I29 : List (List Int) → Prop) (μ29 : List (List Int) → Nat), I29 [[3], [z26], [z27], [z28]] ∧ (∀ z30 : Int, (-1) ≤ z30 → z30 ≤ 3 → ∀ z31 : Int, 0 ≤ z31 → z31 ≤ RB → ∀ z32 : Int, 0 ≤ z32 → z32 ≤ 9223372036854775807 → ∀ z33 : Int, (-1) ≤ z33 → z33 ≤ 9223372036854775807 → I29 [[z30], [z31], [z32], [z33]] →
          (((decide (0 ≤ z30)) = true →
           ∀ z34 : Int, 0 ≤ z34 → z34 ≤ 4294967295 → z34 = (List.getD r5 3 0) / 2 ^ ((8 * z30)).toNat →
           ∀ z35 : Int, 0 ≤ z35 → z35 ≤ 16777215 → 0 ≤ z34 - 256 * z35 → z34 - 256 * z35 < 256 →
           chkD 31 [z31, z32] ∧
           chkD 23 [z31, 1] ∧
           ∀ z36 : Int, 0 ≤ z36 → z36 ≤ RB → z36 = fnD 23 [z31, (z34 + ((-256) * z35))] →
           ∀ z37 : Int, (-1) ≤ z37 → z37 ≤ 9223372036854775807 → 
           (I29 [[(z30 + (-1))], [z36], [(z32 + 1)], [z37]] ∧ μ29 [[(z30 + (-1))], [z36], [(z32 + 1)], [z37]] < μ29 [[z30], [z31], [z32], [z33]])
          ) ∧ ((decide (0 ≤ z30)) = false →
           ∃ (I34 : List (List Int) → Prop) (μ34 : List (List Int) → Nat), I34 [[3], [z31], [z32], [z33]] ∧ (∀ z35 : Int, (-1) ≤ z35 → z35 ≤ 3 → ∀ z36 : Int, 0 ≤ z36 → z36 ≤ RB → ∀ z37 : Int, 0 ≤ z37 → z37 ≤ 9223372036854775807 → ∀ z38 : Int, (-1) ≤ z38 → z38 ≤ 9223372036854775807 → I34 [[z35], [z36], [z37], [z38]] →
            (((decide (0 ≤ z35)) = true →
             ∀ z39 : Int, 0 ≤ z39 → z39 ≤ 4294967295 → z39 = (List.getD r5 4 0) / 2 ^ ((8 * z35)).toNat →
             ∀ z40 : Int, 0 ≤ z40 → z40 ≤ 16777215 → 0 ≤ z39 - 256 * z40 → z39 - 256 * z40 < 256 →
             chkD 31 [z36, z37] ∧
             chkD 23 [z36, 1] ∧
             ∀ z41 : Int, 0 ≤ z41 → z41 ≤ RB → z41 = fnD 23 [z36, (z39 + ((-256) * z40))] →
             ∀ z42 : Int, (-1) ≤ z42 → z42 ≤ 9223372036854775807 → 
             (I34 [[(z35 + (-1))], [z41], [(z37 + 1)], [z42]] ∧ μ34 [[(z35 + (-1))], [z41], [(z37 + 1)], [z42]] < μ34 [[z35], [z36], [z37], [z38]])
            ) ∧ ((decide (0 ≤ z35)) = false →
             ∃ (I39 : List (List Int) → Prop) (μ39 : List (List Int) → Nat), I39 [[3], [z36], [z37], [z38]] ∧ (∀ z40 : Int, (-1) ≤ z40 → z40 ≤ 3 → ∀ z41 : Int, 0 ≤ z41 → z41 ≤ RB → ∀ z42 : Int, 0 ≤ z42 → z42 ≤ 9223372036854775807 → ∀ z43 : Int, (-1) ≤ z43 → z43 ≤ 9223372036854775807 → I39 [[z40], [z41], [z42], [z43]] →
              (((decide (0 ≤ z40)) = true →
               ∀ z44 : Int, 0 ≤ z44 → z44 ≤ 4294967295 → z44 = (List.getD r5 5 0) / 2 ^ ((8 * z40)).toNat →
               ∀ z45 : Int, 0 ≤ z45 → z45 ≤ 16777215 → 0 ≤ z44 - 256 * z45 → z44 - 256 * z45 < 256 →
               chkD 31 [z41, z42] ∧
               chkD 23 [z41, 1] ∧
               ∀ z46 : Int, 0 ≤ z46 → z46 ≤ RB → z46 = fnD 23 [z41, (z44 + ((-256) * z45))] →
               ∀ z47 : Int, (-1) ≤ z47 → z47 ≤ 9223372036854775807 → 
               (I39 [[(z40 + (-1))], [z46], [(z42 + 1)], [z47]] ∧ μ39 [[(z40 + (-1))], [z46], [(z42 + 1)], [z47]] < μ39 [[z40], [z41], [z42], [z43]])
              ) ∧ ((decide (0 ≤ z40)) = false →
               ∃ (I44 : List (List Int) → Prop) (μ44 : List (List Int) → Nat), I44 [[3], [z41], [z42], [z43]] ∧ (∀ z45 : Int, (-1) ≤ z45 → z45 ≤ 3 → ∀ z46 : Int, 0 ≤ z46 → z46 ≤ RB → ∀ z47 : Int, 0 ≤ z47 → z47 ≤ 9223372036854775807 → ∀ z48 : Int, (-1) ≤ z48 → z48 ≤ 9223372036854775807 → I44 [[z45], [z46], [z47], [z48]] →
                (((decide (0 ≤ z45)) = true →
                 ∀ z49 : Int, 0 ≤ z49 → z49 ≤ 4294967295 → z49 = (List.getD r5 6 0) / 2 ^ ((8 * z45)).toNat →
                 ∀ z50 : Int, 0 ≤ z50 → z50 ≤ 16777215 → 0 ≤ z49 - 256 * z50 → z49 - 256 * z50 < 256 →
                 chkD 31 [z46, z47] ∧
                 chkD 23 [z46, 1] ∧
                 ∀ z51 : Int, 0 ≤ z51 → z51 ≤ RB → z51 = fnD 23 [z46, (z49 + ((-256) * z50))] →
                 ∀ z52 : Int, (-1) ≤ z52 → z52 ≤ 9223372036854775807 → 
                 (I44 [[(z45 + (-1))], [z51], [(z47 + 1)], [z52]] ∧ μ44 [[(z45 + (-1))], [z51], [(z47 + 1)], [z52]] < μ44 [[z45], [z46], [z47], [z48]])
                ) ∧ ((decide (0 ≤ z45)) = false →
                 ∃ (I49 : List (List Int) → Prop) (μ49 : List (List Int) → Nat), I49 [[3], [z46], [z47], [z48]] ∧ (∀ z50 : Int, (-1) ≤ z50 → z50 ≤ 3 → ∀ z51 : Int, 0 ≤ z51 → z51 ≤ RB → ∀ z52 : Int, 0 ≤ z52 → z52 ≤ 9223372036854775807 → ∀ z53 : Int, (-1) ≤ z53 → z53 ≤ 9223372036854775807 → I49 [[z50], [z51], [z52], [z53]] →
                  (((decide (0 ≤ z50)) = true →
                   ∀ z54 : Int, 0 ≤ z54 → z54 ≤ 4294967295 → z54 = (List.getD r5 7 0) / 2 ^ ((8 * z50)).toNat →
                   ∀ z55 : Int, 0 ≤ z55 → z55 ≤ 16777215 → 0 ≤ z54 - 256 * z55 → z54 - 256 * z55 < 256 →
                   chkD 31 [z51, z52] ∧
                   chkD 23 [z51, 1] ∧
                   ∀ z56 : Int, 0 ≤ z56 → z56 ≤ RB → z56 = fnD 23 [z51, (z54 + ((-256) * z55))] →
                   ∀ z57 : Int, (-1) ≤ z57 → z57 ≤ 9223372036854775807 → 
                   (I49 [[(z50 + (-1))], [z56], [(z52 + 1)], [z57]] ∧ μ49 [[(z50 + (-1))], [z56], [(z52 + 1)], [z57]] < μ49 [[z50], [z51], [z52], [z53]])
                  ) ∧ ((decide (0 ≤ z50)) = false →
                   chkD 22 [z51, 0, z52] ∧
                   ∀ z54 : Int, 0 ≤ z54 → z54 ≤ RB → z54 = fnD 22 [z51, 0, z52] →
                   K [[z0]] [[z54]]
                  ))
                 )
                ))
               )
              ))
             )
            ))
           )
          ))
         )
        ))
       )
      ))
     )
    ))
   )
  ))
 )
 )
theorem modq {L S M k : Int} (h : L = S - M * k) (h1 : 0 ≤ L) (h2 : L < M) : L = S % M := by
  have e : S = L + M * k := by omega
  rw [e, Int.add_mul_emod_self_left, Int.emod_eq_of_lt h1 h2]
theorem zip8_32 (f : Int → Int → Int) {r t : List Int} (h : r.length = 8) (h' : t.length = 8) : List.zipWith f r t = [f (r.getD 0 0) (t.getD 0 0), f (r.getD 1 0) (t.getD 1 0), f (r.getD 2 0) (t.getD 2 0), f (r.getD 3 0) (t.getD 3 0), f (r.getD 4 0) (t.getD 4 0), f (r.getD 5 0) (t.getD 5 0), f (r.getD 6 0) (t.getD 6 0), f (r.getD 7 0) (t.getD 7 0)] := by
  match r, t, h, h' with
  | [_, _, _, _, _, _, _, _], [_, _, _, _, _, _, _, _], _, _ => rfl
theorem step8_32 (i : Nat) (x : Int) {r : List Int} (hr : r.length = 8) : stepW W32 i x r = (let t := md W32 (r.getD 7 0 + bs1 W32 (r.getD 4 0) + chF W32 (r.getD 4 0) (r.getD 5 0) (r.getD 6 0) + rk W32 i + x); let u := md W32 (bs0 W32 (r.getD 0 0) + mjF W32 (r.getD 0 0) (r.getD 1 0) (r.getD 2 0)); [md W32 (t + u), r.getD 0 0, r.getD 1 0, r.getD 2 0, md W32 (r.getD 3 0 + t), r.getD 4 0, r.getD 5 0, r.getD 6 0]) := by
  match r, hr with
  | [_, _, _, _, _, _, _, _], _ => rfl
theorem md_32 (x : Int) : md W32 x = x % 4294967296 := by
  show x % (2 : Int) ^ 32 = _
  rw [show (2 : Int) ^ 32 = 4294967296 by decide]
theorem beg_32 : begW W32 = [1779033703, 3144134277, 1013904242, 2773480762, 1359893119, 2600822924, 528734635, 1541459225] := by decide +kernel
set_option maxHeartbeats 4000000 in
theorem p_all32 : B_all32 SB (KBb SB [ou8] 464) := by
  intro z0 a0 a1 hp z1 b0 z2 c0 c1 z3 d0 d1 h3
  have hp : 64 ∣ (rOf z0).length ∧ (rOf z0).length ≤ 1000001000 := hp
  have h3 : z3 = ((rOf z0).length : Int) := h3
  obtain ⟨⟨q, hq⟩, hp2⟩ := hp
  have hbl : (bys z0).length = 64 * q := by rw [bys_len, hq]
  have h3q : z3 = 64 * (q : Int) := by rw [h3, hq]; simp
  refine ⟨⟨(q : Int), h3q⟩, fun l => ∃ (i : Nat), i ≤ q ∧ l = [blocksW W32 (bys z0) i (begW W32), [(i : Int)]], fun l => ((q : Int) - (l.getD 1 []).getD 0 0).toNat, ⟨0, Nat.zero_le _, by
    show _ = [begW W32, [(0 : Int)]]
    rw [beg_32]⟩, ?_⟩
  intro r5 hr5 z13 e0 e1 ⟨i, hi, hI⟩
  simp only [List.cons.injEq, and_true] at hI
  obtain ⟨hI5, hI13⟩ := hI
  obtain ⟨l5, b5⟩ := inB_rep 8 r5 hr5
  have hlen0 : ((rOf z0).length : Int) = 64 * (q : Int) := by rw [← h3, h3q]
  refine ⟨fun h => ?_, fun h => ?_⟩
  · have h := of_decide_eq_true h
    have hiq : i < q := by omega
    have c21 : ∀ k : Int, 0 ≤ k → k < 64 → chkD 21 [z0, 64 * z13 + k] := fun k h1 h2 => ⟨by omega, by rw [hlen0]; omega⟩
    have c21' : chkD 21 [z0, 64 * z13] := ⟨by omega, by rw [hlen0]; omega⟩
    refine ⟨c21', ?_⟩
    intro z14 f0 g0 t0
    refine ⟨c21 1 (by decide) (by decide), ?_⟩
    intro z15 f1 g1 t1
    refine ⟨c21 2 (by decide) (by decide), ?_⟩
    intro z16 f2 g2 t2
    refine ⟨c21 3 (by decide) (by decide), ?_⟩
    intro z17 f3 g3 t3
    refine ⟨c21 4 (by decide) (by decide), ?_⟩
    intro z18 f4 g4 t4
    refine ⟨c21 5 (by decide) (by decide), ?_⟩
    intro z19 f5 g5 t5
    refine ⟨c21 6 (by decide) (by decide), ?_⟩
    intro z20 f6 g6 t6
    refine ⟨c21 7 (by decide) (by decide), ?_⟩
    intro z21 f7 g7 t7
    refine ⟨c21 8 (by decide) (by decide), ?_⟩
    intro z22 f8 g8 t8
    refine ⟨c21 9 (by decide) (by decide), ?_⟩
    intro z23 f9 g9 t9
    refine ⟨c21 10 (by decide) (by decide), ?_⟩
    intro z24 f10 g10 t10
    refine ⟨c21 11 (by decide) (by decide), ?_⟩
    intro z25 f11 g11 t11
    refine ⟨c21 12 (by decide) (by decide), ?_⟩
    intro z26 f12 g12 t12
    refine ⟨c21 13 (by decide) (by decide), ?_⟩
    intro z27 f13 g13 t13
    refine ⟨c21 14 (by decide) (by decide), ?_⟩
    intro z28 f14 g14 t14
    refine ⟨c21 15 (by decide) (by decide), ?_⟩
    intro z29 f15 g15 t15
    refine ⟨c21 16 (by decide) (by decide), ?_⟩
    intro z30 f16 g16 t16
    refine ⟨c21 17 (by decide) (by decide), ?_⟩
    intro z31 f17 g17 t17
    refine ⟨c21 18 (by decide) (by decide), ?_⟩
    intro z32 f18 g18 t18
    refine ⟨c21 19 (by decide) (by decide), ?_⟩
    intro z33 f19 g19 t19
    refine ⟨c21 20 (by decide) (by decide), ?_⟩
    intro z34 f20 g20 t20
    refine ⟨c21 21 (by decide) (by decide), ?_⟩
    intro z35 f21 g21 t21
    refine ⟨c21 22 (by decide) (by decide), ?_⟩
    intro z36 f22 g22 t22
    refine ⟨c21 23 (by decide) (by decide), ?_⟩
    intro z37 f23 g23 t23
    refine ⟨c21 24 (by decide) (by decide), ?_⟩
    intro z38 f24 g24 t24
    refine ⟨c21 25 (by decide) (by decide), ?_⟩
    intro z39 f25 g25 t25
    refine ⟨c21 26 (by decide) (by decide), ?_⟩
    intro z40 f26 g26 t26
    refine ⟨c21 27 (by decide) (by decide), ?_⟩
    intro z41 f27 g27 t27
    refine ⟨c21 28 (by decide) (by decide), ?_⟩
    intro z42 f28 g28 t28
    refine ⟨c21 29 (by decide) (by decide), ?_⟩
    intro z43 f29 g29 t29
    refine ⟨c21 30 (by decide) (by decide), ?_⟩
    intro z44 f30 g30 t30
    refine ⟨c21 31 (by decide) (by decide), ?_⟩
    intro z45 f31 g31 t31
    refine ⟨c21 32 (by decide) (by decide), ?_⟩
    intro z46 f32 g32 t32
    refine ⟨c21 33 (by decide) (by decide), ?_⟩
    intro z47 f33 g33 t33
    refine ⟨c21 34 (by decide) (by decide), ?_⟩
    intro z48 f34 g34 t34
    refine ⟨c21 35 (by decide) (by decide), ?_⟩
    intro z49 f35 g35 t35
    refine ⟨c21 36 (by decide) (by decide), ?_⟩
    intro z50 f36 g36 t36
    refine ⟨c21 37 (by decide) (by decide), ?_⟩
    intro z51 f37 g37 t37
    refine ⟨c21 38 (by decide) (by decide), ?_⟩
    intro z52 f38 g38 t38
    refine ⟨c21 39 (by decide) (by decide), ?_⟩
    intro z53 f39 g39 t39
    refine ⟨c21 40 (by decide) (by decide), ?_⟩
    intro z54 f40 g40 t40
    refine ⟨c21 41 (by decide) (by decide), ?_⟩
    intro z55 f41 g41 t41
    refine ⟨c21 42 (by decide) (by decide), ?_⟩
    intro z56 f42 g42 t42
    refine ⟨c21 43 (by decide) (by decide), ?_⟩
    intro z57 f43 g43 t43
    refine ⟨c21 44 (by decide) (by decide), ?_⟩
    intro z58 f44 g44 t44
    refine ⟨c21 45 (by decide) (by decide), ?_⟩
    intro z59 f45 g45 t45
    refine ⟨c21 46 (by decide) (by decide), ?_⟩
    intro z60 f46 g46 t46
    refine ⟨c21 47 (by decide) (by decide), ?_⟩
    intro z61 f47 g47 t47
    refine ⟨c21 48 (by decide) (by decide), ?_⟩
    intro z62 f48 g48 t48
    refine ⟨c21 49 (by decide) (by decide), ?_⟩
    intro z63 f49 g49 t49
    refine ⟨c21 50 (by decide) (by decide), ?_⟩
    intro z64 f50 g50 t50
    refine ⟨c21 51 (by decide) (by decide), ?_⟩
    intro z65 f51 g51 t51
    refine ⟨c21 52 (by decide) (by decide), ?_⟩
    intro z66 f52 g52 t52
    refine ⟨c21 53 (by decide) (by decide), ?_⟩
    intro z67 f53 g53 t53
    refine ⟨c21 54 (by decide) (by decide), ?_⟩
    intro z68 f54 g54 t54
    refine ⟨c21 55 (by decide) (by decide), ?_⟩
    intro z69 f55 g55 t55
    refine ⟨c21 56 (by decide) (by decide), ?_⟩
    intro z70 f56 g56 t56
    refine ⟨c21 57 (by decide) (by decide), ?_⟩
    intro z71 f57 g57 t57
    refine ⟨c21 58 (by decide) (by decide), ?_⟩
    intro z72 f58 g58 t58
    refine ⟨c21 59 (by decide) (by decide), ?_⟩
    intro z73 f59 g59 t59
    refine ⟨c21 60 (by decide) (by decide), ?_⟩
    intro z74 f60 g60 t60
    refine ⟨c21 61 (by decide) (by decide), ?_⟩
    intro z75 f61 g61 t61
    refine ⟨c21 62 (by decide) (by decide), ?_⟩
    intro z76 f62 g62 t62
    refine ⟨c21 63 (by decide) (by decide), ?_⟩
    intro z77 f63 g63 t63
    obtain ⟨bl, hbl2⟩ : ∃ l, ((bys z0).drop (64 * i)).take 64 = l := ⟨_, rfl⟩
    have bll : bl.length = 64 := by rw [← hbl2, List.length_take, List.length_drop, hbl]; omega
    have ld : ∀ (k : Nat) (y z : Int), k < 64 → y = (k : Int) → z = fnD 21 [z0, 64 * z13 + y, 0] → z = bl.getD k 0 := fun k y z hk hy hz => by
      rw [fn21 hz, ← hbl2, drop_getD _ _ _ _ hk]
      congr 1; omega
    have hB : [z14, z15, z16, z17, z18, z19, z20, z21, z22, z23, z24, z25, z26, z27, z28, z29, z30, z31, z32, z33, z34, z35, z36, z37, z38, z39, z40, z41, z42, z43, z44, z45, z46, z47, z48, z49, z50, z51, z52, z53, z54, z55, z56, z57, z58, z59, z60, z61, z62, z63, z64, z65, z66, z67, z68, z69, z70, z71, z72, z73, z74, z75, z76, z77] = bl := by
      rw [ld 0 0 z14 (by decide) rfl (by rw [Int.add_zero]; exact t0), ld 1 1 z15 (by decide) rfl t1, ld 2 2 z16 (by decide) rfl t2, ld 3 3 z17 (by decide) rfl t3, ld 4 4 z18 (by decide) rfl t4, ld 5 5 z19 (by decide) rfl t5, ld 6 6 z20 (by decide) rfl t6, ld 7 7 z21 (by decide) rfl t7, ld 8 8 z22 (by decide) rfl t8, ld 9 9 z23 (by decide) rfl t9, ld 10 10 z24 (by decide) rfl t10, ld 11 11 z25 (by decide) rfl t11, ld 12 12 z26 (by decide) rfl t12, ld 13 13 z27 (by decide) rfl t13, ld 14 14 z28 (by decide) rfl t14, ld 15 15 z29 (by decide) rfl t15, ld 16 16 z30 (by decide) rfl t16, ld 17 17 z31 (by decide) rfl t17, ld 18 18 z32 (by decide) rfl t18, ld 19 19 z33 (by decide) rfl t19, ld 20 20 z34 (by decide) rfl t20, ld 21 21 z35 (by decide) rfl t21, ld 22 22 z36 (by decide) rfl t22, ld 23 23 z37 (by decide) rfl t23, ld 24 24 z38 (by decide) rfl t24, ld 25 25 z39 (by decide) rfl t25, ld 26 26 z40 (by decide) rfl t26, ld 27 27 z41 (by decide) rfl t27, ld 28 28 z42 (by decide) rfl t28, ld 29 29 z43 (by decide) rfl t29, ld 30 30 z44 (by decide) rfl t30, ld 31 31 z45 (by decide) rfl t31, ld 32 32 z46 (by decide) rfl t32, ld 33 33 z47 (by decide) rfl t33, ld 34 34 z48 (by decide) rfl t34, ld 35 35 z49 (by decide) rfl t35, ld 36 36 z50 (by decide) rfl t36, ld 37 37 z51 (by decide) rfl t37, ld 38 38 z52 (by decide) rfl t38, ld 39 39 z53 (by decide) rfl t39, ld 40 40 z54 (by decide) rfl t40, ld 41 41 z55 (by decide) rfl t41, ld 42 42 z56 (by decide) rfl t42, ld 43 43 z57 (by decide) rfl t43, ld 44 44 z58 (by decide) rfl t44, ld 45 45 z59 (by decide) rfl t45, ld 46 46 z60 (by decide) rfl t46, ld 47 47 z61 (by decide) rfl t47, ld 48 48 z62 (by decide) rfl t48, ld 49 49 z63 (by decide) rfl t49, ld 50 50 z64 (by decide) rfl t50, ld 51 51 z65 (by decide) rfl t51, ld 52 52 z66 (by decide) rfl t52, ld 53 53 z67 (by decide) rfl t53, ld 54 54 z68 (by decide) rfl t54, ld 55 55 z69 (by decide) rfl t55, ld 56 56 z70 (by decide) rfl t56, ld 57 57 z71 (by decide) rfl t57, ld 58 58 z72 (by decide) rfl t58, ld 59 59 z73 (by decide) rfl t59, ld 60 60 z74 (by decide) rfl t60, ld 61 61 z75 (by decide) rfl t61, ld 62 62 z76 (by decide) rfl t62, ld 63 63 z77 (by decide) rfl t63]
      exact (getD_range bl 64 bll).symm
    have hW : wordsW W32 bl = [((16777216 * z14) + ((65536 * z15) + ((256 * z16) + z17))), ((16777216 * z18) + ((65536 * z19) + ((256 * z20) + z21))), ((16777216 * z22) + ((65536 * z23) + ((256 * z24) + z25))), ((16777216 * z26) + ((65536 * z27) + ((256 * z28) + z29))), ((16777216 * z30) + ((65536 * z31) + ((256 * z32) + z33))), ((16777216 * z34) + ((65536 * z35) + ((256 * z36) + z37))), ((16777216 * z38) + ((65536 * z39) + ((256 * z40) + z41))), ((16777216 * z42) + ((65536 * z43) + ((256 * z44) + z45))), ((16777216 * z46) + ((65536 * z47) + ((256 * z48) + z49))), ((16777216 * z50) + ((65536 * z51) + ((256 * z52) + z53))), ((16777216 * z54) + ((65536 * z55) + ((256 * z56) + z57))), ((16777216 * z58) + ((65536 * z59) + ((256 * z60) + z61))), ((16777216 * z62) + ((65536 * z63) + ((256 * z64) + z65))), ((16777216 * z66) + ((65536 * z67) + ((256 * z68) + z69))), ((16777216 * z70) + ((65536 * z71) + ((256 * z72) + z73))), ((16777216 * z74) + ((65536 * z75) + ((256 * z76) + z77)))] := by
      rw [← hB]
      show [((((0 * 256 + z14) * 256 + z15) * 256 + z16) * 256 + z17), ((((0 * 256 + z18) * 256 + z19) * 256 + z20) * 256 + z21), ((((0 * 256 + z22) * 256 + z23) * 256 + z24) * 256 + z25), ((((0 * 256 + z26) * 256 + z27) * 256 + z28) * 256 + z29), ((((0 * 256 + z30) * 256 + z31) * 256 + z32) * 256 + z33), ((((0 * 256 + z34) * 256 + z35) * 256 + z36) * 256 + z37), ((((0 * 256 + z38) * 256 + z39) * 256 + z40) * 256 + z41), ((((0 * 256 + z42) * 256 + z43) * 256 + z44) * 256 + z45), ((((0 * 256 + z46) * 256 + z47) * 256 + z48) * 256 + z49), ((((0 * 256 + z50) * 256 + z51) * 256 + z52) * 256 + z53), ((((0 * 256 + z54) * 256 + z55) * 256 + z56) * 256 + z57), ((((0 * 256 + z58) * 256 + z59) * 256 + z60) * 256 + z61), ((((0 * 256 + z62) * 256 + z63) * 256 + z64) * 256 + z65), ((((0 * 256 + z66) * 256 + z67) * 256 + z68) * 256 + z69), ((((0 * 256 + z70) * 256 + z71) * 256 + z72) * 256 + z73), ((((0 * 256 + z74) * 256 + z75) * 256 + z76) * 256 + z77)] = _
      simp only [List.cons.injEq, and_true]
      refine ⟨by omega, by omega, by omega, by omega, by omega, by omega, by omega, by omega, by omega, by omega, by omega, by omega, by omega, by omega, by omega, by omega⟩
    obtain ⟨ws, hws⟩ : ∃ l, wordsW W32 bl = l := ⟨_, rfl⟩
    intro z78 x0 y0 u0 z79 x1 y1 u1 z80 x2 y2 u2 z81 x3 y3 u3 z82 x4 y4 u4 z83 x5 y5 u5 z84 x6 y6 u6 z85 x7 y7 u7 z86 x8 y8 u8 z87 x9 y9 u9 z88 x10 y10 u10 z89 x11 y11 u11 z90 x12 y12 u12 z91 x13 y13 u13 z92 x14 y14 u14 z93 x15 y15 u15
    have v0 := fn23 (l := []) u0 rOf_zero
    have v1 := fn23 u1 v0
    have v2 := fn23 u2 v1
    have v3 := fn23 u3 v2
    have v4 := fn23 u4 v3
    have v5 := fn23 u5 v4
    have v6 := fn23 u6 v5
    have v7 := fn23 u7 v6
    have v8 := fn23 u8 v7
    have v9 := fn23 u9 v8
    have v10 := fn23 u10 v9
    have v11 := fn23 u11 v10
    have v12 := fn23 u12 v11
    have v13 := fn23 u13 v12
    have v14 := fn23 u14 v13
    have v15 := fn23 u15 v14
    have hr : rOf z93 = rws ws := by
      rw [← hws, hW]; exact v15
    have wl : ws.length = 16 := by rw [← hws]; simp [wordsW]
    refine ⟨by show (rOf z93).length ≤ 1000000; rw [hr, rws_len, wl]; decide, ?_⟩
    intro z94 i0 i1 j0 z95 k0 k1 z96 m0 m1 n0
    have j0 : rOf z94 = rOf z93 := j0
    rw [hr] at j0
    have n0 : z96 = ((rOf z94).length : Int) := n0
    rw [j0, rws_len, wl] at n0
    refine ⟨fun l => ∃ (j : Nat) (c k : Int), j ≤ 48 ∧ l = [[((16 + j : Nat) : Int)], [c], [((16 + j : Nat) : Int)], [k]] ∧ rOf c = rws (extW W32 j ws), fun l => (64 - (l.getD 0 []).getD 0 0).toNat, ⟨0, z94, z95, Nat.zero_le _, by rw [n0]; rfl, j0⟩, ?_⟩
    intro z98 o0 o1 z99 p0 p1 z100 q0 q1 z101 r0 r1 ⟨j, c, kk, hj, hl, hc⟩
    simp only [List.cons.injEq, and_true] at hl
    obtain ⟨hl1, hl2, hl3, hl4⟩ := hl
    subst hl2
    obtain ⟨mm, hmm⟩ : ∃ l, extW W32 j ws = l := ⟨_, rfl⟩
    rw [hmm] at hc
    have ml : mm.length = 16 + j := by rw [← hmm, extW_len, wl]
    have cl : ((rOf z99).length : Int) = 16 + (j : Int) := by rw [hc, rws_len, ml]; omega
    refine ⟨fun hlt => ?_, fun hge => ?_⟩
    · have hlt := of_decide_eq_true hlt
      refine ⟨⟨by omega, by omega⟩, ⟨by omega, by rw [cl]; omega⟩, fun z102 s0 s1 s2 => ⟨⟨by omega, by omega⟩, ⟨by omega, by rw [cl]; omega⟩, fun z103 tt0 tt1 t2' z104 u0' u1' u2' z105 v0' v1' v2' v3' => ⟨⟨by omega, by omega⟩, ⟨by omega, by rw [cl]; omega⟩, fun z106 w0 w1 w2 z107 xx0 xx1 x2' x3' => ⟨⟨by omega, by omega⟩, ⟨by omega, by rw [cl]; omega⟩, fun z108 yy0 yy1 y2' z109 aa0 aa1 aa2 z110 bb0 bb1 bb2 bb3 => ⟨by show z100 = ((rOf z99).length : Int); omega, by show ((rOf z99).length : Int) + 1 ≤ 1073741824; omega, fun z111 cc0 cc1 cc2 z112 dd0 dd1 => ?_⟩⟩⟩⟩⟩
      have u2' : [[z104]] = [[ss0 W32 z103]] := u2'
      have aa2 : [[z109]] = [[ss1 W32 z108]] := aa2
      simp only [List.cons.injEq, and_true] at u2' aa2
      have e1 := fn21r s2 hc
      have e2 := fn21r t2' hc
      have e3 := fn21r w2 hc
      have e4 := fn21r y2' hc
      have hnx : z102 + (z104 + ((-4294967296) * z105 + (z106 + ((-4294967296) * z107 + (z109 + (-4294967296) * z110))))) = nxt W32 mm := by
        unfold nxt
        rw [md_32, ml, show 16 + j - 16 = (z98 + -16).toNat by omega, show 16 + j - 15 = (z98 + -15).toNat by omega, show 16 + j - 7 = (z98 + -7).toNat by omega, show 16 + j - 2 = (z98 + -2).toNat by omega, ← e1, ← e2, ← e3, ← e4, ← u2', ← aa2]
        omega
      have hcd := fn23 cc2 hc
      rw [hnx] at hcd
      refine ⟨⟨j + 1, z111, z112, by omega, by rw [show z98 + 1 = ((16 + (j + 1) : Nat) : Int) by omega, show z100 + 1 = ((16 + (j + 1) : Nat) : Int) by omega], by rw [extW_succ, hmm]; exact hcd⟩, ?_⟩
      show (64 - (z98 + 1)).toNat < (64 - z98).toNat
      omega
    · have hge := of_decide_eq_false hge
      have hj48 : j = 48 := by omega
      have hsch : sched W32 ws = mm := by rw [← hmm, hj48]; rfl
      refine ⟨fun l => ∃ (t : Nat), t ≤ 64 ∧ l = [runW W32 0 (mm.take t) r5, [(t : Int)]], fun l => (64 - (l.getD 1 []).getD 0 0).toNat, ⟨0, Nat.zero_le _, rfl⟩, ?_⟩
      intro r9 hr9 z111 s0 s1 ⟨t, ht, hl⟩
      simp only [List.cons.injEq, and_true] at hl
      obtain ⟨hv, hzt⟩ := hl
      obtain ⟨l9, b9⟩ := inB_rep 8 r9 hr9
      refine ⟨fun hlt => ?_, fun hge2 => ?_⟩
      · have hlt := of_decide_eq_true hlt
        refine ⟨⟨by omega, by omega⟩, ⟨by omega, by rw [cl]; omega⟩, ?_⟩
        intro z112 aa0 aa1 aa2 z113 bb0 bb1 bb2 z114 cc0 cc1 cc2 cc3 z115 dd0 dd1 dd2 z116 ee0 ee1 ee2 z117 ff0 ff1 ff2 z118 gg0 gg1 gg2 gg3
        refine ⟨⟨by omega, by omega⟩, ?_⟩
        intro z119 hh0 hh1 hh2 z120 ii0 ii1 ii2 ii3 z121 jj0 jj1 jj2 jj3 z122 kk0 kk1 kk2 z123 ll0 ll1 ll2 z124 mm0 mm1 mm2 z125 nn0 nn1 nn2 z126 oo0 oo1 oo2 z127 pp0 pp1 pp2 z128 qq0 qq1 qq2 qq3 z129 rr0 rr1 rr2 rr3 z130 ss0' ss1' ss2' ss3' z131 tt0' tt1' tt2' tt3'
        have ht2 : t < 64 := by omega
        have e131 : z131 = 0 := by omega
        have ex := fn21r aa2 hc
        rw [show z111.toNat = t by omega] at ex
        have bb2 : [[z113]] = [[bs1 W32 (r9.getD 4 0)]] := bb2
        have hh2 : [[z119]] = [[rk W32 z111.toNat]] := hh2
        have kk2 : [[z122]] = [[bs0 W32 (r9.getD 0 0)]] := kk2
        simp only [List.cons.injEq, and_true] at bb2 hh2 kk2
        rw [show z111.toNat = t by omega] at hh2
        have hch : z117 = chF W32 (r9.getD 4 0) (r9.getD 5 0) (r9.getD 6 0) := by
          rw [ff2, dd2, ee2]
          unfold chF
          rw [show (2 : Int) ^ W32.w - 1 - r9.getD 4 0 = -1 * r9.getD 4 0 + 4294967295 by rw [show (2 : Int) ^ W32.w = 4294967296 by decide]; omega]
          rfl
        have hmj : z127 = mjF W32 (r9.getD 0 0) (r9.getD 1 0) (r9.getD 2 0) := by
          rw [pp2, nn2, mm2, ll2, oo2]; rfl
        obtain ⟨A, hA⟩ : ∃ A, r9.getD 0 0 = A := ⟨_, rfl⟩
        obtain ⟨D, hD⟩ : ∃ A, r9.getD 3 0 = A := ⟨_, rfl⟩
        obtain ⟨H, hH⟩ : ∃ A, r9.getD 7 0 = A := ⟨_, rfl⟩
        rw [hH] at cc2 cc3 gg2 gg3 ii2 ii3 jj2 jj3 rr2 rr3 ss2' ss3' ⊢
        rw [hD] at rr2 rr3 ⊢
        have hstep := step8_32 t z112 l9
        rw [hH, hD, ← bb2, ← hch, ← hh2, ← kk2, ← hmj] at hstep
        have hT : md W32 (H + z113 + z117 + z119 + z112) = H + (z112 + (z113 + ((-4294967296) * z114 + (z117 + ((-4294967296) * z118 + (z119 + ((-4294967296) * z120 + (-4294967296) * z121))))))) := by
          rw [md_32]; omega
        have hU : md W32 (z122 + z127) = z122 + (z127 + (-4294967296) * z128) := by
          rw [md_32]; omega
        simp only [hT, hU] at hstep
        refine ⟨⟨by omega, by omega⟩, ⟨t + 1, by omega, ?_⟩, ?_⟩
        · rw [take_snoc mm t (by omega), runW_snoc, ← hv, show 0 + (mm.take t).length = t by rw [List.length_take]; omega, ← ex, hstep, e131]
          simp only [List.cons.injEq, and_true]
          refine ⟨⟨?_, trivial, trivial, trivial, ?_⟩, ?_⟩
          · rw [md_32]; exact modq (k := z130) (by omega) (by omega) (by omega)
          · rw [md_32]; exact modq (k := z129) (by omega) (by omega) (by omega)
          · omega
        · show (64 - (z111 + -18446744073709551616 * z131 + 1)).toNat < (64 - z111).toNat
          omega
      · have hge2 := of_decide_eq_false hge2
        intro z112 aa0 ab0 ac0 ad0 z113 aa1 ab1 ac1 ad1 z114 aa2 ab2 ac2 ad2 z115 aa3 ab3 ac3 ad3 z116 aa4 ab4 ac4 ad4 z117 aa5 ab5 ac5 ad5 z118 aa6 ab6 ac6 ad6 z119 aa7 ab7 ac7 ad7
        have ht2 : t = 64 := by omega
        have hfull : mm.take t = mm := List.take_of_length_le (by omega)
        rw [hfull] at hv
        have hnew : takeW W32 r5 ws = [r5.getD 0 0 + (r9.getD 0 0 + (-4294967296) * z112), r5.getD 1 0 + (r9.getD 1 0 + (-4294967296) * z113), r5.getD 2 0 + (r9.getD 2 0 + (-4294967296) * z114), r5.getD 3 0 + (r9.getD 3 0 + (-4294967296) * z115), r5.getD 4 0 + (r9.getD 4 0 + (-4294967296) * z116), r5.getD 5 0 + (r9.getD 5 0 + (-4294967296) * z117), r5.getD 6 0 + (r9.getD 6 0 + (-4294967296) * z118), r5.getD 7 0 + (r9.getD 7 0 + (-4294967296) * z119)] := by
          unfold takeW
          rw [hsch, ← hv, zip8_32 _ l5 l9]
          simp only [md_32, List.cons.injEq, and_true]
          refine ⟨by omega, by omega, by omega, by omega, by omega, by omega, by omega, by omega⟩
        refine ⟨⟨i + 1, by omega, ?_⟩, ?_⟩
        · rw [← hnew, hI5]
          show _ = [takeW W32 (blocksW W32 (bys z0) i (begW W32)) (wordsW W32 (((bys z0).drop (64 * i)).take 64)), _]
          rw [hbl2, hws, show z13 + 1 = ((i + 1 : Nat) : Int) by omega]
        · show ((q : Int) - (z13 + 1)).toNat < ((q : Int) - z13).toNat
          omega
  · have h := of_decide_eq_false h
    have hiq : i = q := by omega
    have hall : allW W32 (bys z0) = outW W32 r5 := by
      unfold allW
      rw [hbl, show 2 * W32.w = 64 from rfl, Nat.mul_div_cancel_left q (by decide), ← hiq, ← hI5]
    have hout : outW W32 r5 = ((((((([] ++ (List.range 4).map (byteW W32 (r5.getD 0 0))) ++ (List.range 4).map (byteW W32 (r5.getD 1 0))) ++ (List.range 4).map (byteW W32 (r5.getD 2 0))) ++ (List.range 4).map (byteW W32 (r5.getD 3 0))) ++ (List.range 4).map (byteW W32 (r5.getD 4 0))) ++ (List.range 4).map (byteW W32 (r5.getD 5 0))) ++ (List.range 4).map (byteW W32 (r5.getD 6 0))) ++ (List.range 4).map (byteW W32 (r5.getD 7 0)) := by
      conv => lhs; rw [list8 l5]
      rfl
    refine tail32 (pre := []) rOf_zero rfl (by simp) fun c0' l0' k0' p0 p1 h0 e0' => ?_
    refine tail32 h0 (by rw [e0']; simp) (by simp) fun c1' l1' k1' p2 p3 h1 e1' => ?_
    refine tail32 h1 (by rw [e1']; simp) (by simp) fun c2' l2' k2' p4 p5 h2 e2' => ?_
    refine tail32 h2 (by rw [e2']; simp) (by simp) fun c3' l3' k3' p6 p7 h3 e3' => ?_
    refine tail32 h3 (by rw [e3']; simp) (by simp) fun c4' l4' k4' p8 p9 h4 e4' => ?_
    refine tail32 h4 (by rw [e4']; simp) (by simp) fun c5' l5' k5' p10 p11 h5 e5' => ?_
    refine tail32 h5 (by rw [e5']; simp) (by simp) fun c6' l6' k6' p12 p13 h6 e6' => ?_
    refine tail32 h6 (by rw [e6']; simp) (by simp) fun c7' l7' k7' p14 p15 h7 e7' => ?_
    have hlast : rOf c7' = rws (outW W32 r5) := by rw [h7, hout]
    have ll : l7' = ((rOf c7').length : Int) := by rw [h7, rws_len, e7']; simp
    refine ⟨⟨Int.le_refl _, by omega, by omega⟩, fun zf x0 x1 x2 => ⟨⟨x0, x1, trivial⟩, ?_⟩⟩
    have hf := sub_all x2 ll
    show bys zf = allW W32 (bys z0)
    rw [hall]
    exact bys_rws (by rw [hf, hlast])

end Go.Ad
