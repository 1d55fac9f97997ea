/- The curve seat: lemmas that the conditions ask for. -/
import Derived.Test.YtaapajicchefdaaDoorCvMath
set_option linter.unusedVariables false
set_option linter.unusedSimpArgs false
set_option maxRecDepth 20000
namespace Go.Fd
open Go.Rx
theorem top_zero32 {l : List Int} (hl : inB (repB 0 255 32) l) : (nb l).toNat / 2 ^ (255 + 1 : Int).toNat = 0 := by
  have h := nb_b hl
  have e : (255 + 1 : Int).toNat = 256 := by decide
  rw [e]
  apply Nat.div_eq_of_lt
  have : ((nb l).toNat : Int) < 2 ^ 256 := by rw [Int.toNat_of_nonneg h.1]; exact h.2
  exact_mod_cast this
theorem zero_is {x y z t : List Int} (h : s_czero [] [x, y, z, t]) : RepI (v5 x) (v5 y) (v5 z) (v5 t) zeroP := by
  obtain ⟨h1, h2, h3, h4⟩ := h
  refine ⟨by rw [h3]; decide, ?_, ?_, ?_⟩
  · rw [h1, show zeroP.1 = 0 by rfl, Int.zero_mul]; rfl
  · rw [h2, show zeroP.2 = 1 by rfl, Int.one_mul, h3]
  · rw [h4, show zeroP.1 * zeroP.2 = 0 by rfl, Int.zero_mul]; rfl
theorem rzero_is {x y z : List Int} (h : s_rzero [] [x, y, z]) : RepJ (nw x) (nw y) (nw z) zeroP := by
  obtain ⟨h1, h2, h3⟩ := h
  rw [h1, h2, h3]; exact zero_rep
theorem base_rep {x y z t : List Int} (h : s_cbase [] [x, y, z, t]) : RepI (v5 x) (v5 y) (v5 z) (v5 t) baseP := by
  obtain ⟨h1, h2, h3, h4⟩ := h
  have k : ∀ a : Int, a * v5 z % 57896044618658097711785492504343953926634992332820282019728792003956564819949 = a % 57896044618658097711785492504343953926634992332820282019728792003956564819949 := fun a => by rw [← mul_mod_r, h3, Int.mul_one]
  refine ⟨by rw [h3]; decide, ?_, ?_, ?_⟩
  · rw [k, h1]; decide
  · rw [k, h2]; decide
  · rw [k, h4]
theorem first_rep {x y z : List Int} (h : s_rfirst [] [x, y, z]) : RepJ (nw x) (nw y) (nw z) baseP := by
  obtain ⟨h1, h2, h3⟩ := h
  rw [h1, h2, h3]; exact one_rep (A := baseP)
theorem bit32 {l : List Int} {i : Nat} {q x q' y h : Int} (hl : inB (repB 0 255 32) l) (hi : (i : Int) ≤ 255) (c : 0 ≤ (i : Int) - 8 * q) (d : (i : Int) - 8 * q < 8) (e : x = l.getD q.toNat 0)
    (c' : 0 ≤ (i : Int) - 8 * q') (d' : (i : Int) - 8 * q' < 8) (e' : y = x / 2 ^ ((i : Int) + (-8) * q').toNat) (c2 : 0 ≤ y - 2 * h) (d2 : y - 2 * h < 2) : y + (-2) * h = (((nb l).toNat / 2 ^ i % 2 : Nat) : Int) := by
  have hb := num_bit 8 (n := 32) (l := l) i hl (by omega)
  have h0 := (nb_b hl).1
  have q1 : q.toNat = i / 8 := by omega
  have q2 : ((i : Int) + (-8) * q').toNat = i % 8 := by omega
  rw [q1] at e
  rw [q2] at e'
  have e3 : (((nb l).toNat / 2 ^ i % 2 : Nat) : Int) = nb l / 2 ^ i % 2 := by
    have : ((nb l).toNat : Int) = nb l := Int.toNat_of_nonneg h0
    rw [Int.natCast_emod, Int.natCast_ediv, this]
    simp
  rw [e3]
  have hb : nb l / 2 ^ i % 2 = l.getD (i / 8) 0 / 2 ^ (i % 8) % 2 := hb
  rw [hb, ← e, ← e']
  omega
theorem mulP_bit1 {A : Int × Int} (hA : on A) {N i : Nat} (h : N / 2 ^ i % 2 = 1) : mulP (N / 2 ^ i) A = addP (addP (mulP (N / 2 ^ (i + 1)) A) (mulP (N / 2 ^ (i + 1)) A)) A := by
  rw [nat_half N i, h, mulP_succ, mulP_double hA]
theorem mulP_bit0 {A : Int × Int} (hA : on A) {N i : Nat} (h : N / 2 ^ i % 2 ≠ 1) : mulP (N / 2 ^ i) A = addP (mulP (N / 2 ^ (i + 1)) A) (mulP (N / 2 ^ (i + 1)) A) := by
  have h0 : N / 2 ^ i % 2 = 0 := by omega
  rw [nat_half N i, h0, Nat.add_zero, mulP_double hA]
theorem take15 {a b c d : List Int} {lo hi lo' hi' lo'' hi'' lo3 hi3 : Int} (ha : inB (repB lo hi 5) a) (hb : inB (repB lo' hi' 5) b) (hc : inB (repB lo'' hi'' 5) c) (hd : inB (repB lo3 hi3 5) d) : [a, b, c, d].flatten.take 15 = [a, b, c].flatten := by
  have l1 := len_of ha
  have l2 := len_of hb
  have l3 := len_of hc
  rw [show [a, b, c, d].flatten = [a, b, c].flatten ++ d by simp]
  exact List.take_left' (by simp [l1, l2, l3])
theorem flat8 {a b c d e f g h : List Int} : [a, b, c, d, e, f, g, h].flatten = [a, b, c, d].flatten ++ [e, f, g, h].flatten := by simp
theorem flat6 {a b c d e f : List Int} : [a, b, c, d, e, f].flatten = [a, b, c].flatten ++ [d, e, f].flatten := by simp
theorem or_top' : ∀ x : Nat, x < 128 → bitI .or .u8 (x : Int) 128 = (x : Int) + 128 := by decide
theorem or_top {x : Int} (h0 : 0 ≤ x) (h1 : x < 128) : bitI .or .u8 x 128 = x + 128 := by
  obtain ⟨n, rfl⟩ := Int.eq_ofNat_of_zero_le h0
  exact or_top' n (by omega)
theorem in_set {l : List Int} {w : Int} (h : inB (repB 0 255 32) l) (h0 : 0 ≤ w) (h1 : w ≤ 255) : inB (bdsL [by32]) [[l.getD 0 0, l.getD 1 0, l.getD 2 0, l.getD 3 0, l.getD 4 0, l.getD 5 0, l.getD 6 0, l.getD 7 0, l.getD 8 0, l.getD 9 0, l.getD 10 0, l.getD 11 0, l.getD 12 0, l.getD 13 0, l.getD 14 0, l.getD 15 0, l.getD 16 0, l.getD 17 0, l.getD 18 0, l.getD 19 0, l.getD 20 0, l.getD 21 0, l.getD 22 0, l.getD 23 0, l.getD 24 0, l.getD 25 0, l.getD 26 0, l.getD 27 0, l.getD 28 0, l.getD 29 0, l.getD 30 0, w]].flatten := by
  obtain ⟨x0, x1, x2, x3, x4, x5, x6, x7, x8, x9, x10, x11, x12, x13, x14, x15, x16, x17, x18, x19, x20, x21, x22, x23, x24, x25, x26, x27, x28, x29, x30, x31, rfl, hx⟩ := in_32 h
  show inB (repB 0 255 32) _
  simp only [List.flatten_cons, List.flatten_nil, List.append_nil, List.getD_cons_zero, List.getD_cons_succ, repB, inB, and_true]
  simp only [hx, h0, h1, and_self]
theorem nb_set {l : List Int} (h : inB (repB 0 255 32) l) (w : Int) : nb [l.getD 0 0, l.getD 1 0, l.getD 2 0, l.getD 3 0, l.getD 4 0, l.getD 5 0, l.getD 6 0, l.getD 7 0, l.getD 8 0, l.getD 9 0, l.getD 10 0, l.getD 11 0, l.getD 12 0, l.getD 13 0, l.getD 14 0, l.getD 15 0, l.getD 16 0, l.getD 17 0, l.getD 18 0, l.getD 19 0, l.getD 20 0, l.getD 21 0, l.getD 22 0, l.getD 23 0, l.getD 24 0, l.getD 25 0, l.getD 26 0, l.getD 27 0, l.getD 28 0, l.getD 29 0, l.getD 30 0, w] = nb l + (w - l.getD 31 0) * 452312848583266388373324160190187140051835877600158453279131187530910662656 := by
  obtain ⟨x0, x1, x2, x3, x4, x5, x6, x7, x8, x9, x10, x11, x12, x13, x14, x15, x16, x17, x18, x19, x20, x21, x22, x23, x24, x25, x26, x27, x28, x29, x30, x31, rfl, hx⟩ := in_32 h
  clear hx
  simp only [num, List.getD_cons_zero, List.getD_cons_succ]
  omega
theorem nb_split {l : List Int} (h : inB (repB 0 255 32) l) : 0 ≤ nb l - l.getD 31 0 * 452312848583266388373324160190187140051835877600158453279131187530910662656 ∧ nb l - l.getD 31 0 * 452312848583266388373324160190187140051835877600158453279131187530910662656 < 452312848583266388373324160190187140051835877600158453279131187530910662656 := by
  obtain ⟨x0, x1, x2, x3, x4, x5, x6, x7, x8, x9, x10, x11, x12, x13, x14, x15, x16, x17, x18, x19, x20, x21, x22, x23, x24, x25, x26, x27, x28, x29, x30, x31, rfl, hx⟩ := in_32 h
  simp only [num, List.getD_cons_zero, List.getD_cons_succ]
  omega
theorem getD_b {l : List Int} (h : inB (repB 0 255 32) l) : 0 ≤ l.getD 31 0 ∧ l.getD 31 0 ≤ 255 := by
  obtain ⟨x0, x1, x2, x3, x4, x5, x6, x7, x8, x9, x10, x11, x12, x13, x14, x15, x16, x17, x18, x19, x20, x21, x22, x23, x24, x25, x26, x27, x28, x29, x30, x31, rfl, hx⟩ := in_32 h
  simp only [List.getD_cons_zero, List.getD_cons_succ]
  omega
theorem top_lt {l : List Int} (h : inB (repB 0 255 32) l) (hlt : nb l < top1) : l.getD 31 0 < 128 := by
  have h1 := nb_split h
  unfold top1 at hlt
  generalize nb l = n at *
  generalize l.getD 31 0 = t at *
  omega
theorem mask31 {l : List Int} {z : Int} (h : inB (repB 0 255 32) l) (c : 0 ≤ l.getD 31 0 - 128 * z) (d : l.getD 31 0 - 128 * z < 128) : nb [l.getD 0 0, l.getD 1 0, l.getD 2 0, l.getD 3 0, l.getD 4 0, l.getD 5 0, l.getD 6 0, l.getD 7 0, l.getD 8 0, l.getD 9 0, l.getD 10 0, l.getD 11 0, l.getD 12 0, l.getD 13 0, l.getD 14 0, l.getD 15 0, l.getD 16 0, l.getD 17 0, l.getD 18 0, l.getD 19 0, l.getD 20 0, l.getD 21 0, l.getD 22 0, l.getD 23 0, l.getD 24 0, l.getD 25 0, l.getD 26 0, l.getD 27 0, l.getD 28 0, l.getD 29 0, l.getD 30 0, l.getD 31 0 + (-128) * z] = nb l % top1 ∧ z = nb l / top1 := by
  have h1 := nb_split h
  rw [nb_set h]
  have e : nb l + (l.getD 31 0 + (-128) * z - l.getD 31 0) * 452312848583266388373324160190187140051835877600158453279131187530910662656 = nb l - top1 * z := by unfold top1; generalize nb l = n at *; generalize l.getD 31 0 = t at *; omega
  have r1 : 0 ≤ nb l - top1 * z := by unfold top1; generalize nb l = n at *; generalize l.getD 31 0 = t at *; omega
  have r2 : nb l - top1 * z < top1 := by unfold top1; generalize nb l = n at *; generalize l.getD 31 0 = t at *; omega
  have r3 := quot_is (show (0 : Int) < top1 by decide) r1 r2
  rw [e]
  refine ⟨?_, r3.symm⟩
  have h4 := Int.emod_add_mul_ediv (nb l) top1
  rw [r3] at h4
  omega
abbrev yq (y : Int) : Int := (y * y - 1) * iv (cd * (y * y) + 1) % 57896044618658097711785492504343953926634992332820282019728792003956564819949
theorem dec_eq (b : Int) : dec b = (if b % top1 < 57896044618658097711785492504343953926634992332820282019728792003956564819949 then
    (if (sqP (yq (b % top1))).2 = 0 then none else if b / top1 = 1 then (if (sqP (yq (b % top1))).1 = 0 then none else some ((0 - (sqP (yq (b % top1))).1) % 57896044618658097711785492504343953926634992332820282019728792003956564819949, b % top1)) else some ((sqP (yq (b % top1))).1, b % top1)) else none) := rfl
theorem dec_big {b : Int} (h : ¬ b % top1 < 57896044618658097711785492504343953926634992332820282019728792003956564819949) : dec b = none := by rw [dec_eq, if_neg h]
theorem dec_none {b a k : Int} (hy : b % top1 < 57896044618658097711785492504343953926634992332820282019728792003956564819949) (hs : (a, k) = sqP (yq (b % top1))) (hk : k = 0) : dec b = none := by rw [dec_eq, if_pos hy, ← hs, if_pos hk]
theorem dec_odd0 {b a k : Int} (hy : b % top1 < 57896044618658097711785492504343953926634992332820282019728792003956564819949) (hs : (a, k) = sqP (yq (b % top1))) (hk : k ≠ 0) (ho : b / top1 = 1) (h0 : a = 0) : dec b = none := by rw [dec_eq, if_pos hy, ← hs, if_neg hk, if_pos ho, if_pos h0]
theorem dec_odd {b a k : Int} (hy : b % top1 < 57896044618658097711785492504343953926634992332820282019728792003956564819949) (hs : (a, k) = sqP (yq (b % top1))) (hk : k ≠ 0) (ho : b / top1 = 1) (h0 : a ≠ 0) : dec b = some ((0 - a) % 57896044618658097711785492504343953926634992332820282019728792003956564819949, b % top1) := by rw [dec_eq, if_pos hy, ← hs, if_neg hk, if_pos ho, if_neg h0]
theorem dec_even {b a k : Int} (hy : b % top1 < 57896044618658097711785492504343953926634992332820282019728792003956564819949) (hs : (a, k) = sqP (yq (b % top1))) (hk : k ≠ 0) (ho : ¬ b / top1 = 1) : dec b = some (a, b % top1) := by rw [dec_eq, if_pos hy, ← hs, if_neg hk, if_neg ho]
theorem sqP_r {a k x : Int} (h : (a, k) = sqP (x % 57896044618658097711785492504343953926634992332820282019728792003956564819949)) : 0 ≤ a ∧ a < 57896044618658097711785492504343953926634992332820282019728792003956564819949 := by
  rcases sqP_spec (mod_r x).1 (mod_r x).2 with ⟨r, e, hr⟩ | ⟨e, _⟩
  · rw [e] at h; cases h; exact ⟨hr.1, hr.2.1⟩
  · rw [e] at h; cases h; decide
theorem iv_of {a b : Int} (h : a % 57896044618658097711785492504343953926634992332820282019728792003956564819949 = b % 57896044618658097711785492504343953926634992332820282019728792003956564819949) : pw a eInv % 57896044618658097711785492504343953926634992332820282019728792003956564819949 = iv b % 57896044618658097711785492504343953926634992332820282019728792003956564819949 := by unfold iv; rw [pw_of_mod h]
theorem read_q {y f yy m t p v q : Int} (s1 : f % 57896044618658097711785492504343953926634992332820282019728792003956564819949 = y % 57896044618658097711785492504343953926634992332820282019728792003956564819949) (s2 : yy % 57896044618658097711785492504343953926634992332820282019728792003956564819949 = f * f % 57896044618658097711785492504343953926634992332820282019728792003956564819949) (s3 : m % 57896044618658097711785492504343953926634992332820282019728792003956564819949 = (yy - v5 [1, 0, 0, 0, 0]) % 57896044618658097711785492504343953926634992332820282019728792003956564819949) (s4 : t % 57896044618658097711785492504343953926634992332820282019728792003956564819949 = yy * v5 [929955233495203, 466365720129213, 1662059464998953, 2033849074728123, 1442794654840575] % 57896044618658097711785492504343953926634992332820282019728792003956564819949) (s5 : p % 57896044618658097711785492504343953926634992332820282019728792003956564819949 = (t + v5 [1, 0, 0, 0, 0]) % 57896044618658097711785492504343953926634992332820282019728792003956564819949) (s6 : v % 57896044618658097711785492504343953926634992332820282019728792003956564819949 = pw p eInv) (s7 : q % 57896044618658097711785492504343953926634992332820282019728792003956564819949 = m * v % 57896044618658097711785492504343953926634992332820282019728792003956564819949) : q % 57896044618658097711785492504343953926634992332820282019728792003956564819949 = yq y := by
  rw [v5_1] at s3 s5
  rw [once_v5] at s4
  have q1 : yy % 57896044618658097711785492504343953926634992332820282019728792003956564819949 = y * y % 57896044618658097711785492504343953926634992332820282019728792003956564819949 := s2.trans (cmul s1 s1)
  have q2 : m % 57896044618658097711785492504343953926634992332820282019728792003956564819949 = (y * y - 1) % 57896044618658097711785492504343953926634992332820282019728792003956564819949 := s3.trans (csub q1 rfl)
  have q3 : p % 57896044618658097711785492504343953926634992332820282019728792003956564819949 = (cd * (y * y) + 1) % 57896044618658097711785492504343953926634992332820282019728792003956564819949 := s5.trans (cadd (s4.trans ((cmul q1 rfl).trans (cof (Int.mul_comm _ _)))) rfl)
  exact s7.trans (cmul q2 ((s6.trans (pw_self _ _).symm).trans (iv_of q3)))
theorem diff_eq {a b : Int} (ha : 0 ≤ a ∧ a < 57896044618658097711785492504343953926634992332820282019728792003956564819949) (hb : 0 ≤ b ∧ b < 57896044618658097711785492504343953926634992332820282019728792003956564819949) : (a - b + (if a < b then 57896044618658097711785492504343953926634992332820282019728792003956564819949 else 0)) % 115792089237316195423570985008687907853269984665640564039457584007913129639936 = (a - b) % 57896044618658097711785492504343953926634992332820282019728792003956564819949 := by
  split
  · rename_i h
    rw [Int.emod_eq_of_lt (by omega) (by omega), show (a - b) % 57896044618658097711785492504343953926634992332820282019728792003956564819949 = (a - b + 57896044618658097711785492504343953926634992332820282019728792003956564819949 * 1) % 57896044618658097711785492504343953926634992332820282019728792003956564819949 by rw [Int.add_mul_emod_self_left], Int.emod_eq_of_lt (by omega) (by omega)]; omega
  · rename_i h
    rw [Int.emod_eq_of_lt (by omega) (by omega), Int.emod_eq_of_lt (by omega) (by omega)]; omega
theorem dmod {a b : Int} (ha : 0 ≤ a ∧ a < 57896044618658097711785492504343953926634992332820282019728792003956564819949) (hb : 0 ≤ b ∧ b < 57896044618658097711785492504343953926634992332820282019728792003956564819949) : (a - b + (if a < b then 57896044618658097711785492504343953926634992332820282019728792003956564819949 else 0)) % 115792089237316195423570985008687907853269984665640564039457584007913129639936 % 57896044618658097711785492504343953926634992332820282019728792003956564819949 = (a - b) % 57896044618658097711785492504343953926634992332820282019728792003956564819949 := by rw [diff_eq ha hb, Int.emod_emod]
theorem sum_eq {a b : Int} (ha : 0 ≤ a ∧ a < 57896044618658097711785492504343953926634992332820282019728792003956564819949) (hb : 0 ≤ b ∧ b < 57896044618658097711785492504343953926634992332820282019728792003956564819949) : (a + b) % 115792089237316195423570985008687907853269984665640564039457584007913129639936 % 57896044618658097711785492504343953926634992332820282019728792003956564819949 = (a + b) % 57896044618658097711785492504343953926634992332820282019728792003956564819949 := by rw [Int.emod_eq_of_lt (a := a + b) (by omega) (by omega)]
theorem smod {a b : Int} (ha : 0 ≤ a ∧ a < 57896044618658097711785492504343953926634992332820282019728792003956564819949) (hb : 0 ≤ b ∧ b < 57896044618658097711785492504343953926634992332820282019728792003956564819949) : (a + b) % 115792089237316195423570985008687907853269984665640564039457584007913129639936 % 57896044618658097711785492504343953926634992332820282019728792003956564819949 % 57896044618658097711785492504343953926634992332820282019728792003956564819949 = (a + b) % 57896044618658097711785492504343953926634992332820282019728792003956564819949 := by rw [sum_eq ha hb, Int.emod_emod]
theorem pmod {r x : Int} (h : r = x % 57896044618658097711785492504343953926634992332820282019728792003956564819949) : r % 57896044618658097711785492504343953926634992332820282019728792003956564819949 = x % 57896044618658097711785492504343953926634992332820282019728792003956564819949 := by rw [h, Int.emod_emod]
theorem pr_r {r x : Int} (h : r = x % 57896044618658097711785492504343953926634992332820282019728792003956564819949) : 0 ≤ r ∧ r < 57896044618658097711785492504343953926634992332820282019728792003956564819949 := by rw [h]; exact mod_r x
theorem rread_q {y f yy d t p m v q : Int} (s0 : f = y) (s3 : yy = f * f % 57896044618658097711785492504343953926634992332820282019728792003956564819949) (s4 : d = cd) (s5 : t = d * yy % 57896044618658097711785492504343953926634992332820282019728792003956564819949) (s6 : p = (t + nw [1, 0, 0, 0]) % 115792089237316195423570985008687907853269984665640564039457584007913129639936 % 57896044618658097711785492504343953926634992332820282019728792003956564819949) (s7 : m = (yy - nw [1, 0, 0, 0] + (if yy < nw [1, 0, 0, 0] then 57896044618658097711785492504343953926634992332820282019728792003956564819949 else 0)) % 115792089237316195423570985008687907853269984665640564039457584007913129639936) (s8 : v = pw p eInv) (s9 : q = m * v % 57896044618658097711785492504343953926634992332820282019728792003956564819949) : q = yq y := by
  rw [nw_x] at s6 s7
  rw [sum_eq (pr_r s5) (by decide)] at s6
  rw [diff_eq (pr_r s3) (by decide)] at s7
  subst s0
  have q1 : yy % 57896044618658097711785492504343953926634992332820282019728792003956564819949 = f * f % 57896044618658097711785492504343953926634992332820282019728792003956564819949 := pmod s3
  have q2 : m % 57896044618658097711785492504343953926634992332820282019728792003956564819949 = (f * f - 1) % 57896044618658097711785492504343953926634992332820282019728792003956564819949 := (pmod s7).trans (csub q1 rfl)
  have q3 : p % 57896044618658097711785492504343953926634992332820282019728792003956564819949 = (cd * (f * f) + 1) % 57896044618658097711785492504343953926634992332820282019728792003956564819949 := (pmod s6).trans (cadd ((pmod s5).trans (by rw [s4]; exact cmul rfl q1)) rfl)
  rw [s9]
  exact cmul q2 (by rw [s8]; exact iv_of q3)
theorem cond_in (b : Bool) : (0 : Int) ≤ cond b 1 0 ∧ (cond b 1 0 : Int) ≤ 1 := by cases b <;> decide
theorem rep_one {x y z t : Int} {A : Int × Int} (h1 : x % 57896044618658097711785492504343953926634992332820282019728792003956564819949 = A.1) (h2 : y % 57896044618658097711785492504343953926634992332820282019728792003956564819949 = A.2) (h3 : z % 57896044618658097711785492504343953926634992332820282019728792003956564819949 = 1) (h4 : t % 57896044618658097711785492504343953926634992332820282019728792003956564819949 = A.1 * A.2 % 57896044618658097711785492504343953926634992332820282019728792003956564819949) : RepI x y z t A := by
  have k : ∀ a : Int, a * z % 57896044618658097711785492504343953926634992332820282019728792003956564819949 = a % 57896044618658097711785492504343953926634992332820282019728792003956564819949 := fun a => by rw [← mul_mod_r, h3, Int.mul_one]
  exact ⟨by rw [h3]; decide, by rw [k, ← h1, Int.emod_emod], by rw [k, ← h2, Int.emod_emod], by rw [k, h4]⟩
def RDP (o : Option (Int × Int)) (x y z t k : Int) : Prop := match o with | none => k = 0 | some A => k = 1 ∧ x % 57896044618658097711785492504343953926634992332820282019728792003956564819949 = A.1 ∧ y % 57896044618658097711785492504343953926634992332820282019728792003956564819949 = A.2 ∧ z % 57896044618658097711785492504343953926634992332820282019728792003956564819949 = 1 ∧ t % 57896044618658097711785492504343953926634992332820282019728792003956564819949 = A.1 * A.2 % 57896044618658097711785492504343953926634992332820282019728792003956564819949
def RDJ (o : Option (Int × Int)) (x y z k : Int) : Prop := match o with | none => k = 0 | some A => k = 1 ∧ x = A.1 ∧ y = A.2 ∧ z = 1
theorem rd_none {b x y z t : List Int} {k : Int} (h : s_read [b] [x, y, z, t, [k]]) (hk : ¬ k = 1) : dec (nb b) = none := by
  have h : RDP (dec (nb b)) (v5 x) (v5 y) (v5 z) (v5 t) k := h
  cases hd : dec (nb b) with
  | none => rfl
  | some A => rw [hd] at h; exact absurd h.1 hk
theorem rd_some {b x y z t : List Int} {k : Int} (h : s_read [b] [x, y, z, t, [k]]) (hk : k = 1) : ∃ A, dec (nb b) = some A ∧ RepI (v5 x) (v5 y) (v5 z) (v5 t) A := by
  have h : RDP (dec (nb b)) (v5 x) (v5 y) (v5 z) (v5 t) k := h
  cases hd : dec (nb b) with
  | none => rw [hd] at h; have h : k = 0 := h; omega
  | some A => rw [hd] at h; exact ⟨A, rfl, rep_one h.2.1 h.2.2.1 h.2.2.2.1 h.2.2.2.2⟩
theorem rd_bit {b x y z t : List Int} {k : Int} (h : s_read [b] [x, y, z, t, [k]]) : bit (k = 1) = bit ((dec (nb b)).isSome = true) := by
  have h : RDP (dec (nb b)) (v5 x) (v5 y) (v5 z) (v5 t) k := h
  cases hd : dec (nb b) with
  | none => rw [hd] at h; have h : k = 0 := h; subst h; rfl
  | some A => rw [hd] at h; have h := h.1; subst h; rfl
theorem rrd_none {b x y z : List Int} {k : Int} (h : s_rread [b] [x, y, z, [k]]) (hk : ¬ k = 1) : dec (nb b) = none := by
  have h : RDJ (dec (nb b)) (nw x) (nw y) (nw z) k := h
  cases hd : dec (nb b) with
  | none => rfl
  | some A => rw [hd] at h; exact absurd h.1 hk
theorem rrd_some {b x y z : List Int} {k : Int} (h : s_rread [b] [x, y, z, [k]]) (hk : k = 1) : ∃ A, dec (nb b) = some A ∧ RepJ (nw x) (nw y) (nw z) A := by
  have h : RDJ (dec (nb b)) (nw x) (nw y) (nw z) k := h
  cases hd : dec (nb b) with
  | none => rw [hd] at h; have h : k = 0 := h; omega
  | some A =>
    rw [hd] at h
    refine ⟨A, rfl, ?_⟩
    rw [h.2.1, h.2.2.1, h.2.2.2]
    exact one_rep (A := A)
theorem rrd_r {b x y z : List Int} {k : Int} {A : Int × Int} (h : s_rread [b] [x, y, z, [k]]) (hd : dec (nb b) = some A) : 0 ≤ nw x ∧ nw x < 57896044618658097711785492504343953926634992332820282019728792003956564819949 := by
  have h : RDJ (dec (nb b)) (nw x) (nw y) (nw z) k := h
  rw [hd] at h
  have ho := dec_on hd
  rw [h.2.1]; exact ho.1
theorem rrd_bit {b x y z : List Int} {k : Int} (h : s_rread [b] [x, y, z, [k]]) : bit (k = 1) = bit ((dec (nb b)).isSome = true) := by
  have h : RDJ (dec (nb b)) (nw x) (nw y) (nw z) k := h
  cases hd : dec (nb b) with
  | none => rw [hd] at h; have h : k = 0 := h; subst h; rfl
  | some A => rw [hd] at h; have h := h.1; subst h; rfl
theorem neg_rep {x x' y z : Int} {A : Int × Int} (h : x' % 57896044618658097711785492504343953926634992332820282019728792003956564819949 = (0 - x) % 57896044618658097711785492504343953926634992332820282019728792003956564819949) (q : RepJ x y z A) : RepJ x' y z (negP A) := by
  obtain ⟨n, h1, h2⟩ := q
  refine ⟨n, ?_, h2⟩
  have e : (0 - A.1) * z = 0 - A.1 * z := by rw [Int.sub_mul, Int.zero_mul]
  show x' % 57896044618658097711785492504343953926634992332820282019728792003956564819949 = (0 - A.1) % 57896044618658097711785492504343953926634992332820282019728792003956564819949 * z % 57896044618658097711785492504343953926634992332820282019728792003956564819949
  rw [mul_mod_l, e]
  exact h.trans (csub rfl h1)
theorem rneg {x x' : Int} (h : x' = (nw [0, 0, 0, 0] - x + (if nw [0, 0, 0, 0] < x then 57896044618658097711785492504343953926634992332820282019728792003956564819949 else 0)) % 115792089237316195423570985008687907853269984665640564039457584007913129639936) (hr : 0 ≤ x ∧ x < 57896044618658097711785492504343953926634992332820282019728792003956564819949) : x' % 57896044618658097711785492504343953926634992332820282019728792003956564819949 = (0 - x) % 57896044618658097711785492504343953926634992332820282019728792003956564819949 := by
  rw [nw_x] at h
  rw [h]; exact dmod (by decide) hr
end Go.Fd
