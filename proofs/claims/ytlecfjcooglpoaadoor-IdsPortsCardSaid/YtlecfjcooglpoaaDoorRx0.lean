/- Texts as numbers. -/
import GoSem.ClaimData
import GoSem.Op.String
set_option linter.unusedVariables false
set_option linter.unusedSimpArgs false
namespace Go.Rx
/-- Bytes as one number, and back. -/
def cL : List UInt8 → Nat
  | [] => 0
  | b :: r => (b.toNat + 1) + 257 * cL r
def sL : Nat → Nat → List UInt8
  | 0, _ => []
  | f + 1, n => match n with
    | 0 => []
    | k + 1 => UInt8.ofNat (k % 257) :: sL f ((k + 1) / 257)
theorem cL_cons (b : UInt8) (r : List UInt8) : cL (b :: r) = (b.toNat + 1) + 257 * cL r := rfl
theorem cL_pos (b : UInt8) (r : List UInt8) : cL (b :: r) = (b.toNat + 257 * cL r) + 1 := by rw [cL_cons]; omega
theorem sL_cL : ∀ (l : List UInt8) (f : Nat), l.length ≤ f → sL f (cL l) = l
  | [], 0, _ => rfl
  | [], f + 1, _ => rfl
  | b :: r, 0, h => by simp at h
  | b :: r, f + 1, h => by
    have hb := b.toNat_lt
    rw [cL_pos]
    show UInt8.ofNat ((b.toNat + 257 * cL r) % 257) :: sL f ((b.toNat + 257 * cL r + 1) / 257) = b :: r
    have e1 : (b.toNat + 257 * cL r) % 257 = b.toNat := by omega
    have e2 : (b.toNat + 257 * cL r + 1) / 257 = cL r := by omega
    rw [e1, e2, sL_cL r f (by simpa using h)]
    simp
theorem sL_len : ∀ (f n k : Nat), n < 257 ^ k → (sL f n).length ≤ k
  | 0, _, _, _ => by simp [sL]
  | f + 1, 0, k, _ => by simp [sL]
  | f + 1, n + 1, 0, h => by simp at h
  | f + 1, n + 1, k + 1, h => by
    have : (n + 1) / 257 < 257 ^ k := by rw [Nat.div_lt_iff_lt_mul (by decide)]; rw [Nat.pow_succ] at h; exact h
    have ih := sL_len f ((n + 1) / 257) k this
    simp only [sL, List.length_cons]
    omega
theorem cL_lt : ∀ (l : List UInt8), cL l < 257 ^ l.length
  | [] => by simp [cL]
  | b :: r => by
    have ih := cL_lt r
    have hb := b.toNat_lt
    unfold cL
    rw [List.length_cons, Nat.pow_succ]
    omega
theorem cL_ge : ∀ (l : List UInt8), l.length ≤ cL l
  | [] => by simp
  | b :: r => by
    have ih := cL_ge r
    unfold cL
    rw [List.length_cons]
    omega
theorem cL_two : ∀ (l : List UInt8), 0 < l.length → 2 ^ (l.length - 1) ≤ cL l
  | [b], _ => by rw [cL_cons]; show 1 ≤ _; omega
  | b :: c :: r, _ => by
    have ih := cL_two (c :: r) (by simp)
    rw [cL_cons b]
    simp only [List.length_cons, Nat.add_sub_cancel] at ih ⊢
    rw [Nat.pow_succ]
    omega
def sOf (z : Int) : List UInt8 := sL (Nat.log2 z.toNat + 1) z.toNat
def cOf (l : List UInt8) : Int := cL l
theorem sOf_cOf (l : List UInt8) : sOf (cOf l) = l := by
  unfold sOf cOf
  rw [Int.toNat_natCast]
  apply sL_cL
  by_cases h : l.length = 0
  · omega
  · have h1 := cL_two l (by omega)
    have h2 : cL l ≠ 0 := by have := cL_ge l; omega
    have h3 := (Nat.le_log2 h2).2 h1
    omega
theorem cOf_nonneg (l : List UInt8) : 0 ≤ cOf l := Int.natCast_nonneg _
theorem HB_all (k : Nat) : ∃ H : Int, (∀ l : List UInt8, l.length ≤ k → cOf l ≤ H) ∧ ∀ z : Int, z ≤ H → (sOf z).length ≤ k := by
  refine ⟨(257 ^ k : Nat) - 1, fun l h => ?_, fun z h => ?_⟩
  · have h1 := cL_lt l
    have h2 : 257 ^ l.length ≤ 257 ^ k := Nat.pow_le_pow_right (by decide) h
    unfold cOf
    omega
  · unfold sOf
    apply sL_len
    have := Nat.pow_pos (n := k) (show 0 < 257 by decide)
    omega
/-- How long a text is: what the form's reach lets an argument take. -/
def mxL : Nat := 140737488351232
theorem HB_ex : ∃ H : Int, (∀ l : List UInt8, l.length ≤ mxL → cOf l ≤ H) ∧ ∀ z : Int, z ≤ H → (sOf z).length ≤ mxL := HB_all mxL
/-- The greatest number of a text. -/
noncomputable def HB : Int := Classical.choose HB_ex
theorem HB_c {l : List UInt8} (h : l.length ≤ mxL) : cOf l ≤ HB := (Classical.choose_spec HB_ex).1 l h
theorem HB_s {z : Int} (h : z ≤ HB) : (sOf z).length ≤ mxL := (Classical.choose_spec HB_ex).2 z h
theorem HB_pos : 0 ≤ HB := by have := HB_c (l := []) (by simp); exact this
/-- A known text (not too long a one). -/
def kL (l : List UInt8) : List UInt8 := cond (Nat.ble l.length 1000000) l []
theorem kL_HB (l : List UInt8) : 0 ≤ cOf (kL l) ∧ cOf (kL l) ≤ HB := by
  refine ⟨cOf_nonneg _, HB_c ?_⟩
  unfold kL
  cases h : Nat.ble l.length 1000000 with
  | true => have := Nat.le_of_ble_eq_true h; simp only [cond_true]; unfold mxL; omega
  | false => simp
def bA (l : List UInt8) : ByteArray := ⟨l.toArray⟩
theorem bA_inj {l l' : List UInt8} (h : bA l = bA l') : l = l' := by
  have := congrArg (fun b => b.data.toList) h
  simpa [bA] using this
/-! ### Rows: lists of lists of integers, as numbers -/
def zz (z : Int) : Nat := if 0 ≤ z then 2 * z.toNat else 2 * (-z).toNat - 1
def uz (n : Nat) : Int := if n % 2 = 0 then ((n / 2 : Nat) : Int) else -(((n + 1) / 2 : Nat) : Int)
theorem uz_zz (z : Int) : uz (zz z) = z := by
  unfold zz uz
  split
  · rw [if_pos (by omega)]; omega
  · rw [if_neg (by omega)]; omega
def lc : List Nat → Nat
  | [] => 0
  | x :: r => 2 ^ x * (2 * lc r + 1)
def tz : Nat → Nat → Nat
  | 0, _ => 0
  | f + 1, n => if n % 2 = 0 then tz f (n / 2) + 1 else 0
theorem tz_pow (k : Nat) : ∀ (x f : Nat), x < f → tz f (2 ^ x * (2 * k + 1)) = x
  | 0, f + 1, _ => by
    unfold tz
    rw [if_neg (by rw [Nat.pow_zero, Nat.one_mul]; omega)]
  | x + 1, f + 1, h => by
    unfold tz
    have e : 2 ^ (x + 1) * (2 * k + 1) = 2 * (2 ^ x * (2 * k + 1)) := by rw [Nat.pow_succ, Nat.mul_comm (2 ^ x) 2, Nat.mul_assoc]
    rw [e, if_pos (by omega), Nat.mul_div_cancel_left _ (by decide), tz_pow k x f (by omega)]
def ld : Nat → Nat → List Nat
  | 0, _ => []
  | f + 1, n => if n = 0 then [] else tz n n :: ld f (n / 2 ^ tz n n / 2)
theorem lt_two (x : Nat) : x < 2 ^ x := Nat.lt_two_pow_self
theorem lc_ge : ∀ l : List Nat, l.length ≤ lc l
  | [] => Nat.le_refl _
  | x :: r => by
    have ih := lc_ge r
    unfold lc
    have h1 : 1 ≤ 2 ^ x := Nat.one_le_two_pow
    have h2 : 2 * lc r + 1 ≤ 2 ^ x * (2 * lc r + 1) := Nat.le_mul_of_pos_left _ h1
    rw [List.length_cons]
    omega
theorem ld_lc : ∀ (l : List Nat) (f : Nat), l.length ≤ f → ld f (lc l) = l
  | [], 0, _ => rfl
  | [], f + 1, _ => by simp [ld, lc]
  | x :: r, 0, h => by simp at h
  | x :: r, f + 1, h => by
    have h1 : 1 ≤ 2 ^ x := Nat.one_le_two_pow
    have h2 : 2 ^ x ≤ 2 ^ x * (2 * lc r + 1) := Nat.le_mul_of_pos_right _ (by omega)
    have h3 := lt_two x
    have hz : lc (x :: r) ≠ 0 := by
      have hl : lc (x :: r) = 2 ^ x * (2 * lc r + 1) := rfl
      omega
    have ht : tz (lc (x :: r)) (lc (x :: r)) = x := by
      show tz (2 ^ x * (2 * lc r + 1)) (2 ^ x * (2 * lc r + 1)) = x
      exact tz_pow _ _ _ (by omega)
    unfold ld
    rw [if_neg hz, ht]
    have e : lc (x :: r) / 2 ^ x / 2 = lc r := by
      have hl : lc (x :: r) = 2 ^ x * (2 * lc r + 1) := rfl
      rw [hl, Nat.mul_div_cancel_left _ (by omega)]
      omega
    rw [e, ld_lc r f (by simpa using h)]
theorem lc_bound (X : Nat) : ∀ k : Nat, ∃ B, ∀ l : List Nat, l.length ≤ k → (∀ x ∈ l, x ≤ X) → lc l ≤ B
  | 0 => ⟨0, fun l h _ => by
      have : l = [] := List.length_eq_zero_iff.1 (by omega)
      subst this; exact Nat.le_refl _⟩
  | k + 1 => by
    obtain ⟨B, hB⟩ := lc_bound X k
    refine ⟨2 ^ X * (2 * B + 1), fun l h hx => ?_⟩
    cases l with
    | nil => exact Nat.zero_le _
    | cons x r =>
      unfold lc
      have h1 := hB r (by simpa using h) fun y hy => hx y (List.mem_cons_of_mem _ hy)
      exact Nat.mul_le_mul (Nat.pow_le_pow_right (by decide) (hx x (by simp))) (by omega)
def rc (l : List (List Int)) : Int := (lc (l.map fun row => lc (row.map zz)) : Nat)
def rOf (z : Int) : List (List Int) := (ld z.toNat z.toNat).map fun n => (ld n n).map uz
theorem map_uz (l : List Int) : (l.map zz).map uz = l := by
  rw [List.map_map]
  conv => rhs; rw [← List.map_id l]
  exact List.map_congr_left fun z _ => uz_zz z
theorem rOf_rc (l : List (List Int)) : rOf (rc l) = l := by
  unfold rOf rc
  rw [Int.toNat_natCast, ld_lc _ _ (lc_ge _), List.map_map]
  conv => rhs; rw [← List.map_id l]
  refine List.map_congr_left fun row _ => ?_
  simp only [Function.comp, id]
  rw [ld_lc _ _ (lc_ge _), map_uz]
theorem rc_nonneg (l : List (List Int)) : 0 ≤ rc l := Int.natCast_nonneg _
/-- Rows of so many cells, each cell of a size that some text or word has. -/
def rowOk (row : List Int) : Prop := row.length ≤ 100 ∧ ∀ z ∈ row, -18446744073709551616 - HB ≤ z ∧ z ≤ 18446744073709551616 + HB
theorem RB_ex : ∃ H : Int, ∀ l : List (List Int), l.length ≤ maxLen → (∀ row ∈ l, rowOk row) → rc l ≤ H := by
  obtain ⟨B, hB⟩ := lc_bound (2 * (18446744073709551616 + HB).toNat) 100
  obtain ⟨C, hC⟩ := lc_bound B maxLen
  refine ⟨(C : Nat), fun l h hr => ?_⟩
  unfold rc
  have := hC (l.map fun row => lc (row.map zz)) (by simpa using h) fun x hx => by
    obtain ⟨row, hrow, rfl⟩ := List.mem_map.1 hx
    refine hB _ (by simpa using (hr row hrow).1) fun y hy => ?_
    obtain ⟨z, hz, rfl⟩ := List.mem_map.1 hy
    have h1 := (hr row hrow).2 z hz
    have h2 := HB_pos
    unfold zz
    split <;> omega
  omega
/-- The greatest number of rows. -/
noncomputable def RB : Int := Classical.choose RB_ex
theorem RB_c {l : List (List Int)} (h : l.length ≤ maxLen) (hr : ∀ row ∈ l, rowOk row) : rc l ≤ RB := Classical.choose_spec RB_ex l h hr
/-- The shape of one cell. -/
inductive CK where
  | int (k : IntKind) (lo hi : Int)
  | str
  | bool
def CK.beq : CK → CK → Bool
  | int k lo hi, int k' lo' hi' => decide (k = k') && decide (lo = lo') && decide (hi = hi')
  | str, str => true
  | bool, bool => true
  | _, _ => false
theorem CK.beq_eq : ∀ {a b : CK}, CK.beq a b = true → a = b
  | int k lo hi, int k' lo' hi', h => by
    simp only [CK.beq, Bool.and_eq_true, decide_eq_true_eq] at h
    rw [h.1.1, h.1.2, h.2]
  | str, str, _ => rfl
  | bool, bool, _ => rfl
  | int .., str, h => by cases h
  | int .., bool, h => by cases h
  | str, int .., h => by cases h
  | str, bool, h => by cases h
  | bool, int .., h => by cases h
  | bool, str, h => by cases h
def shBeq : List CK → List CK → Bool
  | [], [] => true
  | a :: r, b :: s => CK.beq a b && shBeq r s
  | _, _ => false
theorem shBeq_eq : ∀ {a b : List CK}, shBeq a b = true → a = b
  | [], [], _ => rfl
  | a :: r, b :: s, h => by
    simp only [shBeq, Bool.and_eq_true] at h
    rw [CK.beq_eq h.1, shBeq_eq h.2]
  | [], _ :: _, h => by cases h
  | _ :: _, [], h => by cases h
noncomputable def CK.bd : CK → Int × Int
  | int _ lo hi => (lo, hi)
  | str => (0, HB)
  | bool => (0, 1)
def CK.val : CK → Int → Value
  | int k _ _, z => .int k z
  | str, z => .string (bA (sOf z))
  | bool, z => .bool (decide (z = 1))
/-- What is reckoned of data. -/
def fnD : Nat → List Int → Int
  | 0, [s] => (sOf s).length
  | 1, [s, i] => ((sOf s).getD i.toNat 0).toNat
  | 2, [s, a, b] => cOf (((sOf s).drop a.toNat).take (b.toNat - a.toNat))
  | 3, [s, t] => cOf (sOf s ++ sOf t)
  | 4, [s, t] => if sOf s = sOf t then 1 else 0
  | 5, [s, t] => if Op.bytesLess (sOf s) (sOf t) = true then 1 else 0
  | 20, [c] => (rOf c).length
  | 21, [c, i, j] => ((rOf c).getD i.toNat []).getD j.toNat 0
  | 22, [c, a, b] => rc (((rOf c).drop a.toNat).take (b.toNat - a.toNat))
  | 23, c :: row => rc (rOf c ++ [row])
  | 24, [c, e] => rc (rOf c ++ rOf e)
  | 25, c :: i :: row => rc ((rOf c).set i.toNat row)
  | 26, n :: row => rc (List.replicate n.toNat row)
  | 27, [s] => rc ((sOf s).map fun b => [(b.toNat : Int)])
  | 34, [c, a, b] => cOf ((((rOf c).drop a.toNat).take (b.toNat - a.toNat)).map fun row => UInt8.ofNat (row.getD 0 0).toNat)
  | 37, [x, y] => x * 2 ^ y.toNat
  | 38, [x, y] => x % y
  | 33, [r, a, c] => if a = c then r else r + a
  | 29, [c, i, j, v] => rc ((rOf c).set i.toNat (((rOf c).getD i.toNat []).set j.toNat v))
  | 42, c :: i :: j :: vs => rc ((rOf c).set i.toNat (((rOf c).getD i.toNat []).take j.toNat ++ vs ++ ((rOf c).getD i.toNat []).drop (j.toNat + vs.length)))
  | 43, [s, i] => if UInt8.ofNat i.toNat ∈ sOf s then 1 else 0
  | 28, [c] => cOf ((rOf c).map fun row => UInt8.ofNat (row.getD 0 0).toNat)
  | _, _ => 0
/-- What must hold for it. -/
def chkD : Nat → List Int → Prop
  | 1, [s, i] => 0 ≤ i ∧ i < (sOf s).length
  | 2, [s, a, b] => 0 ≤ a ∧ a ≤ b ∧ b ≤ (sOf s).length
  | 3, [s, t] => (sOf s).length + (sOf t).length ≤ mxL
  | 21, [c, i] => 0 ≤ i ∧ i < (rOf c).length
  | 30, [i, n] => 0 ≤ i ∧ i < n
  | 31, [c, n] => n = (rOf c).length
  | 32, [a, b, n] => 0 ≤ a ∧ a ≤ b ∧ b ≤ n
  | 22, [c, a, b] => 0 ≤ a ∧ a ≤ b ∧ b ≤ (rOf c).length
  | 35, [c, a, b] => (0 ≤ a ∧ a ≤ b ∧ b ≤ (rOf c).length) ∧ b - a ≤ 140737488351232
  | 36, [y] => 0 < y
  | 39, [x, l, h] => l ≤ x ∧ x ≤ h
  | 40, [a, b] => 0 ≤ a → 0 ≤ b
  | 41, [s] => (sOf s).length ≤ 4294967280
  | 44, [w, s] => sOf w = [] ∨ (sOf s).length ≤ 4294967280
  | 23, [c, k] => (rOf c).length + k ≤ 1073741824
  | 26, [n] => 0 ≤ n ∧ n ≤ 1073741824
  | 48, r :: _ => (rOf r).length ≤ 1099511627776
  | 50, s :: _ => (sOf s).length ≤ 1073741824
  | 49, [l, c] => 0 ≤ l ∧ l ≤ c ∧ c ≤ 1073741824
  | _, _ => False
end Go.Rx
