/- Trees of conditions, and integer operations as such trees. -/
import Derived.Test.YtlecfjcooglpoaaDoorRx1
import Derived.Test.YtlecfjcooglpoaaDoorRx0
set_option linter.unusedVariables false
set_option linter.unusedSimpArgs false
namespace Go.Rx

/-- One cell. -/
inductive A where
  | int (k : IntKind) (x : IV)
  | bool (b : BE)
  | ptr (b off : Nat)
  | pix (b off : Nat) (ix : IV)
  | gptr (g off : Nat)
  | slc (b off len cap : Nat)
  | con (v : Value)
  | str (l : Lin)
  | rows (sh : List CK) (off code cap : Lin) (kind : Nat)
  | sl (b sz : Nat) (o ro len cap : Lin)
  | ep (b sz : Nat) (o i : Lin) (j : Nat)
/-- One value. -/
inductive W where
  | one (a : A)
  | agg (l : List A)
/-- What a slot holds; 'any': nothing is known. -/
inductive V where
  | w (x : W)
  | tup (l : List W)
  | any
  | osl (b len lo : Nat)
  | clo (f : Nat) (caps : List A)

def bitI (op : BinOp) (k : IntKind) (x y : Int) : Int :=
  match op with
  | .and => k.wrap (BitVec.ofInt k.bits x &&& BitVec.ofInt k.bits y).toNat
  | .or => k.wrap (BitVec.ofInt k.bits x ||| BitVec.ofInt k.bits y).toNat
  | .xor => k.wrap (BitVec.ofInt k.bits x ^^^ BitVec.ofInt k.bits y).toNat
  | .andNot => k.wrap (BitVec.ofInt k.bits x &&& ~~~(BitVec.ofInt k.bits y)).toNat
  | _ => 0

inductive T where
  | stuck
  | leaf (v : V)
  | div (n : Nat) (x : Lin) (d lo hi : Int) (r : T)
  | mul (n : Nat) (x y : Lin) (lo hi : Int) (r : T)
  | bit (n : Nat) (op : BinOp) (k : IntKind) (x y : Lin) (r : T)
  | shr (n : Nat) (x y : Lin) (lo hi : Int) (r : T)
  | sel (n : Nat) (cs : List Lin) (ix : Lin) (lo hi : Int) (r : T)
  | br (b : BE) (t e : T)
  | call (id : Nat) (args : List Lin) (n : Nat) (bds : List (Int × Int)) (r : T)
  | loop (lid : Nat) (init : List Lin) (n : Nat) (bds : List (Int × Int)) (r : T)
  | again (lid : Nat) (vals : List Lin)
  | both (a b : T)
  | fn (n : Nat) (op : Nat) (args : List Lin) (lo hi : Int) (r : T)
  | chk (op : Nat) (args : List Lin) (r : T)
  | unk (n : Nat) (lo hi : Int) (r : T)
  | nat (n : Nat) (r : T)
  | asm (op : Nat) (args : List Lin) (r : T)
  | ind (n : Nat) (b : BE) (r : T)

def allB : List (Int × Int) → (List Int → Prop) → Prop
  | [], P => P []
  | (l, h) :: b, P => ∀ r : Int, l ≤ r → r ≤ h → allB b (fun rs => P (r :: rs))
def inB : List (Int × Int) → List Int → Prop
  | [], [] => True
  | (l, h) :: b, r :: rs => l ≤ r ∧ r ≤ h ∧ inB b rs
  | _, _ => False
theorem allB_elim : ∀ {b : List (Int × Int)} {P : List Int → Prop} {rs : List Int}, allB b P → inB b rs → P rs
  | [], _, [], h, _ => h
  | (l, u) :: b, P, r :: rs, h, hi => allB_elim (b := b) (P := fun rs => P (r :: rs)) (h r hi.1 hi.2.1) hi.2.2
  | [], _, _ :: _, _, hi => hi.elim
  | (_, _) :: _, _, [], _, hi => hi.elim

abbrev Again := Nat → List Int → Prop
def Again.set (A : Again) (lid : Nat) (p : List Int → Prop) : Again := fun i => cond (Nat.beq i lid) p (A i)

def T.holds (S : Nat → List Int → List Int → Prop) (L : V → Env → Prop) : T → Again → Env → Prop
  | stuck, _, _ => False
  | leaf v, _, ρ => L v ρ
  | div n x d lo hi r, A, ρ => ∀ q : Int, lo ≤ q → q ≤ hi → 0 ≤ x.den ρ - d * q → x.den ρ - d * q < d → r.holds S L A (upd ρ n q)
  | mul n x y lo hi r, A, ρ => ∀ p : Int, lo ≤ p → p ≤ hi → p = x.den ρ * y.den ρ → r.holds S L A (upd ρ n p)
  | bit n op k x y r, A, ρ => ∀ z : Int, 0 ≤ z → z ≤ k.max → z = bitI op k (x.den ρ) (y.den ρ) → r.holds S L A (upd ρ n z)
  | shr n x y lo hi r, A, ρ => ∀ z : Int, lo ≤ z → z ≤ hi → z = x.den ρ / 2 ^ (y.den ρ).toNat → r.holds S L A (upd ρ n z)
  | sel n cs ix lo hi r, A, ρ => ∀ z : Int, lo ≤ z → z ≤ hi → z = (cs.map (·.den ρ)).getD (ix.den ρ).toNat 0 → r.holds S L A (upd ρ n z)
  | br b t e, A, ρ => (b.den ρ = true → t.holds S L A ρ) ∧ (b.den ρ = false → e.holds S L A ρ)
  | call id args n bds r, A, ρ => allB bds fun rs => S id (args.map (·.den ρ)) rs → r.holds S L A (updL ρ n rs)
  | loop lid init n bds r, A, ρ => ∃ (I : List Int → Prop) (μ : List Int → Nat), I (init.map (·.den ρ)) ∧
      allB bds fun zs => I zs → r.holds S L (A.set lid fun vs => I vs ∧ μ vs < μ zs) (updL ρ n zs)
  | again lid vals, A, ρ => A lid (vals.map (·.den ρ))
  | both a b, A, ρ => a.holds S L A ρ ∧ b.holds S L A ρ
  | fn n op args lo hi r, A, ρ => ∀ z : Int, lo ≤ z → z ≤ hi → z = fnD op (args.map (·.den ρ)) → r.holds S L A (upd ρ n z)
  | chk op args r, A, ρ => chkD op (args.map (·.den ρ)) ∧ r.holds S L A ρ
  | unk n lo hi r, A, ρ => ∀ z : Int, lo ≤ z → z ≤ hi → r.holds S L A (upd ρ n z)
  | nat n r, A, ρ => ∀ z : Int, 0 ≤ z → r.holds S L A (upd ρ n z)
  | asm op args r, A, ρ => chkD op (args.map (·.den ρ)) → r.holds S L A ρ
  | ind n b r, A, ρ => ∀ z : Int, 0 ≤ z → z ≤ 1 → b.den ρ = decide (z = 1) → r.holds S L A (upd ρ n z)

abbrev M (α : Type) := Nat → (α → Nat → T) → T
namespace M
variable {α β : Type}
def pure (a : α) : M α := fun n k => k a n
def bind (x : M α) (f : α → M β) : M β := fun n k => x n fun a n' => f a n' k
def fail : M α := fun _ _ => .stuck
/-- What such a tree is good for. -/
def Snd (S : Nat → List Int → List Int → Prop) (L : V → Env → Prop) (x : M α) (n : Nat) (ρ : Env) (R : Env → Nat → α → Prop) : Prop :=
  ∀ A k, (x n k).holds S L A ρ → ∃ ρ' n' a, n ≤ n' ∧ agree n ρ ρ' ∧ R ρ' n' a ∧ (k a n').holds S L A ρ'
variable {S : Nat → List Int → List Int → Prop} {L : V → Env → Prop} {n : Nat} {ρ : Env}
theorem Snd.pure {a : α} {R : Env → Nat → α → Prop} (h : R ρ n a) : Snd S L (M.pure a) n ρ R :=
  fun _ _ hk => ⟨ρ, n, a, Nat.le_refl _, agree.refl _ _, h, hk⟩
theorem Snd.fail {R : Env → Nat → α → Prop} : Snd S L (M.fail : M α) n ρ R := fun _ _ hk => hk.elim
theorem Snd.bind {x : M α} {f : α → M β} {R : Env → Nat → α → Prop} {R' : Env → Nat → β → Prop} (hx : Snd S L x n ρ R)
    (hf : ∀ ρ' n' a, n ≤ n' → agree n ρ ρ' → R ρ' n' a → Snd S L (f a) n' ρ' R') : Snd S L (M.bind x f) n ρ R' := by
  intro A k hk
  obtain ⟨ρ', n', a, hn, ha, hR, hk'⟩ := hx A _ hk
  obtain ⟨ρ'', n'', b, hn', ha', hR', hk''⟩ := hf ρ' n' a hn ha hR A k hk'
  exact ⟨ρ'', n'', b, Nat.le_trans hn hn', ha.trans ha' hn, hR', hk''⟩
theorem Snd.mono {x : M α} {R R' : Env → Nat → α → Prop} (hx : Snd S L x n ρ R) (h : ∀ ρ' n' a, n ≤ n' → agree n ρ ρ' → R ρ' n' a → R' ρ' n' a) : Snd S L x n ρ R' := by
  intro A k hk
  obtain ⟨ρ', n', a, hn, ha, hR, hk'⟩ := hx A k hk
  exact ⟨ρ', n', a, hn, ha, h _ _ _ hn ha hR, hk'⟩
end M
open M

section
variable {S : Nat → List Int → List Int → Prop} {L : V → Env → Prop} {n : Nat} {ρ : Env}

def allC : List Lin → Option (List Int)
  | [] => some []
  | l :: r => match l.isC, allC r with | some c, some s => some (c :: s) | _, _ => none
theorem allC_spec {ρ : Env} : ∀ {l : List Lin} {cs : List Int}, allC l = some cs → l.map (·.den ρ) = cs
  | [], cs, h => by simp [allC] at h; subst h; rfl
  | l :: r, cs, h => by
    simp only [allC] at h
    cases h1 : l.isC with
    | none => simp [h1] at h
    | some c =>
      cases h2 : allC r with
      | none => simp [h1, h2] at h
      | some s =>
        simp only [h1, h2, Option.some.injEq] at h
        subst h
        simp only [List.map_cons, Lin.den_isC h1, allC_spec h2]
/-- What is reckoned of data; of known texts at once. -/
def fnM (op : Nat) (args : List Lin) (lo hi : Int) : M Lin := fun n k => match Nat.ble op 5, allC args with
  | true, some cs => k (.const (fnD op cs)) n
  | _, _ => .fn n op args lo hi (k (.var n) (n + 1))
def chkB : Nat → List Int → Bool
  | 1, [s, i] => decide (0 ≤ i) && decide (i < (sOf s).length)
  | 2, [s, a, b] => decide (0 ≤ a) && decide (a ≤ b) && decide (b ≤ (sOf s).length)
  | 3, [s, t] => Nat.ble ((sOf s).length + (sOf t).length) 1000000
  | 30, [i, n] => decide (0 ≤ i) && decide (i < n)
  | 32, [a, b, n] => decide (0 ≤ a) && decide (a ≤ b) && decide (b ≤ n)
  | 39, [x, l, h] => decide (l ≤ x) && decide (x ≤ h)
  | _, _ => false
theorem chkB_spec {op : Nat} {cs : List Int} (h : chkB op cs = true) : chkD op cs := by
  unfold chkB at h
  split at h
  · simp only [Bool.and_eq_true, decide_eq_true_eq] at h; exact h
  · simp only [Bool.and_eq_true, decide_eq_true_eq] at h; exact ⟨h.1.1, h.1.2, h.2⟩
  · have h := Nat.le_of_ble_eq_true h
    show _ ≤ mxL
    unfold mxL; omega
  · simp only [Bool.and_eq_true, decide_eq_true_eq] at h; exact h
  · simp only [Bool.and_eq_true, decide_eq_true_eq] at h; exact ⟨h.1.1, h.1.2, h.2⟩
  · simp only [Bool.and_eq_true, decide_eq_true_eq] at h; exact h
  · cases h
def chkM (op : Nat) (args : List Lin) : M Unit := fun n k => match allC args with
  | some cs => cond (chkB op cs) (k () n) (.chk op args (k () n))
  | none => .chk op args (k () n)
theorem fnM_snd {op : Nat} {args : List Lin} {lo hi : Int} (h1 : lo ≤ fnD op (args.map (·.den ρ))) (h2 : fnD op (args.map (·.den ρ)) ≤ hi) :
    Snd S L (fnM op args lo hi) n ρ fun ρ' n' l => l.sc n' ∧ l.den ρ' = fnD op (args.map (·.den ρ)) := by
  intro A k hk
  unfold fnM at hk
  split at hk
  · rename_i cs _ hcs
    exact ⟨_, n, _, Nat.le_refl _, agree.refl _ _, ⟨Lin.sc_const _ _, by rw [Lin.den_const, allC_spec hcs]⟩, hk⟩
  · exact ⟨_, n + 1, _, Nat.le_succ _, agree.upd _ _ _, ⟨Lin.sc_var (Nat.lt_succ_self n), by simp [Lin.den_var, upd_same]⟩, hk _ h1 h2 rfl⟩
theorem chkM_snd {op : Nat} {args : List Lin} {α : Type} {x : M α} {R : Env → Nat → α → Prop} (h : chkD op (args.map (·.den ρ)) → Snd S L x n ρ R) : Snd S L (bind (chkM op args) fun _ => x) n ρ R := by
  intro A k hk
  unfold M.bind chkM at hk
  split at hk
  · rename_i cs hcs
    cases hb : chkB op cs with
    | true =>
      rw [hb] at hk
      exact h (by rw [allC_spec hcs]; exact chkB_spec hb) A k hk
    | false =>
      rw [hb] at hk
      exact h hk.1 A k hk.2
  · exact h hk.1 A k hk.2

/-! ### Division by a number above 0, and what is left -/
def divM (x : IV) (d : Int) : M IV := fun n k =>
  cond (d == 1) (k x n) <| cond (x.lo / d == x.hi / d) (k (.const (x.lo / d)) n) (.div n x.l d (x.lo / d) (x.hi / d) (k ⟨.var n, x.lo / d, x.hi / d⟩ (n + 1)))
theorem divM_snd {x : IV} {d : Int} (hd : 0 < d) (hx : x.ok n ρ) : Snd S L (divM x d) n ρ fun ρ' n' q => q.ok n' ρ' ∧ q.l.den ρ' = x.l.den ρ / d ∧ (q.lo = x.lo / d ∧ q.hi = x.hi / d) := by
  intro A k hk
  have h1 := Int.ediv_le_ediv hd hx.2.1
  have h2 := Int.ediv_le_ediv hd hx.2.2
  unfold divM at hk
  cases h1d : (d == 1) with
  | true =>
    have e : d = 1 := by simpa using h1d
    subst e
    simp only [h1d, cond_true] at hk
    exact ⟨ρ, n, x, Nat.le_refl _, agree.refl _ _, ⟨hx, by simp, by simp, by simp⟩, hk⟩
  | false =>
  simp only [h1d, cond_false] at hk
  cases hc : (x.lo / d == x.hi / d) with
  | true =>
    simp only [hc, cond_true] at hk
    have hc : x.lo / d = x.hi / d := by simpa using hc
    exact ⟨ρ, n, _, Nat.le_refl _, agree.refl _ _, ⟨IV.const_ok _ _ _, by simp only [IV.const, Lin.den_const]; omega, rfl, hc⟩, hk⟩
  | false =>
    simp only [hc, cond_false, T.holds] at hk
    have hm := Int.emod_nonneg (x.l.den ρ) (show d ≠ 0 by omega)
    have hm' := Int.emod_lt_of_pos (x.l.den ρ) hd
    have he := Int.mul_ediv_add_emod (x.l.den ρ) d
    refine ⟨_, n + 1, _, Nat.le_succ _, agree.upd _ _ _, ⟨⟨Lin.sc_var (Nat.lt_succ_self n), ?_, ?_⟩, ?_, rfl, rfl⟩, hk (x.l.den ρ / d) h1 h2 (by omega) (by omega)⟩ <;>
      simp only [Lin.den_var, upd_same] <;> omega

/-- What is left: by 'div'. -/
def modM (x : IV) (d : Int) : M IV :=
  bind (divM x d) fun q => pure ⟨x.l.sub (q.l.smul d), cond (q.lo == q.hi) (x.lo - d * q.lo) 0, cond (q.lo == q.hi) (x.hi - d * q.lo) (d - 1)⟩
theorem modM_snd {x : IV} {d : Int} (hd : 0 < d) (hx : x.ok n ρ) : Snd S L (modM x d) n ρ fun ρ' n' q => q.ok n' ρ' ∧ q.l.den ρ' = x.l.den ρ % d := by
  refine (divM_snd hd hx).bind fun ρ' n' q hn ha ⟨hq, he, hlo, hhi⟩ => Snd.pure ?_
  have hx' := hx.agree ha hn
  have hm := Int.emod_nonneg (x.l.den ρ) (show d ≠ 0 by omega)
  have hm' := Int.emod_lt_of_pos (x.l.den ρ) hd
  have hdm := Int.mul_ediv_add_emod (x.l.den ρ) d
  have hden : (x.l.sub (q.l.smul d)).den ρ' = x.l.den ρ % d := by
    rw [Lin.den_sub, Lin.den_smul, Lin.den_agree ha hx.1, he]; omega
  refine ⟨⟨Lin.sc_sub hx'.1 (Lin.sc_smul hq.1), ?_, ?_⟩, hden⟩
  · cases hc : (q.lo == q.hi) with
    | true =>
      have hc : q.lo = q.hi := by simpa using hc
      have : q.l.den ρ' = q.lo := by have := hq.2; omega
      simp only [cond_true, Lin.den_sub, Lin.den_smul, this]; have := hx'.2.1; omega
    | false => simp only [cond_false, hden]; omega
  · cases hc : (q.lo == q.hi) with
    | true =>
      have hc : q.lo = q.hi := by simpa using hc
      have : q.l.den ρ' = q.lo := by have := hq.2; omega
      simp only [cond_true, Lin.den_sub, Lin.den_smul, this]; have := hx'.2.2; omega
    | false => simp only [cond_false, hden]; omega

def two (k : IntKind) : Int := match k with | .i8 | .u8 => 256 | .i16 | .u16 => 65536 | .i32 | .u32 => 4294967296 | .i64 | .u64 => 18446744073709551616
theorem two_eq (k : IntKind) : two k = (2 : Int) ^ k.bits := by cases k <;> rfl
def half (k : IntKind) : Int := cond k.signed (two k / 2) 0
theorem wrap_eq (k : IntKind) (x : Int) : k.wrap x = (x + half k) % two k - half k := by
  cases k <;> simp only [IntKind.wrap, IntKind.signed, IntKind.bits, half, two, cond_true, cond_false, Bool.true_and, Bool.false_and] <;>
    simp <;> (try split) <;> omega

/-- The wrap of a kind. -/
def wrapM (k : IntKind) (x : IV) : M IV :=
  cond (decide (-half k ≤ x.lo) && decide (x.hi < two k - half k)) (pure x)
    (bind (modM ⟨x.l.add (.const (half k)), x.lo + half k, x.hi + half k⟩ (two k)) fun r => pure ⟨r.l.add (.const (-half k)), r.lo - half k, r.hi - half k⟩)
theorem wrapM_snd {k : IntKind} {x : IV} (hx : x.ok n ρ) : Snd S L (wrapM k x) n ρ fun ρ' n' q => q.ok n' ρ' ∧ q.l.den ρ' = k.wrap (x.l.den ρ) := by
  have ht : 0 < two k := by cases k <;> decide
  unfold wrapM
  cases hc : (decide (-half k ≤ x.lo) && decide (x.hi < two k - half k)) with
  | true =>
    simp only [Bool.and_eq_true, decide_eq_true_eq] at hc
    refine Snd.pure ⟨hx, ?_⟩
    have h1 := hx.2
    rw [wrap_eq, Int.emod_eq_of_lt (by omega) (by omega)]; omega
  | false =>
    refine (modM_snd (x := ⟨x.l.add (.const (half k)), x.lo + half k, x.hi + half k⟩) ht ⟨Lin.sc_add hx.1 (Lin.sc_const _ _), ?_, ?_⟩).bind fun ρ' n' r hn ha ⟨hr, he⟩ => Snd.pure ?_
    · rw [Lin.den_add, Lin.den_const]; have := hx.2.1; simp only; omega
    · rw [Lin.den_add, Lin.den_const]; have := hx.2.2; simp only; omega
    · have e : (r.l.add (.const (-half k))).den ρ' = k.wrap (x.l.den ρ) := by
        rw [Lin.den_add, Lin.den_const, he, Lin.den_add, Lin.den_const, wrap_eq]; omega
      refine ⟨⟨Lin.sc_add hr.1 (Lin.sc_const _ _), ?_, ?_⟩, e⟩ <;> simp only [Lin.den_add, Lin.den_const] <;> have := hr.2 <;> omega

/-- A product of two unknowns: a new unknown; bounds by the corners. -/
def min4 (a b c d : Int) : Int := min (min a b) (min c d)
def max4 (a b c d : Int) : Int := max (max a b) (max c d)
def mulM (x y : IV) : M IV := fun n k =>
  match x.l.isC, y.l.isC with
  | some c, _ => cond (decide (0 ≤ c)) (k ⟨y.l.smul c, c * y.lo, c * y.hi⟩ n) .stuck
  | none, some c => cond (decide (0 ≤ c)) (k ⟨x.l.smul c, c * x.lo, c * x.hi⟩ n) .stuck
  | none, none => cond (decide (0 ≤ x.lo) && decide (0 ≤ y.lo)) (.mul n x.l y.l (x.lo * y.lo) (x.hi * y.hi) (k ⟨.var n, x.lo * y.lo, x.hi * y.hi⟩ (n + 1))) .stuck
theorem mulM_snd {x y : IV} (hx : x.ok n ρ) (hy : y.ok n ρ) : Snd S L (mulM x y) n ρ fun ρ' n' q => q.ok n' ρ' ∧ q.l.den ρ' = x.l.den ρ * y.l.den ρ := by
  intro A k hk
  unfold mulM at hk
  cases h1 : x.l.isC with
  | some c =>
    simp only [h1] at hk
    by_cases hc : 0 ≤ c
    · simp only [decide_eq_true hc, cond_true] at hk
      refine ⟨ρ, n, _, Nat.le_refl _, agree.refl _ _, ⟨⟨Lin.sc_smul hy.1, ?_, ?_⟩, ?_⟩, hk⟩
      · simp only [Lin.den_smul]; exact Int.mul_le_mul_of_nonneg_left hy.2.1 hc
      · simp only [Lin.den_smul]; exact Int.mul_le_mul_of_nonneg_left hy.2.2 hc
      · simp only [Lin.den_smul, Lin.den_isC h1]
    · simp only [decide_eq_false hc, cond_false, T.holds] at hk
  | none =>
    cases h2 : y.l.isC with
    | some c =>
      simp only [h1, h2] at hk
      by_cases hc : 0 ≤ c
      · simp only [decide_eq_true hc, cond_true] at hk
        refine ⟨ρ, n, _, Nat.le_refl _, agree.refl _ _, ⟨⟨Lin.sc_smul hx.1, ?_, ?_⟩, ?_⟩, hk⟩
        · simp only [Lin.den_smul]; exact Int.mul_le_mul_of_nonneg_left hx.2.1 hc
        · simp only [Lin.den_smul]; exact Int.mul_le_mul_of_nonneg_left hx.2.2 hc
        · simp only [Lin.den_smul, Lin.den_isC h2]; exact Int.mul_comm _ _
      · simp only [decide_eq_false hc, cond_false, T.holds] at hk
    | none =>
      simp only [h1, h2] at hk
      cases hc : (decide (0 ≤ x.lo) && decide (0 ≤ y.lo)) with
      | false => simp only [hc, cond_false, T.holds] at hk
      | true =>
        simp only [hc, cond_true, T.holds] at hk
        simp only [Bool.and_eq_true, decide_eq_true_eq] at hc
        have a1 : x.lo * y.lo ≤ x.l.den ρ * y.l.den ρ := Int.mul_le_mul hx.2.1 hy.2.1 hc.2 (by have := hx.2.1; omega)
        have a2 : x.l.den ρ * y.l.den ρ ≤ x.hi * y.hi := Int.mul_le_mul hx.2.2 hy.2.2 (by have := hy.2.1; omega) (by have := hx.2; omega)
        refine ⟨_, n + 1, _, Nat.le_succ _, agree.upd _ _ _, ⟨⟨Lin.sc_var (Nat.lt_succ_self n), ?_, ?_⟩, ?_⟩, hk _ a1 a2 rfl⟩ <;> simp only [Lin.den_var, upd_same] <;> assumption

/-- Another operation on bits: a new unknown. -/
def bitM (op : BinOp) (k : IntKind) (x y : IV) : M IV := fun n c =>
  cond k.signed .stuck (.bit n op k x.l y.l (c ⟨.var n, 0, k.max⟩ (n + 1)))
theorem wrap_unsigned {k : IntKind} (hk : k.signed = false) (x : Int) : 0 ≤ k.wrap x ∧ k.wrap x ≤ k.max := by
  cases k <;> simp [IntKind.signed] at hk <;> simp [IntKind.wrap, IntKind.signed, IntKind.bits, IntKind.max] <;> omega
theorem bitI_bounds {k : IntKind} (hk : k.signed = false) (op : BinOp) (x y : Int) : 0 ≤ bitI op k x y ∧ bitI op k x y ≤ k.max := by
  unfold bitI
  split
  iterate 4 exact wrap_unsigned hk _
  cases k <;> simp [IntKind.signed] at hk <;> simp [IntKind.max, IntKind.signed, IntKind.bits]
theorem bitM_snd {op : BinOp} {k : IntKind} {x y : IV} : Snd S L (bitM op k x y) n ρ fun ρ' n' q => q.ok n' ρ' ∧ q.l.den ρ' = bitI op k (x.l.den ρ) (y.l.den ρ) := by
  intro A c hk
  unfold bitM at hk
  cases hs : k.signed with
  | true => simp only [hs, cond_true, T.holds] at hk
  | false =>
    simp only [hs, cond_false, T.holds] at hk
    have hb := bitI_bounds hs op (x.l.den ρ) (y.l.den ρ)
    refine ⟨_, n + 1, _, Nat.le_succ _, agree.upd _ _ _, ⟨⟨Lin.sc_var (Nat.lt_succ_self n), ?_, ?_⟩, ?_⟩, hk _ hb.1 hb.2 rfl⟩ <;> simp only [Lin.den_var, upd_same] <;> first | exact hb.1 | exact hb.2

/-! ### '&' with a row of bits, '|' of what lies apart -/
/-- The mask (2^(b - a) - 1) 2^a as (2^a, 2^b). -/
def maskOf (c : Int) : Option (Int × Int) :=
  match c with
  | .ofNat 0 => none
  | .ofNat c =>
    let b := 2 ^ (Nat.log2 c + 1)
    let a := b - c
    cond (Nat.beq (2 ^ Nat.log2 a) a) (some (a, b)) none
  | _ => none

theorem bv_and {w : Nat} (x y : Int) : ((BitVec.ofInt w x &&& BitVec.ofInt w y).toNat : Int) = (((x % 2 ^ w).toNat &&& (y % 2 ^ w).toNat : Nat) : Int) := by
  rw [BitVec.toNat_and, BitVec.toNat_ofInt, BitVec.toNat_ofInt]
  congr
theorem bv_or {w : Nat} (x y : Int) : ((BitVec.ofInt w x ||| BitVec.ofInt w y).toNat : Int) = (((x % 2 ^ w).toNat ||| (y % 2 ^ w).toNat : Nat) : Int) := by
  rw [BitVec.toNat_or, BitVec.toNat_ofInt, BitVec.toNat_ofInt]
  congr

theorem and_mask (x a b : Nat) (hab : a ≤ b) : x &&& (2 ^ b - 2 ^ a) = 2 ^ a * (x / 2 ^ a) - 2 ^ b * (x / 2 ^ b) := by
  have e1 : 2 ^ b - 2 ^ a = 2 ^ a * (2 ^ (b - a) - 1) := by
    rw [Nat.mul_sub, ← Nat.pow_add, Nat.mul_one]; congr 2; omega
  have e2 : x &&& (2 ^ b - 2 ^ a) = 2 ^ a * (x / 2 ^ a % 2 ^ (b - a)) := by
    rw [e1]
    apply Nat.eq_of_testBit_eq
    intro i
    rw [Nat.testBit_and, Nat.mul_comm (2 ^ a) (2 ^ (b - a) - 1), Nat.mul_comm (2 ^ a), Nat.testBit_mul_two_pow, Nat.testBit_mul_two_pow, Nat.testBit_two_pow_sub_one, Nat.testBit_mod_two_pow, Nat.testBit_div_two_pow]
    by_cases h : a ≤ i
    · simp only [h, decide_true, Bool.true_and]
      rw [show i - a + a = i by omega, Bool.and_comm]
    · simp [h]
  rw [e2]
  have e3 : x / 2 ^ b = x / 2 ^ a / 2 ^ (b - a) := by
    rw [Nat.div_div_eq_div_mul, ← Nat.pow_add]; congr 2; omega
  have e4 : 2 ^ b = 2 ^ a * 2 ^ (b - a) := by rw [← Nat.pow_add]; congr 1; omega
  have e5 := Nat.div_add_mod (x / 2 ^ a) (2 ^ (b - a))
  rw [e3, e4, Nat.mul_assoc, ← Nat.mul_sub]
  congr 1
  omega

theorem maskOf_spec {c a b : Int} (h : maskOf c = some (a, b)) : ∃ i j : Nat, i ≤ j ∧ a = 2 ^ i ∧ b = 2 ^ j ∧ c = b - a ∧ 0 < a ∧ 0 < b := by
  unfold maskOf at h
  split at h
  · cases h
  · rename_i c hc
    have hc0 : c ≠ 0 := fun e => hc (by rw [e])
    cases hb : Nat.beq (2 ^ Nat.log2 (2 ^ (Nat.log2 c + 1) - c)) (2 ^ (Nat.log2 c + 1) - c) with
    | false => simp [hb] at h
    | true =>
      simp only [hb, cond_true, Option.some.injEq, Prod.mk.injEq] at h
      obtain ⟨rfl, rfl⟩ := h
      have e := Nat.eq_of_beq_eq_true hb
      have hlt : c < 2 ^ (Nat.log2 c + 1) := Nat.lt_log2_self
      have hp : 0 < 2 ^ Nat.log2 (2 ^ (Nat.log2 c + 1) - c) := Nat.two_pow_pos _
      refine ⟨Nat.log2 (2 ^ (Nat.log2 c + 1) - c), Nat.log2 c + 1, ?_, ?_, ?_, ?_, ?_, ?_⟩
      · rcases Nat.lt_or_ge (Nat.log2 c + 1) (Nat.log2 (2 ^ (Nat.log2 c + 1) - c)) with hh | hh
        · have := Nat.pow_lt_pow_right (a := 2) (by omega) hh
          omega
        · exact hh
      · rw [← e]; simp
      · simp
      · have : ((2 ^ (Nat.log2 c + 1) - c : Nat) : Int) = ((2 ^ (Nat.log2 c + 1) : Nat) : Int) - (c : Int) := by omega
        simp only [Int.ofNat_eq_natCast]
        omega
      · omega
      · have : 0 < 2 ^ (Nat.log2 c + 1) := Nat.two_pow_pos _
        omega
  · cases h

/-- 'x & mask' for an unsigned x. -/
def andM (x : IV) (a b : Int) : M IV :=
  bind (divM x a) fun p => bind (divM x b) fun q =>
    pure ⟨(p.l.smul a).sub (q.l.smul b), cond (q.lo == q.hi) (a * p.lo - b * q.lo) 0, cond (q.lo == q.hi) (a * p.hi - b * q.lo) (b - a)⟩

theorem andM_snd {x : IV} {i j : Nat} (hij : i ≤ j) (hx : x.ok n ρ) (h0 : 0 ≤ x.lo) : Snd S L (andM x (2 ^ i) (2 ^ j)) n ρ fun ρ' n' q => q.ok n' ρ' ∧ q.l.den ρ' = ((x.l.den ρ).toNat &&& (2 ^ j - 2 ^ i) : Nat) := by
  have hi : (0 : Int) < 2 ^ i := by have := Nat.two_pow_pos i; exact_mod_cast this
  have hj : (0 : Int) < 2 ^ j := by have := Nat.two_pow_pos j; exact_mod_cast this
  refine (divM_snd hi hx).bind fun ρ1 n1 p hn1 ha1 ⟨hp, ep, _, _⟩ => ?_
  refine (divM_snd hj (hx.agree ha1 hn1)).bind fun ρ2 n2 q hn2 ha2 ⟨hq, eq, _, _⟩ => Snd.pure ?_
  rw [Lin.den_agree ha1 hx.1] at eq
  have hp2 := hp.agree ha2 hn2
  have ep2 : p.l.den ρ2 = x.l.den ρ / 2 ^ i := by rw [Lin.den_agree ha2 hp.1, ep]
  obtain ⟨X, hX⟩ := Int.eq_ofNat_of_zero_le (show 0 ≤ x.l.den ρ by have := hx.2.1; omega)
  have e : ((p.l.smul (2 ^ i)).sub (q.l.smul (2 ^ j))).den ρ2 = ((x.l.den ρ).toNat &&& (2 ^ j - 2 ^ i) : Nat) := by
    rw [Lin.den_sub, Lin.den_smul, Lin.den_smul, ep2, eq, hX, Int.toNat_natCast, and_mask X i j hij]
    have h1 : 2 ^ j * (X / 2 ^ j) ≤ 2 ^ i * (X / 2 ^ i) := by
      have e3 : X / 2 ^ j = X / 2 ^ i / 2 ^ (j - i) := by rw [Nat.div_div_eq_div_mul, ← Nat.pow_add]; congr 2; omega
      have e4 : 2 ^ j = 2 ^ i * 2 ^ (j - i) := by rw [← Nat.pow_add]; congr 1; omega
      rw [e3]
      conv => lhs; rw [e4, Nat.mul_assoc]
      exact Nat.mul_le_mul_left _ (Nat.mul_div_le _ _)
    rw [Int.ofNat_sub h1]
    simp
  refine ⟨⟨Lin.sc_sub (Lin.sc_smul hp2.1) (Lin.sc_smul hq.1), ?_, ?_⟩, e⟩
  · cases hc : (q.lo == q.hi) with
    | true =>
      have hc : q.lo = q.hi := by simpa using hc
      have h1 : q.l.den ρ2 = q.lo := by have := hq.2; omega
      simp only [cond_true, Lin.den_sub, Lin.den_smul, h1]
      have := Int.mul_le_mul_of_nonneg_left hp2.2.1 (Int.le_of_lt hi); omega
    | false => simp only [cond_false, e]; omega
  · cases hc : (q.lo == q.hi) with
    | true =>
      have hc : q.lo = q.hi := by simpa using hc
      have h1 : q.l.den ρ2 = q.lo := by have := hq.2; omega
      simp only [cond_true, Lin.den_sub, Lin.den_smul, h1]
      have := Int.mul_le_mul_of_nonneg_left hp2.2.2 (Int.le_of_lt hi); omega
    | false =>
      simp only [cond_false, e]
      have h2 : (x.l.den ρ).toNat &&& (2 ^ j - 2 ^ i) ≤ 2 ^ j - 2 ^ i := Nat.and_le_right
      have h3 : 2 ^ i ≤ 2 ^ j := Nat.pow_le_pow_right (by omega) hij
      have h4 : ((2 ^ j - 2 ^ i : Nat) : Int) = 2 ^ j - 2 ^ i := by rw [Int.ofNat_sub h3]; simp
      omega
end
end Go.Rx
