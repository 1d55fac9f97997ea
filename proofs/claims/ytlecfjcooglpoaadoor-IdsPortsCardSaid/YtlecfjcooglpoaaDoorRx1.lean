/- The base of a symbolic evaluator of the model's code: linear forms over unknown integers, with bounds; trees of conditions. -/
import Derived.WalkKit
namespace Go.Rx

/-- What the unknowns stand for. -/
abbrev Env := Nat → Int
def upd (ρ : Env) (n : Nat) (z : Int) : Env := fun i => cond (Nat.beq i n) z (ρ i)
def updL (ρ : Env) : Nat → List Int → Env
  | _, [] => ρ
  | n, z :: zs => updL (upd ρ n z) (n + 1) zs
def agree (n : Nat) (ρ ρ' : Env) : Prop := ∀ i, i < n → ρ' i = ρ i

theorem agree.refl (n : Nat) (ρ : Env) : agree n ρ ρ := fun _ _ => rfl
theorem agree.trans {n n' : Nat} {ρ ρ' ρ'' : Env} (h : agree n ρ ρ') (h' : agree n' ρ' ρ'') (hn : n ≤ n') : agree n ρ ρ'' :=
  fun i hi => (h' i (by omega)).trans (h i hi)
theorem agree.mono {n n' : Nat} {ρ ρ' : Env} (h : agree n' ρ ρ') (hn : n ≤ n') : agree n ρ ρ' := fun i hi => h i (by omega)
theorem upd_same (ρ : Env) (n : Nat) (z : Int) : upd ρ n z n = z := by simp [upd]
theorem upd_ne (ρ : Env) {n i : Nat} (z : Int) (h : i ≠ n) : upd ρ n z i = ρ i := by
  unfold upd
  cases hb : Nat.beq i n with
  | false => rfl
  | true => exact absurd (Nat.eq_of_beq_eq_true hb) h
theorem agree.upd (n : Nat) (ρ : Env) (z : Int) : agree n ρ (upd ρ n z) := fun i hi => upd_ne ρ z (by omega)
theorem agree.updL : ∀ (zs : List Int) (n : Nat) (ρ : Env), agree n ρ (updL ρ n zs)
  | [], n, ρ => agree.refl n ρ
  | z :: zs, n, ρ => (agree.upd n ρ z).trans (agree.updL zs (n + 1) _) (by omega)

/-- A linear form: a constant, and coefficients of unknowns. -/
structure Lin where
  c : Int
  ts : List (Int × Nat)

def denT (ρ : Env) : List (Int × Nat) → Int
  | [] => 0
  | (k, i) :: r => k * ρ i + denT ρ r
def Lin.den (ρ : Env) (l : Lin) : Int := denT ρ l.ts + l.c

def insT (k : Int) (i : Nat) : List (Int × Nat) → List (Int × Nat)
  | [] => [(k, i)]
  | (k', j) :: r => cond (Nat.blt i j) ((k, i) :: (k', j) :: r) (cond (Nat.beq i j) (cond (k + k' == 0) r ((k + k', i) :: r)) ((k', j) :: insT k i r))
def addT : List (Int × Nat) → List (Int × Nat) → List (Int × Nat)
  | [], l => l
  | (k, i) :: r, l => insT k i (addT r l)
def smulT (m : Int) : List (Int × Nat) → List (Int × Nat)
  | [] => []
  | (k, i) :: r => (m * k, i) :: smulT m r

theorem denT_insT (ρ : Env) (k : Int) (i : Nat) : ∀ l, denT ρ (insT k i l) = k * ρ i + denT ρ l
  | [] => rfl
  | (k', j) :: r => by
    unfold insT
    cases h1 : Nat.blt i j with
    | true => rfl
    | false =>
      cases h2 : Nat.beq i j with
      | true =>
        have e : i = j := Nat.eq_of_beq_eq_true h2
        subst e
        cases h3 : (k + k' == 0) with
        | true =>
          have h3 : k + k' = 0 := by simpa using h3
          simp only [cond_true, cond_false, denT]
          rw [← Int.add_assoc, ← Int.add_mul, h3]; simp
        | false => simp only [cond_true, cond_false, denT]; rw [Int.add_mul]; omega
      | false => simp only [cond_false, denT, denT_insT ρ k i r]; omega
theorem denT_addT (ρ : Env) : ∀ l l', denT ρ (addT l l') = denT ρ l + denT ρ l'
  | [], l' => by simp [addT, denT]
  | (k, i) :: r, l' => by simp only [addT, denT_insT, denT, denT_addT ρ r l']; omega
theorem denT_smulT (ρ : Env) (m : Int) : ∀ l, denT ρ (smulT m l) = m * denT ρ l
  | [] => by simp [smulT, denT]
  | (k, i) :: r => by simp only [smulT, denT, denT_smulT ρ m r]; rw [Int.mul_add, Int.mul_assoc]

def scT (n : Nat) (l : List (Int × Nat)) : Prop := ∀ t ∈ l, t.2 < n
theorem scT.mono {n n' : Nat} {l} (h : scT n l) (hn : n ≤ n') : scT n' l := fun t ht => Nat.lt_of_lt_of_le (h t ht) hn
theorem scT_insT {n : Nat} {k : Int} {i : Nat} (hi : i < n) : ∀ {l}, scT n l → scT n (insT k i l)
  | [], _ => by intro t ht; simp [insT] at ht; subst ht; exact hi
  | (k', j) :: r, h => by
    have hr : scT n r := fun t ht => h t (List.mem_cons_of_mem _ ht)
    have hj : j < n := h (k', j) (by simp)
    have ih := scT_insT (k := k) hi hr
    unfold insT
    intro t ht
    cases h1 : Nat.blt i j <;> cases h2 : Nat.beq i j <;> cases h3 : (k + k' == 0) <;> simp only [h1, h2, h3, cond_true, cond_false, List.mem_cons] at ht <;>
      first
      | (rcases ht with rfl | ht <;> first | exact hi | exact hj | (exact hr t ht) | (exact ih t ht) | (rcases ht with rfl | ht <;> first | exact hj | exact hr t ht))
      | exact hr t ht
theorem scT_addT {n : Nat} : ∀ {l l'}, scT n l → scT n l' → scT n (addT l l')
  | [], _, _, h' => h'
  | (k, i) :: r, _, h, h' => scT_insT (k := k) (i := i) (h (k, i) (by simp)) (scT_addT (l := r) (fun t ht => h t (List.mem_cons_of_mem _ ht)) h')
theorem scT_smulT {n : Nat} {m : Int} : ∀ {l}, scT n l → scT n (smulT m l)
  | [], _ => fun t ht => by simp [smulT] at ht
  | (k, i) :: r, h => by
    intro t ht
    simp only [smulT, List.mem_cons] at ht
    rcases ht with rfl | ht
    · exact h (k, i) (by simp)
    · exact scT_smulT (fun t ht => h t (List.mem_cons_of_mem _ ht)) t ht
theorem denT_agree {n : Nat} {ρ ρ' : Env} (h : agree n ρ ρ') : ∀ {l}, scT n l → denT ρ' l = denT ρ l
  | [], _ => rfl
  | (k, i) :: r, hs => by
    simp only [denT, h i (hs (k, i) (by simp)), denT_agree h (l := r) (fun t ht => hs t (List.mem_cons_of_mem _ ht))]

namespace Lin
def const (c : Int) : Lin := ⟨c, []⟩
def var (n : Nat) : Lin := ⟨0, [(1, n)]⟩
def add (a b : Lin) : Lin := ⟨a.c + b.c, addT a.ts b.ts⟩
def smul (m : Int) (a : Lin) : Lin := cond (m == 0) ⟨0, []⟩ ⟨m * a.c, smulT m a.ts⟩
def sub (a b : Lin) : Lin := a.add (b.smul (-1))
def isC (a : Lin) : Option Int := match a.ts with | [] => some a.c | _ => none
def sc (n : Nat) (a : Lin) : Prop := scT n a.ts
def beqT : List (Int × Nat) → List (Int × Nat) → Bool
  | [], [] => true
  | (k, i) :: r, (k', i') :: r' => k == k' && Nat.beq i i' && beqT r r'
  | _, _ => false
def beq (a b : Lin) : Bool := a.c == b.c && beqT a.ts b.ts
theorem beqT_eq : ∀ {a b}, beqT a b = true → a = b
  | [], [], _ => rfl
  | (k, i) :: r, (k', i') :: r', h => by
    simp only [beqT, Bool.and_eq_true, beq_iff_eq] at h
    obtain ⟨⟨h1, h2⟩, h3⟩ := h
    rw [h1, Nat.eq_of_beq_eq_true h2, beqT_eq h3]
  | [], _ :: _, h => by simp [beqT] at h
  | _ :: _, [], h => by simp [beqT] at h
theorem beq_eq {a b : Lin} (h : beq a b = true) : a = b := by
  simp only [beq, Bool.and_eq_true, beq_iff_eq] at h
  cases a; cases b
  simp only at h
  rw [h.1, beqT_eq h.2]
theorem den_const (ρ : Env) (c : Int) : (const c).den ρ = c := by simp [const, den, denT]
theorem den_var (ρ : Env) (n : Nat) : (var n).den ρ = ρ n := by simp [var, den, denT]
theorem den_add (ρ : Env) (a b : Lin) : (a.add b).den ρ = a.den ρ + b.den ρ := by simp only [add, den, denT_addT]; omega
theorem den_smul (ρ : Env) (m : Int) (a : Lin) : (a.smul m).den ρ = m * a.den ρ := by
  unfold smul
  cases h : (m == 0) with
  | true => have h : m = 0 := by simpa using h
            subst h; simp [den, denT]
  | false => simp only [cond_false, den, denT_smulT, Int.mul_add]
theorem den_sub (ρ : Env) (a b : Lin) : (a.sub b).den ρ = a.den ρ - b.den ρ := by simp only [sub, den_add, den_smul]; omega
theorem den_isC {ρ : Env} {a : Lin} {c : Int} (h : a.isC = some c) : a.den ρ = c := by
  unfold isC at h
  cases ha : a.ts with
  | nil => simp [ha] at h; simp [den, ha, denT, h]
  | cons x r => simp [ha] at h
theorem sc_const (n : Nat) (c : Int) : (const c).sc n := fun t ht => by simp [const] at ht
theorem sc_var {n i : Nat} (h : i < n) : (var i).sc n := fun t ht => by simp [var] at ht; subst ht; exact h
theorem sc_add {n : Nat} {a b : Lin} (ha : a.sc n) (hb : b.sc n) : (a.add b).sc n := scT_addT ha hb
theorem sc_smul {n : Nat} {m : Int} {a : Lin} (ha : a.sc n) : (a.smul m).sc n := by
  unfold smul
  cases (m == 0) with
  | true => exact fun t ht => by simp at ht
  | false => exact scT_smulT ha
theorem sc_sub {n : Nat} {a b : Lin} (ha : a.sc n) (hb : b.sc n) : (a.sub b).sc n := sc_add ha (sc_smul hb)
theorem sc.mono {n n' : Nat} {a : Lin} (h : a.sc n) (hn : n ≤ n') : a.sc n' := scT.mono h hn
theorem den_agree {n : Nat} {ρ ρ' : Env} (h : agree n ρ ρ') {a : Lin} (ha : a.sc n) : a.den ρ' = a.den ρ := by simp only [den, denT_agree h ha]
end Lin

/-- A linear form, and where it lies. -/
structure IV where
  l : Lin
  lo : Int
  hi : Int
def IV.ok (n : Nat) (ρ : Env) (x : IV) : Prop := x.l.sc n ∧ x.lo ≤ x.l.den ρ ∧ x.l.den ρ ≤ x.hi
theorem IV.ok.agree {n n' : Nat} {ρ ρ' : Env} {x : IV} (h : x.ok n ρ) (ha : agree n ρ ρ') (hn : n ≤ n') : x.ok n' ρ' :=
  ⟨h.1.mono hn, by rw [Lin.den_agree ha h.1]; exact h.2.1, by rw [Lin.den_agree ha h.1]; exact h.2.2⟩
def IV.const (c : Int) : IV := ⟨.const c, c, c⟩
theorem IV.const_ok (n : Nat) (ρ : Env) (c : Int) : (IV.const c).ok n ρ := ⟨Lin.sc_const n c, by simp [IV.const, Lin.den_const], by simp [IV.const, Lin.den_const]⟩

/-- A truth value. -/
inductive BE where
  | lit (b : Bool)
  | eq (a b : Lin)
  | lt (a b : Lin)
  | le (a b : Lin)
  | not (a : BE)
  | and (a b : BE)
  | iff (a b : BE)
namespace BE
def den (ρ : Env) : BE → Bool
  | lit b => b
  | eq a b => decide (a.den ρ = b.den ρ)
  | lt a b => decide (a.den ρ < b.den ρ)
  | le a b => decide (a.den ρ ≤ b.den ρ)
  | not a => !a.den ρ
  | and a b => a.den ρ && b.den ρ
  | iff a b => a.den ρ == b.den ρ
def sc (n : Nat) : BE → Prop
  | lit _ => True
  | eq a b | lt a b | le a b => a.sc n ∧ b.sc n
  | not a => a.sc n
  | and a b => a.sc n ∧ b.sc n
  | iff a b => a.sc n ∧ b.sc n
theorem sc.mono {n n' : Nat} (hn : n ≤ n') : ∀ {b : BE}, b.sc n → b.sc n'
  | lit _, _ => trivial
  | eq _ _, h | lt _ _, h | le _ _, h => ⟨h.1.mono hn, h.2.mono hn⟩
  | not a, h => sc.mono (b := a) hn h
  | and a b, h => ⟨sc.mono (b := a) hn h.1, sc.mono (b := b) hn h.2⟩
  | iff a b, h => ⟨sc.mono (b := a) hn h.1, sc.mono (b := b) hn h.2⟩
theorem den_agree {n : Nat} {ρ ρ' : Env} (ha : agree n ρ ρ') : ∀ {b : BE}, b.sc n → b.den ρ' = b.den ρ
  | lit _, _ => rfl
  | eq _ _, h | lt _ _, h | le _ _, h => by simp only [den, Lin.den_agree ha h.1, Lin.den_agree ha h.2]
  | not a, h => by simp only [den, den_agree (b := a) ha h]
  | and a b, h => by simp only [den, den_agree (b := a) ha h.1, den_agree (b := b) ha h.2]
  | iff a b, h => by simp only [den, den_agree (b := a) ha h.1, den_agree (b := b) ha h.2]
def beq : BE → BE → Bool
  | lit a, lit b => a == b
  | eq a b, eq c d | lt a b, lt c d | le a b, le c d => Lin.beq a c && Lin.beq b d
  | not a, not b => beq a b
  | and a b, and c d | iff a b, iff c d => beq a c && beq b d
  | _, _ => false
theorem beq_eq : ∀ {a b : BE}, beq a b = true → a = b
  | lit a, b, h => by cases b <;> simp [beq] at h; rw [h]
  | eq a b, c, h => by cases c <;> simp [beq] at h; rw [Lin.beq_eq h.1, Lin.beq_eq h.2]
  | lt a b, c, h => by cases c <;> simp [beq] at h; rw [Lin.beq_eq h.1, Lin.beq_eq h.2]
  | le a b, c, h => by cases c <;> simp [beq] at h; rw [Lin.beq_eq h.1, Lin.beq_eq h.2]
  | not a, c, h => by cases c <;> simp [beq] at h; rw [beq_eq h]
  | and a b, c, h => by cases c <;> simp [beq] at h; rw [beq_eq h.1, beq_eq h.2]
  | iff a b, c, h => by cases c <;> simp [beq] at h; rw [beq_eq h.1, beq_eq h.2]
/-- Negation and conjunction, literals folded. -/
def mkNot : BE → BE
  | lit b => lit (!b)
  | not a => a
  | a => not a
def mkAnd : BE → BE → BE
  | lit true, b => b
  | lit false, _ => lit false
  | a, lit true => a
  | a, lit false => cond true (lit false) a
  | a, b => and a b
def mkIff (a b : BE) : BE :=
  match a with
  | lit true => b
  | lit false => mkNot b
  | _ => match b with
    | lit true => a
    | lit false => mkNot a
    | _ => cond (beq a b) (lit true) (iff a b)
theorem den_mkNot (ρ : Env) (a : BE) : (mkNot a).den ρ = !a.den ρ := by cases a <;> simp [mkNot, den]
theorem sc_mkNot {n : Nat} {a : BE} (h : a.sc n) : (mkNot a).sc n := by cases a <;> exact h
theorem den_mkAnd (ρ : Env) (a b : BE) : (mkAnd a b).den ρ = (a.den ρ && b.den ρ) := by
  unfold mkAnd; split <;> simp [den]
theorem sc_mkAnd {n : Nat} {a b : BE} (ha : a.sc n) (hb : b.sc n) : (mkAnd a b).sc n := by
  unfold mkAnd; split <;> first | exact hb | exact ha | trivial | exact ⟨ha, hb⟩
theorem den_mkIff (ρ : Env) (a b : BE) : (mkIff a b).den ρ = (a.den ρ == b.den ρ) := by
  unfold mkIff
  split
  · simp [den]
  · rw [den_mkNot]; simp [den]
  · split
    · simp [den]
    · rw [den_mkNot]; simp [den]
    · cases h : beq a b with
      | true => have := beq_eq h; subst this; simp [den]
      | false => rfl
theorem sc_mkIff {n : Nat} {a b : BE} (ha : a.sc n) (hb : b.sc n) : (mkIff a b).sc n := by
  unfold mkIff
  split
  · exact hb
  · exact sc_mkNot hb
  · split
    · exact ha
    · exact sc_mkNot ha
    · cases beq a b with
      | true => trivial
      | false => exact ⟨ha, hb⟩
/-- Decided by the bounds, where they can. -/
def foldB (d : Lin) (f : Int → Bool) (e : BE) : BE := match d.isC with | some c => lit (f c) | none => e
def mkLt (a b : IV) : BE := cond (decide (a.hi < b.lo)) (lit true) (cond (decide (b.hi ≤ a.lo)) (lit false) (foldB (a.l.sub b.l) (fun c => decide (c < 0)) (lt a.l b.l)))
def mkLe (a b : IV) : BE := cond (decide (a.hi ≤ b.lo)) (lit true) (cond (decide (b.hi < a.lo)) (lit false) (foldB (a.l.sub b.l) (fun c => decide (c ≤ 0)) (le a.l b.l)))
def mkEq (a b : IV) : BE := cond (decide (a.hi < b.lo)) (lit false) (cond (decide (b.hi < a.lo)) (lit false) (cond (a.lo == a.hi && b.lo == b.hi && a.lo == b.lo) (lit true) (cond (Lin.beq a.l b.l) (lit true) (foldB (a.l.sub b.l) (fun c => decide (c = 0)) (eq a.l b.l)))))
theorem den_foldB {n : Nat} {ρ : Env} {d : Lin} {f : Int → Bool} {e : BE} (h : e.den ρ = f (d.den ρ)) (hs : e.sc n) : (foldB d f e).den ρ = e.den ρ ∧ (foldB d f e).sc n := by
  unfold foldB
  split
  · rename_i c hc
    exact ⟨by rw [h, Lin.den_isC hc]; rfl, trivial⟩
  · exact ⟨rfl, hs⟩
theorem den_mkLt {n : Nat} {ρ : Env} {a b : IV} (ha : a.ok n ρ) (hb : b.ok n ρ) : (mkLt a b).den ρ = decide (a.l.den ρ < b.l.den ρ) ∧ (mkLt a b).sc n := by
  have h1 := ha.2; have h2 := hb.2
  unfold mkLt
  by_cases c1 : a.hi < b.lo
  · simp only [decide_eq_true c1, cond_true, den, sc, and_true]; symm; simp; omega
  · by_cases c2 : b.hi ≤ a.lo
    · simp only [decide_eq_false c1, decide_eq_true c2, cond_true, cond_false, den, sc, and_true]; symm; simp; omega
    · simp only [decide_eq_false c1, decide_eq_false c2, cond_false]
      have := den_foldB (n := n) (ρ := ρ) (d := a.l.sub b.l) (f := fun c => decide (c < 0)) (e := lt a.l b.l) (by simp only [den, Lin.den_sub]; congr 1; simp; omega) ⟨ha.1, hb.1⟩
      exact ⟨this.1, this.2⟩
theorem den_mkLe {n : Nat} {ρ : Env} {a b : IV} (ha : a.ok n ρ) (hb : b.ok n ρ) : (mkLe a b).den ρ = decide (a.l.den ρ ≤ b.l.den ρ) ∧ (mkLe a b).sc n := by
  have h1 := ha.2; have h2 := hb.2
  unfold mkLe
  by_cases c1 : a.hi ≤ b.lo
  · simp only [decide_eq_true c1, cond_true, den, sc, and_true]; symm; simp; omega
  · by_cases c2 : b.hi < a.lo
    · simp only [decide_eq_false c1, decide_eq_true c2, cond_true, cond_false, den, sc, and_true]; symm; simp; omega
    · simp only [decide_eq_false c1, decide_eq_false c2, cond_false]
      have := den_foldB (n := n) (ρ := ρ) (d := a.l.sub b.l) (f := fun c => decide (c ≤ 0)) (e := le a.l b.l) (by simp only [den, Lin.den_sub]; congr 1; simp; omega) ⟨ha.1, hb.1⟩
      exact ⟨this.1, this.2⟩
theorem den_mkEq {n : Nat} {ρ : Env} {a b : IV} (ha : a.ok n ρ) (hb : b.ok n ρ) : (mkEq a b).den ρ = decide (a.l.den ρ = b.l.den ρ) ∧ (mkEq a b).sc n := by
  have h1 := ha.2; have h2 := hb.2
  unfold mkEq
  by_cases c1 : a.hi < b.lo
  · simp only [decide_eq_true c1, cond_true, den, sc, and_true]; symm; simp; omega
  · by_cases c2 : b.hi < a.lo
    · simp only [decide_eq_false c1, decide_eq_true c2, cond_true, cond_false, den, sc, and_true]; symm; simp; omega
    · cases c3 : (a.lo == a.hi && b.lo == b.hi && a.lo == b.lo) with
      | true =>
        simp only [Bool.and_eq_true, beq_iff_eq] at c3
        simp only [decide_eq_false c1, decide_eq_false c2, cond_false, cond_true, den, sc, and_true]; symm; simp; omega
      | false =>
        cases c4 : Lin.beq a.l b.l with
        | true => simp only [decide_eq_false c1, decide_eq_false c2, cond_false, cond_true, den, sc, and_true, Lin.beq_eq c4]; simp
        | false =>
          simp only [decide_eq_false c1, decide_eq_false c2, cond_false]
          have := den_foldB (n := n) (ρ := ρ) (d := a.l.sub b.l) (f := fun c => decide (c = 0)) (e := eq a.l b.l) (by simp only [den, Lin.den_sub]; congr 1; simp; omega) ⟨ha.1, hb.1⟩
          exact ⟨this.1, this.2⟩
end BE
end Go.Rx
