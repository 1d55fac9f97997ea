/- Contracts: calls answered by what is known of them; the sums and products of words. -/
import Derived.Test.YtlecfjcooglpoaaDoorRx10
set_option linter.unusedVariables false
set_option linter.unusedSimpArgs false
namespace Go.Rx
open M

def CK.sym (s : Nat) : CK → A
  | int k lo hi => .int k ⟨.var s, lo, hi⟩
  | str => .str (.var s)
  | bool => .bool (.eq (.var s) (.const 1))
/-- The shape of a value made of integers and truth values (a truth value: 0 or 1). -/
inductive D where
  | str
  | int (k : IntKind) (lo hi : Int)
  | bool
  | agg (k : IntKind) (n : Nat) (lo hi : Int)
  | mix (l : List CK)
  | strk (l : List UInt8)
def repB (lo hi : Int) : Nat → List (Int × Int)
  | 0 => []
  | n + 1 => (lo, hi) :: repB lo hi n
noncomputable def D.bds : D → List (Int × Int)
  | str => [(0, HB)]
  | int _ lo hi => [(lo, hi)]
  | bool => [(0, 1)]
  | agg _ n lo hi => repB lo hi n
  | mix l => l.map CK.bd
  | strk _ => []
def D.num : D → Nat
  | str => 1
  | int .. => 1
  | bool => 1
  | agg _ n _ _ => n
  | mix l => l.length
  | strk _ => 0
def D.val : D → List Int → Value
  | str, zs => .string (bA (sOf (zs.getD 0 0)))
  | int k _ _, zs => .int k (zs.getD 0 0)
  | bool, zs => .bool (decide (zs.getD 0 0 = 1))
  | agg k n _ _, zs => .agg ((zs.take n).map (.int k)).toArray
  | mix l, zs => .agg (List.zipWith CK.val l zs).toArray
  | strk l, _ => .string (bA (kL l))
/-- The same with unknowns from n on. -/
def repA (k : IntKind) (lo hi : Int) : Nat → Nat → List A
  | _, 0 => []
  | s, n + 1 => .int k ⟨.var s, lo, hi⟩ :: repA k lo hi (s + 1) n
def mixA : Nat → List CK → List A
  | _, [] => []
  | s, c :: r => c.sym s :: mixA (s + 1) r
def D.sym (s : Nat) : D → W
  | str => .one (.str (.var s))
  | int k lo hi => .one (.int k ⟨.var s, lo, hi⟩)
  | bool => .one (.bool (.eq (.var s) (.const 1)))
  | agg k n lo hi => .agg (repA k lo hi s n)
  | mix l => .agg (mixA s l)
  | strk l => .one (.str (.const (cOf (kL l))))
noncomputable def bdsL : List D → List (Int × Int)
  | [] => []
  | d :: r => d.bds ++ bdsL r
def valL : List D → List Int → List Value
  | [], _ => []
  | d :: r, zs => d.val zs :: valL r (zs.drop d.num)
def symL : Nat → List D → List W
  | _, [] => []
  | s, d :: r => d.sym s :: symL (s + d.num) r

theorem inB_len : ∀ {b : List (Int × Int)} {l : List Int}, inB b l → l.length = b.length
  | [], [], _ => rfl
  | _ :: _, _ :: _, h => by simp [inB_len h.2.2]
  | [], _ :: _, h => h.elim
  | _ :: _, [], h => h.elim
theorem repB_len (lo hi : Int) : ∀ n, (repB lo hi n).length = n
  | 0 => rfl
  | n + 1 => by simp [repB, repB_len lo hi n]
theorem D.bds_len (d : D) : d.bds.length = d.num := by cases d <;> simp [D.bds, D.num, repB_len]
theorem inB_split : ∀ {b b' : List (Int × Int)} {l : List Int}, inB (b ++ b') l → inB b (l.take b.length) ∧ inB b' (l.drop b.length)
  | [], _, _, h => ⟨trivial, h⟩
  | _ :: _, _, _ :: _, h => by
    have ih := inB_split h.2.2
    exact ⟨⟨h.1, h.2.1, ih.1⟩, ih.2⟩
  | _ :: _, _, [], h => h.elim

/-- At the environment where the unknowns from s on are zs. -/
def At (ρ : Env) (s : Nat) (zs : List Int) : Prop := ∀ j, j < zs.length → ρ (s + j) = zs.getD j 0
theorem At.updL (ρ : Env) (s : Nat) (zs : List Int) : At (updL ρ s zs) s zs := fun j hj => updL_ge zs s ρ j hj
theorem At.tail {ρ : Env} {s : Nat} {z : Int} {zs : List Int} (h : At ρ s (z :: zs)) : ρ s = z ∧ At ρ (s + 1) zs := by
  refine ⟨by simpa using h 0 (by simp), fun j hj => ?_⟩
  have := h (j + 1) (by simpa using hj)
  rw [show s + 1 + j = s + (j + 1) by omega, this]; simp
theorem At.drop {ρ : Env} {s : Nat} {zs : List Int} (h : At ρ s zs) (k : Nat) : At ρ (s + k) (zs.drop k) := fun j hj => by
  have := h (k + j) (by simp at hj; omega)
  rw [show s + k + j = s + (k + j) by omega, this]
  simp [List.getD]

theorem repA_spec {ρ : Env} {m : Nat → Nat} {N nb : Nat} {k : IntKind} {lo hi : Int} : ∀ (n s : Nat) (zs : List Int), inB (repB lo hi n) (zs.take n) → At ρ s zs → s + n ≤ N →
    (∀ a ∈ repA k lo hi s n, A.ok N nb ρ a) ∧ (repA k lo hi s n).map (A.den ρ m) = (zs.take n).map (.int k)
  | 0, s, zs, _, _, _ => by simp [repA]
  | n + 1, s, [], h, _, _ => by simp [repB, inB] at h
  | n + 1, s, z :: zs, h, ha, hN => by
    have ht := ha.tail
    simp only [repB, List.take_succ_cons, inB] at h
    obtain ⟨h1, h2⟩ := repA_spec (m := m) (nb := nb) (k := k) (N := N) n (s + 1) zs h.2.2 ht.2 (by omega)
    refine ⟨fun a hm => ?_, by simp only [repA, List.map_cons, A.den, Lin.den_var, ht.1, h2, List.take_succ_cons]⟩
    rcases List.mem_cons.1 hm with rfl | hm
    · exact ⟨Lin.sc_var (by omega), by simp only [Lin.den_var, ht.1]; exact h.1, by simp only [Lin.den_var, ht.1]; exact h.2.1⟩
    · exact h1 a hm
theorem CK.sym_spec {ρ : Env} {m : Nat → Nat} {N nb : Nat} (c : CK) {s : Nat} {z : Int} (h0 : c.bd.1 ≤ z) (h1 : z ≤ c.bd.2) (hz : ρ s = z) (hN : s < N) : (c.sym s).ok N nb ρ ∧ (c.sym s).den ρ m = c.val z := by
  cases c with
  | int k lo hi => exact ⟨⟨Lin.sc_var hN, by simp only [Lin.den_var, hz]; exact h0, by simp only [Lin.den_var, hz]; exact h1⟩, by simp [CK.sym, CK.val, A.den, Lin.den_var, hz]⟩
  | str => exact ⟨⟨Lin.sc_var hN, by rw [Lin.den_var, hz]; exact h0, by rw [Lin.den_var, hz]; exact h1⟩, by simp [CK.sym, CK.val, A.den, Lin.den_var, hz]⟩
  | bool => exact ⟨⟨Lin.sc_var hN, Lin.sc_const _ _⟩, by simp [CK.sym, CK.val, A.den, BE.den, Lin.den_var, Lin.den_const, hz]⟩
theorem mixA_spec {ρ : Env} {m : Nat → Nat} {N nb : Nat} : ∀ (l : List CK) (s : Nat) (zs : List Int), inB (l.map CK.bd) (zs.take l.length) → At ρ s zs → s + l.length ≤ N →
    (∀ a ∈ mixA s l, A.ok N nb ρ a) ∧ (mixA s l).map (A.den ρ m) = List.zipWith CK.val l zs
  | [], s, zs, _, _, _ => by simp [mixA]
  | _ :: _, s, [], h, _, _ => by simp [inB] at h
  | c :: r, s, z :: zs, h, ha, hN => by
    have ht := ha.tail
    simp only [List.map_cons, List.length_cons, List.take_succ_cons, inB] at h
    obtain ⟨h1, h2⟩ := mixA_spec (m := m) (nb := nb) (N := N) r (s + 1) zs h.2.2 ht.2 (by simp at hN; omega)
    have hc := c.sym_spec (m := m) (nb := nb) (N := N) h.1 h.2.1 ht.1 (by simp at hN; omega)
    refine ⟨fun a hm => ?_, by simp only [mixA, List.map_cons, hc.2, h2, List.zipWith_cons_cons]⟩
    rcases List.mem_cons.1 hm with rfl | hm
    · exact hc.1
    · exact h1 a hm
theorem D.sym_spec {ρ : Env} {m : Nat → Nat} {N nb : Nat} (d : D) {s : Nat} {zs : List Int} (h : inB d.bds (zs.take d.num)) (ha : At ρ s zs) (hN : s + d.num ≤ N) : (d.sym s).ok N nb ρ ∧ (d.sym s).den ρ m = d.val zs := by
  cases d with
  | str =>
    cases zs with
    | nil => simp [D.bds, inB] at h
    | cons z r =>
      have ht := ha.tail
      simp only [D.bds, D.num, List.take_succ_cons, inB] at h
      simp only [D.num] at hN
      exact ⟨⟨Lin.sc_var (by omega), by rw [Lin.den_var, ht.1]; exact h.1, by rw [Lin.den_var, ht.1]; exact h.2.1⟩, by simp [D.sym, W.den, A.den, D.val, Lin.den_var, ht.1]⟩
  | int k lo hi =>
    cases zs with
    | nil => simp [D.bds, inB] at h
    | cons z r =>
      have ht := ha.tail
      simp only [D.bds, D.num, List.take_succ_cons, inB] at h
      simp only [D.num] at hN
      exact ⟨⟨Lin.sc_var (by omega), by simp only [Lin.den_var, ht.1]; exact h.1, by simp only [Lin.den_var, ht.1]; exact h.2.1⟩, by simp [D.sym, W.den, A.den, D.val, Lin.den_var, ht.1]⟩
  | bool =>
    cases zs with
    | nil => simp [D.bds, inB] at h
    | cons z r =>
      have ht := ha.tail
      simp only [D.num] at hN
      exact ⟨⟨Lin.sc_var (by omega), Lin.sc_const _ _⟩, by simp [D.sym, W.den, A.den, D.val, BE.den, Lin.den_var, Lin.den_const, ht.1]⟩
  | agg k n lo hi =>
    have := repA_spec (m := m) (nb := nb) (k := k) n s zs h ha hN
    exact ⟨this.1, by simp only [D.sym, W.den, D.val, this.2]⟩
  | mix l =>
    have := mixA_spec (m := m) (nb := nb) l s zs h ha hN
    exact ⟨this.1, by simp only [D.sym, W.den, D.val, this.2]⟩
  | strk l => exact ⟨⟨Lin.sc_const _ _, by rw [Lin.den_const]; exact kL_HB l⟩, by simp [D.sym, W.den, A.den, D.val, Lin.den_const, sOf_cOf]⟩
theorem symL_spec {ρ : Env} {m : Nat → Nat} {N nb : Nat} : ∀ (ds : List D) {s : Nat} {zs : List Int}, inB (bdsL ds) zs → At ρ s zs → s + (bdsL ds).length ≤ N → (∀ u ∈ symL s ds, W.ok N nb ρ u) ∧ (symL s ds).map (W.den ρ m) = valL ds zs
  | [], s, zs, _, _, _ => by simp [symL, valL]
  | d :: r, s, zs, h, ha, hN => by
    have hs := inB_split h
    rw [D.bds_len] at hs
    simp only [bdsL, List.length_append, D.bds_len] at hN
    have h1 := d.sym_spec (m := m) (nb := nb) hs.1 ha (N := N) (by omega)
    have h2 := symL_spec (m := m) (nb := nb) (N := N) r hs.2 (ha.drop d.num) (by omega)
    exact ⟨fun u hu => by rcases List.mem_cons.1 hu with rfl | hu; exact h1.1; exact h2.1 u hu, by simp [symL, valL, h1.2, h2.2]⟩

/-- What a call's results look like. -/
def resV (ds : List D) (s : Nat) : V := match symL s ds with | [u] => .w u | l => .tup l
def resVal (ds : List D) (zs : List Int) : Value := match valL ds zs with | [x] => x | l => .tuple l.toArray

/-- Arguments against a shape: the linear forms. -/
def fitI (lo hi : Int) (x : IV) : Bool := decide (lo ≤ x.lo) && decide (x.hi ≤ hi)
def flatA (k : IntKind) (lo hi : Int) : List A → Option (List Lin)
  | [] => some []
  | .int k' x :: r => cond (decide (k = k') && fitI lo hi x) (match flatA k lo hi r with | some l => some (x.l :: l) | none => none) none
  | _ :: _ => none
/-- A cell against a shape. -/
def CK.fit : CK → A → Option Lin
  | int k lo hi, .int k' x => cond (decide (k = k') && fitI lo hi x) (some x.l) none
  | str, .str l => some l
  | bool, .bool (.lit b) => some (.const (cond b 1 0))
  | _, _ => none
def flatM : List CK → List A → Option (List Lin)
  | [], [] => some []
  | c :: r, a :: s => match c.fit a, flatM r s with | some x, some l => some (x :: l) | _, _ => none
  | _, _ => none
def flatD : D → V → Option (List Lin)
  | .int k lo hi, .w (.one (.int k' x)) => cond (decide (k = k') && fitI lo hi x) (some [x.l]) none
  | .agg k n lo hi, .w (.agg l) => cond (Nat.beq l.length n) (flatA k lo hi l) none
  | .mix l, .w (.agg s) => flatM l s
  | .str, .w (.one (.str l)) => some [l]
  | .bool, .w (.one (.bool (.lit b))) => some [.const (cond b 1 0)]
  | .strk l, .w (.one (.str x)) => match x.isC with | some c => cond (decide (c = cOf (kL l))) (some []) none | none => none
  | _, _ => none
def flatL : List D → List V → Option (List Lin)
  | [], [] => some []
  | d :: r, v :: s => match flatD d v, flatL r s with | some a, some b => some (a ++ b) | _, _ => none
  | _, _ => none
theorem fitI_spec {n : Nat} {ρ : Env} {lo hi : Int} {x : IV} (h : fitI lo hi x = true) (hx : x.ok n ρ) : lo ≤ x.l.den ρ ∧ x.l.den ρ ≤ hi := by
  simp only [fitI, Bool.and_eq_true, decide_eq_true_eq] at h
  have := hx.2; omega
theorem flatA_spec {n nb : Nat} {ρ : Env} {m : Nat → Nat} {k : IntKind} {lo hi : Int} : ∀ {l : List A} {r : List Lin}, flatA k lo hi l = some r → (∀ a ∈ l, A.ok n nb ρ a) → r.length = l.length ∧ inB (repB lo hi l.length) (r.map (·.den ρ)) ∧ l.map (A.den ρ m) = (r.map (·.den ρ)).map (.int k)
  | [], r, h, _ => by simp [flatA] at h; subst h; exact ⟨rfl, trivial, rfl⟩
  | .int k' x :: s, r, h, hok => by
    simp only [flatA] at h
    cases hc : (decide (k = k') && fitI lo hi x) with
    | false => simp [hc] at h
    | true =>
      simp only [hc, cond_true] at h
      simp only [Bool.and_eq_true, decide_eq_true_eq] at hc
      cases hr : flatA k lo hi s with
      | none => simp [hr] at h
      | some r' =>
        simp only [hr, Option.some.injEq] at h
        subst h
        obtain ⟨h1, h2, h3⟩ := flatA_spec (m := m) hr fun a ha => hok a (List.mem_cons_of_mem _ ha)
        have hx : x.ok n ρ := hok (.int k' x) (by simp)
        have hf := fitI_spec hc.2 hx
        exact ⟨by simp [h1], ⟨hf.1, hf.2, h2⟩, by simp only [List.map_cons, h3, A.den, hc.1]⟩
  | .bool _ :: _, _, h, _ => by simp [flatA] at h
  | .ptr .. :: _, _, h, _ => by simp [flatA] at h
  | .pix .. :: _, _, h, _ => by simp [flatA] at h
  | .gptr .. :: _, _, h, _ => by simp [flatA] at h
  | .slc .. :: _, _, h, _ => by simp [flatA] at h
  | .con _ :: _, _, h, _ => by simp [flatA] at h
  | .str _ :: _, _, h, _ => by simp [flatA] at h
theorem CK.fit_spec {n nb : Nat} {ρ : Env} {m : Nat → Nat} {c : CK} {a : A} {l : Lin} (h : c.fit a = some l) (hok : a.ok n nb ρ) : (c.bd.1 ≤ l.den ρ ∧ l.den ρ ≤ c.bd.2) ∧ a.den ρ m = c.val (l.den ρ) := by
  unfold CK.fit at h
  split at h
  · rename_i k lo hi k' x
    cases hc : (decide (k = k') && fitI lo hi x) with
    | false => simp [hc] at h
    | true =>
      simp only [hc, cond_true, Option.some.injEq] at h
      subst h
      simp only [Bool.and_eq_true, decide_eq_true_eq] at hc
      exact ⟨fitI_spec hc.2 hok, by simp only [A.den, CK.val, hc.1]⟩
  · simp only [Option.some.injEq] at h; subst h
    exact ⟨hok.2, rfl⟩
  · rename_i b
    simp only [Option.some.injEq] at h; subst h
    cases b <;> simp [CK.bd, CK.val, A.den, BE.den, Lin.den_const]
  · cases h
theorem flatM_spec {n nb : Nat} {ρ : Env} {m : Nat → Nat} : ∀ {d : List CK} {l : List A} {r : List Lin}, flatM d l = some r → (∀ a ∈ l, A.ok n nb ρ a) → r.length = d.length ∧ inB (d.map CK.bd) (r.map (·.den ρ)) ∧ l.map (A.den ρ m) = List.zipWith CK.val d (r.map (·.den ρ))
  | [], [], r, h, _ => by simp [flatM] at h; subst h; exact ⟨rfl, trivial, rfl⟩
  | c :: d, a :: s, r, h, hok => by
    simp only [flatM] at h
    cases hx : c.fit a with
    | none => simp [hx] at h
    | some x =>
      cases hr : flatM d s with
      | none => simp [hx, hr] at h
      | some r' =>
        simp only [hx, hr, Option.some.injEq] at h
        subst h
        obtain ⟨h1, h2, h3⟩ := flatM_spec (m := m) hr fun a ha => hok a (List.mem_cons_of_mem _ ha)
        have hf := CK.fit_spec (m := m) hx (hok a (by simp))
        exact ⟨by simp [h1], ⟨hf.1.1, hf.1.2, h2⟩, by simp only [List.map_cons, h3, hf.2, List.zipWith_cons_cons]⟩
  | [], _ :: _, _, h, _ => by simp [flatM] at h
  | _ :: _, [], _, h, _ => by simp [flatM] at h
theorem strk_den {n : Nat} {ρ : Env} {l : List UInt8} {x : Lin} {c : Int} (hc : x.isC = some c) (h : c = cOf (kL l)) : sOf (x.den ρ) = kL l := by rw [Lin.den_isC hc, h, sOf_cOf]
theorem flatD_spec {n nb : Nat} {ρ : Env} {m : Nat → Nat} {d : D} {v : V} {r : List Lin} {x : Value} (h : flatD d v = some r) (hok : v.ok n nb ρ) (hx : v.rel ρ m x) : r.length = d.num ∧ inB d.bds (r.map (·.den ρ)) ∧ ∀ zs, d.val ((r.map (·.den ρ)) ++ zs) = x := by
  unfold flatD at h
  split at h
  · rename_i k lo hi k' y
    cases hc : (decide (k = k') && fitI lo hi y) with
    | false => simp [hc] at h
    | true =>
      simp only [hc, cond_true, Option.some.injEq] at h
      subst h
      simp only [Bool.and_eq_true, decide_eq_true_eq] at hc
      have hf := fitI_spec hc.2 hok
      simp only [V.rel, W.den, A.den] at hx
      exact ⟨rfl, ⟨hf.1, hf.2, trivial⟩, fun zs => by simp [D.val, hx, hc.1]⟩
  · rename_i k n' lo hi l
    cases hc : Nat.beq l.length n' with
    | false => simp [hc] at h
    | true =>
      simp only [hc, cond_true] at h
      have hl := Nat.eq_of_beq_eq_true hc
      subst hl
      obtain ⟨h1, h2, h3⟩ := flatA_spec (m := m) h hok
      simp only [V.rel, W.den] at hx
      exact ⟨h1, h2, fun zs => by rw [hx, h3]; simp only [D.val]; rw [List.take_append_of_le_length (by simp [h1]), List.take_of_length_le (by simp [h1])]⟩
  · rename_i l s
    obtain ⟨h1, h2, h3⟩ := flatM_spec (m := m) h hok
    simp only [V.rel, W.den] at hx
    refine ⟨h1, h2, fun zs => ?_⟩
    rw [hx, h3]
    simp only [D.val]
    congr 2
    have key : ∀ (a : List CK) (b c : List Int), b.length = a.length → List.zipWith CK.val a (b ++ c) = List.zipWith CK.val a b := by
      intro a
      induction a with
      | nil => intro b c _; simp
      | cons p a ih =>
        intro b c hb
        cases b with
        | nil => simp at hb
        | cons z b => simp [ih b c (by simpa using hb)]
    exact key _ _ _ (by simp [h1])
  · rename_i l
    simp only [Option.some.injEq] at h; subst h
    simp only [V.rel, W.den, A.den] at hx
    exact ⟨rfl, ⟨hok.2.1, hok.2.2, trivial⟩, fun zs => by rw [hx]; rfl⟩
  · rename_i b
    simp only [Option.some.injEq] at h; subst h
    simp only [V.rel, W.den, A.den, BE.den] at hx
    cases b <;> exact ⟨rfl, by simp [D.bds, inB, Lin.den_const], fun zs => by rw [hx]; simp [D.val, Lin.den_const]⟩
  · rename_i l y
    cases hc : y.isC with
    | none => simp [hc] at h
    | some c =>
      simp only [hc] at h
      cases hd : decide (c = cOf (kL l)) with
      | false => simp [hd] at h
      | true =>
        simp only [hd, cond_true, Option.some.injEq] at h
        subst h
        have hd : c = cOf (kL l) := by simpa using hd
        refine ⟨rfl, trivial, fun zs => ?_⟩
        have hx : x = .string (bA (sOf (y.den ρ))) := hx
        rw [hx, strk_den (n := n) hc hd]; rfl
  · cases h
theorem flatL_spec {n nb : Nat} {ρ : Env} {m : Nat → Nat} : ∀ {ds : List D} {vs : List V} {r : List Lin} {xs : List Value}, flatL ds vs = some r → (∀ v ∈ vs, V.ok n nb ρ v) → LRel ρ m vs xs → inB (bdsL ds) (r.map (·.den ρ)) ∧ valL ds (r.map (·.den ρ)) = xs
  | [], [], r, [], h, _, _ => by simp [flatL] at h; subst h; exact ⟨trivial, rfl⟩
  | d :: ds, v :: vs, r, x :: xs, h, hok, hr => by
    simp only [flatL] at h
    cases h1 : flatD d v with
    | none => simp [h1] at h
    | some a =>
      cases h2 : flatL ds vs with
      | none => simp [h1, h2] at h
      | some b =>
        simp only [h1, h2, Option.some.injEq] at h
        subst h
        obtain ⟨p1, p2, p3⟩ := flatD_spec (m := m) h1 (hok v (by simp)) hr.1
        obtain ⟨q1, q2⟩ := flatL_spec h2 (fun u hu => hok u (List.mem_cons_of_mem _ hu)) hr.2
        refine ⟨by rw [List.map_append]; exact inB_append p2 q1, ?_⟩
        rw [List.map_append]
        simp only [valL, p3]
        rw [show d.num = (a.map (·.den ρ)).length by simp [p1], List.drop_left, q2]
  | [], _ :: _, _, _, h, _, _ => by simp [flatL] at h
  | _ :: _, [], _, _, h, _, _ => by simp [flatL] at h
  | [], [], _, _ :: _, _, _, hr => hr.elim
  | _ :: _, _ :: _, _, [], _, _, hr => hr.elim

/-- A contract: the function, its number among the contracts, the shapes. -/
structure Con where
  f : FuncId
  id : Nat
  args : List D
  res : List D
def Con.Ok (P : Program) (wb : World) (c : Con) (spec : List Int → List Int → Prop) : Prop :=
  (∀ args w, (callFunc c.f args).run P w = .ok (.enter c.f args) w) ∧
  ∀ zs, inB (bdsL c.args) zs → ∃ rs, inB (bdsL c.res) rs ∧ spec zs rs ∧ ∀ w, wb.Extends w → Calls P c.f (valL c.args zs).toArray w fun e w' => e = .returned (resVal c.res rs) ∧ w.Extends w'
noncomputable def Con.M (c : Con) : List Blk → List V → M V := fun _ vs n k =>
  match flatL c.args vs with
  | some l => .call c.id l n (bdsL c.res) (k (resV c.res n) (n + (bdsL c.res).length))
  | none => .stuck

section
variable {S : Nat → List Int → List Int → Prop} {P : Program} {gl : Glo} {w0 : Base}
theorem callL {L : V → Env → Prop} {id : Nat} {l : List Lin} {n : Nat} {bds : List (Int × Int)} {r : T} {G : Again} {ρ : Env} (h : (T.call id l n bds r).holds S L G ρ) {rs : List Int} (hi : inB bds rs) (hs : S id (l.map (·.den ρ)) rs) : r.holds S L G (updL ρ n rs) :=
  allB_elim h hi hs
theorem resV_spec {ρ : Env} {m : Nat → Nat} {N nb : Nat} {ds : List D} {s : Nat} {zs : List Int} (h : inB (bdsL ds) zs) (ha : At ρ s zs) (hN : s + (bdsL ds).length ≤ N) : (resV ds s).ok N nb ρ ∧ (resV ds s).rel ρ m (resVal ds zs) := by
  have hs := symL_spec (m := m) (nb := nb) ds h ha hN
  unfold resV resVal
  rw [← hs.2]
  split
  · rename_i u heq
    rw [heq] at hs
    rw [heq]
    exact ⟨hs.1 u (by simp), rfl⟩
  · rename_i l hne
    refine ⟨hs.1, ?_⟩
    split
    · rename_i x heq
      have : ∃ u, symL s ds = [u] := by
        cases hl : symL s ds with
        | nil => rw [hl] at heq; simp at heq
        | cons u r =>
          cases r with
          | nil => exact ⟨u, rfl⟩
          | cons _ _ => rw [hl] at heq; simp at heq
      obtain ⟨u, hu⟩ := this
      exact absurd hu (hne u)
    · rfl

/-- The same, of a function with a body or without one. -/
def Con.OkF (P : Program) (wb : World) (c : Con) (spec : List Int → List Int → Prop) : Prop :=
  ∀ zs, inB (bdsL c.args) zs → ∃ rs, inB (bdsL c.res) rs ∧ spec zs rs ∧ ∀ w, wb.Extends w → FRes P c.f (valL c.args zs).toArray w (resVal c.res rs)
theorem Con.Ok.f {wb : World} {c : Con} {spec : List Int → List Int → Prop} (h : c.Ok P wb spec) : c.OkF P wb spec := fun zs hz => by
  obtain ⟨rs, h1, h2, h3⟩ := h.2 zs hz
  exact ⟨rs, h1, h2, fun w hw => .inr ⟨h.1 _ _, h3 w hw⟩⟩
theorem Con.snd {c : Con} {spec : List Int → List Int → Prop} (hc : c.OkF P w0.b spec) (hS : ∀ zs rs, spec zs rs → S c.id zs rs) (L : V → Env → Prop) (n : Nat) (ρ : Env) (m : Nat → Nat) (bl : List Blk) (vs : List V) (xs : List Value)
    (hvs : ∀ v ∈ vs, V.ok n bl.length ρ v) (hr : LRel ρ m vs xs) : Snd S L (c.M bl vs) n ρ fun ρ' n' v => v.ok n' bl.length ρ' ∧ ∃ val, v.rel ρ' m val ∧ ∀ w, Mem w0 ρ m bl w → FRes P c.f xs.toArray w val := by
  intro G k hk
  unfold Con.M at hk
  cases hl : flatL c.args vs with
  | none => simp [hl, T.holds] at hk
  | some l =>
    simp only [hl] at hk
    obtain ⟨h1, h2⟩ := flatL_spec hl hvs hr
    obtain ⟨rs, r1, r2, r3⟩ := hc _ h1
    have hh := callL hk r1 (hS _ _ r2)
    have hlen := inB_len r1
    have hres := resV_spec (m := m) (nb := bl.length) (N := n + (bdsL c.res).length) r1 (At.updL ρ n rs) (Nat.le_refl _)
    refine ⟨_, _, _, Nat.le_add_right _ _, agree.updL rs n ρ, ⟨hres.1, _, hres.2, fun w hw => ?_⟩, hh⟩
    rw [h2] at r3
    exact r3 w hw.ext

/-! ### Words: math/bits -/
/-- 'Mul64'. -/
def mul64M : List Blk → List V → M V := fun _ vs =>
  match vs with
  | [.w (.one (.int .u64 x)), .w (.one (.int .u64 y))] =>
    cond (decide (0 ≤ x.lo) && decide (x.hi < 18446744073709551616) && decide (0 ≤ y.lo) && decide (y.hi < 18446744073709551616)) (bind (mulM x y) fun p => bind (divM p 18446744073709551616) fun q =>
      pure (.tup [.one (.int .u64 q), .one (.int .u64 ⟨p.l.sub (q.l.smul 18446744073709551616), 0, 18446744073709551615⟩)])) fail
  | _ => fail
/-- 'Add64', 'Sub64'. -/
def add64M : List Blk → List V → M V := fun _ vs =>
  match vs with
  | [.w (.one (.int .u64 x)), .w (.one (.int .u64 y)), .w (.one (.int .u64 c))] =>
    cond (decide (0 ≤ x.lo) && decide (0 ≤ y.lo) && decide (0 ≤ c.lo) && decide (c.hi ≤ 1)) (bind (divM ⟨(x.l.add y.l).add c.l, x.lo + y.lo + c.lo, x.hi + y.hi + c.hi⟩ 18446744073709551616) fun q =>
      pure (.tup [.one (.int .u64 ⟨((x.l.add y.l).add c.l).sub (q.l.smul 18446744073709551616), 0, 18446744073709551615⟩), .one (.int .u64 q)])) fail
  | _ => fail
def sub64M : List Blk → List V → M V := fun _ vs =>
  match vs with
  | [.w (.one (.int .u64 x)), .w (.one (.int .u64 y)), .w (.one (.int .u64 c))] =>
    cond (decide (0 ≤ x.lo) && decide (x.hi < 18446744073709551616) && decide (0 ≤ y.lo) && decide (y.hi < 18446744073709551616) && decide (0 ≤ c.lo) && decide (c.hi ≤ 1)) (bind (divM ⟨(x.l.sub y.l).sub c.l, x.lo - y.hi - c.hi, x.hi - y.lo - c.lo⟩ 18446744073709551616) fun q =>
      pure (.tup [.one (.int .u64 ⟨((x.l.sub y.l).sub c.l).sub (q.l.smul 18446744073709551616), 0, 18446744073709551615⟩), .one (.int .u64 ⟨q.l.smul (-1), 0, 1⟩)])) fail
  | _ => fail
def Mul64Ok (P : Program) (f : FuncId) : Prop := ∀ x y : Int, 0 ≤ x → x < 18446744073709551616 → 0 ≤ y → y < 18446744073709551616 → ∀ w, FRes P f #[.int .u64 x, .int .u64 y] w (.tuple #[.int .u64 (x * y / 18446744073709551616), .int .u64 (x * y % 18446744073709551616)])
def Add64Ok (P : Program) (f : FuncId) : Prop := ∀ x y c : Int, 0 ≤ x → 0 ≤ y → 0 ≤ c → c ≤ 1 → ∀ w, FRes P f #[.int .u64 x, .int .u64 y, .int .u64 c] w (.tuple #[.int .u64 ((x + y + c) % 18446744073709551616), .int .u64 ((x + y + c) / 18446744073709551616)])
def Sub64Ok (P : Program) (f : FuncId) : Prop := ∀ x y c : Int, 0 ≤ x → x < 18446744073709551616 → 0 ≤ y → y < 18446744073709551616 → 0 ≤ c → c ≤ 1 → ∀ w, FRes P f #[.int .u64 x, .int .u64 y, .int .u64 c] w (.tuple #[.int .u64 ((x - y - c) % 18446744073709551616), .int .u64 (-((x - y - c) / 18446744073709551616))])

variable {L : V → Env → Prop} {n : Nat} {ρ : Env} {m : Nat → Nat} {bl : List Blk} {vs : List V} {xs : List Value}
theorem lrel3 {x y c : A} (hr : LRel ρ m [.w (.one x), .w (.one y), .w (.one c)] xs) : xs = [x.den ρ m, y.den ρ m, c.den ρ m] := by
  match xs, hr with
  | [a, b, d], h => obtain ⟨rfl, rfl, rfl, _⟩ := h; rfl
  | [], h => exact h.elim
  | [_], h => exact h.2.elim
  | [_, _], h => exact h.2.2.elim
  | _ :: _ :: _ :: _ :: _, h => exact h.2.2.2.elim
theorem lrel2 {x y : A} (hr : LRel ρ m [.w (.one x), .w (.one y)] xs) : xs = [x.den ρ m, y.den ρ m] := by
  match xs, hr with
  | [a, b], h => obtain ⟨rfl, rfl, _⟩ := h; rfl
  | [], h => exact h.elim
  | [_], h => exact h.2.elim
  | _ :: _ :: _ :: _, h => exact h.2.2.elim

theorem mul64_snd {f : FuncId} (hf : Mul64Ok P f) (hvs : ∀ v ∈ vs, V.ok n bl.length ρ v) (hr : LRel ρ m vs xs) : Snd S L (mul64M bl vs) n ρ fun ρ' n' v => v.ok n' bl.length ρ' ∧ ∃ val, v.rel ρ' m val ∧ ∀ w, Mem w0 ρ m bl w → FRes P f xs.toArray w val := by
  unfold mul64M
  split
  · rename_i x y
    refine snd_guard fun hc => ?_
    simp only [Bool.and_eq_true, decide_eq_true_eq] at hc
    have hx : x.ok n ρ := hvs (.w (.one (.int .u64 x))) (by simp)
    have hy : y.ok n ρ := hvs (.w (.one (.int .u64 y))) (by simp)
    have bx := hx.2; have by' := hy.2
    refine (mulM_snd hx hy).bind fun ρ1 n1 p hn1 ha1 ⟨hp, ep⟩ => ?_
    refine (divM_snd (by decide) hp).bind fun ρ2 n2 q hn2 ha2 ⟨hq, eq, _⟩ => Snd.pure ?_
    have hp2 := hp.agree ha2 hn2
    have ep2 : p.l.den ρ2 = x.l.den ρ * y.l.den ρ := by rw [Lin.den_agree ha2 hp.1, ep]
    have e2 : (p.l.sub (q.l.smul 18446744073709551616)).den ρ2 = x.l.den ρ * y.l.den ρ % 18446744073709551616 := by
      rw [Lin.den_sub, Lin.den_smul, ep2, eq, ep]; omega
    refine ⟨fun u hu => ?_, _, rfl, fun w _ => ?_⟩
    · simp at hu
      rcases hu with rfl | rfl
      · exact hq
      · exact ⟨Lin.sc_sub hp2.1 (Lin.sc_smul hq.1), by simp only [e2]; omega, by simp only [e2]; omega⟩
    · rw [lrel2 hr]
      have := hf (x.l.den ρ) (y.l.den ρ) (by omega) (by omega) (by omega) (by omega) w
      simpa [A.den, W.den, e2, eq, ep] using this
  · exact Snd.fail
theorem add64_snd {f : FuncId} (hf : Add64Ok P f) (hvs : ∀ v ∈ vs, V.ok n bl.length ρ v) (hr : LRel ρ m vs xs) : Snd S L (add64M bl vs) n ρ fun ρ' n' v => v.ok n' bl.length ρ' ∧ ∃ val, v.rel ρ' m val ∧ ∀ w, Mem w0 ρ m bl w → FRes P f xs.toArray w val := by
  unfold add64M
  split
  · rename_i x y c
    refine snd_guard fun hc => ?_
    simp only [Bool.and_eq_true, decide_eq_true_eq] at hc
    have hx : x.ok n ρ := hvs (.w (.one (.int .u64 x))) (by simp)
    have hy : y.ok n ρ := hvs (.w (.one (.int .u64 y))) (by simp)
    have hcc : c.ok n ρ := hvs (.w (.one (.int .u64 c))) (by simp)
    have bx := hx.2; have by' := hy.2; have bc := hcc.2
    have hs : (IV.mk ((x.l.add y.l).add c.l) (x.lo + y.lo + c.lo) (x.hi + y.hi + c.hi)).ok n ρ := ⟨Lin.sc_add (Lin.sc_add hx.1 hy.1) hcc.1, by simp only [Lin.den_add]; omega, by simp only [Lin.den_add]; omega⟩
    refine (divM_snd (x := ⟨(x.l.add y.l).add c.l, x.lo + y.lo + c.lo, x.hi + y.hi + c.hi⟩) (by decide) hs).bind fun ρ2 n2 q hn2 ha2 ⟨hq, eq, _⟩ => Snd.pure ?_
    have hs2 := hs.agree ha2 hn2
    simp only [Lin.den_add] at eq
    have e2 : (((x.l.add y.l).add c.l).sub (q.l.smul 18446744073709551616)).den ρ2 = (x.l.den ρ + y.l.den ρ + c.l.den ρ) % 18446744073709551616 := by
      rw [Lin.den_sub, Lin.den_smul, Lin.den_agree ha2 hs.1, Lin.den_add, Lin.den_add, eq]; omega
    refine ⟨fun u hu => ?_, _, rfl, fun w _ => ?_⟩
    · simp at hu
      rcases hu with rfl | rfl
      · exact ⟨Lin.sc_sub hs2.1 (Lin.sc_smul hq.1), by simp only [e2]; omega, by simp only [e2]; omega⟩
      · exact hq
    · rw [lrel3 hr]
      have := hf (x.l.den ρ) (y.l.den ρ) (c.l.den ρ) (by omega) (by omega) (by omega) (by omega) w
      simpa [A.den, W.den, e2, eq] using this
  · exact Snd.fail
theorem sub64_snd {f : FuncId} (hf : Sub64Ok P f) (hvs : ∀ v ∈ vs, V.ok n bl.length ρ v) (hr : LRel ρ m vs xs) : Snd S L (sub64M bl vs) n ρ fun ρ' n' v => v.ok n' bl.length ρ' ∧ ∃ val, v.rel ρ' m val ∧ ∀ w, Mem w0 ρ m bl w → FRes P f xs.toArray w val := by
  unfold sub64M
  split
  · rename_i x y c
    refine snd_guard fun hc => ?_
    simp only [Bool.and_eq_true, decide_eq_true_eq] at hc
    have hx : x.ok n ρ := hvs (.w (.one (.int .u64 x))) (by simp)
    have hy : y.ok n ρ := hvs (.w (.one (.int .u64 y))) (by simp)
    have hcc : c.ok n ρ := hvs (.w (.one (.int .u64 c))) (by simp)
    have bx := hx.2; have by' := hy.2; have bc := hcc.2
    have hs : (IV.mk ((x.l.sub y.l).sub c.l) (x.lo - y.hi - c.hi) (x.hi - y.lo - c.lo)).ok n ρ := ⟨Lin.sc_sub (Lin.sc_sub hx.1 hy.1) hcc.1, by simp only [Lin.den_sub]; omega, by simp only [Lin.den_sub]; omega⟩
    refine (divM_snd (x := ⟨(x.l.sub y.l).sub c.l, x.lo - y.hi - c.hi, x.hi - y.lo - c.lo⟩) (by decide) hs).bind fun ρ2 n2 q hn2 ha2 ⟨hq, eq, _⟩ => Snd.pure ?_
    have hs2 := hs.agree ha2 hn2
    simp only [Lin.den_sub] at eq
    have e2 : (((x.l.sub y.l).sub c.l).sub (q.l.smul 18446744073709551616)).den ρ2 = (x.l.den ρ - y.l.den ρ - c.l.den ρ) % 18446744073709551616 := by
      rw [Lin.den_sub, Lin.den_smul, Lin.den_agree ha2 hs.1, Lin.den_sub, Lin.den_sub, eq]; omega
    have e3 : (q.l.smul (-1)).den ρ2 = -((x.l.den ρ - y.l.den ρ - c.l.den ρ) / 18446744073709551616) := by
      rw [Lin.den_smul, eq]; omega
    refine ⟨fun u hu => ?_, _, rfl, fun w _ => ?_⟩
    · simp at hu
      rcases hu with rfl | rfl
      · exact ⟨Lin.sc_sub hs2.1 (Lin.sc_smul hq.1), by simp only [e2]; omega, by simp only [e2]; omega⟩
      · exact ⟨Lin.sc_smul hq.1, by simp only [e3]; omega, by simp only [e3]; omega⟩
    · rw [lrel3 hr]
      have := hf (x.l.den ρ) (y.l.den ρ) (c.l.den ρ) (by omega) (by omega) (by omega) (by omega) (by omega) (by omega) w
      simpa [A.den, W.den, e2, e3] using this
  · exact Snd.fail
end
end Go.Rx
