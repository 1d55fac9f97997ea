/- The state, and the operations that leave memory alone. -/
import Derived.Test.YtlecfjcooglpoaaDoorRx3
import Derived.Laws.StructEq
import Derived.ChangeKeysEq
set_option linter.unusedVariables false
set_option linter.unusedSimpArgs false
namespace Go.Rx
open M

/-- A block: its known cells, its type, and whether there may be more cells behind them. -/
abbrev Blk := List A × (TypeId × Bool)
abbrev Glo := List (Nat × List (IntKind × Int))

/-- What memory is held against: the world at first (where the package's variables lie), the world that is referred to, and the blocks of it that may be written. -/
structure Base where
  b : World
  r : World
  ex : Nat → Prop
  ro : Nat → Prop
/-- Does a block hold cells, one by one (or rows)? -/
def isOrd : List A → Bool
  | [.rows _ _ _ _ _] => false
  | _ => true
/-- What kind of block: dead, read only, one's own. -/
noncomputable def kindC (ρ : Env) : List A → Nat
  | [.rows _ _ _ cap k] => if cap.den ρ < 0 then 0 else k
  | _ => 2
/-- So many rows lie in cells. -/
def RowOk : List CK → List Int → Prop
  | [], [] => True
  | c :: sh, z :: r => (c.bd.1 ≤ z ∧ z ≤ c.bd.2) ∧ RowOk sh r
  | _, _ => False
def rowV : List CK → List Int → List Value
  | c :: sh, z :: r => c.val z :: rowV sh r
  | _, _ => []
def flatV (sh : List CK) (rows : List (List Int)) : List Value := rows.flatMap (rowV sh)
def RowsAt (cells : Array Value) (off : Nat) (sh : List CK) (rows : List (List Int)) : Prop :=
  (∀ row ∈ rows, RowOk sh row) ∧ ∃ pre post, cells.toList = pre ++ flatV sh rows ++ post ∧ pre.length = off
theorem RowOk.len : ∀ {sh : List CK} {row : List Int}, RowOk sh row → row.length = sh.length
  | [], [], _ => rfl
  | _ :: _, _ :: _, h => by simp [RowOk.len h.2]
  | [], _ :: _, h => h.elim
  | _ :: _, [], h => h.elim
theorem RowOk.get : ∀ {sh : List CK} {row : List Int} {j : Nat} {c : CK}, RowOk sh row → sh[j]? = some c → ∃ z, row[j]? = some z ∧ c.bd.1 ≤ z ∧ z ≤ c.bd.2 ∧ (rowV sh row)[j]? = some (c.val z)
  | c' :: sh, z :: r, 0, c, h, hc => by
    simp only [List.getElem?_cons_zero, Option.some.injEq] at hc
    subst hc
    exact ⟨z, rfl, h.1.1, h.1.2, rfl⟩
  | c' :: sh, z :: r, j + 1, c, h, hc => RowOk.get (sh := sh) (row := r) (j := j) h.2 (by simpa using hc)
  | [], _, _, _, _, hc => by simp at hc
  | _ :: _, [], _, _, h, _ => h.elim
theorem rowV_len : ∀ {sh : List CK} {row : List Int}, RowOk sh row → (rowV sh row).length = sh.length
  | [], [], _ => rfl
  | _ :: _, _ :: _, h => by simp [rowV, rowV_len h.2]
  | [], _ :: _, h => h.elim
  | _ :: _, [], h => h.elim
theorem flatV_len {sh : List CK} : ∀ {rows : List (List Int)}, (∀ row ∈ rows, RowOk sh row) → (flatV sh rows).length = rows.length * sh.length
  | [], _ => by simp [flatV]
  | r :: rs, h => by
    have ih := flatV_len (rows := rs) fun row hr => h row (List.mem_cons_of_mem _ hr)
    have h1 := rowV_len (h r (by simp))
    simp only [flatV, List.flatMap_cons, List.length_append, List.length_cons] at ih ⊢
    rw [ih, h1, Nat.succ_mul]; omega
theorem flatV_get {sh : List CK} : ∀ {rows : List (List Int)} {i j : Nat} {row : List Int} {v : Value}, (∀ row ∈ rows, RowOk sh row) → rows[i]? = some row → (rowV sh row)[j]? = some v → (flatV sh rows)[i * sh.length + j]? = some v
  | r :: rs, 0, j, row, v, h, hi, hj => by
    simp only [List.getElem?_cons_zero, Option.some.injEq] at hi
    subst hi
    have hlt := (List.getElem?_eq_some_iff.1 hj).1
    simp only [flatV, List.flatMap_cons, Nat.zero_mul, Nat.zero_add]
    rw [List.getElem?_append_left hlt]; exact hj
  | r :: rs, i + 1, j, row, v, h, hi, hj => by
    have ih := flatV_get (rows := rs) (i := i) (fun row hr => h row (List.mem_cons_of_mem _ hr)) (by simpa using hi) hj
    have h1 := rowV_len (h r (by simp))
    simp only [flatV, List.flatMap_cons] at ih ⊢
    rw [List.getElem?_append_right (by rw [h1, Nat.succ_mul]; omega), h1, Nat.succ_mul]
    rw [show i * sh.length + sh.length + j - sh.length = i * sh.length + j by omega]; exact ih
  | [], i, _, _, _, _, hi, _ => by simp at hi
theorem flatV_append (sh : List CK) (a b : List (List Int)) : flatV sh (a ++ b) = flatV sh a ++ flatV sh b := by simp [flatV]
/-- What is marked: nothing; or, at bytes out of a text, what lies behind them. -/
def FzOk (kind : Nat) (fz : Nat × Nat) (n : Nat) : Prop := (kind = 2 ∧ fz = (0, 0)) ∨ (kind ≠ 2 ∧ fz = (n, n + 1))
theorem FzOk.two {fz : Nat × Nat} {n : Nat} (h : FzOk 2 fz n) : fz = (0, 0) := by
  rcases h with h | h
  · exact h.2
  · exact absurd rfl h.1
theorem FzOk.mk2 {n : Nat} : FzOk 2 (0, 0) n := .inl ⟨rfl, rfl⟩
/-- What lies where rows are. -/
def RRel (w0 : Base) (ρ : Env) (g : Nat) (sh : List CK) (off code cap : Lin) (kind : Nat) (t : TypeId) (w : World) : Prop :=
  kind ≠ 0 → (cap.den ρ < 0 → rOf (code.den ρ) = []) ∧ (0 ≤ cap.den ρ → (w0.ex g ∨ w0.ro g ∨ w0.r.heap.size ≤ g) ∧ ∃ cells t' fz, w.heap[g]? = some (.cells cells t' fz) ∧ (0 ≤ off.den ρ ∧ RowsAt cells (off.den ρ).toNat sh (rOf (code.den ρ))) ∧
    (2 ≤ kind → t' = t ∧ off.den ρ = 0 ∧ FzOk kind fz cells.size ∧ cells.size = (cap.den ρ).toNat * sh.length ∧ w0.b.heap.size ≤ g ∧ (w0.ex g ∨ w0.r.heap.size ≤ g)))
/-- Memory: the blocks of one's own, and all that was there before. -/
structure Mem (w0 : Base) (ρ : Env) (m : Nat → Nat) (bl : List Blk) (w : World) : Prop where
  ext : w0.b.Extends w
  hos : w.os = w0.r.os
  htape : w.tape = w0.r.tape
  hout : w.output = w0.r.output
  hsize : w0.r.heap.size ≤ w.heap.size
  frm : ∀ i : Nat, i < w0.r.heap.size → ¬ w0.ex i → w.heap[i]? = w0.r.heap[i]?
  blk : ∀ (i : Nat) (cs : List A) (t : TypeId × Bool), bl[i]? = some (cs, t) → isOrd cs = true → w0.b.heap.size ≤ m i ∧ (w0.ex (m i) ∨ w0.r.heap.size ≤ m i) ∧ ∃ r : List Value, (t.2 = false → r = []) ∧ w.heap[m i]? = some (.cells (cs.map (A.den ρ m) ++ r).toArray t.1 (0, 0))
  rws : ∀ (i : Nat) (sh : List CK) (off code cap : Lin) (kind : Nat) (t : TypeId × Bool), bl[i]? = some ([.rows sh off code cap kind], t) → RRel w0 ρ (m i) sh off code cap kind t.1 w
  inj : ∀ (i j : Nat) (p q : Blk), bl[i]? = some p → bl[j]? = some q → m i = m j → i = j ∨ (kindC ρ p.1 ≤ 1 ∧ kindC ρ q.1 ≤ 1) ∨ kindC ρ p.1 = 0 ∨ kindC ρ q.1 = 0
theorem Mem.lt {w0 : Base} {ρ : Env} {m : Nat → Nat} {bl : List Blk} {w : World} (h : Mem w0 ρ m bl w) {i : Nat} {p : Blk} (hi : bl[i]? = some p) (hk : kindC ρ p.1 ≠ 0) : m i < w.heap.size := by
  obtain ⟨cs, t⟩ := p
  by_cases ho : isOrd cs = true
  · obtain ⟨_, _, r, _, h2⟩ := h.blk i cs t hi ho
    exact (Array.getElem?_eq_some_iff.1 h2).1
  · unfold isOrd at ho
    split at ho
    · rename_i sh off code cap k
      simp only [kindC] at hk
      split at hk
      · exact absurd rfl hk
      · rename_i hcap
        obtain ⟨_, cells, t', fz, h2, _⟩ := (h.rws i _ _ _ _ _ t hi hk).2 (by omega)
        exact (Array.getElem?_eq_some_iff.1 h2).1
    · exact absurd rfl ho
theorem kind_ord {ρ : Env} {cs : List A} (h : isOrd cs = true) : kindC ρ cs = 2 := by
  unfold isOrd at h
  unfold kindC
  split <;> simp_all
def BlOk (n nb : Nat) (ρ : Env) (bl : List Blk) : Prop := ∀ p ∈ bl, ∀ a ∈ p.1, A.ok n nb ρ a
def GOk (gl : Glo) (w0 : Base) : Prop := ∀ g cs, (g, cs) ∈ gl → g < w0.b.heap.size ∧ ∃ t fr, w0.b.heap[g]? = some (.cells (cs.map fun p => Value.int p.1 p.2).toArray t fr)

theorem BlOk.ext {n n' nb nb' : Nat} {ρ ρ' : Env} {bl : List Blk} (h : BlOk n nb ρ bl) (ha : agree n ρ ρ') (hn : n ≤ n') (hb : nb ≤ nb') : BlOk n' nb' ρ' bl :=
  fun p hp a h' => (h p hp a h').ext ha hn hb
theorem RRel.rho {w0 : Base} {n nb : Nat} {ρ ρ' : Env} {g : Nat} {sh : List CK} {off code cap : Lin} {kind : Nat} {t : TypeId} {w : World} (h : RRel w0 ρ g sh off code cap kind t w) (hok : (A.rows sh off code cap kind).ok n nb ρ) (ha : agree n ρ ρ') : RRel w0 ρ' g sh off code cap kind t w := by
  unfold RRel at *
  rw [Lin.den_agree ha hok.1.1, Lin.den_agree ha hok.1.2.1, Lin.den_agree ha hok.1.2.2]
  exact h
theorem kindC_agree {n nb : Nat} {ρ ρ' : Env} {cs : List A} (hok : ∀ a ∈ cs, A.ok n nb ρ a) (ha : agree n ρ ρ') : kindC ρ' cs = kindC ρ cs := by
  unfold kindC
  split
  · rename_i sh off code cap k
    have h1 : A.ok n nb ρ (.rows sh off code cap k) := hok _ (by simp)
    rw [Lin.den_agree ha h1.1.2.2]
  · rfl
theorem agree.sym {n : Nat} {ρ ρ' : Env} (h : agree n ρ ρ') : agree n ρ' ρ := fun i hi => (h i hi).symm
theorem Mem.rho {w0 : Base} {n : Nat} {ρ ρ' : Env} {m : Nat → Nat} {bl : List Blk} {w : World} (h : Mem w0 ρ m bl w) (hb : BlOk n bl.length ρ bl) (ha : agree n ρ ρ') : Mem w0 ρ' m bl w :=
  ⟨h.ext, h.hos, h.htape, h.hout, h.hsize, h.frm, fun i cs t hi ho => by
    obtain ⟨h1, h2, r, hr, h3⟩ := h.blk i cs t hi ho
    exact ⟨h1, h2, r, hr, by rw [map_den_ext (hb _ (List.mem_of_getElem? hi)) ha (fun _ _ => rfl)]; exact h3⟩,
    fun i sh off code cap kind t hi => (h.rws i sh off code cap kind t hi).rho (hb _ (List.mem_of_getElem? hi) _ (by simp)) ha, fun i j p q hi hj he => by
      rw [kindC_agree (hb _ (List.mem_of_getElem? hi)) ha, kindC_agree (hb _ (List.mem_of_getElem? hj)) ha]
      exact h.inj i j p q hi hj he⟩
theorem Mem.rho' {w0 : Base} {n : Nat} {ρ ρ' : Env} {m : Nat → Nat} {bl : List Blk} {w : World} (h : Mem w0 ρ' m bl w) (hb : BlOk n bl.length ρ bl) (ha : agree n ρ ρ') : Mem w0 ρ m bl w :=
  h.rho (hb.ext ha (Nat.le_refl _) (Nat.le_refl _)) ha.sym
theorem RRel.grow {w0 : Base} {ρ : Env} {g : Nat} {sh : List CK} {off code cap : Lin} {kind : Nat} {t : TypeId} {w w' : World} (h : RRel w0 ρ g sh off code cap kind t w) (he : kind ≠ 0 → 0 ≤ cap.den ρ → w'.heap[g]? = w.heap[g]?) : RRel w0 ρ g sh off code cap kind t w' := by
  intro hk
  obtain ⟨h1, h2⟩ := h hk
  refine ⟨h1, fun hc => ?_⟩
  rw [he hk hc]
  exact h2 hc
theorem kindC_rows {ρ : Env} {sh : List CK} {off code cap : Lin} {k : Nat} (hk : k ≠ 0) (hc : 0 ≤ cap.den ρ) : kindC ρ [.rows sh off code cap k] = k := by
  simp only [kindC]
  rw [if_neg (by omega)]
theorem Mem.grow {w0 : Base} {ρ : Env} {m : Nat → Nat} {bl : List Blk} {w w' : World} (h : Mem w0 ρ m bl w) (he : w.Extends w') : Mem w0 ρ m bl w' :=
  ⟨h.ext.trans he, he.os.trans h.hos, he.tape.trans h.htape, he.output.trans h.hout, Nat.le_trans h.hsize he.size, fun i hi hx => (he.block i (Nat.lt_of_lt_of_le hi h.hsize)).trans (h.frm i hi hx), fun i cs t hi ho => by
    obtain ⟨h1, h2, r, hr, h3⟩ := h.blk i cs t hi ho
    exact ⟨h1, h2, r, hr, by rw [he.block _ (h.lt hi (by rw [kind_ord ho]; decide))]; exact h3⟩, fun i sh off code cap kind t hi => (h.rws i sh off code cap kind t hi).grow fun hk hc => he.block _ (h.lt hi (by simp only [kindC_rows hk hc]; exact hk)), h.inj⟩
/-- What may be written lies apart from all else. -/
theorem Mem.ne {w0 : Base} {ρ : Env} {m : Nat → Nat} {bl : List Blk} {w : World} (h : Mem w0 ρ m bl w) {i j : Nat} {p q : Blk} (hi : bl[i]? = some p) (hj : bl[j]? = some q) (hp : 2 ≤ kindC ρ p.1) (hq : kindC ρ q.1 ≠ 0) (hne : i ≠ j) : m i ≠ m j := fun e => by
  rcases h.inj i j p q hi hj e with h | h | h | h
  · exact hne h
  · omega
  · omega
  · exact hq h

/-- The slots. -/
def TRel (n nb : Nat) (ρ : Env) (m : Nat → Nat) (tm : List V) (tmps : Array Value) : Prop :=
  tm.length = tmps.size ∧ ∀ (i : Nat) (v : V), tm[i]? = some v → v.ok n nb ρ ∧ ∃ x, tmps[i]? = some x ∧ v.rel ρ m x
theorem TRel.ext {n n' nb nb' : Nat} {ρ ρ' : Env} {m m' : Nat → Nat} {tm : List V} {tmps : Array Value} (h : TRel n nb ρ m tm tmps) (ha : agree n ρ ρ') (hn : n ≤ n') (hb : nb ≤ nb') (hm : ∀ b, b < nb → m' b = m b) : TRel n' nb' ρ' m' tm tmps :=
  ⟨h.1, fun i v hv => by obtain ⟨h1, x, h2, h3⟩ := h.2 i v hv; exact ⟨h1.ext ha hn hb, x, h2, h3.ext h1 ha hm⟩⟩

def setV : List V → Nat → V → List V
  | [], _, _ => []
  | _ :: r, 0, v => v :: r
  | x :: r, i + 1, v => x :: setV r i v
theorem setV_eq : ∀ (l : List V) (i : Nat) (v : V), setV l i v = l.set i v
  | [], _, _ => rfl
  | _ :: _, 0, _ => rfl
  | _ :: r, i + 1, v => by simp [setV, setV_eq r i v]
def putV (tm : List V) (d : Option Tmp) (v : V) : List V := match d with | some d => setV tm d v | none => tm
theorem TRel.put {n nb : Nat} {ρ : Env} {m : Nat → Nat} {tm : List V} {a : Act} {v : V} {x : Value} (h : TRel n nb ρ m tm a.tmps) (d : Option Tmp) (hv : v.ok n nb ρ) (hx : v.rel ρ m x) : TRel n nb ρ m (putV tm d v) (a.put d x).tmps := by
  cases d with
  | none => exact h
  | some d =>
    simp only [putV, Act.put, setV_eq]
    refine ⟨by simp [h.1], fun i u hu => ?_⟩
    rw [List.getElem?_set] at hu
    by_cases hd : d = i
    · subst hd
      simp only [if_true] at hu
      split at hu
      · rename_i hlt
        simp only [Option.some.injEq] at hu
        subst hu
        exact ⟨hv, x, by simp [← h.1, hlt], hx⟩
      · cases hu
    · rw [if_neg hd] at hu
      obtain ⟨h1, y, h2, h3⟩ := h.2 i u hu
      exact ⟨h1, y, by rw [Array.getElem?_setIfInBounds_ne (by omega)]; exact h2, h3⟩

/-- A constant of the text. -/
def constA : Value → Option A
  | .int k n => some (.int k (.const n))
  | .bool b => some (.bool (.lit b))
  | .string s => cond (Nat.ble s.size 1000000) (some (.str (.const (cOf s.data.toList)))) none
  | v => cond v.oneCell' (some (.con v)) none
theorem constA_spec {v : Value} {a : A} (h : constA v = some a) (n nb : Nat) (ρ : Env) (m : Nat → Nat) : a.ok n nb ρ ∧ a.den ρ m = v := by
  unfold constA at h
  split at h
  · simp only [Option.some.injEq] at h; subst h; exact ⟨IV.const_ok _ _ _, by simp [A.den, IV.const, Lin.den_const]⟩
  · simp only [Option.some.injEq] at h; subst h; exact ⟨trivial, rfl⟩
  · rename_i s
    cases hc : Nat.ble s.size 1000000 with
    | false => simp [hc] at h
    | true =>
      simp only [hc, cond_true, Option.some.injEq] at h
      subst h
      have hl : s.data.toList.length ≤ mxL := by
        have := Nat.le_of_ble_eq_true hc
        have h2 : s.data.toList.length = s.size := by simp
        unfold mxL; omega
      refine ⟨⟨Lin.sc_const _ _, by rw [Lin.den_const]; exact cOf_nonneg _, by rw [Lin.den_const]; exact HB_c hl⟩, ?_⟩
      simp [A.den, Lin.den_const, sOf_cOf, bA]
  · cases hc : v.oneCell' with
    | false => simp [hc] at h
    | true => simp only [hc, cond_true, Option.some.injEq] at h; subst h; exact ⟨hc, rfl⟩
def constL : List Value → Option (List A)
  | [] => some []
  | v :: r => match constA v, constL r with | some a, some l => some (a :: l) | _, _ => none
theorem constL_spec : ∀ {vs : List Value} {l : List A}, constL vs = some l → ∀ (n nb : Nat) (ρ : Env) (m : Nat → Nat), (∀ a ∈ l, A.ok n nb ρ a) ∧ l.map (A.den ρ m) = vs
  | [], l, h, n, nb, ρ, m => by simp [constL] at h; subst h; simp
  | v :: r, l, h, n, nb, ρ, m => by
    simp only [constL] at h
    cases h1 : constA v with
    | none => simp [h1] at h
    | some a =>
      cases h2 : constL r with
      | none => simp [h1, h2] at h
      | some l' =>
        simp only [h1, h2, Option.some.injEq] at h
        subst h
        have e1 := constA_spec h1 n nb ρ m
        have e2 := constL_spec h2 n nb ρ m
        exact ⟨fun a ha => by rcases List.mem_cons.1 ha with rfl | ha; exact e1.1; exact e2.1 a ha, by simp [e1.2, e2.2]⟩
def constV : Value → V
  | .agg cs => match constL cs.toList with | some l => .w (.agg l) | none => .any
  | .tuple _ => .any
  | v => match constA v with | some a => .w (.one a) | none => .any
theorem constV_spec (v : Value) (n nb : Nat) (ρ : Env) (m : Nat → Nat) : (constV v).ok n nb ρ ∧ (constV v).rel ρ m v := by
  unfold constV
  split
  · rename_i cs
    cases h : constL cs.toList with
    | none => exact ⟨trivial, trivial⟩
    | some l => have e := constL_spec h n nb ρ m; exact ⟨e.1, by simp [V.rel, W.den, e.2]⟩
  · exact ⟨trivial, trivial⟩
  · cases h : constA v with
    | none => exact ⟨trivial, trivial⟩
    | some a => have e := constA_spec h n nb ρ m; exact ⟨e.1, by simp [V.rel, W.den, e.2]⟩

def opV (tm : List V) : Operand → V
  | .tmp t => (tm[t]?).getD .any
  | .const v => constV v
  | .global g => .w (.one (.gptr g 0))
  | .func f => .w (.one (.con (.func (.func f) #[] #[])))
theorem opV_spec {n nb : Nat} {ρ : Env} {m : Nat → Nat} {tm : List V} {a : Act} (h : TRel n nb ρ m tm a.tmps) (x : Operand) : (opV tm x).ok n nb ρ ∧ (opV tm x).rel ρ m (a.eval x) := by
  cases x with
  | tmp t =>
    simp only [opV, Act.eval]
    cases ht : tm[t]? with
    | none => exact ⟨trivial, trivial⟩
    | some v =>
      obtain ⟨h1, y, h2, h3⟩ := h.2 t v ht
      exact ⟨h1, by simp only [Option.getD_some]; rw [show a.tmps.getD t undef = y by simp [h2]]; exact h3⟩
  | const v => exact constV_spec v n nb ρ m
  | global g => exact ⟨trivial, rfl⟩
  | func f => exact ⟨rfl, rfl⟩

def isAggB (P : Program) (t : TypeId) : Option Bool :=
  match P.underlying t with | some (.struct _) => some true | some (.array _ _) => some true | some _ => some false | none => none
def szB (P : Program) (t : TypeId) : Option Nat := match P.info? t with | some i => some i.size | none => none
theorem run_isAggB {P : Program} {t : TypeId} {b : Bool} (h : isAggB P t = some b) (w : World) : (isAgg t).run P w = .ok b w := by
  unfold isAggB at h
  cases hu : P.underlying t with
  | none => simp [hu] at h
  | some d => cases d <;> simp [hu] at h <;> subst h <;> simp [isAgg, run_underlying hu]
theorem run_szB {P : Program} {t : TypeId} {k : Nat} (h : szB P t = some k) (w : World) : (sizeOf t).run P w = .ok k w := by
  unfold szB at h
  cases hi : P.info? t with
  | none => simp [hi] at h
  | some i => simp [hi] at h; subst h; simp [sizeOf, typeInfo, hi]

/-! ### Reading -/
def cellsAt (bl : List Blk) (gl : Glo) : A → Option (List A)
  | .ptr b off => match bl[b]? with | some (cs, _) => cond (isOrd cs) (some (cs.drop off)) none | none => none
  | .gptr g off => match gl.find? (fun p => Nat.beq p.1 g) with | some (_, cs) => some ((cs.drop off).map fun p => .int p.1 (.const p.2)) | none => none
  | _ => none
theorem addr_add (g o j : Nat) : (⟨g, o, none⟩ : Addr).add j = ⟨g, o + j, none⟩ := by unfold Addr.add; split <;> simp_all
theorem cellsAt_spec {w0 : Base} {w : World} {n : Nat} {ρ : Env} {m : Nat → Nat} {bl : List Blk} {gl : Glo} {p : A} {cs : List A} (hm : Mem w0 ρ m bl w) (hb : BlOk n bl.length ρ bl) (hg : GOk gl w0) (h : cellsAt bl gl p = some cs) :
    ∃ g o, p.den ρ m = .pointer (some ⟨g, o, none⟩) ∧ (∀ a ∈ cs, A.ok n bl.length ρ a) ∧ ∀ j a, cs[j]? = some a → w.cell? ⟨g, o + j, none⟩ = some (a.den ρ m) := by
  unfold cellsAt at h
  split at h
  · rename_i b off
    cases hbl : bl[b]? with
    | none => simp [hbl] at h
    | some q =>
      obtain ⟨C, t⟩ := q
      simp only [hbl] at h
      cases hord : isOrd C with
      | false => simp [hord] at h
      | true =>
      simp only [hord, cond_true, Option.some.injEq] at h
      subst h
      obtain ⟨h1, _, r, _, h2⟩ := hm.blk b C t hbl hord
      refine ⟨m b, off, rfl, fun a ha => hb _ (List.mem_of_getElem? hbl) a (List.mem_of_mem_drop ha), fun j a hj => ?_⟩
      rw [List.getElem?_drop] at hj
      have hlt : off + j < C.length := (List.getElem?_eq_some_iff.1 hj).1
      simp only [World.cell?, h2, Option.isSome_none, Bool.false_eq_true, if_false, List.getElem?_toArray]
      rw [List.getElem?_append_left (by simpa using hlt), List.getElem?_map, hj]; rfl
  · rename_i g off
    cases hf : gl.find? (fun p => Nat.beq p.1 g) with
    | none => simp [hf] at h
    | some q =>
      obtain ⟨g', C⟩ := q
      simp only [hf, Option.some.injEq] at h
      subst h
      have hg' : g' = g := by have := List.find?_some hf; exact Nat.eq_of_beq_eq_true this
      subst hg'
      obtain ⟨h1, t, fr, h2⟩ := hg g' C (List.mem_of_find?_eq_some hf)
      refine ⟨g', off, rfl, fun a ha => ?_, fun j a hj => ?_⟩
      · obtain ⟨p, _, rfl⟩ := List.mem_map.1 ha; exact IV.const_ok _ _ _
      · rw [List.getElem?_map, List.getElem?_drop] at hj
        cases hq : C[off + j]? with
        | none => simp [hq] at hj
        | some q =>
          simp only [hq, Option.map_some, Option.some.injEq] at hj
          subst hj
          have := hm.ext.cell ⟨g', off + j, none⟩ h1
          rw [this]
          simp [World.cell?, h2, hq, A.den, IV.const, Lin.den_const]
  · cases h

def loadQ (P : Program) (bl : List Blk) (gl : Glo) (ty : TypeId) (p : A) : M V :=
  match cellsAt bl gl p, isAggB P ty, szB P ty with
  | some cs, some true, some k => cond (Nat.ble k cs.length) (pure (.w (.agg (cs.take k)))) fail
  | some (a :: _), some false, _ => pure (.w (.one a))
  | _, _, _ => fail

section
variable {S : Nat → List Int → List Int → Prop} {L : V → Env → Prop} {n : Nat} {ρ : Env} {m : Nat → Nat} {bl : List Blk} {gl : Glo} {w0 : Base} {P : Program}

/-- What a quiet operation yields. -/
def QV (w0 : Base) (m : Nat → Nat) (bl : List Blk) (n : Nat) (ρ : Env) (run : World → Result Value) (ρ' : Env) (n' : Nat) (v : V) : Prop :=
  v.ok n' bl.length ρ' ∧ ∃ val, v.rel ρ' m val ∧ ∀ w, Mem w0 ρ m bl w → run w = .ok val w

theorem loadQ_snd (hb : BlOk n bl.length ρ bl) (hg : GOk gl w0) (hex : ∃ w, Mem w0 ρ m bl w) (ty : TypeId) (p : A) : Snd S L (loadQ P bl gl ty p) n ρ (QV w0 m bl n ρ fun w => (Instr.loadAt ty (p.den ρ m)).run P w) := by
  obtain ⟨wx, hx⟩ := hex
  unfold loadQ
  cases hc : cellsAt bl gl p with
  | none => exact Snd.fail
  | some cs =>
    obtain ⟨g, o, hp, hok, _⟩ := cellsAt_spec hx hb hg hc
    have hcell : ∀ w, Mem w0 ρ m bl w → ∀ j a, cs[j]? = some a → w.cell? ⟨g, o + j, none⟩ = some (a.den ρ m) := fun w hw => by
      obtain ⟨g', o', hp', _, h'⟩ := cellsAt_spec hw hb hg hc
      rw [hp] at hp'
      simp only [Value.pointer.injEq, Option.some.injEq, Addr.mk.injEq, and_true] at hp'
      obtain ⟨rfl, rfl⟩ := hp'
      exact h'
    cases ha : isAggB P ty with
    | none => exact Snd.fail
    | some b =>
      cases b with
      | true =>
        cases hs : szB P ty with
        | none => exact Snd.fail
        | some k =>
          refine snd_guard fun hk => Snd.pure ⟨fun a h => hok a (List.mem_of_mem_take h), _, rfl, fun w hw => ?_⟩
          have hk : k ≤ cs.length := Nat.le_of_ble_eq_true hk
          have hl := run_loadCells_list (P := P) w ⟨g, o, none⟩ ((cs.take k).map (A.den ρ m)) fun j v hj => by
            rw [addr_add]
            rw [List.getElem?_map] at hj
            cases hq : (cs.take k)[j]? with
            | none => simp [hq] at hj
            | some a =>
              simp only [hq, Option.map_some, Option.some.injEq] at hj
              subst hj
              refine hcell w hw j a ?_
              rw [List.getElem?_take] at hq
              split at hq
              · exact hq
              · cases hq
          simp only [List.length_map, List.length_take, Nat.min_eq_left hk] at hl
          simp [Instr.loadAt, Instr.sureAddr, hp, loadVar, run_isAggB ha, run_szB hs, hl, W.den]
      | false =>
        cases cs with
        | nil => exact Snd.fail
        | cons a r =>
          refine Snd.pure ⟨hok a (by simp), _, rfl, fun w hw => ?_⟩
          have := hcell w hw 0 a rfl
          simp only [Nat.add_zero] at this
          simp [Instr.loadAt, Instr.sureAddr, hp, loadVar, run_isAggB ha, this, W.den]

/-- A cell at an unknown place: among integers of one kind. -/
def intsOf (k : IntKind) : List A → Option (List IV)
  | [] => some []
  | .int k' x :: r => cond (decide (k = k')) (match intsOf k r with | some l => some (x :: l) | none => none) none
  | _ :: _ => none
theorem intsOf_spec {k : IntKind} : ∀ {cs : List A} {l : List IV}, intsOf k cs = some l → cs = l.map (.int k)
  | [], l, h => by simp [intsOf] at h; subst h; rfl
  | .int k' x :: r, l, h => by
    simp only [intsOf] at h
    by_cases hk : k = k'
    · subst hk
      simp only [decide_true, cond_true] at h
      cases h1 : intsOf k r with
      | none => simp [h1] at h
      | some l' => simp only [h1, Option.some.injEq] at h; subst h; simp [intsOf_spec h1]
    · simp [hk] at h
  | .bool _ :: _, _, h => by simp [intsOf] at h
  | .ptr .. :: _, _, h => by simp [intsOf] at h
  | .pix .. :: _, _, h => by simp [intsOf] at h
  | .gptr .. :: _, _, h => by simp [intsOf] at h
  | .slc .. :: _, _, h => by simp [intsOf] at h
  | .con _ :: _, _, h => by simp [intsOf] at h
  | .str _ :: _, _, h => by simp [intsOf] at h
  | .rows .. :: _, _, h => by simp [intsOf] at h
  | .sl .. :: _, _, h => by simp [intsOf] at h
  | .ep .. :: _, _, h => by simp [intsOf] at h
def minL : List IV → Int
  | [] => 0
  | [x] => x.lo
  | x :: r => min x.lo (minL r)
def maxL : List IV → Int
  | [] => 0
  | [x] => x.hi
  | x :: r => max x.hi (maxL r)
theorem minmaxL {n : Nat} {ρ : Env} : ∀ {l : List IV}, (∀ x ∈ l, x.ok n ρ) → ∀ x ∈ l, minL l ≤ x.l.den ρ ∧ x.l.den ρ ≤ maxL l
  | [], _, x, hx => by simp at hx
  | [y], h, x, hx => by
    simp at hx; subst hx
    have := (h x (by simp)).2
    exact this
  | y :: z :: r, h, x, hx => by
    have ih := minmaxL (l := z :: r) (fun x hx => h x (List.mem_cons_of_mem _ hx))
    simp only [minL, maxL]
    rcases List.mem_cons.1 hx with rfl | hx
    · have := (h x (by simp)).2; omega
    · have := ih x hx; omega
def kindOf (P : Program) (ty : TypeId) : Option IntKind := match P.underlying ty with | some (.int k) => some k | _ => none
def selQ (P : Program) (bl : List Blk) (ty : TypeId) (b off : Nat) (ix : IV) : M V := fun n c =>
  match bl[b]?, kindOf P ty with
  | some (cs, _), some k => match intsOf k ((cs.drop off).take (ix.hi.toNat + 1)) with
    | some l => cond (Nat.beq l.length (ix.hi.toNat + 1) && decide (0 ≤ ix.lo) && isOrd cs) (.sel n (l.map (·.l)) ix.l (minL l) (maxL l) (c (.w (.one (.int k ⟨.var n, minL l, maxL l⟩))) (n + 1))) .stuck
    | none => .stuck
  | _, _ => .stuck
theorem selQ_snd (hb : BlOk n bl.length ρ bl) (ty : TypeId) (b off : Nat) {ix : IV} (hix : ix.ok n ρ) : Snd S L (selQ P bl ty b off ix) n ρ (QV w0 m bl n ρ fun w => (Instr.loadAt ty ((A.pix b off ix).den ρ m)).run P w) := by
  intro A' c hk
  unfold selQ at hk
  cases hbl : bl[b]? with
  | none => simp [hbl, T.holds] at hk
  | some q =>
    obtain ⟨cs, t⟩ := q
    cases hkd : kindOf P ty with
    | none => simp [hbl, hkd, T.holds] at hk
    | some k =>
      cases hi : intsOf k ((cs.drop off).take (ix.hi.toNat + 1)) with
      | none => simp [hbl, hkd, hi, T.holds] at hk
      | some l =>
        cases hc : (Nat.beq l.length (ix.hi.toNat + 1) && decide (0 ≤ ix.lo) && isOrd cs) with
        | false => simp [hbl, hkd, hi, hc, T.holds] at hk
        | true =>
          simp only [hbl, hkd, hi, hc, cond_true, T.holds] at hk
          simp only [Bool.and_eq_true, decide_eq_true_eq] at hc
          obtain ⟨hc, hq⟩ := hc
          have hlen := Nat.eq_of_beq_eq_true hc.1
          have e := intsOf_spec hi
          have bx := hix.2
          have hlt : (ix.l.den ρ).toNat < l.length := by omega
          have hokl : ∀ x ∈ l, x.ok n ρ := fun x hx => by
            have : A.int k x ∈ (cs.drop off).take (ix.hi.toNat + 1) := by rw [e]; exact List.mem_map_of_mem hx
            exact hb _ (List.mem_of_getElem? hbl) _ (List.mem_of_mem_drop (List.mem_of_mem_take this))
          have hz : ((l.map (·.l)).map (·.den ρ)).getD (ix.l.den ρ).toNat 0 = (l[(ix.l.den ρ).toNat]).l.den ρ := by
            simp [List.getD, hlt]
          have hmm := minmaxL hokl _ (List.getElem_mem hlt)
          refine ⟨_, n + 1, _, Nat.le_succ _, agree.upd _ _ _, (show QV w0 m bl n ρ _ (upd ρ n (((l.map (·.l)).map (·.den ρ)).getD (ix.l.den ρ).toNat 0)) (n + 1) (.w (.one (.int k ⟨.var n, minL l, maxL l⟩))) from ⟨⟨Lin.sc_var (Nat.lt_succ_self n), ?_, ?_⟩, _, rfl, ?_⟩), hk _ (by rw [hz]; exact hmm.1) (by rw [hz]; exact hmm.2) rfl⟩
          · simp only [Lin.den_var, upd_same, hz]; exact hmm.1
          · simp only [Lin.den_var, upd_same, hz]; exact hmm.2
          · intro w hw
            obtain ⟨_, _, r, _, h2⟩ := hw.blk b cs t hbl hq
            have hu : isAggB P ty = some false := by
              unfold kindOf at hkd
              unfold isAggB
              cases hq : P.underlying ty with
              | none => simp [hq] at hkd
              | some d => cases d <;> simp [hq] at hkd <;> rfl
            have hcs : cs[off + (ix.l.den ρ).toNat]? = some (.int k (l[(ix.l.den ρ).toNat])) := by
              have h3 : ((cs.drop off).take (ix.hi.toNat + 1))[(ix.l.den ρ).toNat]? = some (.int k (l[(ix.l.den ρ).toNat])) := by rw [e]; simp [hlt]
              rw [List.getElem?_take, if_pos (by omega), List.getElem?_drop] at h3
              exact h3
            have hcell : w.cell? ⟨m b, off + (ix.l.den ρ).toNat, none⟩ = some (.int k ((l[(ix.l.den ρ).toNat]).l.den ρ)) := by
              have hlt2 : off + (ix.l.den ρ).toNat < cs.length := (List.getElem?_eq_some_iff.1 hcs).1
              simp only [World.cell?, h2, Option.isSome_none, Bool.false_eq_true, if_false, List.getElem?_toArray]
              rw [List.getElem?_append_left (by simpa using hlt2), List.getElem?_map, hcs]; rfl
            simp only [W.den, A.den, Lin.den_var, upd_same, hz]; simp [Instr.loadAt, Instr.sureAddr, loadVar, run_isAggB hu, hcell]
end
end Go.Rx
