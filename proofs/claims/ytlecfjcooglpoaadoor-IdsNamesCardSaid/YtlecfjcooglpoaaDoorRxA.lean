/- Quiet operations on rows. -/
import Derived.Test.YtlecfjcooglpoaaDoorRx5
import Derived.Laws.BytesArg
set_option linter.unusedVariables false
set_option linter.unusedSimpArgs false
namespace Go.Rx
open M

noncomputable def cellM (c : CK) (code i : Lin) (j : Nat) : M A :=
  match c with
  | .int k lo hi => bind (fnM 21 [code, i, .const j] lo hi) fun l => pure (.int k ⟨l, lo, hi⟩)
  | .str => bind (fnM 21 [code, i, .const j] 0 HB) fun l => pure (.str l)
  | .bool => bind (fnM 21 [code, i, .const j] 0 1) fun l => pure (.bool (.mkEq ⟨l, 0, 1⟩ (.const 1)))
noncomputable def cellsM (code i : Lin) : Nat → List CK → M (List A)
  | _, [] => pure []
  | j, c :: r => bind (cellM c code i j) fun a => bind (cellsM code i (j + 1) r) fun l => pure (a :: l)
noncomputable def epLoad (P : Program) (bl : List Blk) (t : TypeId) (b sz : Nat) (o i : Lin) (j : Nat) : M V :=
  match bl[b]? with
  | some ([.rows sh off code cap kind], _) => cond (Nat.blt 0 kind && Nat.beq sz sh.length && Lin.beq o off) (bind (chkM 21 [code, i]) fun _ => match isAggB P t, szB P t with
    | some true, some k => cond (Nat.ble (j + k) sh.length) (bind (cellsM code i j ((sh.drop j).take k)) fun l => pure (.w (.agg l))) fail
    | some false, _ => match sh[j]? with
      | some c => bind (cellM c code i j) fun a => pure (.w (.one a))
      | none => fail
    | _, _ => fail) fail
  | _ => fail
def slIdx (P : Program) (t : TypeId) (b sz : Nat) (o ro len : Lin) (ix : Lin) : M V :=
  match slcOf P t with
  | some e => match szB P e with
    | some s => cond (Nat.beq s sz) (bind (chkM 30 [ix, len]) fun _ => pure (.w (.one (.ep b sz o (ro.add ix) 0)))) fail
    | none => fail
  | none => fail
def slSub (P : Program) (t : TypeId) (b sz : Nat) (o ro len cap : Lin) (x y : Lin) : M V :=
  match slcOf P t with
  | some e => match szB P e with
    | some s => cond (Nat.beq s sz) (bind (chkM 32 [x, y, len]) fun _ => match x.isC with
      | some 0 => pure (.w (.one (.sl b sz o ro y cap)))
      | _ => bind (fnM 33 [ro, x, cap] 0 9223372036854775808) fun r => pure (.w (.one (.sl b sz o r (y.sub x) (cap.sub x))))) fail
    | none => fail
  | none => fail
def bndL (tm : List V) (d : Lin) : Option Operand → Option Lin
  | none => some d
  | some x => intL (opV tm x)
def byteSh : List CK → Bool
  | [.int .u8 lo hi] => decide (lo = 0) && decide (hi = 255)
  | _ => false
noncomputable def slStr (bl : List Blk) (b sz : Nat) (o ro len : Lin) : M V :=
  match bl[b]? with
  | some ([.rows sh off code cap kind], _) => cond (Nat.blt 0 kind && Nat.beq sz 1 && Lin.beq o off && byteSh sh) (bind (chkM 35 [code, ro, ro.add len]) fun _ => bind (fnM 34 [code, ro, ro.add len] 0 HB) fun l => pure (.w (.one (.str l)))) fail
  | _ => fail
def brM {α : Type} (b : BE) (x y : M α) : M α := fun n k => match b with
  | .lit v => cond v (x n k) (y n k)
  | b => .br b (x n k) (y n k)
def minM (k : IntKind) (x y : IV) : M V := brM (.mkLt y x) (pure (.w (.one (.int k y)))) (pure (.w (.one (.int k x))))
def maxM (k : IntKind) (x y : IV) : M V := brM (.mkLt x y) (pure (.w (.one (.int k y)))) (pure (.w (.one (.int k x))))
/-- Truth values at a place: a set of bytes. -/
def boolsOf : List A → Option (List Bool)
  | [] => some []
  | .bool (.lit b) :: r => match boolsOf r with | some l => some (b :: l) | none => none
  | _ :: _ => none
def idxB : Nat → List Bool → List UInt8
  | _, [] => []
  | i, b :: r => cond b (UInt8.ofNat i :: idxB (i + 1) r) (idxB (i + 1) r)
def selB (bl : List Blk) (b off : Nat) (ix : IV) : M V :=
  match bl[b]? with
  | some (cs, _) => match boolsOf ((cs.drop off).take (ix.hi.toNat + 1)) with
    | some l => cond (Nat.beq l.length (ix.hi.toNat + 1) && Nat.ble ix.hi.toNat 255 && decide (0 ≤ ix.lo) && isOrd cs) (bind (fnM 43 [.const (cOf (idxB 0 l)), ix.l] 0 1) fun r => pure (.w (.one (.bool (.mkEq ⟨r, 0, 1⟩ (.const 1)))))) fail
    | none => fail
  | none => fail
/-- What is done on rows. -/
noncomputable def rowsQ (P : Program) (bl : List Blk) (tm : List V) (o : Oper) : Option (M V) :=
  match o.op with
  | .load t x => match opV tm x with
    | .w (.one (.ep b sz o i j)) => some (epLoad P bl t b sz o i j)
    | .w (.one (.pix b off ix)) => match P.underlying t with
      | some .bool => some (selB bl b off ix)
      | _ => none
    | _ => none
  | .nilCheck x => match opV tm x with
    | .w (.one (.ep b sz o i j)) => some (pure (.w (.one (.ep b sz o i j))))
    | _ => none
  | .indexAddr t x ix => match opV tm x, opV tm ix with
    | .w (.one (.sl b sz o ro len cap)), .w (.one (.int _ i)) => some (slIdx P t b sz o ro len i.l)
    | _, _ => none
  | .fieldAddr s x f => match opV tm x, fieldOf P s f with
    | .w (.one (.ep b sz o i j)), some fd => match szB P fd.type with
      | some (_ + 1) => some (pure (.w (.one (.ep b sz o i (j + fd.offset)))))
      | _ => none
    | _, _ => none
  | .slice t x lo hi none => match opV tm x with
    | .w (.one (.sl b sz o ro len cap)) => match bndL tm (.const 0) lo, bndL tm len hi with
      | some p, some q => some (slSub P t b sz o ro len cap p q)
      | _, _ => none
    | _ => none
  | .convert s d x => match opV tm x, slcOf P s, P.underlying d with
    | .w (.one (.sl b sz o ro len cap)), some e, some .string => match P.underlying e with
      | some (.int .u8) => some (slStr bl b sz o ro len)
      | _ => none
    | _, _, _ => none
  | .call c => match c.callee with
    | .builtin .len => match c.args.toList, c.argTypes.toList with
      | [x], [t] => match opV tm x, slcOf P t with
        | .w (.one (.sl b sz o ro len cap)), some _ => some (pure (.w (.one (.int .i64 ⟨len, 0, 9223372036854775807⟩))))
        | _, _ => none
      | _, _ => none
    | .builtin .min => match c.args.toList with
      | [x, y] => match opV tm x, opV tm y with
        | .w (.one (.int k p)), .w (.one (.int k' q)) => cond (decide (k = k')) (some (minM k p q)) none
        | _, _ => none
      | _ => none
    | .builtin .max => match c.args.toList with
      | [x, y] => match opV tm x, opV tm y with
        | .w (.one (.int k p)), .w (.one (.int k' q)) => cond (decide (k = k')) (some (maxM k p q)) none
        | _, _ => none
      | _ => none
    | _ => none
  | _ => none
noncomputable def qop (P : Program) (cal : Cal) (gl : Glo) (bl : List Blk) (tm : List V) (o : Oper) : M V :=
  match rowsQ P bl tm o with
  | some x => x
  | none => qop0 P cal gl bl tm o

theorem RowsAt.get {cells : Array Value} {off : Nat} {sh : List CK} {rows : List (List Int)} (h : RowsAt cells off sh rows) {i j : Nat} {row : List Int} {v : Value} (hi : rows[i]? = some row) (hj : (rowV sh row)[j]? = some v) : cells[off + i * sh.length + j]? = some v := by
  obtain ⟨h1, pre, post, h2, h3⟩ := h
  have h4 := flatV_get h1 hi hj
  rw [← Array.getElem?_toList, h2, List.append_assoc, List.getElem?_append_right (by omega), List.getElem?_append_left]
  · rw [show off + i * sh.length + j - pre.length = i * sh.length + j by omega]; exact h4
  · have := (List.getElem?_eq_some_iff.1 h4).1; omega

section
variable {S : Nat → List Int → List Int → Prop} {L : V → Env → Prop} {n : Nat} {ρ : Env} {m : Nat → Nat} {bl : List Blk} {gl : Glo} {w0 : Base} {P : Program} {tm : List V} {a : Act}

theorem brM_snd {α : Type} {b : BE} {x y : M α} {R : Env → Nat → α → Prop} (h1 : b.den ρ = true → Snd S L x n ρ R) (h2 : b.den ρ = false → Snd S L y n ρ R) : Snd S L (brM b x y) n ρ R := by
  intro A k hk
  unfold brM at hk
  cases hb : b.den ρ with
  | true =>
    cases b with
    | lit v => simp only [BE.den] at hb; subst hb; exact h1 rfl A k hk
    | _ => exact h1 hb A k (hk.1 hb)
  | false =>
    cases b with
    | lit v => simp only [BE.den] at hb; subst hb; exact h2 rfl A k hk
    | _ => exact h2 hb A k (hk.2 hb)

theorem cellM_snd {nb : Nat} {c : CK} {code i : Lin} {j : Nat} {z : Int} {row : List Int} (hrow : (rOf (code.den ρ))[(i.den ρ).toNat]? = some row) (hz : row[j]? = some z) (h1 : c.bd.1 ≤ z) (h2 : z ≤ c.bd.2) :
    Snd S L (cellM c code i j) n ρ fun ρ' n' x => x.ok n' nb ρ' ∧ x.den ρ' m = c.val z := by
  have hf : fnD 21 ([code, i, Lin.const (j : Nat)].map (·.den ρ)) = z := by
    simp only [List.map_cons, List.map_nil, Lin.den_const, fnD, Int.toNat_natCast]
    simp [List.getD, hrow, hz]
  cases c with
  | int k lo hi =>
    refine (fnM_snd (by rw [hf]; exact h1) (by rw [hf]; exact h2)).bind fun ρ1 n1 l _ _ ⟨g1, g2⟩ => Snd.pure ⟨⟨g1, ?_, ?_⟩, ?_⟩
    · rw [g2, hf]; exact h1
    · rw [g2, hf]; exact h2
    · simp only [A.den, CK.val]; rw [g2, hf]
  | str =>
    refine (fnM_snd (by rw [hf]; exact h1) (by rw [hf]; exact h2)).bind fun ρ1 n1 l _ _ ⟨g1, g2⟩ => Snd.pure ⟨⟨g1, ?_, ?_⟩, ?_⟩
    · rw [g2, hf]; exact h1
    · rw [g2, hf]; exact h2
    · simp only [A.den, CK.val]; rw [g2, hf]
  | bool =>
    refine (fnM_snd (by rw [hf]; exact h1) (by rw [hf]; exact h2)).bind fun ρ1 n1 l _ _ ⟨g1, g2⟩ => Snd.pure ?_
    have hok : IV.ok n1 ρ1 ⟨l, 0, 1⟩ := ⟨g1, by simp only; rw [g2, hf]; exact h1, by simp only; rw [g2, hf]; exact h2⟩
    have e := BE.den_mkEq hok (IV.const_ok n1 ρ1 1)
    refine ⟨e.2, ?_⟩
    simp only [A.den, CK.val]
    rw [e.1]
    simp only [IV.const, Lin.den_const]
    rw [g2, hf]
theorem cellsM_snd {nb : Nat} {sh : List CK} {row : List Int} (hok : RowOk sh row) : ∀ {r : List CK} {n : Nat} {ρ : Env} {code i : Lin} {j : Nat}, code.sc n → i.sc n → (rOf (code.den ρ))[(i.den ρ).toNat]? = some row → (∀ (x : Nat) (c : CK), r[x]? = some c → sh[j + x]? = some c) →
    Snd S L (cellsM code i j r) n ρ fun ρ' n' l => (∀ a ∈ l, A.ok n' nb ρ' a) ∧ l.length = r.length ∧ ∀ (x : Nat) (a : A), l[x]? = some a → (rowV sh row)[j + x]? = some (a.den ρ' m)
  | [], n, ρ, code, i, j, _, _, _, _ => Snd.pure ⟨fun _ h => by simp at h, rfl, fun x a h => by simp at h⟩
  | c :: r, n, ρ, code, i, j, hs1, hs2, hrow, hr => by
    have h0 := hr 0 c rfl
    obtain ⟨z, h1, h2, h3, h4⟩ := hok.get h0
    refine (cellM_snd (nb := nb) (m := m) hrow h1 h2 h3).bind fun ρ1 n1 y hn ha ⟨g1, g2⟩ => ?_
    refine (cellsM_snd (nb := nb) (r := r) (n := n1) (ρ := ρ1) (code := code) (i := i) (j := j + 1) hok (hs1.mono hn) (hs2.mono hn) (by rw [Lin.den_agree ha hs1, Lin.den_agree ha hs2]; exact hrow) (fun x c hx => by
      have := hr (x + 1) c (by simpa using hx)
      rw [show j + 1 + x = j + (x + 1) by omega]; exact this)).bind fun ρ2 n2 l hn2 ha2 ⟨k1, k2, k3⟩ => Snd.pure ⟨fun b hb => ?_, by simp [k2], fun x b hb => ?_⟩
    · rcases List.mem_cons.1 hb with rfl | hb
      · exact g1.ext ha2 hn2 (Nat.le_refl _)
      · exact k1 b hb
    · cases x with
      | zero =>
        simp only [List.getElem?_cons_zero, Option.some.injEq] at hb
        subst hb
        rw [A.den_ext g1 ha2 (fun _ _ => rfl), g2]; exact h4
      | succ x =>
        have := k3 x b (by simpa using hb)
        rw [show j + (x + 1) = j + 1 + x by omega]; exact this

theorem epLoad_snd (hb : BlOk n bl.length ρ bl) (hex : ∃ w, Mem w0 ρ m bl w) (t : TypeId) {b sz : Nat} {o i : Lin} {j : Nat} (hx : (A.ep b sz o i j).ok n bl.length ρ) :
    Snd S L (epLoad P bl t b sz o i j) n ρ (QV w0 m bl n ρ fun w => (Instr.loadAt t ((A.ep b sz o i j).den ρ m)).run P w) := by
  obtain ⟨wx, hwx⟩ := hex
  unfold epLoad
  split
  · rename_i sh off code cap kind t' hbl
    refine snd_guard fun hc => chkM_snd fun hk => ?_
    simp only [Bool.and_eq_true] at hc
    obtain ⟨⟨c1, c2⟩, c3⟩ := hc
    have c1 : 0 < kind := Nat.le_of_ble_eq_true c1
    have c2 := Nat.eq_of_beq_eq_true c2
    have c3 := Lin.beq_eq c3
    subst c3
    have hrok : (A.rows sh o code cap kind).ok n bl.length ρ := hb _ (List.mem_of_getElem? hbl) _ (by simp)
    simp only [List.map_cons, List.map_nil, chkD] at hk
    have hlt : (i.den ρ).toNat < (rOf (code.den ρ)).length := by omega
    have hrow : (rOf (code.den ρ))[(i.den ρ).toNat]? = some (rOf (code.den ρ))[(i.den ρ).toNat] := List.getElem?_eq_getElem hlt
    generalize (rOf (code.den ρ))[(i.den ρ).toNat] = row at hrow
    have hcap : 0 ≤ cap.den ρ := by
      rcases Int.lt_or_le (cap.den ρ) 0 with h | h
      · have := (hwx.rws b sh o code cap kind t' hbl (by omega)).1 h
        rw [this] at hlt; simp at hlt
      · exact h
    have hmem : ∀ w, Mem w0 ρ m bl w → RowOk sh row ∧ ∀ (x : Nat) (v : Value), (rowV sh row)[x]? = some v → w.cell? ⟨m b, (o.den ρ).toNat + (i.den ρ).toNat * sz + x, none⟩ = some v := fun w hw => by
      obtain ⟨_, cells, tq, fz, g1, ⟨g2, g3⟩, _⟩ := (hw.rws b sh o code cap kind t' hbl (by omega)).2 hcap
      refine ⟨g3.1 _ (List.mem_of_getElem? hrow), fun x v hv => ?_⟩
      have := g3.get hrow hv
      simp only [World.cell?, g1, Option.isSome_none, Bool.false_eq_true, if_false]
      rw [c2]; exact this
    have hrk := (hmem wx hwx).1
    cases hagg : isAggB P t with
    | none => exact Snd.fail
    | some ag =>
      cases ag with
      | true =>
        cases hs : szB P t with
        | none => exact Snd.fail
        | some k =>
          refine snd_guard fun hk2 => ?_
          have hk2 := Nat.le_of_ble_eq_true hk2
          refine (cellsM_snd (nb := bl.length) (m := m) (r := (sh.drop j).take k) hrk hrok.1.2.1 hx.2.1.2 hrow (fun x c hxc => by
            rw [List.getElem?_take] at hxc
            split at hxc
            · rw [List.getElem?_drop] at hxc; exact hxc
            · cases hxc)).bind fun ρ1 n1 l hn ha ⟨g1, g2, g3⟩ => Snd.pure ⟨g1, _, rfl, fun w hw => ?_⟩
          have hl := run_loadCells_list (P := P) w ⟨m b, (o.den ρ).toNat + (i.den ρ).toNat * sz + j, none⟩ (l.map (A.den ρ1 m)) fun x v hj => by
            rw [addr_add]
            rw [List.getElem?_map] at hj
            cases hq : l[x]? with
            | none => simp [hq] at hj
            | some y =>
              simp only [hq, Option.map_some, Option.some.injEq] at hj
              subst hj
              rw [Nat.add_assoc]
              exact (hmem w hw).2 (j + x) _ (g3 x y hq)
          simp only [List.length_map, g2, List.length_take, List.length_drop, Nat.min_eq_left (show k ≤ sh.length - j by omega)] at hl
          simp [Instr.loadAt, Instr.sureAddr, A.den, loadVar, run_isAggB hagg, run_szB hs, hl, W.den]
      | false =>
        cases hc : sh[j]? with
        | none => simp only; exact Snd.fail
        | some c =>
          simp only
          obtain ⟨z, h1, h2, h3, h4⟩ := hrk.get hc
          refine (cellM_snd (nb := bl.length) (m := m) hrow h1 h2 h3).bind fun ρ1 n1 y hn ha ⟨g1, g2⟩ => Snd.pure ⟨g1, _, rfl, fun w hw => ?_⟩
          have := (hmem w hw).2 j _ h4
          have hpd : (A.ep b sz o i j).den ρ m = .pointer (some ⟨m b, (o.den ρ).toNat + (i.den ρ).toNat * sz + j, none⟩) := rfl
          simp [Instr.loadAt, Instr.sureAddr, hpd, loadVar, run_isAggB hagg, this, W.den, g2]
  · exact Snd.fail

theorem sl_den {b sz : Nat} {o ro len cap : Lin} (hx : (A.sl b sz o ro len cap).ok n bl.length ρ) : ∃ p, (A.sl b sz o ro len cap).den ρ m = .slice p (len.den ρ).toNat (if cap.den ρ < 0 then 0 else (cap.den ρ).toNat) ∧ (cap.den ρ < 0 → p = none) ∧ (0 ≤ cap.den ρ → p = some ⟨m b, (o.den ρ).toNat + (ro.den ρ).toNat * sz, none⟩) := by
  obtain ⟨_, _, _, _, h3, _⟩ := hx
  simp only [A.den]
  by_cases hc : cap.den ρ < 0
  · rw [if_pos hc, if_pos hc, h3 hc]
    exact ⟨none, rfl, fun _ => rfl, fun h => by omega⟩
  · rw [if_neg hc, if_neg hc]
    exact ⟨_, rfl, fun h => absurd h hc, fun _ => rfl⟩
theorem slIdx_snd {t : TypeId} {b sz : Nat} {o ro len cap ix : Lin} {k : IntKind} (hx : (A.sl b sz o ro len cap).ok n bl.length ρ) (hi : ix.sc n) :
    Snd S L (slIdx P t b sz o ro len ix) n ρ (QV w0 m bl n ρ fun w => (Instr.indexAt t ((A.sl b sz o ro len cap).den ρ m) (.int k (ix.den ρ))).run P w) := by
  unfold slIdx
  cases h1 : slcOf P t with
  | none => exact Snd.fail
  | some e =>
    cases h2 : szB P e with
    | none => simp only [h2]; exact Snd.fail
    | some s =>
      simp only [h2]
      refine snd_guard fun hs => chkM_snd fun hk => Snd.pure ?_
      have hs := Nat.eq_of_beq_eq_true hs
      subst hs
      simp only [List.map_cons, List.map_nil, chkD] at hk
      obtain ⟨x1, ⟨x2, x3, x4, x5⟩, ⟨x6, x7, x8, x9⟩, x10, x11, x12⟩ := hx
      have hcap : ¬ (cap.den ρ < 0) := fun h => by have := x11 h; omega
      refine ⟨⟨x1, ⟨x2, Lin.sc_add x3 hi⟩, x6, by rw [Lin.den_add]; omega⟩, _, rfl, fun w _ => ?_⟩
      have c2 : ix.den ρ < ((len.den ρ).toNat : Int) := by omega
      have e1 : (ro.den ρ + ix.den ρ).toNat = (ro.den ρ).toNat + (ix.den ρ).toNat := by omega
      simp only [A.den, if_neg hcap, W.den, Lin.den_add, e1]
      simp [-Int.ofNat_toNat, Instr.indexAt, asIntOf, run_underlying (slcOf_spec h1), hk.1, c2, run_szB h2, addr_add, Nat.add_mul, Nat.add_assoc]
theorem bndL_spec {d : Lin} {y : Option Operand} {l : Lin} (h : bndL tm d y = some l) (ht : TRel n bl.length ρ m tm a.tmps) : (y = none ∧ l = d) ∨ ∃ k, y.map a.eval = some (.int k (l.den ρ)) ∧ l.sc n := by
  cases y with
  | none => exact .inl ⟨rfl, by simpa [bndL] using h.symm⟩
  | some x =>
    obtain ⟨k, hk, h2⟩ := intL_spec (m := m) (bl := bl) h (opV_spec ht x).2 (opV_spec ht x).1
    exact .inr ⟨k, by rw [← hk]; rfl, h2⟩
theorem slSub_snd {t : TypeId} {b sz : Nat} {o ro len cap p q : Lin} {lo hi : Option Operand} (hx : (A.sl b sz o ro len cap).ok n bl.length ρ) (ht : TRel n bl.length ρ m tm a.tmps) (hp : bndL tm (.const 0) lo = some p) (hq : bndL tm len hi = some q) :
    Snd S L (slSub P t b sz o ro len cap p q) n ρ (QV w0 m bl n ρ fun w => (Instr.sliceAt t ((A.sl b sz o ro len cap).den ρ m) (lo.map a.eval) (hi.map a.eval) none).run P w) := by
  unfold slSub
  cases h1 : slcOf P t with
  | none => exact Snd.fail
  | some e =>
    cases h2 : szB P e with
    | none => simp only [h2]; exact Snd.fail
    | some s =>
      simp only [h2]
      refine snd_guard fun hs => chkM_snd fun hk => ?_
      have hs := Nat.eq_of_beq_eq_true hs
      subst hs
      simp only [List.map_cons, List.map_nil, chkD] at hk
      obtain ⟨k1, k2, k3⟩ := hk
      have hx' := hx
      obtain ⟨x1, ⟨x2, x3, x4, x5⟩, ⟨x6, x7, x8, x9⟩, ⟨x10, x13⟩, x11, x12⟩ := hx
      have hsp := bndL_spec hp ht
      have hsq := bndL_spec hq ht
      have scp : p.sc n := by rcases hsp with ⟨_, rfl⟩ | ⟨_, _, h⟩; exact Lin.sc_const _ _; exact h
      have scq : q.sc n := by rcases hsq with ⟨_, rfl⟩ | ⟨_, _, h⟩; exact x4; exact h
      obtain ⟨ptr, e1, e2, e3⟩ := sl_den (m := m) hx'
      have hbs : ∀ w, (Instr.sliceBounds true (len.den ρ).toNat (if cap.den ρ < 0 then 0 else (cap.den ρ).toNat) (lo.map a.eval) (hi.map a.eval) none).run P w = .ok ((p.den ρ).toNat, (q.den ρ).toNat, (if cap.den ρ < 0 then 0 else (cap.den ρ).toNat)) w := fun w => by
        have hle : (len.den ρ) ≤ ((if cap.den ρ < 0 then 0 else (cap.den ρ).toNat : Nat) : Int) := by
          split
          · rename_i h; rw [x11 h]; simp
          · rename_i h; have := x12 (by omega); omega
        generalize (if cap.den ρ < 0 then 0 else (cap.den ρ).toNat) = C at hle
        rcases hsp with ⟨rfl, rfl⟩ | ⟨kp, hp', _⟩ <;> rcases hsq with ⟨rfl, rfl⟩ | ⟨kq, hq', _⟩
        · simp [Instr.sliceBounds, Lin.den_const]
        · rw [hq']; simp [Instr.sliceBounds, Lin.den_const, sliceB_ok (P := P) (by omega : 0 ≤ q.den ρ) (by omega : q.den ρ ≤ (C : Int))]
        · rw [hp']; simp [Instr.sliceBounds, sliceB_ok (P := P) (y := (q.den ρ).toNat) k1 (by omega)]
        · rw [hp', hq']; simp [Instr.sliceBounds, sliceB_ok (P := P) (by omega : 0 ≤ q.den ρ) (by omega : q.den ρ ≤ (C : Int)), sliceB_ok (P := P) (y := (q.den ρ).toNat) k1 (by omega)]
      have hrun : ∀ (w : World) (r : Int), r = (if p.den ρ = cap.den ρ then ro.den ρ else ro.den ρ + p.den ρ) →
          (Instr.sliceAt t ((A.sl b s o ro len cap).den ρ m) (lo.map a.eval) (hi.map a.eval) none).run P w = .ok (if cap.den ρ - p.den ρ < 0 then .slice none 0 0 else .slice (some ⟨m b, (o.den ρ).toNat + r.toNat * s, none⟩) (q.den ρ - p.den ρ).toNat (cap.den ρ - p.den ρ).toNat) w := fun w r hr => by
        rw [e1]
        have e4 : (q.den ρ).toNat - (p.den ρ).toNat = (q.den ρ - p.den ρ).toNat := by omega
        simp only [Instr.sliceAt, Sem.run_bind, run_underlying (slcOf_spec h1), Result.andThen_ok, Instr.slice, hbs w, run_szB h2, Sem.run_pure, e4]
        by_cases hc : cap.den ρ < 0
        · have hl := x11 hc
          have hp0 : p.den ρ = 0 := by omega
          rw [if_pos hc, e2 hc, if_pos (by omega)]
          have : q.den ρ = 0 := by omega
          simp [hp0, this, hc]
        · rw [if_neg hc, e3 (by omega)]
          have h12 := x12 (by omega)
          have hcp : ¬ (cap.den ρ - p.den ρ < 0) := by omega
          rw [if_neg hcp]
          have e5 : (cap.den ρ).toNat - (p.den ρ).toNat = (cap.den ρ - p.den ρ).toNat := by omega
          rw [e5]
          by_cases hpc : p.den ρ = cap.den ρ
          · rw [if_pos hpc] at hr
            have h7 : (cap.den ρ).toNat = (p.den ρ).toNat := by omega
            rw [if_pos h7, hr]
          · rw [if_neg hpc] at hr
            have h7 : ¬ (cap.den ρ).toNat = (p.den ρ).toNat := by omega
            rw [if_neg h7, hr]
            have e6 : (ro.den ρ + p.den ρ).toNat = (ro.den ρ).toNat + (p.den ρ).toNat := by omega
            rw [e6, Nat.add_mul, ← Nat.add_assoc]
            simp [addr_add]
      split
      · rename_i h0
        have hp0 := Lin.den_isC h0 (ρ := ρ)
        refine Snd.pure ⟨⟨x1, ⟨x2, x3, scq, x5⟩, ⟨x6, x7, by omega, by omega⟩, ⟨x10, x13⟩, fun h => ?_, fun h => ?_⟩, _, rfl, fun w _ => ?_⟩
        · have := x11 h; omega
        · have := x12 h; omega
        · have hr := hrun w (ro.den ρ) (by rw [hp0]; split <;> omega)
          rw [hp0] at hr
          simp only [Int.sub_zero] at hr
          simp only [W.den, A.den] at hr ⊢
          exact hr
      · have hb1 : (0 : Int) ≤ fnD 33 ([ro, p, cap].map (·.den ρ)) := by
          simp only [List.map_cons, List.map_nil, fnD]; split <;> omega
        have hb2 : fnD 33 ([ro, p, cap].map (·.den ρ)) ≤ 9223372036854775808 := by
          simp only [List.map_cons, List.map_nil, fnD]
          by_cases hc : cap.den ρ < 0
          · have := x11 hc; split <;> omega
          · have := x12 (by omega); split <;> omega
        refine (fnM_snd hb1 hb2).bind fun ρ1 n1 r hn ha ⟨g1, g2⟩ => Snd.pure ?_
        simp only [List.map_cons, List.map_nil, fnD] at g2
        have a1 := Lin.den_agree ha x2; have a2 := Lin.den_agree ha scq; have a3 := Lin.den_agree ha scp; have a4 := Lin.den_agree ha x5
        refine ⟨⟨x1, ⟨x2.mono hn, g1, Lin.sc_sub (scq.mono hn) (scp.mono hn), Lin.sc_sub (x5.mono hn) (scp.mono hn)⟩, ?_⟩, _, rfl, fun w _ => ?_⟩
        · rw [Lin.den_sub, Lin.den_sub, a1, a2, a3, a4, g2]
          refine ⟨⟨x6, ?_, by omega, by omega⟩, ⟨?_, ?_⟩, fun h => ?_, fun h => ?_⟩
          · split <;> omega
          · by_cases hc : cap.den ρ < 0
            · have := x11 hc; omega
            · have := x12 (by omega); omega
          · split <;> omega
          · by_cases hc : cap.den ρ < 0
            · have := x11 hc; omega
            · have := x12 (by omega); omega
          · by_cases hc : cap.den ρ < 0
            · have := x11 hc; omega
            · have := x12 (by omega); omega
        · refine (hrun w (r.den ρ1) g2).trans ?_
          simp only [W.den, A.den, Lin.den_sub, a1, a2, a3, a4]

theorem slStr_snd (hb : BlOk n bl.length ρ bl) (hex : ∃ w, Mem w0 ρ m bl w) {src dst e : TypeId} (hs : P.underlying src = some (.slice e)) (he : P.underlying e = some (.int .u8)) (hd : P.underlying dst = some .string) {b sz : Nat} {o ro len cap : Lin} (hx : (A.sl b sz o ro len cap).ok n bl.length ρ) :
    Snd S L (slStr bl b sz o ro len) n ρ (QV w0 m bl n ρ fun w => (convert src dst ((A.sl b sz o ro len cap).den ρ m)).run P w) := by
  obtain ⟨wx, hwx⟩ := hex
  unfold slStr
  split
  · rename_i sh off code cap' kind t' hbl
    refine snd_guard fun hc => chkM_snd fun hk => ?_
    simp only [Bool.and_eq_true] at hc
    obtain ⟨⟨⟨c1, c2⟩, c3⟩, c4⟩ := hc
    have c1 : 0 < kind := Nat.le_of_ble_eq_true c1
    have c2 := Nat.eq_of_beq_eq_true c2
    have c3 := Lin.beq_eq c3
    subst c3; subst c2
    simp only [List.map_cons, List.map_nil, chkD, Lin.den_add] at hk
    obtain ⟨ptr, e1, e2, e3⟩ := sl_den (m := m) hx
    obtain ⟨x1, ⟨x2, x3, x4, x5⟩, ⟨x6, x7, x8, x9⟩, ⟨x10, x13⟩, x11, x12⟩ := hx
    generalize hR : rOf (code.den ρ) = rows at hk
    have hnil : cap'.den ρ < 0 → rows = [] := fun h => by rw [← hR]; exact (hwx.rws b sh o code cap' kind t' hbl (by omega)).1 h
    have hxs : (((rows.drop (ro.den ρ).toNat).take (len.den ρ).toNat).map fun row => row.getD 0 0).length = (len.den ρ).toNat := by
      simp; omega
    have hf : fnD 34 ([code, ro, ro.add len].map (·.den ρ)) = cOf ((((rows.drop (ro.den ρ).toNat).take (len.den ρ).toNat).map fun row => row.getD 0 0).map fun z => UInt8.ofNat z.toNat) := by
      simp only [List.map_cons, List.map_nil, fnD, Lin.den_add, hR]
      have : (ro.den ρ + len.den ρ).toNat - (ro.den ρ).toNat = (len.den ρ).toNat := by omega
      rw [this, List.map_map]; rfl
    generalize hX : (((rows.drop (ro.den ρ).toNat).take (len.den ρ).toNat).map fun row => row.getD 0 0) = xs at hxs hf
    have hl : (xs.map fun z => UInt8.ofNat z.toNat).length ≤ mxL := by
      have : (xs.map fun z => UInt8.ofNat z.toNat).length = (len.den ρ).toNat := by simp [hxs]
      unfold mxL; omega
    refine (fnM_snd (by rw [hf]; exact cOf_nonneg _) (by rw [hf]; exact HB_c hl)).bind fun ρ1 n1 l _ _ ⟨g1, g2⟩ => Snd.pure ⟨⟨g1, by rw [g2, hf]; exact cOf_nonneg _, by rw [g2, hf]; exact HB_c hl⟩, _, rfl, fun w hw => ?_⟩
    have hval : (W.one (A.str l)).den ρ1 m = .string (strOfNums xs) := by
      simp only [W.den, A.den, g2, hf, sOf_cOf]
      rfl
    rw [hval]
    show (convert src dst ((A.sl b 1 o ro len cap).den ρ m)).run P w = _
    rw [e1]
    by_cases hcap : cap.den ρ < 0
    · have hl0 := x11 hcap
      rw [e2 hcap, if_pos hcap]
      have hxs0 : xs = [] := List.eq_nil_of_length_eq_zero (by rw [hxs, hl0]; rfl)
      rw [hxs0, run_convert_bytes_nil w src e hs he _ _ dst hd]
      rfl
    · rw [e3 (by omega), if_neg hcap]
      by_cases hcap' : cap'.den ρ < 0
      · have hr0 := hnil hcap'
        have hl0 : len.den ρ = 0 := by rw [hr0] at hk; simp at hk; omega
        have hxs0 : xs = [] := List.eq_nil_of_length_eq_zero (by rw [hxs, hl0]; rfl)
        exact run_convert_bytes_arg w src e hs he (m b) _ _ _ xs hxs (fun i hi => by rw [hl0] at hi; simp at hi) dst hd
      · obtain ⟨_, cells, tq, fz, k1, ⟨k2, k3⟩, _⟩ := (hw.rws b sh o code cap' kind t' hbl (by omega)).2 (by omega)
        refine run_convert_bytes_arg w src e hs he (m b) _ _ _ xs hxs (fun i hi => ?_) dst hd
        have hlt : (ro.den ρ).toNat + i < rows.length := by omega
        have hrow : (rOf (code.den ρ))[(ro.den ρ).toNat + i]? = some rows[(ro.den ρ).toNat + i] := by rw [hR]; exact List.getElem?_eq_getElem hlt
        have hsh : ∃ lo hi, sh = [.int .u8 lo hi] := by
          unfold byteSh at c4
          split at c4
          · exact ⟨_, _, rfl⟩
          · cases c4
        obtain ⟨lo, hi2, rfl⟩ := hsh
        have hrok := k3.1 _ (List.mem_of_getElem? hrow)
        obtain ⟨z, q1, _, _, q4⟩ := hrok.get (j := 0) (c := .int .u8 lo hi2) rfl
        have := k3.get hrow q4
        have hz : xs.getD i 0 = z := by
          rw [← hX]
          have : i < (len.den ρ).toNat := hi
          simp [List.getD, List.getElem?_take, this, hlt, q1]
        simp only [World.cell?, k1, Option.isSome_none, Bool.false_eq_true, if_false, hz]
        simp only [List.length_cons, List.length_nil, Nat.add_zero, Nat.zero_add, Nat.mul_one] at this
        rw [show (o.den ρ).toNat + (ro.den ρ).toNat * 1 + i = (o.den ρ).toNat + ((ro.den ρ).toNat + i) by omega]
        exact this
  · exact Snd.fail

theorem minM_snd {k : IntKind} {x y : IV} {t : TypeId} {ts : Array TypeId} (hx : x.ok n ρ) (hy : y.ok n ρ) : Snd S L (minM k x y) n ρ (QV w0 m bl n ρ fun w => (Builtin.min_ ts t #[.int k (x.l.den ρ), .int k (y.l.den ρ)]).run P w) := by
  have e := BE.den_mkLt hy hx
  have hr : ∀ w, (Builtin.min_ ts t #[.int k (x.l.den ρ), .int k (y.l.den ρ)]).run P w = .ok (.int k (if y.l.den ρ < x.l.den ρ then y.l.den ρ else x.l.den ρ)) w := fun w => by
    simp [Builtin.min_, Builtin.min2]
  refine brM_snd (fun hb => Snd.pure ⟨hy, _, rfl, fun w _ => ?_⟩) fun hb => Snd.pure ⟨hx, _, rfl, fun w _ => ?_⟩
  · rw [e.1] at hb
    simp only [hr, if_pos (of_decide_eq_true hb)]; rfl
  · rw [e.1] at hb
    simp only [hr, if_neg (of_decide_eq_false hb)]; rfl
theorem maxM_snd {k : IntKind} {x y : IV} {t : TypeId} {ts : Array TypeId} (hx : x.ok n ρ) (hy : y.ok n ρ) : Snd S L (maxM k x y) n ρ (QV w0 m bl n ρ fun w => (Builtin.max_ ts t #[.int k (x.l.den ρ), .int k (y.l.den ρ)]).run P w) := by
  have e := BE.den_mkLt hx hy
  have hr : ∀ w, (Builtin.max_ ts t #[.int k (x.l.den ρ), .int k (y.l.den ρ)]).run P w = .ok (.int k (if x.l.den ρ < y.l.den ρ then y.l.den ρ else x.l.den ρ)) w := fun w => by
    simp [Builtin.max_, Builtin.max2]
  refine brM_snd (fun hb => Snd.pure ⟨hy, _, rfl, fun w _ => ?_⟩) fun hb => Snd.pure ⟨hx, _, rfl, fun w _ => ?_⟩
  · rw [e.1] at hb
    simp only [hr, if_pos (of_decide_eq_true hb)]; rfl
  · rw [e.1] at hb
    simp only [hr, if_neg (of_decide_eq_false hb)]; rfl

theorem boolsOf_spec : ∀ {cs : List A} {l : List Bool}, boolsOf cs = some l → cs = l.map fun b => A.bool (.lit b)
  | [], l, h => by simp [boolsOf] at h; subst h; rfl
  | .bool (.lit b) :: r, l, h => by
    simp only [boolsOf] at h
    cases hr : boolsOf r with
    | none => simp [hr] at h
    | some l' =>
      simp only [hr, Option.some.injEq] at h
      subst h
      simp [boolsOf_spec hr]
  | .bool (.eq ..) :: _, _, h | .bool (.lt ..) :: _, _, h | .bool (.le ..) :: _, _, h | .bool (.not ..) :: _, _, h | .bool (.and ..) :: _, _, h | .bool (.iff ..) :: _, _, h => by simp [boolsOf] at h
  | .int .. :: _, _, h => by simp [boolsOf] at h
  | .ptr .. :: _, _, h => by simp [boolsOf] at h
  | .pix .. :: _, _, h => by simp [boolsOf] at h
  | .gptr .. :: _, _, h => by simp [boolsOf] at h
  | .slc .. :: _, _, h => by simp [boolsOf] at h
  | .con _ :: _, _, h => by simp [boolsOf] at h
  | .str _ :: _, _, h => by simp [boolsOf] at h
  | .rows .. :: _, _, h => by simp [boolsOf] at h
  | .sl .. :: _, _, h => by simp [boolsOf] at h
  | .ep .. :: _, _, h => by simp [boolsOf] at h
theorem idxB_mem : ∀ (l : List Bool) (s : Nat), s + l.length ≤ 256 → ∀ i : Nat, i < 256 → (UInt8.ofNat i ∈ idxB s l ↔ s ≤ i ∧ l[i - s]? = some true)
  | [], s, _, i, _ => by simp [idxB]
  | b :: r, s, h, i, hi => by
    simp only [List.length_cons] at h
    have ih := idxB_mem r (s + 1) (by omega) i hi
    have hne : s ≠ i → UInt8.ofNat i ≠ UInt8.ofNat s := fun hne he => by
      have := congrArg UInt8.toNat he
      simp at this; omega
    have key : (s + 1 ≤ i ∧ r[i - (s + 1)]? = some true) ↔ (s < i ∧ (b :: r)[i - s]? = some true) := by
      constructor
      · rintro ⟨h1, h2⟩
        refine ⟨h1, ?_⟩
        rw [show i - s = (i - (s + 1)) + 1 by omega]; simpa using h2
      · rintro ⟨h1, h2⟩
        refine ⟨h1, ?_⟩
        rw [show i - s = (i - (s + 1)) + 1 by omega] at h2; simpa using h2
    unfold idxB
    cases b with
    | true =>
      simp only [cond_true, List.mem_cons, ih, key]
      by_cases he : s = i
      · subst he; simp
      · constructor
        · rintro (h1 | h1)
          · exact absurd h1 (hne he)
          · exact ⟨by omega, h1.2⟩
        · rintro ⟨h1, h2⟩; exact .inr ⟨by omega, h2⟩
    | false =>
      simp only [cond_false, ih, key]
      by_cases he : s = i
      · subst he; simp
      · constructor
        · rintro ⟨h1, h2⟩; exact ⟨by omega, h2⟩
        · rintro ⟨h1, h2⟩; exact ⟨by omega, h2⟩
theorem selB_snd (hb : BlOk n bl.length ρ bl) {ty : TypeId} (hu : P.underlying ty = some .bool) (b off : Nat) {ix : IV} (hix : ix.ok n ρ) : Snd S L (selB bl b off ix) n ρ (QV w0 m bl n ρ fun w => (Instr.loadAt ty ((A.pix b off ix).den ρ m)).run P w) := by
  unfold selB
  cases hbl : bl[b]? with
  | none => exact Snd.fail
  | some q =>
    obtain ⟨cs, t⟩ := q
    simp only
    cases hi : boolsOf ((cs.drop off).take (ix.hi.toNat + 1)) with
    | none => exact Snd.fail
    | some l =>
      refine snd_guard fun hc => ?_
      simp only [Bool.and_eq_true, decide_eq_true_eq] at hc
      obtain ⟨⟨⟨hc1, hc2⟩, hc3⟩, hq⟩ := hc
      have hlen := Nat.eq_of_beq_eq_true hc1
      have h255 := Nat.le_of_ble_eq_true hc2
      have e := boolsOf_spec hi
      have bx := hix.2
      have hlt : (ix.l.den ρ).toNat < l.length := by omega
      have hcl : cOf (idxB 0 l) = (Lin.const (cOf (idxB 0 l))).den ρ := (Lin.den_const _ _).symm
      have hf : fnD 43 ([Lin.const (cOf (idxB 0 l)), ix.l].map (·.den ρ)) = if l[(ix.l.den ρ).toNat] = true then 1 else 0 := by
        simp only [List.map_cons, List.map_nil, fnD, Lin.den_const, sOf_cOf]
        have := idxB_mem l 0 (by omega) (ix.l.den ρ).toNat (by omega)
        simp only [Nat.sub_zero, Nat.zero_le, true_and, List.getElem?_eq_getElem hlt, Option.some.injEq] at this
        simp only [this]
      have b1 := bit01 (l[(ix.l.den ρ).toNat] = true)
      refine (fnM_snd (by rw [hf]; exact b1.1) (by rw [hf]; exact b1.2)).bind fun ρ1 n1 r hn ha ⟨g1, g2⟩ => ?_
      rw [hf] at g2
      have e2 := BE.den_mkEq (n := n1) (ρ := ρ1) (a := ⟨r, 0, 1⟩) (b := .const 1) ⟨g1, by simp only [g2]; exact b1.1, by simp only [g2]; exact b1.2⟩ (IV.const_ok _ _ _)
      refine Snd.pure ⟨e2.2, _, rfl, fun w hw => ?_⟩
      obtain ⟨_, _, rr, _, h2⟩ := hw.blk b cs t hbl hq
      have hcs : cs[off + (ix.l.den ρ).toNat]? = some (.bool (.lit l[(ix.l.den ρ).toNat])) := by
        have h1 : ((cs.drop off).take (ix.hi.toNat + 1))[(ix.l.den ρ).toNat]? = some (.bool (.lit l[(ix.l.den ρ).toNat])) := by rw [e]; simp [hlt]
        rw [List.getElem?_take] at h1
        split at h1
        · rw [List.getElem?_drop] at h1; exact h1
        · cases h1
      have hclt := (List.getElem?_eq_some_iff.1 hcs).1
      have hcell : w.cell? ⟨m b, off + (ix.l.den ρ).toNat, none⟩ = some (.bool l[(ix.l.den ρ).toNat]) := by
        simp only [World.cell?, h2, Option.isSome_none, Bool.false_eq_true, if_false, List.getElem?_toArray]
        rw [List.getElem?_append_left (by simpa using hclt), List.getElem?_map, hcs]; rfl
      have hagg : isAggB P ty = some false := by unfold isAggB; rw [hu]
      have hpd : (A.pix b off ix).den ρ m = .pointer (some ⟨m b, off + (ix.l.den ρ).toNat, none⟩) := rfl
      simp only [W.den, A.den]
      rw [e2.1]
      simp only [g2, IV.const, Lin.den_const]
      have hbit : decide ((if l[(ix.l.den ρ).toNat] = true then (1 : Int) else 0) = 1) = l[(ix.l.den ρ).toNat] := by
        cases l[(ix.l.den ρ).toNat] <;> rfl
      rw [hbit]
      have hpd2 := hpd
      simp only [A.den] at hpd2
      simp [Instr.loadAt, Instr.sureAddr, loadVar, run_isAggB hagg, hcell]
theorem qop_snd {cal : Cal} (hcal : CalOk S P gl w0 cal) (hb : BlOk n bl.length ρ bl) (hg : GOk gl w0) (hex : ∃ w, Mem w0 ρ m bl w) (ht : TRel n bl.length ρ m tm a.tmps) (o : Oper) :
    Snd S L (qop P cal gl bl tm o) n ρ (QR w0 m bl n ρ P o a) := by
  unfold qop
  cases hq : rowsQ P bl tm o with
  | none => exact qop0_snd hcal hb hg hex ht o
  | some q =>
    simp only
    unfold rowsQ at hq
    split at hq
    case h_1 t x h =>
      have hx := opV_spec ht x
      split at hq
      · rename_i b sz off i j hv
        cases hq
        rw [hv] at hx
        have hxr : a.eval x = (A.ep b sz off i j).den ρ m := hx.2
        have he : execOp a.eval o = (do pure (Next.value (← Instr.loadAt t ((A.ep b sz off i j).den ρ m)))) := by simp only [execOp, h, hxr]
        exact (epLoad_snd hb hex t hx.1).mono fun _ _ _ _ _ hq => QR.of_run he hq
      · rename_i b off ix hv
        split at hq
        · rename_i hu
          cases hq
          rw [hv] at hx
          have hxr : a.eval x = (A.pix b off ix).den ρ m := hx.2
          have he : execOp a.eval o = (do pure (Next.value (← Instr.loadAt t ((A.pix b off ix).den ρ m)))) := by simp only [execOp, h, hxr]
          exact (selB_snd hb hu b off hx.1.2.1).mono fun _ _ _ _ _ hq => QR.of_run he hq
        · cases hq
      · cases hq
    case h_2 x h =>
      have hx := opV_spec ht x
      split at hq
      · rename_i b sz off i j hv
        cases hq
        rw [hv] at hx
        refine Snd.pure ⟨hx.1, _, rfl, fun w _ => .inl ?_⟩
        have hxr := hx.2
        simp only [V.rel, W.den, A.den] at hxr
        simp [execOp, h, hxr, W.den, A.den]
      · cases hq
    case h_3 t x ix h =>
      have hx := opV_spec ht x
      have hi := opV_spec ht ix
      split at hq
      · rename_i b sz off ro len cap k i hv hvi
        cases hq
        rw [hv] at hx
        rw [hvi] at hi
        have hxr : a.eval x = (A.sl b sz off ro len cap).den ρ m := hx.2
        have hir : a.eval ix = .int k (i.l.den ρ) := hi.2
        have he : execOp a.eval o = (do pure (Next.value (← Instr.indexAt t ((A.sl b sz off ro len cap).den ρ m) (.int k (i.l.den ρ))))) := by simp only [execOp, h, hxr, hir]
        have hisc : IV.ok n ρ i := hi.1
        exact (slIdx_snd hx.1 hisc.1).mono fun _ _ _ _ _ hq => QR.of_run he hq
      · cases hq
    case h_4 s x f h =>
      have hx := opV_spec ht x
      split at hq
      · rename_i b sz off i j fd hv hf
        rw [hv] at hx
        obtain ⟨fs, hu, hfd⟩ := fieldOf_spec hf
        split at hq
        · rename_i k hs
          cases hq
          refine Snd.pure ⟨hx.1, _, rfl, fun w _ => .inl ?_⟩
          have hxr := hx.2
          simp only [V.rel, W.den, A.den] at hxr
          simp [execOp, h, hxr, Instr.fieldAt, run_underlying hu, hfd, Instr.sureAddr, fieldPlace, run_szB hs, addr_add, W.den, A.den, Nat.add_assoc]
        · cases hq
      · cases hq
    case h_5 t x lo hi h =>
      have hx := opV_spec ht x
      split at hq
      · rename_i b sz off ro len cap hv
        rw [hv] at hx
        have hxr : a.eval x = (A.sl b sz off ro len cap).den ρ m := hx.2
        have he : execOp a.eval o = (do pure (Next.value (← Instr.sliceAt t ((A.sl b sz off ro len cap).den ρ m) (lo.map a.eval) (hi.map a.eval) none))) := by simp only [execOp, h, hxr]; rfl
        split at hq
        · rename_i p q' hp hq'
          cases hq
          exact (slSub_snd hx.1 ht hp hq').mono fun _ _ _ _ _ hq => QR.of_run he hq
        · cases hq
      · cases hq
    case h_6 s d x h =>
      have hx := opV_spec ht x
      split at hq
      · rename_i b sz off ro len cap e hv hs hd
        split at hq
        · rename_i he8
          cases hq
          rw [hv] at hx
          have hxr : a.eval x = (A.sl b sz off ro len cap).den ρ m := hx.2
          have he : execOp a.eval o = (do pure (Next.value (← convert s d ((A.sl b sz off ro len cap).den ρ m)))) := by simp only [execOp, h, hxr]
          exact (slStr_snd hb hex (slcOf_spec hs) he8 hd hx.1).mono fun _ _ _ _ _ hq => QR.of_run he hq
        · cases hq
      · cases hq
    case h_7 c h =>
      split at hq
      · rename_i hc
        split at hq
        · rename_i x t hxs hts
          have hx := opV_spec ht x
          split at hq
          · rename_i b sz off ro len cap e hv hs
            cases hq
            rw [hv] at hx
            have hxr : a.eval x = (A.sl b sz off ro len cap).den ρ m := hx.2
            have hxo : (A.sl b sz off ro len cap).ok n bl.length ρ := hx.1
            obtain ⟨ptr, e1, _, _⟩ := sl_den (m := m) hxo
            rw [e1] at hxr
            obtain ⟨x1, ⟨x2, x3, x4, x5⟩, ⟨x6, x7, x8, x9⟩, _⟩ := hxo
            have a1 : c.args = #[x] := by rw [← Array.toArray_toList (xs := c.args), hxs]
            have a2 : c.argTypes = #[t] := by rw [← Array.toArray_toList (xs := c.argTypes), hts]
            refine Snd.pure ⟨⟨x4, x8, x9⟩, _, rfl, fun w _ => .inl ?_⟩
            have e4 : ((len.den ρ).toNat : Int) = len.den ρ := by omega
            simp [-Int.ofNat_toNat, execOp, h, resolve, hc, a1, a2, hxr, invoke, builtin, Builtin.len_, run_underlying (slcOf_spec hs), goInt, W.den, A.den, e4]
          · cases hq
        · cases hq
      · rename_i hc
        split at hq
        · rename_i x y hxs
          have hx := opV_spec ht x
          have hy := opV_spec ht y
          split at hq
          · rename_i k p k' q' hv1 hv2
            by_cases hkk : k = k'
            · subst hkk
              simp only [decide_true, cond_true] at hq
              cases hq
              rw [hv1] at hx; rw [hv2] at hy
              have e1 : a.eval x = .int k (p.l.den ρ) := hx.2
              have e2 : a.eval y = .int k (q'.l.den ρ) := hy.2
              have a1 : c.args = #[x, y] := by rw [← Array.toArray_toList (xs := c.args), hxs]
              have he : execOp a.eval o = (do pure (Next.value (← Builtin.min_ c.argTypes o.type #[.int k (p.l.den ρ), .int k (q'.l.den ρ)]))) := by
                simp [execOp, h, resolve, hc, a1, e1, e2, invoke, builtin]
              exact (minM_snd hx.1 hy.1).mono fun _ _ _ _ _ hq => QR.of_run he hq
            · simp [hkk] at hq
          · cases hq
        · cases hq
      · rename_i hc
        split at hq
        · rename_i x y hxs
          have hx := opV_spec ht x
          have hy := opV_spec ht y
          split at hq
          · rename_i k p k' q' hv1 hv2
            by_cases hkk : k = k'
            · subst hkk
              simp only [decide_true, cond_true] at hq
              cases hq
              rw [hv1] at hx; rw [hv2] at hy
              have e1 : a.eval x = .int k (p.l.den ρ) := hx.2
              have e2 : a.eval y = .int k (q'.l.den ρ) := hy.2
              have a1 : c.args = #[x, y] := by rw [← Array.toArray_toList (xs := c.args), hxs]
              have he : execOp a.eval o = (do pure (Next.value (← Builtin.max_ c.argTypes o.type #[.int k (p.l.den ρ), .int k (q'.l.den ρ)]))) := by
                simp [execOp, h, resolve, hc, a1, e1, e2, invoke, builtin]
              exact (maxM_snd hx.1 hy.1).mono fun _ _ _ _ _ hq => QR.of_run he hq
            · simp [hkk] at hq
          · cases hq
        · cases hq
      · cases hq
    case h_8 => cases hq
end
end Go.Rx
