/- Quiet operations on rows. -/
import Derived.Test.YtkedgkbkibncgaaDoorRx5
import Derived.Laws.Cover3
import Derived.Laws.BytesArg
import Derived.StillTail
import Derived.OrdersHeld

set_option linter.unusedVariables false
set_option linter.unusedSimpArgs false
namespace Go.Rx
open M

noncomputable def cellM (c : CK) (code i : Lin) (j : Nat) : M A :=
  match c with
  | .int k lo hi => bind (fnM 21 [code, i, .const j] lo hi) fun l => pure (.int k ⟨l, lo, hi⟩)
  | .str => bind (fnM 21 [code, i, .const j] 0 HB) fun l => pure (.str l)
  | .bool => bind (fnM 21 [code, i, .const j] 0 1) fun l => pure (.bool (.mkEq ⟨l, 0, 1⟩ (.const 1)))
noncomputable def cellsM (code i : Lin) : Nat → List CK → M (List A)
  | _, [] => pure []
  | j, c :: r => bind (cellM c code i j) fun a => bind (cellsM code i (j + 1) r) fun l => pure (a :: l)
/-- So many rows of one cell each, one behind the other. -/
noncomputable def rowsM (c : CK) (code : Lin) : Nat → Lin → M (List A)
  | 0, _ => pure []
  | q + 1, i => bind (chkM 21 [code, i]) fun _ => bind (cellM c code i 0) fun a => bind (rowsM c code q (i.add (.const 1))) fun l => pure (a :: l)
noncomputable def epLoad (P : Program) (bl : List Blk) (t : TypeId) (b sz : Nat) (o i : Lin) (j : Nat) : M V :=
  match bl[b]? with
  | some ([.rows sh off code cap kind], _) => cond (Nat.blt 0 kind && Nat.beq sz sh.length && Lin.beq o off) (bind (chkM 21 [code, i]) fun _ => match isAggB P t, szB P t with
    | some true, some k => cond (Nat.ble (j + k) sh.length) (bind (cellsM code i j ((sh.drop j).take k)) fun l => pure (.w (.agg l))) (match sh, j with
      | [c], 0 => bind (rowsM c code k i) fun l => pure (.w (.agg l))
      | _, _ => fail)
    | some false, _ => match sh[j]? with
      | some c => bind (cellM c code i j) fun a => pure (.w (.one a))
      | none => fail
    | _, _ => fail) fail
  | _ => fail
def slIdx (P : Program) (t : TypeId) (b sz : Nat) (o ro len : Lin) (ix : Lin) : M V :=
  match slcOf P t with
  | some e => match szB P e with
    | some s => cond (Nat.beq s sz) (bind (chkM 30 [ix, len]) fun _ => pure (.w (.one (.ep b sz o (ro.add ix) 0)))) fail
    | none => fail
  | none => fail
def asmM (op : Nat) (ls : List Lin) : M Unit := fun n k => .asm op ls (k () n)
def slSub (P : Program) (t : TypeId) (b sz : Nat) (o ro len cap : Lin) (x y : Lin) : M V :=
  match slcOf P t with
  | some e => match szB P e with
    | some s => cond (Nat.beq s sz) (bind (chkM 32 [x, y, len]) fun _ => match x.isC with
      | some 0 => pure (.w (.one (.sl b sz o ro y cap)))
      | _ => bind (asmM 68 [len, cap]) fun _ => bind (fnM 33 [ro, x, cap] 0 9223372036854775808) fun r => pure (.w (.one (.sl b sz o r (y.sub x) (cap.sub x))))) fail
    | none => fail
  | none => fail
def bndL (tm : List V) (d : Lin) : Option Operand → Option Lin
  | none => some d
  | some x => intL (opV tm x)
def byteSh : List CK → Bool
  | [.int .u8 lo hi] => decide (lo = 0) && decide (hi = 255)
  | _ => false
noncomputable def slStr (bl : List Blk) (b sz : Nat) (o ro len : Lin) : M V :=
  match bl[b]? with
  | some ([.rows sh off code cap kind], _) => cond (Nat.blt 0 kind && Nat.beq sz 1 && Lin.beq o off && byteSh sh) (bind (chkM 35 [code, ro, ro.add len]) fun _ => bind (fnM 34 [code, ro, ro.add len] 0 HB) fun l => pure (.w (.one (.str l)))) fail
  | _ => fail
def brM {α : Type} (b : BE) (x y : M α) : M α := fun n k => match b with
  | .lit v => cond v (x n k) (y n k)
  | b => .br b (x n k) (y n k)
def minM (k : IntKind) (x y : IV) : M V := brM (.mkLt y x) (pure (.w (.one (.int k y)))) (pure (.w (.one (.int k x))))
def maxM (k : IntKind) (x y : IV) : M V := brM (.mkLt x y) (pure (.w (.one (.int k y)))) (pure (.w (.one (.int k x))))
/-- Truth values at a place: a set of bytes. -/
def boolsOf : List A → Option (List Bool)
  | [] => some []
  | .bool (.lit b) :: r => match boolsOf r with | some l => some (b :: l) | none => none
  | _ :: _ => none
def idxB : Nat → List Bool → List UInt8
  | _, [] => []
  | i, b :: r => cond b (UInt8.ofNat i :: idxB (i + 1) r) (idxB (i + 1) r)
def selB (bl : List Blk) (b off : Nat) (ix : IV) : M V :=
  match bl[b]? with
  | some (cs, _) => match boolsOf ((cs.drop off).take (ix.hi.toNat + 1)) with
    | some l => cond (Nat.beq l.length (ix.hi.toNat + 1) && Nat.ble ix.hi.toNat 255 && decide (0 ≤ ix.lo) && isOrd cs) (bind (fnM 43 [.const (cOf (idxB 0 l)), ix.l] 0 1) fun r => pure (.w (.one (.bool (.mkEq ⟨r, 0, 1⟩ (.const 1)))))) fail
    | none => fail
  | none => fail
/-- What is done on rows. -/
noncomputable def rowsQ (P : Program) (bl : List Blk) (tm : List V) (o : Oper) : Option (M V) :=
  match o.op with
  | .load t x => match opV tm x with
    | .w (.one (.ep b sz o i j)) => some (epLoad P bl t b sz o i j)
    | .w (.one (.pix b off ix)) => match P.underlying t with
      | some .bool => some (selB bl b off ix)
      | _ => none
    | _ => none
  | .nilCheck x => match opV tm x with
    | .w (.one (.ep b sz o i j)) => some (pure (.w (.one (.ep b sz o i j))))
    | _ => none
  | .indexAddr t x ix => match opV tm x, opV tm ix with
    | .w (.one (.sl b sz o ro len cap)), .w (.one (.int _ i)) => some (slIdx P t b sz o ro len i.l)
    | _, _ => none
  | .sliceToArrayPointer t x => match opV tm x, arrOf P t with
    | .w (.one (.sl b sz o ro len cap)), some (k, _) => some (cond (Nat.blt 0 k) (bind (chkM 30 [.const ((k : Int) - 1), len]) fun _ => pure (.w (.one (.ep b sz o ro 0)))) fail)
    | _, _ => none
  | .fieldAddr s x f => match opV tm x, fieldOf P s f with
    | .w (.one (.ep b sz o i j)), some fd => match szB P fd.type with
      | some (_ + 1) => some (pure (.w (.one (.ep b sz o i (j + fd.offset)))))
      | _ => none
    | _, _ => none
  | .slice t x lo hi none => match opV tm x with
    | .w (.one (.sl b sz o ro len cap)) => match bndL tm (.const 0) lo, bndL tm len hi with
      | some p, some q => some (slSub P t b sz o ro len cap p q)
      | _, _ => none
    | _ => none
  | .convert s d x => match opV tm x, slcOf P s, P.underlying d with
    | .w (.one (.sl b sz o ro len cap)), some e, some .string => match P.underlying e with
      | some (.int .u8) => some (slStr bl b sz o ro len)
      | _ => none
    | _, _, _ => none
  | .call c => match c.callee with
    | .builtin .len => match c.args.toList, c.argTypes.toList with
      | [x], [t] => match opV tm x, slcOf P t with
        | .w (.one (.sl b sz o ro len cap)), some _ => some (pure (.w (.one (.int .i64 ⟨len, 0, 9223372036854775807⟩))))
        | _, _ => none
      | _, _ => none
    | .builtin .min => match c.args.toList with
      | [x, y] => match opV tm x, opV tm y with
        | .w (.one (.int k p)), .w (.one (.int k' q)) => cond (decide (k = k')) (some (minM k p q)) none
        | _, _ => none
      | _ => none
    | .builtin .max => match c.args.toList with
      | [x, y] => match opV tm x, opV tm y with
        | .w (.one (.int k p)), .w (.one (.int k' q)) => cond (decide (k = k')) (some (maxM k p q)) none
        | _, _ => none
      | _ => none
    | _ => none
  | .binOp op t x y _ => match slcOf P t, opV tm x, opV tm y with
    | some _, .w (.one (.sl b sz o ro len cap)), .w (.one (.con (.slice none 0 0))) => match op with
      | .eql => some (bind (asmM 53 [cap, len]) fun _ => pure (.w (.one (.bool (.lt cap (.const 0))))))
      | .neq => some (bind (asmM 53 [cap, len]) fun _ => pure (.w (.one (.bool (.mkNot (.lt cap (.const 0)))))))
      | _ => none
    | _, _, _ => none
  | _ => none
/-- An array that is told as rows: its shape, its rows' number, how many there are. -/
def arrRows (bl : List Blk) (b off : Nat) : Option (List CK × Lin × Nat) :=
  match bl[b]? with
  | some ([.rows sh o code cap kind], _) => match cap.isC with
    | some c => cond (Nat.beq off 0 && Nat.blt 0 kind && Lin.beq o (.const 0) && decide (0 ≤ c)) (some (sh, code, c.toNat)) none
    | none => none
  | _ => none
noncomputable def allRowsM (code : Lin) (sh : List CK) : Nat → Nat → M (List A)
  | _, 0 => pure []
  | i, k + 1 => bind (cellsM code (.const i) 0 sh) fun a => bind (allRowsM code sh (i + 1) k) fun l => pure (a ++ l)
def slSub3 (P : Program) (t : TypeId) (b sz : Nat) (o ro len cap : Lin) (x y z : Lin) : M V :=
  match slcOf P t with
  | some e => match szB P e with
    | some s => cond (Nat.beq s sz) (bind (cond (Lin.beq z len) (chkM 78 [x, y, z, cap]) (chkM 64 [x, y, z, len])) fun _ => bind (fnM 33 [ro, x, z] 0 9223372036854775808) fun r => pure (.w (.one (.sl b sz o r (y.sub x) (z.sub x))))) fail
    | none => fail
  | none => fail
/-- Places in arrays that are told as rows; slices with a room of their own. -/
noncomputable def rowsQ2 (P : Program) (bl : List Blk) (tm : List V) (o : Oper) : Option (M V) :=
  match o.op with
  | .indexAddr t x ix => match opV tm x, opV tm ix with
    | .w (.one (.ptr b off)), .w (.one (.int _ i)) => match arrRows bl b off, arrOf P t with
      | some (sh, code, c), some (len, e) => match szB P e with
        | some s => cond (Nat.beq s sh.length && Nat.beq len c) (some (bind (chkM 30 [i.l, .const len]) fun _ => pure (.w (.one (.ep b s (.const 0) i.l 0))))) none
        | none => none
      | _, _ => none
    | _, _ => none
  | .load t x => match opV tm x with
    | .w (.one (.ptr b off)) => match arrRows bl b off, isAggB P t, szB P t with
      | some (sh, code, c), some true, some k => cond (Nat.beq k (c * sh.length)) (some (bind (chkM 31 [code, .const c]) fun _ => bind (allRowsM code sh 0 c) fun l => pure (.w (.agg l)))) none
      | _, _, _ => none
    | _ => none
  | .slice t x lo (some hi) (some mx) => match opV tm x with
    | .w (.one (.sl b sz o' ro len cap)) => match bndL tm (.const 0) lo, intL (opV tm hi), intL (opV tm mx) with
      | some p, some q, some r => some (slSub3 P t b sz o' ro len cap p q r)
      | _, _, _ => none
    | _ => none
  | .call c => match c.callee with
    | .builtin .len => match c.args.toList, c.argTypes.toList with
      | [x], [t] => match opV tm x, slcOf P t with
        | .w (.one (.con (.slice none 0 0))), some _ => some (pure (.w (.one (.int .i64 (.const 0)))))
        | _, _ => none
      | _, _ => none
    | _ => none
  | _ => none
/-- A call of a function that lies in a slot, and has a contract. -/
noncomputable def dynQ (cal : Cal) (bl : List Blk) (tm : List V) (o : Oper) : Option (M V) :=
  match o.op with
  | .call c => match c.callee with
    | .value (.tmp x) => match opV tm (.tmp x) with
      | .w (.one (.con (.func (.func f) fa fb))) => cond (Nat.beq fa.size 0 && Nat.beq fb.size 0) ((cal f).map fun g => g bl (c.args.toList.map (opV tm))) none
      | _ => none
    | _ => none
  | _ => none
noncomputable def qop (P : Program) (cal : Cal) (gl : Glo) (bl : List Blk) (tm : List V) (o : Oper) : M V :=
  match rowsQ P bl tm o with
  | some x => x
  | none => match rowsQ2 P bl tm o with
    | some x => x
    | none => match dynQ cal bl tm o with
      | some x => x
      | none => qop0 P cal gl bl tm o

theorem RowsAt.get {cells : Array Value} {off : Nat} {sh : List CK} {rows : List (List Int)} (h : RowsAt cells off sh rows) {i j : Nat} {row : List Int} {v : Value} (hi : rows[i]? = some row) (hj : (rowV sh row)[j]? = some v) : cells[off + i * sh.length + j]? = some v := by
  obtain ⟨h1, pre, post, h2, h3⟩ := h
  have h4 := flatV_get h1 hi hj
  rw [← Array.getElem?_toList, h2, List.append_assoc, List.getElem?_append_right (by omega), List.getElem?_append_left]
  · rw [show off + i * sh.length + j - pre.length = i * sh.length + j by omega]; exact h4
  · have := (List.getElem?_eq_some_iff.1 h4).1; omega

section
variable {S : Nat → List Int → List Int → Prop} {L : V → Env → Prop} {n : Nat} {ρ : Env} {m : Nat → Nat} {bl : List Blk} {gl : Glo} {w0 : Base} {P : Program} {tm : List V} {a : Act}

theorem brM_snd {α : Type} {b : BE} {x y : M α} {R : Env → Nat → α → Prop} (h1 : b.den ρ = true → Snd S L x n ρ R) (h2 : b.den ρ = false → Snd S L y n ρ R) : Snd S L (brM b x y) n ρ R := by
  intro A k hk
  unfold brM at hk
  cases hb : b.den ρ with
  | true =>
    cases b with
    | lit v => simp only [BE.den] at hb; subst hb; exact h1 rfl A k hk
    | _ => exact h1 hb A k (hk.1 hb)
  | false =>
    cases b with
    | lit v => simp only [BE.den] at hb; subst hb; exact h2 rfl A k hk
    | _ => exact h2 hb A k (hk.2 hb)

theorem cellM_snd {nb : Nat} {c : CK} {code i : Lin} {j : Nat} {z : Int} {row : List Int} (hrow : (rOf (code.den ρ))[(i.den ρ).toNat]? = some row) (hz : row[j]? = some z) (h1 : c.bd.1 ≤ z) (h2 : z ≤ c.bd.2) :
    Snd S L (cellM c code i j) n ρ fun ρ' n' x => x.ok n' nb ρ' ∧ x.den ρ' m = c.val z := by
  have hf : fnD 21 ([code, i, Lin.const (j : Nat)].map (·.den ρ)) = z := by
    simp only [List.map_cons, List.map_nil, Lin.den_const, fnD, Int.toNat_natCast]
    simp [List.getD, hrow, hz]
  cases c with
  | int k lo hi =>
    refine (fnM_snd (by rw [hf]; exact h1) (by rw [hf]; exact h2)).bind fun ρ1 n1 l _ _ ⟨g1, g2⟩ => Snd.pure ⟨⟨g1, ?_, ?_⟩, ?_⟩
    · rw [g2, hf]; exact h1
    · rw [g2, hf]; exact h2
    · simp only [A.den, CK.val]; rw [g2, hf]
  | str =>
    refine (fnM_snd (by rw [hf]; exact h1) (by rw [hf]; exact h2)).bind fun ρ1 n1 l _ _ ⟨g1, g2⟩ => Snd.pure ⟨⟨g1, ?_, ?_⟩, ?_⟩
    · rw [g2, hf]; exact h1
    · rw [g2, hf]; exact h2
    · simp only [A.den, CK.val]; rw [g2, hf]
  | bool =>
    refine (fnM_snd (by rw [hf]; exact h1) (by rw [hf]; exact h2)).bind fun ρ1 n1 l _ _ ⟨g1, g2⟩ => Snd.pure ?_
    have hok : IV.ok n1 ρ1 ⟨l, 0, 1⟩ := ⟨g1, by simp only; rw [g2, hf]; exact h1, by simp only; rw [g2, hf]; exact h2⟩
    have e := BE.den_mkEq hok (IV.const_ok n1 ρ1 1)
    refine ⟨e.2, ?_⟩
    simp only [A.den, CK.val]
    rw [e.1]
    simp only [IV.const, Lin.den_const]
    rw [g2, hf]
theorem cellsM_snd {nb : Nat} {sh : List CK} {row : List Int} (hok : RowOk sh row) : ∀ {r : List CK} {n : Nat} {ρ : Env} {code i : Lin} {j : Nat}, code.sc n → i.sc n → (rOf (code.den ρ))[(i.den ρ).toNat]? = some row → (∀ (x : Nat) (c : CK), r[x]? = some c → sh[j + x]? = some c) →
    Snd S L (cellsM code i j r) n ρ fun ρ' n' l => (∀ a ∈ l, A.ok n' nb ρ' a) ∧ l.length = r.length ∧ ∀ (x : Nat) (a : A), l[x]? = some a → (rowV sh row)[j + x]? = some (a.den ρ' m)
  | [], n, ρ, code, i, j, _, _, _, _ => Snd.pure ⟨fun _ h => by simp at h, rfl, fun x a h => by simp at h⟩
  | c :: r, n, ρ, code, i, j, hs1, hs2, hrow, hr => by
    have h0 := hr 0 c rfl
    obtain ⟨z, h1, h2, h3, h4⟩ := hok.get h0
    refine (cellM_snd (nb := nb) (m := m) hrow h1 h2 h3).bind fun ρ1 n1 y hn ha ⟨g1, g2⟩ => ?_
    refine (cellsM_snd (nb := nb) (r := r) (n := n1) (ρ := ρ1) (code := code) (i := i) (j := j + 1) hok (hs1.mono hn) (hs2.mono hn) (by rw [Lin.den_agree ha hs1, Lin.den_agree ha hs2]; exact hrow) (fun x c hx => by
      have := hr (x + 1) c (by simpa using hx)
      rw [show j + 1 + x = j + (x + 1) by omega]; exact this)).bind fun ρ2 n2 l hn2 ha2 ⟨k1, k2, k3⟩ => Snd.pure ⟨fun b hb => ?_, by simp [k2], fun x b hb => ?_⟩
    · rcases List.mem_cons.1 hb with rfl | hb
      · exact g1.ext ha2 hn2 (Nat.le_refl _)
      · exact k1 b hb
    · cases x with
      | zero =>
        simp only [List.getElem?_cons_zero, Option.some.injEq] at hb
        subst hb
        rw [A.den_ext g1 ha2 (fun _ _ => rfl), g2]; exact h4
      | succ x =>
        have := k3 x b (by simpa using hb)
        rw [show j + (x + 1) = j + 1 + x by omega]; exact this

theorem rowsM_snd {nb : Nat} {c : CK} {code : Lin} : ∀ {q n : Nat} {ρ : Env} {i : Lin}, (∀ row ∈ rOf (code.den ρ), RowOk [c] row) → code.sc n → i.sc n →
    Snd S L (rowsM c code q i) n ρ fun ρ' n' l => (∀ a ∈ l, A.ok n' nb ρ' a) ∧ l.length = q ∧ ∀ (x : Nat) (a : A), l[x]? = some a → ∃ row, (rOf (code.den ρ))[(i.den ρ).toNat + x]? = some row ∧ (rowV [c] row)[0]? = some (a.den ρ' m)
  | 0, n, ρ, i, _, _, _ => Snd.pure ⟨fun _ h => by simp at h, rfl, fun x a h => by simp at h⟩
  | q + 1, n, ρ, i, hrk, hs1, hs2 => by
    refine chkM_snd fun hk => ?_
    simp only [List.map_cons, List.map_nil, chkD] at hk
    have hlt : (i.den ρ).toNat < (rOf (code.den ρ)).length := by omega
    have hrow : (rOf (code.den ρ))[(i.den ρ).toNat]? = some (rOf (code.den ρ))[(i.den ρ).toNat] := List.getElem?_eq_getElem hlt
    have hok := hrk _ (List.getElem_mem hlt)
    generalize (rOf (code.den ρ))[(i.den ρ).toNat] = row at hrow hok
    obtain ⟨z, h1, h2, h3, h4⟩ := hok.get (show ([c] : List CK)[0]? = some c from rfl)
    refine (cellM_snd (nb := nb) (m := m) hrow h1 h2 h3).bind fun ρ1 n1 y hn ha ⟨g1, g2⟩ => ?_
    have hcd := Lin.den_agree ha hs1
    have hid := Lin.den_agree ha hs2
    refine (rowsM_snd (nb := nb) (q := q) (n := n1) (ρ := ρ1) (i := i.add (.const 1)) (by rw [hcd]; exact hrk) (hs1.mono hn) (Lin.sc_add (hs2.mono hn) (Lin.sc_const _ _))).bind fun ρ2 n2 l hn2 ha2 ⟨k1, k2, k3⟩ => Snd.pure ⟨fun b hb => ?_, by simp [k2], fun x b hb => ?_⟩
    · rcases List.mem_cons.1 hb with rfl | hb
      · exact g1.ext ha2 hn2 (Nat.le_refl _)
      · exact k1 b hb
    · cases x with
      | zero =>
        simp only [List.getElem?_cons_zero, Option.some.injEq] at hb
        subst hb
        exact ⟨row, by simpa using hrow, by rw [A.den_ext g1 ha2 (fun _ _ => rfl), g2]; exact h4⟩
      | succ x =>
        obtain ⟨row', r1, r2⟩ := k3 x b (by simpa using hb)
        rw [hcd, Lin.den_add, Lin.den_const, hid] at r1
        exact ⟨row', by rw [← r1]; congr 1; omega, r2⟩

theorem epLoad_snd (hb : BlOk n bl.length ρ bl) (hex : ∃ w, Mem w0 ρ m bl w) (t : TypeId) {b sz : Nat} {o i : Lin} {j : Nat} (hx : (A.ep b sz o i j).ok n bl.length ρ) :
    Snd S L (epLoad P bl t b sz o i j) n ρ (QV w0 m bl n ρ fun w => (Instr.loadAt t ((A.ep b sz o i j).den ρ m)).run P w) := by
  obtain ⟨wx, hwx⟩ := hex
  unfold epLoad
  split
  · rename_i sh off code cap kind t' hbl
    refine snd_guard fun hc => chkM_snd fun hk => ?_
    simp only [Bool.and_eq_true] at hc
    obtain ⟨⟨c1, c2⟩, c3⟩ := hc
    have c1 : 0 < kind := Nat.le_of_ble_eq_true c1
    have c2 := Nat.eq_of_beq_eq_true c2
    have c3 := Lin.beq_eq c3
    subst c3
    have hrok : (A.rows sh o code cap kind).ok n bl.length ρ := hb _ (List.mem_of_getElem? hbl) _ (by simp)
    simp only [List.map_cons, List.map_nil, chkD] at hk
    have hlt : (i.den ρ).toNat < (rOf (code.den ρ)).length := by omega
    have hrow : (rOf (code.den ρ))[(i.den ρ).toNat]? = some (rOf (code.den ρ))[(i.den ρ).toNat] := List.getElem?_eq_getElem hlt
    generalize (rOf (code.den ρ))[(i.den ρ).toNat] = row at hrow
    have hcap : 0 ≤ cap.den ρ := by
      rcases Int.lt_or_le (cap.den ρ) 0 with h | h
      · have := (hwx.rws b sh o code cap kind t' hbl (by omega)).1 h
        rw [this] at hlt; simp at hlt
      · exact h
    have hmem : ∀ w, Mem w0 ρ m bl w → RowOk sh row ∧ ∀ (x : Nat) (v : Value), (rowV sh row)[x]? = some v → w.cell? ⟨m b, (o.den ρ).toNat + (i.den ρ).toNat * sz + x, none⟩ = some v := fun w hw => by
      obtain ⟨_, cells, tq, fz, g1, ⟨g2, g3⟩, _⟩ := (hw.rws b sh o code cap kind t' hbl (by omega)).2 hcap
      refine ⟨g3.1 _ (List.mem_of_getElem? hrow), fun x v hv => ?_⟩
      have := g3.get hrow hv
      simp only [World.cell?, g1, Option.isSome_none, Bool.false_eq_true, if_false]
      rw [c2]; exact this
    have hrk := (hmem wx hwx).1
    cases hagg : isAggB P t with
    | none => exact Snd.fail
    | some ag =>
      cases ag with
      | true =>
        cases hs : szB P t with
        | none => exact Snd.fail
        | some k =>
          simp only
          cases hk2 : Nat.ble (j + k) sh.length with
          | false =>
            simp only [cond_false]
            split
            · rename_i c _
              have hall : ∀ row ∈ rOf (code.den ρ), RowOk [c] row := by
                obtain ⟨_, cells, tq, fz, g1, ⟨g2, g3⟩, _⟩ := (hwx.rws b [c] o code cap kind t' hbl (by omega)).2 hcap
                exact g3.1
              refine (rowsM_snd (nb := bl.length) (m := m) (q := k) (i := i) hall hrok.1.2.1 hx.2.1.2).bind fun ρ1 n1 l hn ha ⟨g1, g2, g3⟩ => Snd.pure ⟨g1, _, rfl, fun w hw => ?_⟩
              have hl := run_loadCells_list (P := P) w ⟨m b, (o.den ρ).toNat + (i.den ρ).toNat * sz + 0, none⟩ (l.map (A.den ρ1 m)) fun x v hj => by
                rw [addr_add]
                rw [List.getElem?_map] at hj
                cases hq : l[x]? with
                | none => simp [hq] at hj
                | some y =>
                  simp only [hq, Option.map_some, Option.some.injEq] at hj
                  subst hj
                  obtain ⟨row', r1, r2⟩ := g3 x y hq
                  obtain ⟨_, cells, tq, fz, e1, ⟨e2, e3⟩, _⟩ := (hw.rws b [c] o code cap kind t' hbl (by omega)).2 hcap
                  have := e3.get r1 r2
                  simp only [World.cell?, e1, Option.isSome_none, Bool.false_eq_true, if_false]
                  simp only [List.length_cons, List.length_nil] at c2 this
                  rw [c2]
                  rw [← this]; congr 1; omega
              simp only [List.length_map, g2, Nat.add_zero] at hl
              simp [Instr.loadAt, Instr.sureAddr, A.den, loadVar, run_isAggB hagg, run_szB hs, hl, W.den]
            · exact Snd.fail
          | true =>
          simp only [cond_true]
          have hk2 := Nat.le_of_ble_eq_true hk2
          refine (cellsM_snd (nb := bl.length) (m := m) (r := (sh.drop j).take k) hrk hrok.1.2.1 hx.2.1.2 hrow (fun x c hxc => by
            rw [List.getElem?_take] at hxc
            split at hxc
            · rw [List.getElem?_drop] at hxc; exact hxc
            · cases hxc)).bind fun ρ1 n1 l hn ha ⟨g1, g2, g3⟩ => Snd.pure ⟨g1, _, rfl, fun w hw => ?_⟩
          have hl := run_loadCells_list (P := P) w ⟨m b, (o.den ρ).toNat + (i.den ρ).toNat * sz + j, none⟩ (l.map (A.den ρ1 m)) fun x v hj => by
            rw [addr_add]
            rw [List.getElem?_map] at hj
            cases hq : l[x]? with
            | none => simp [hq] at hj
            | some y =>
              simp only [hq, Option.map_some, Option.some.injEq] at hj
              subst hj
              rw [Nat.add_assoc]
              exact (hmem w hw).2 (j + x) _ (g3 x y hq)
          simp only [List.length_map, g2, List.length_take, List.length_drop, Nat.min_eq_left (show k ≤ sh.length - j by omega)] at hl
          simp [Instr.loadAt, Instr.sureAddr, A.den, loadVar, run_isAggB hagg, run_szB hs, hl, W.den]
      | false =>
        cases hc : sh[j]? with
        | none => simp only; exact Snd.fail
        | some c =>
          simp only
          obtain ⟨z, h1, h2, h3, h4⟩ := hrk.get hc
          refine (cellM_snd (nb := bl.length) (m := m) hrow h1 h2 h3).bind fun ρ1 n1 y hn ha ⟨g1, g2⟩ => Snd.pure ⟨g1, _, rfl, fun w hw => ?_⟩
          have := (hmem w hw).2 j _ h4
          have hpd : (A.ep b sz o i j).den ρ m = .pointer (some ⟨m b, (o.den ρ).toNat + (i.den ρ).toNat * sz + j, none⟩) := rfl
          simp [Instr.loadAt, Instr.sureAddr, hpd, loadVar, run_isAggB hagg, this, W.den, g2]
  · exact Snd.fail

theorem sl_den {b sz : Nat} {o ro len cap : Lin} (hx : (A.sl b sz o ro len cap).ok n bl.length ρ) : ∃ p, (A.sl b sz o ro len cap).den ρ m = .slice p (len.den ρ).toNat (if cap.den ρ < 0 then 0 else (cap.den ρ).toNat) ∧ (cap.den ρ < 0 → p = none) ∧ (0 ≤ cap.den ρ → p = some ⟨m b, (o.den ρ).toNat + (ro.den ρ).toNat * sz, none⟩) := by
  obtain ⟨_, _, _, _, h3, _⟩ := hx
  simp only [A.den]
  by_cases hc : cap.den ρ < 0
  · rw [if_pos hc, if_pos hc, h3 hc]
    exact ⟨none, rfl, fun _ => rfl, fun h => by omega⟩
  · rw [if_neg hc, if_neg hc]
    exact ⟨_, rfl, fun h => absurd h hc, fun _ => rfl⟩
theorem slIdx_snd {t : TypeId} {b sz : Nat} {o ro len cap ix : Lin} {k : IntKind} (hx : (A.sl b sz o ro len cap).ok n bl.length ρ) (hi : ix.sc n) :
    Snd S L (slIdx P t b sz o ro len ix) n ρ (QV w0 m bl n ρ fun w => (Instr.indexAt t ((A.sl b sz o ro len cap).den ρ m) (.int k (ix.den ρ))).run P w) := by
  unfold slIdx
  cases h1 : slcOf P t with
  | none => exact Snd.fail
  | some e =>
    cases h2 : szB P e with
    | none => simp only [h2]; exact Snd.fail
    | some s =>
      simp only [h2]
      refine snd_guard fun hs => chkM_snd fun hk => Snd.pure ?_
      have hs := Nat.eq_of_beq_eq_true hs
      subst hs
      simp only [List.map_cons, List.map_nil, chkD] at hk
      obtain ⟨x1, ⟨x2, x3, x4, x5⟩, ⟨x6, x7, x8, x9⟩, x10, x11, x12⟩ := hx
      have hcap : ¬ (cap.den ρ < 0) := fun h => by have := x11 h; omega
      refine ⟨⟨x1, ⟨x2, Lin.sc_add x3 hi⟩, x6, by rw [Lin.den_add]; omega⟩, _, rfl, fun w _ => ?_⟩
      have c2 : ix.den ρ < ((len.den ρ).toNat : Int) := by omega
      have e1 : (ro.den ρ + ix.den ρ).toNat = (ro.den ρ).toNat + (ix.den ρ).toNat := by omega
      simp only [A.den, if_neg hcap, W.den, Lin.den_add, e1]
      simp [-Int.ofNat_toNat, Instr.indexAt, asIntOf, run_underlying (slcOf_spec h1), hk.1, c2, run_szB h2, addr_add, Nat.add_mul, Nat.add_assoc]
theorem bndL_spec {d : Lin} {y : Option Operand} {l : Lin} (h : bndL tm d y = some l) (ht : TRel n bl.length ρ m tm a.tmps) : (y = none ∧ l = d) ∨ ∃ k, y.map a.eval = some (.int k (l.den ρ)) ∧ l.sc n := by
  cases y with
  | none => exact .inl ⟨rfl, by simpa [bndL] using h.symm⟩
  | some x =>
    obtain ⟨k, hk, h2⟩ := intL_spec (m := m) (bl := bl) h (opV_spec ht x).2 (opV_spec ht x).1
    exact .inr ⟨k, by rw [← hk]; rfl, h2⟩
theorem asmM_snd {op : Nat} {ls : List Lin} (h : chkD op (ls.map (·.den ρ))) : Snd S L (asmM op ls) n ρ fun ρ' n' _ => ρ' = ρ ∧ n' = n := fun A k hk => ⟨ρ, n, (), Nat.le_refl _, agree.refl _ _, ⟨rfl, rfl⟩, hk h⟩
theorem slSub_snd {t : TypeId} {b sz : Nat} {o ro len cap p q : Lin} {lo hi : Option Operand} (hx : (A.sl b sz o ro len cap).ok n bl.length ρ) (ht : TRel n bl.length ρ m tm a.tmps) (hp : bndL tm (.const 0) lo = some p) (hq : bndL tm len hi = some q) :
    Snd S L (slSub P t b sz o ro len cap p q) n ρ (QV w0 m bl n ρ fun w => (Instr.sliceAt t ((A.sl b sz o ro len cap).den ρ m) (lo.map a.eval) (hi.map a.eval) none).run P w) := by
  unfold slSub
  cases h1 : slcOf P t with
  | none => exact Snd.fail
  | some e =>
    cases h2 : szB P e with
    | none => simp only [h2]; exact Snd.fail
    | some s =>
      simp only [h2]
      refine snd_guard fun hs => chkM_snd fun hk => ?_
      have hs := Nat.eq_of_beq_eq_true hs
      subst hs
      simp only [List.map_cons, List.map_nil, chkD] at hk
      obtain ⟨k1, k2, k3⟩ := hk
      have hx' := hx
      obtain ⟨x1, ⟨x2, x3, x4, x5⟩, ⟨x6, x7, x8, x9⟩, ⟨x10, x13⟩, x11, x12⟩ := hx
      have hsp := bndL_spec hp ht
      have hsq := bndL_spec hq ht
      have scp : p.sc n := by rcases hsp with ⟨_, rfl⟩ | ⟨_, _, h⟩; exact Lin.sc_const _ _; exact h
      have scq : q.sc n := by rcases hsq with ⟨_, rfl⟩ | ⟨_, _, h⟩; exact x4; exact h
      obtain ⟨ptr, e1, e2, e3⟩ := sl_den (m := m) hx'
      have hbs : ∀ w, (Instr.sliceBounds true (len.den ρ).toNat (if cap.den ρ < 0 then 0 else (cap.den ρ).toNat) (lo.map a.eval) (hi.map a.eval) none).run P w = .ok ((p.den ρ).toNat, (q.den ρ).toNat, (if cap.den ρ < 0 then 0 else (cap.den ρ).toNat)) w := fun w => by
        have hle : (len.den ρ) ≤ ((if cap.den ρ < 0 then 0 else (cap.den ρ).toNat : Nat) : Int) := by
          split
          · rename_i h; rw [x11 h]; simp
          · rename_i h; have := x12 (by omega); omega
        generalize (if cap.den ρ < 0 then 0 else (cap.den ρ).toNat) = C at hle
        rcases hsp with ⟨rfl, rfl⟩ | ⟨kp, hp', _⟩ <;> rcases hsq with ⟨rfl, rfl⟩ | ⟨kq, hq', _⟩
        · simp [Instr.sliceBounds, Lin.den_const]
        · rw [hq']; simp [Instr.sliceBounds, Lin.den_const, sliceB_ok (P := P) (by omega : 0 ≤ q.den ρ) (by omega : q.den ρ ≤ (C : Int))]
        · rw [hp']; simp [Instr.sliceBounds, sliceB_ok (P := P) (y := (q.den ρ).toNat) k1 (by omega)]
        · rw [hp', hq']; simp [Instr.sliceBounds, sliceB_ok (P := P) (by omega : 0 ≤ q.den ρ) (by omega : q.den ρ ≤ (C : Int)), sliceB_ok (P := P) (y := (q.den ρ).toNat) k1 (by omega)]
      have hrun : ∀ (w : World) (r : Int), r = (if p.den ρ = cap.den ρ then ro.den ρ else ro.den ρ + p.den ρ) →
          (Instr.sliceAt t ((A.sl b s o ro len cap).den ρ m) (lo.map a.eval) (hi.map a.eval) none).run P w = .ok (if cap.den ρ - p.den ρ < 0 then .slice none 0 0 else .slice (some ⟨m b, (o.den ρ).toNat + r.toNat * s, none⟩) (q.den ρ - p.den ρ).toNat (cap.den ρ - p.den ρ).toNat) w := fun w r hr => by
        rw [e1]
        have e4 : (q.den ρ).toNat - (p.den ρ).toNat = (q.den ρ - p.den ρ).toNat := by omega
        simp only [Instr.sliceAt, Sem.run_bind, run_underlying (slcOf_spec h1), Result.andThen_ok, Instr.slice, hbs w, run_szB h2, Sem.run_pure, e4]
        by_cases hc : cap.den ρ < 0
        · have hl := x11 hc
          have hp0 : p.den ρ = 0 := by omega
          rw [if_pos hc, e2 hc, if_pos (by omega)]
          have : q.den ρ = 0 := by omega
          simp [hp0, this, hc]
        · rw [if_neg hc, e3 (by omega)]
          have h12 := x12 (by omega)
          have hcp : ¬ (cap.den ρ - p.den ρ < 0) := by omega
          rw [if_neg hcp]
          have e5 : (cap.den ρ).toNat - (p.den ρ).toNat = (cap.den ρ - p.den ρ).toNat := by omega
          rw [e5]
          by_cases hpc : p.den ρ = cap.den ρ
          · rw [if_pos hpc] at hr
            have h7 : (cap.den ρ).toNat = (p.den ρ).toNat := by omega
            rw [if_pos h7, hr]
          · rw [if_neg hpc] at hr
            have h7 : ¬ (cap.den ρ).toNat = (p.den ρ).toNat := by omega
            rw [if_neg h7, hr]
            have e6 : (ro.den ρ + p.den ρ).toNat = (ro.den ρ).toNat + (p.den ρ).toNat := by omega
            rw [e6, Nat.add_mul, ← Nat.add_assoc]
            simp [addr_add]
      split
      · rename_i h0
        have hp0 := Lin.den_isC h0 (ρ := ρ)
        refine Snd.pure ⟨⟨x1, ⟨x2, x3, scq, x5⟩, ⟨x6, x7, by omega, by omega⟩, ⟨x10, x13⟩, fun h => ?_, fun h => ?_⟩, _, rfl, fun w _ => ?_⟩
        · have := x11 h; omega
        · have := x12 h; omega
        · have hr := hrun w (ro.den ρ) (by rw [hp0]; split <;> omega)
          rw [hp0] at hr
          simp only [Int.sub_zero] at hr
          simp only [W.den, A.den] at hr ⊢
          exact hr
      · have hb1 : (0 : Int) ≤ fnD 33 ([ro, p, cap].map (·.den ρ)) := by
          simp only [List.map_cons, List.map_nil, fnD]; split <;> omega
        have hb2 : fnD 33 ([ro, p, cap].map (·.den ρ)) ≤ 9223372036854775808 := by
          simp only [List.map_cons, List.map_nil, fnD]
          by_cases hc : cap.den ρ < 0
          · have := x11 hc; split <;> omega
          · have := x12 (by omega); split <;> omega
        refine (asmM_snd (op := 68) (ls := [len, cap]) (show len.den ρ ≤ cap.den ρ ∨ len.den ρ = 0 from by
          by_cases hc : cap.den ρ < 0
          · exact .inr (x11 hc)
          · exact .inl (x12 (by omega)))).bind fun ρ0 n0 _ _ _ ⟨hρ0, hn0⟩ => ?_
        have hρ0 := hρ0.symm; have hn0 := hn0.symm
        subst hρ0; subst hn0
        refine (fnM_snd hb1 hb2).bind fun ρ1 n1 r hn ha ⟨g1, g2⟩ => Snd.pure ?_
        simp only [List.map_cons, List.map_nil, fnD] at g2
        have a1 := Lin.den_agree ha x2; have a2 := Lin.den_agree ha scq; have a3 := Lin.den_agree ha scp; have a4 := Lin.den_agree ha x5
        refine ⟨⟨x1, ⟨x2.mono hn, g1, Lin.sc_sub (scq.mono hn) (scp.mono hn), Lin.sc_sub (x5.mono hn) (scp.mono hn)⟩, ?_⟩, _, rfl, fun w _ => ?_⟩
        · rw [Lin.den_sub, Lin.den_sub, a1, a2, a3, a4, g2]
          refine ⟨⟨x6, ?_, by omega, by omega⟩, ⟨?_, ?_⟩, fun h => ?_, fun h => ?_⟩
          · split <;> omega
          · by_cases hc : cap.den ρ < 0
            · have := x11 hc; omega
            · have := x12 (by omega); omega
          · split <;> omega
          · by_cases hc : cap.den ρ < 0
            · have := x11 hc; omega
            · have := x12 (by omega); omega
          · by_cases hc : cap.den ρ < 0
            · have := x11 hc; omega
            · have := x12 (by omega); omega
        · refine (hrun w (r.den ρ1) g2).trans ?_
          simp only [W.den, A.den, Lin.den_sub, a1, a2, a3, a4]

theorem slStr_snd (hb : BlOk n bl.length ρ bl) (hex : ∃ w, Mem w0 ρ m bl w) {src dst e : TypeId} (hs : P.underlying src = some (.slice e)) (he : P.underlying e = some (.int .u8)) (hd : P.underlying dst = some .string) {b sz : Nat} {o ro len cap : Lin} (hx : (A.sl b sz o ro len cap).ok n bl.length ρ) :
    Snd S L (slStr bl b sz o ro len) n ρ (QV w0 m bl n ρ fun w => (convert src dst ((A.sl b sz o ro len cap).den ρ m)).run P w) := by
  obtain ⟨wx, hwx⟩ := hex
  unfold slStr
  split
  · rename_i sh off code cap' kind t' hbl
    refine snd_guard fun hc => chkM_snd fun hk => ?_
    simp only [Bool.and_eq_true] at hc
    obtain ⟨⟨⟨c1, c2⟩, c3⟩, c4⟩ := hc
    have c1 : 0 < kind := Nat.le_of_ble_eq_true c1
    have c2 := Nat.eq_of_beq_eq_true c2
    have c3 := Lin.beq_eq c3
    subst c3; subst c2
    simp only [List.map_cons, List.map_nil, chkD, Lin.den_add] at hk
    obtain ⟨ptr, e1, e2, e3⟩ := sl_den (m := m) hx
    obtain ⟨x1, ⟨x2, x3, x4, x5⟩, ⟨x6, x7, x8, x9⟩, ⟨x10, x13⟩, x11, x12⟩ := hx
    generalize hR : rOf (code.den ρ) = rows at hk
    have hnil : cap'.den ρ < 0 → rows = [] := fun h => by rw [← hR]; exact (hwx.rws b sh o code cap' kind t' hbl (by omega)).1 h
    have hxs : (((rows.drop (ro.den ρ).toNat).take (len.den ρ).toNat).map fun row => row.getD 0 0).length = (len.den ρ).toNat := by
      simp; omega
    have hf : fnD 34 ([code, ro, ro.add len].map (·.den ρ)) = cOf ((((rows.drop (ro.den ρ).toNat).take (len.den ρ).toNat).map fun row => row.getD 0 0).map fun z => UInt8.ofNat z.toNat) := by
      simp only [List.map_cons, List.map_nil, fnD, Lin.den_add, hR]
      have : (ro.den ρ + len.den ρ).toNat - (ro.den ρ).toNat = (len.den ρ).toNat := by omega
      rw [this, List.map_map]; rfl
    generalize hX : (((rows.drop (ro.den ρ).toNat).take (len.den ρ).toNat).map fun row => row.getD 0 0) = xs at hxs hf
    have hl : (xs.map fun z => UInt8.ofNat z.toNat).length ≤ mxL := by
      have : (xs.map fun z => UInt8.ofNat z.toNat).length = (len.den ρ).toNat := by simp [hxs]
      unfold mxL; omega
    refine (fnM_snd (by rw [hf]; exact cOf_nonneg _) (by rw [hf]; exact HB_c hl)).bind fun ρ1 n1 l _ _ ⟨g1, g2⟩ => Snd.pure ⟨⟨g1, by rw [g2, hf]; exact cOf_nonneg _, by rw [g2, hf]; exact HB_c hl⟩, _, rfl, fun w hw => ?_⟩
    have hval : (W.one (A.str l)).den ρ1 m = .string (strOfNums xs) := by
      simp only [W.den, A.den, g2, hf, sOf_cOf]
      rfl
    rw [hval]
    show (convert src dst ((A.sl b 1 o ro len cap).den ρ m)).run P w = _
    rw [e1]
    by_cases hcap : cap.den ρ < 0
    · have hl0 := x11 hcap
      rw [e2 hcap, if_pos hcap]
      have hxs0 : xs = [] := List.eq_nil_of_length_eq_zero (by rw [hxs, hl0]; rfl)
      rw [hxs0, run_convert_bytes_nil w src e hs he _ _ dst hd]
      rfl
    · rw [e3 (by omega), if_neg hcap]
      by_cases hcap' : cap'.den ρ < 0
      · have hr0 := hnil hcap'
        have hl0 : len.den ρ = 0 := by rw [hr0] at hk; simp at hk; omega
        have hxs0 : xs = [] := List.eq_nil_of_length_eq_zero (by rw [hxs, hl0]; rfl)
        exact run_convert_bytes_arg w src e hs he (m b) _ _ _ xs hxs (fun i hi => by rw [hl0] at hi; simp at hi) dst hd
      · obtain ⟨_, cells, tq, fz, k1, ⟨k2, k3⟩, _⟩ := (hw.rws b sh o code cap' kind t' hbl (by omega)).2 (by omega)
        refine run_convert_bytes_arg w src e hs he (m b) _ _ _ xs hxs (fun i hi => ?_) dst hd
        have hlt : (ro.den ρ).toNat + i < rows.length := by omega
        have hrow : (rOf (code.den ρ))[(ro.den ρ).toNat + i]? = some rows[(ro.den ρ).toNat + i] := by rw [hR]; exact List.getElem?_eq_getElem hlt
        have hsh : ∃ lo hi, sh = [.int .u8 lo hi] := by
          unfold byteSh at c4
          split at c4
          · exact ⟨_, _, rfl⟩
          · cases c4
        obtain ⟨lo, hi2, rfl⟩ := hsh
        have hrok := k3.1 _ (List.mem_of_getElem? hrow)
        obtain ⟨z, q1, _, _, q4⟩ := hrok.get (j := 0) (c := .int .u8 lo hi2) rfl
        have := k3.get hrow q4
        have hz : xs.getD i 0 = z := by
          rw [← hX]
          have : i < (len.den ρ).toNat := hi
          simp [List.getD, List.getElem?_take, this, hlt, q1]
        simp only [World.cell?, k1, Option.isSome_none, Bool.false_eq_true, if_false, hz]
        simp only [List.length_cons, List.length_nil, Nat.add_zero, Nat.zero_add, Nat.mul_one] at this
        rw [show (o.den ρ).toNat + (ro.den ρ).toNat * 1 + i = (o.den ρ).toNat + ((ro.den ρ).toNat + i) by omega]
        exact this
  · exact Snd.fail

theorem minM_snd {k : IntKind} {x y : IV} {t : TypeId} {ts : Array TypeId} (hx : x.ok n ρ) (hy : y.ok n ρ) : Snd S L (minM k x y) n ρ (QV w0 m bl n ρ fun w => (Builtin.min_ ts t #[.int k (x.l.den ρ), .int k (y.l.den ρ)]).run P w) := by
  have e := BE.den_mkLt hy hx
  have hr : ∀ w, (Builtin.min_ ts t #[.int k (x.l.den ρ), .int k (y.l.den ρ)]).run P w = .ok (.int k (if y.l.den ρ < x.l.den ρ then y.l.den ρ else x.l.den ρ)) w := fun w => by
    simp [Builtin.min_, Builtin.min2]
  refine brM_snd (fun hb => Snd.pure ⟨hy, _, rfl, fun w _ => ?_⟩) fun hb => Snd.pure ⟨hx, _, rfl, fun w _ => ?_⟩
  · rw [e.1] at hb
    simp only [hr, if_pos (of_decide_eq_true hb)]; rfl
  · rw [e.1] at hb
    simp only [hr, if_neg (of_decide_eq_false hb)]; rfl
theorem maxM_snd {k : IntKind} {x y : IV} {t : TypeId} {ts : Array TypeId} (hx : x.ok n ρ) (hy : y.ok n ρ) : Snd S L (maxM k x y) n ρ (QV w0 m bl n ρ fun w => (Builtin.max_ ts t #[.int k (x.l.den ρ), .int k (y.l.den ρ)]).run P w) := by
  have e := BE.den_mkLt hx hy
  have hr : ∀ w, (Builtin.max_ ts t #[.int k (x.l.den ρ), .int k (y.l.den ρ)]).run P w = .ok (.int k (if x.l.den ρ < y.l.den ρ then y.l.den ρ else x.l.den ρ)) w := fun w => by
    simp [Builtin.max_, Builtin.max2]
  refine brM_snd (fun hb => Snd.pure ⟨hy, _, rfl, fun w _ => ?_⟩) fun hb => Snd.pure ⟨hx, _, rfl, fun w _ => ?_⟩
  · rw [e.1] at hb
    simp only [hr, if_pos (of_decide_eq_true hb)]; rfl
  · rw [e.1] at hb
    simp only [hr, if_neg (of_decide_eq_false hb)]; rfl

theorem boolsOf_spec : ∀ {cs : List A} {l : List Bool}, boolsOf cs = some l → cs = l.map fun b => A.bool (.lit b)
  | [], l, h => by simp [boolsOf] at h; subst h; rfl
  | .bool (.lit b) :: r, l, h => by
    simp only [boolsOf] at h
    cases hr : boolsOf r with
    | none => simp [hr] at h
    | some l' =>
      simp only [hr, Option.some.injEq] at h
      subst h
      simp [boolsOf_spec hr]
  | .bool (.eq ..) :: _, _, h | .bool (.lt ..) :: _, _, h | .bool (.le ..) :: _, _, h | .bool (.not ..) :: _, _, h | .bool (.and ..) :: _, _, h | .bool (.iff ..) :: _, _, h => by simp [boolsOf] at h
  | .int .. :: _, _, h => by simp [boolsOf] at h
  | .ptr .. :: _, _, h => by simp [boolsOf] at h
  | .pix .. :: _, _, h => by simp [boolsOf] at h
  | .gptr .. :: _, _, h => by simp [boolsOf] at h
  | .slc .. :: _, _, h => by simp [boolsOf] at h
  | .con _ :: _, _, h => by simp [boolsOf] at h
  | .str _ :: _, _, h => by simp [boolsOf] at h
  | .rows .. :: _, _, h => by simp [boolsOf] at h
  | .sl .. :: _, _, h => by simp [boolsOf] at h
  | .ep .. :: _, _, h => by simp [boolsOf] at h
theorem idxB_mem : ∀ (l : List Bool) (s : Nat), s + l.length ≤ 256 → ∀ i : Nat, i < 256 → (UInt8.ofNat i ∈ idxB s l ↔ s ≤ i ∧ l[i - s]? = some true)
  | [], s, _, i, _ => by simp [idxB]
  | b :: r, s, h, i, hi => by
    simp only [List.length_cons] at h
    have ih := idxB_mem r (s + 1) (by omega) i hi
    have hne : s ≠ i → UInt8.ofNat i ≠ UInt8.ofNat s := fun hne he => by
      have := congrArg UInt8.toNat he
      simp at this; omega
    have key : (s + 1 ≤ i ∧ r[i - (s + 1)]? = some true) ↔ (s < i ∧ (b :: r)[i - s]? = some true) := by
      constructor
      · rintro ⟨h1, h2⟩
        refine ⟨h1, ?_⟩
        rw [show i - s = (i - (s + 1)) + 1 by omega]; simpa using h2
      · rintro ⟨h1, h2⟩
        refine ⟨h1, ?_⟩
        rw [show i - s = (i - (s + 1)) + 1 by omega] at h2; simpa using h2
    unfold idxB
    cases b with
    | true =>
      simp only [cond_true, List.mem_cons, ih, key]
      by_cases he : s = i
      · subst he; simp
      · constructor
        · rintro (h1 | h1)
          · exact absurd h1 (hne he)
          · exact ⟨by omega, h1.2⟩
        · rintro ⟨h1, h2⟩; exact .inr ⟨by omega, h2⟩
    | false =>
      simp only [cond_false, ih, key]
      by_cases he : s = i
      · subst he; simp
      · constructor
        · rintro ⟨h1, h2⟩; exact ⟨by omega, h2⟩
        · rintro ⟨h1, h2⟩; exact ⟨by omega, h2⟩
theorem selB_snd (hb : BlOk n bl.length ρ bl) {ty : TypeId} (hu : P.underlying ty = some .bool) (b off : Nat) {ix : IV} (hix : ix.ok n ρ) : Snd S L (selB bl b off ix) n ρ (QV w0 m bl n ρ fun w => (Instr.loadAt ty ((A.pix b off ix).den ρ m)).run P w) := by
  unfold selB
  cases hbl : bl[b]? with
  | none => exact Snd.fail
  | some q =>
    obtain ⟨cs, t⟩ := q
    simp only
    cases hi : boolsOf ((cs.drop off).take (ix.hi.toNat + 1)) with
    | none => exact Snd.fail
    | some l =>
      refine snd_guard fun hc => ?_
      simp only [Bool.and_eq_true, decide_eq_true_eq] at hc
      obtain ⟨⟨⟨hc1, hc2⟩, hc3⟩, hq⟩ := hc
      have hlen := Nat.eq_of_beq_eq_true hc1
      have h255 := Nat.le_of_ble_eq_true hc2
      have e := boolsOf_spec hi
      have bx := hix.2
      have hlt : (ix.l.den ρ).toNat < l.length := by omega
      have hcl : cOf (idxB 0 l) = (Lin.const (cOf (idxB 0 l))).den ρ := (Lin.den_const _ _).symm
      have hf : fnD 43 ([Lin.const (cOf (idxB 0 l)), ix.l].map (·.den ρ)) = if l[(ix.l.den ρ).toNat] = true then 1 else 0 := by
        simp only [List.map_cons, List.map_nil, fnD, Lin.den_const, sOf_cOf]
        have := idxB_mem l 0 (by omega) (ix.l.den ρ).toNat (by omega)
        simp only [Nat.sub_zero, Nat.zero_le, true_and, List.getElem?_eq_getElem hlt, Option.some.injEq] at this
        simp only [this]
      have b1 := bit01 (l[(ix.l.den ρ).toNat] = true)
      refine (fnM_snd (by rw [hf]; exact b1.1) (by rw [hf]; exact b1.2)).bind fun ρ1 n1 r hn ha ⟨g1, g2⟩ => ?_
      rw [hf] at g2
      have e2 := BE.den_mkEq (n := n1) (ρ := ρ1) (a := ⟨r, 0, 1⟩) (b := .const 1) ⟨g1, by simp only [g2]; exact b1.1, by simp only [g2]; exact b1.2⟩ (IV.const_ok _ _ _)
      refine Snd.pure ⟨e2.2, _, rfl, fun w hw => ?_⟩
      obtain ⟨_, _, rr, _, h2⟩ := hw.blk b cs t hbl hq
      have hcs : cs[off + (ix.l.den ρ).toNat]? = some (.bool (.lit l[(ix.l.den ρ).toNat])) := by
        have h1 : ((cs.drop off).take (ix.hi.toNat + 1))[(ix.l.den ρ).toNat]? = some (.bool (.lit l[(ix.l.den ρ).toNat])) := by rw [e]; simp [hlt]
        rw [List.getElem?_take] at h1
        split at h1
        · rw [List.getElem?_drop] at h1; exact h1
        · cases h1
      have hclt := (List.getElem?_eq_some_iff.1 hcs).1
      have hcell : w.cell? ⟨m b, off + (ix.l.den ρ).toNat, none⟩ = some (.bool l[(ix.l.den ρ).toNat]) := by
        simp only [World.cell?, h2, Option.isSome_none, Bool.false_eq_true, if_false, List.getElem?_toArray]
        rw [List.getElem?_append_left (by simpa using hclt), List.getElem?_map, hcs]; rfl
      have hagg : isAggB P ty = some false := by unfold isAggB; rw [hu]
      have hpd : (A.pix b off ix).den ρ m = .pointer (some ⟨m b, off + (ix.l.den ρ).toNat, none⟩) := rfl
      simp only [W.den, A.den]
      rw [e2.1]
      simp only [g2, IV.const, Lin.den_const]
      have hbit : decide ((if l[(ix.l.den ρ).toNat] = true then (1 : Int) else 0) = 1) = l[(ix.l.den ρ).toNat] := by
        cases l[(ix.l.den ρ).toNat] <;> rfl
      rw [hbit]
      have hpd2 := hpd
      simp only [A.den] at hpd2
      simp [Instr.loadAt, Instr.sureAddr, loadVar, run_isAggB hagg, hcell]
theorem run_eq_nil (w : World) {t e : TypeId} (hu : P.underlying t = some (.slice e)) (p : Option Addr) (l c : Nat) : (binOp .eql t (.slice p l c) (.slice none 0 0)).run P w = .ok (.bool p.isNone) w := by
  have h : binOp .eql t (.slice p l c) (.slice none 0 0) = (do pure (.bool (← Op.equal t (.slice p l c) (.slice none 0 0)))) := rfl
  rw [h]
  simp only [Sem.run_bind, run_equal_slice_nil w t e p l c hu, Result.andThen_ok, Sem.run_pure]
theorem run_ne_nil (w : World) {t e : TypeId} (hu : P.underlying t = some (.slice e)) (p : Option Addr) (l c : Nat) : (binOp .neq t (.slice p l c) (.slice none 0 0)).run P w = .ok (.bool !p.isNone) w := by
  have h : binOp .neq t (.slice p l c) (.slice none 0 0) = (do pure (.bool (!(← Op.equal t (.slice p l c) (.slice none 0 0))))) := rfl
  rw [h]
  simp only [Sem.run_bind, run_equal_slice_nil w t e p l c hu, Result.andThen_ok, Sem.run_pure]
theorem arrRows_spec {b off : Nat} {sh : List CK} {code : Lin} {c : Nat} (h : arrRows bl b off = some (sh, code, c)) : off = 0 ∧ ∃ cap kind t, bl[b]? = some ([.rows sh (.const 0) code cap kind], t) ∧ 0 < kind ∧ ∀ ρ, cap.den ρ = (c : Int) := by
  unfold arrRows at h
  split at h
  · rename_i sh' o code' cap kind t hbl
    split at h
    · rename_i q hq
      cases hc : (Nat.beq off 0 && Nat.blt 0 kind && Lin.beq o (.const 0) && decide (0 ≤ q)) with
      | false => rw [hc] at h; cases h
      | true =>
        rw [hc] at h
        simp only [cond_true, Option.some.injEq, Prod.mk.injEq] at h
        obtain ⟨rfl, rfl, rfl⟩ := h
        simp only [Bool.and_eq_true, decide_eq_true_eq] at hc
        obtain ⟨⟨⟨c1, c2⟩, c3⟩, c4⟩ := hc
        have c3 := Lin.beq_eq c3
        subst c3
        exact ⟨Nat.eq_of_beq_eq_true c1, cap, kind, t, hbl, Nat.le_of_ble_eq_true c2, fun ρ => by rw [Lin.den_isC hq]; omega⟩
    · cases h
  · cases h
theorem allRowsM_snd {nb : Nat} {sh : List CK} : ∀ {k i : Nat} {n : Nat} {ρ : Env} {code : Lin}, code.sc n → (∀ row ∈ rOf (code.den ρ), RowOk sh row) → (rOf (code.den ρ)).length = i + k →
    Snd S L (allRowsM code sh i k) n ρ fun ρ' n' l => (∀ a ∈ l, A.ok n' nb ρ' a) ∧ l.length = k * sh.length ∧ ∀ (x : Nat) (a : A), l[x]? = some a → (flatV sh (rOf (code.den ρ)))[i * sh.length + x]? = some (a.den ρ' m)
  | 0, i, n, ρ, code, _, _, _ => Snd.pure ⟨fun _ h => by simp at h, by simp, fun x a h => by simp at h⟩
  | k + 1, i, n, ρ, code, hs, hrk, hl => by
    unfold allRowsM
    have hlt : i < (rOf (code.den ρ)).length := by omega
    have hrow : (rOf (code.den ρ))[i]? = some (rOf (code.den ρ))[i] := List.getElem?_eq_getElem hlt
    generalize (rOf (code.den ρ))[i] = row at hrow
    refine (cellsM_snd (nb := nb) (m := m) (r := sh) (j := 0) (i := .const (i : Nat)) (code := code) (hrk row (List.mem_of_getElem? hrow)) hs (Lin.sc_const _ _) (by rw [Lin.den_const, Int.toNat_natCast]; exact hrow) (fun x c hx => by rw [Nat.zero_add]; exact hx)).bind fun ρ1 n1 l1 hn1 ha1 ⟨g1, g2, g3⟩ => ?_
    have e1 : code.den ρ1 = code.den ρ := Lin.den_agree ha1 hs
    refine (allRowsM_snd (nb := nb) (k := k) (i := i + 1) (code := code) (hs.mono hn1) (by rw [e1]; exact hrk) (by rw [e1]; omega)).bind fun ρ2 n2 l2 hn2 ha2 ⟨k1, k2, k3⟩ => Snd.pure ⟨fun a ha => ?_, by rw [List.length_append, g2, k2, Nat.succ_mul]; omega, fun x a hx => ?_⟩
    · rcases List.mem_append.1 ha with ha | ha
      · exact (g1 a ha).ext ha2 hn2 (Nat.le_refl _)
      · exact k1 a ha
    · rw [List.getElem?_append] at hx
      split at hx
      · rename_i hlt
        have := g3 x a hx
        rw [Nat.zero_add] at this
        rw [A.den_ext (g1 a (List.mem_of_getElem? hx)) ha2 (fun _ _ => rfl)]
        exact flatV_get hrk hrow this
      · rename_i hge
        have := k3 (x - l1.length) a hx
        rw [e1, g2] at this
        rw [g2] at hge
        rw [show i * sh.length + x = (i + 1) * sh.length + (x - sh.length) by rw [Nat.succ_mul]; omega]
        exact this
theorem chk3_snd {α : Type} {p q r len cap : Lin} {f : Unit → M α} {R : Env → Nat → α → Prop} (h11 : cap.den ρ < 0 → len.den ρ = 0) (h12 : 0 ≤ cap.den ρ → len.den ρ ≤ cap.den ρ) (h : (0 ≤ p.den ρ ∧ p.den ρ ≤ q.den ρ ∧ q.den ρ ≤ r.den ρ ∧ r.den ρ ≤ cap.den ρ) → Snd S L (f ()) n ρ R) :
    Snd S L (bind (cond (Lin.beq r len) (chkM 78 [p, q, r, cap]) (chkM 64 [p, q, r, len])) f) n ρ R := by
  cases Lin.beq r len with
  | true => exact chkM_snd fun hk => h hk
  | false =>
    refine chkM_snd fun hk => h ?_
    have hk : 0 ≤ p.den ρ ∧ p.den ρ ≤ q.den ρ ∧ q.den ρ ≤ r.den ρ ∧ r.den ρ ≤ len.den ρ ∧ 0 < len.den ρ := hk
    have hc : 0 ≤ cap.den ρ := by
      rcases Int.lt_or_le (cap.den ρ) 0 with h | h
      · have := h11 h; omega
      · exact h
    have := h12 hc
    omega
theorem slSub3_snd {t : TypeId} {b sz : Nat} {o ro len cap p q r : Lin} {lo : Option Operand} {hi mx : Operand} (hx : (A.sl b sz o ro len cap).ok n bl.length ρ) (ht : TRel n bl.length ρ m tm a.tmps) (hp : bndL tm (.const 0) lo = some p) (hq : intL (opV tm hi) = some q) (hr : intL (opV tm mx) = some r) :
    Snd S L (slSub3 P t b sz o ro len cap p q r) n ρ (QV w0 m bl n ρ fun w => (Instr.sliceAt t ((A.sl b sz o ro len cap).den ρ m) (lo.map a.eval) (some (a.eval hi)) (some (a.eval mx))).run P w) := by
  unfold slSub3
  cases h1 : slcOf P t with
  | none => exact Snd.fail
  | some e =>
    cases h2 : szB P e with
    | none => simp only [h2]; exact Snd.fail
    | some s =>
      simp only [h2]
      refine snd_guard fun hs => chk3_snd (fun h => hx.2.2.2.2.1 h) (fun h => hx.2.2.2.2.2 h) fun hk => ?_
      have hs := Nat.eq_of_beq_eq_true hs
      subst hs
      obtain ⟨k1, k2, k3, k4⟩ := hk
      have hx' := hx
      obtain ⟨x1, ⟨x2, x3, x4, x5⟩, ⟨x6, x7, x8, x9⟩, ⟨x10, x13⟩, x11, x12⟩ := hx
      have hsp := bndL_spec hp ht
      have scp : p.sc n := by rcases hsp with ⟨_, rfl⟩ | ⟨_, _, h⟩; exact Lin.sc_const _ _; exact h
      obtain ⟨kq, hq', scq⟩ := intL_spec (m := m) (bl := bl) hq (opV_spec ht hi).2 (opV_spec ht hi).1
      obtain ⟨kr, hr', scr⟩ := intL_spec (m := m) (bl := bl) hr (opV_spec ht mx).2 (opV_spec ht mx).1
      obtain ⟨ptr, e1, e2, e3⟩ := sl_den (m := m) hx'
      have hc : ¬ (cap.den ρ < 0) := by omega
      have h12 := x12 (by omega)
      have e1' := e1
      rw [if_neg hc, e3 (by omega)] at e1'
      have hf : fnD 33 ([ro, p, r].map (·.den ρ)) = (if p.den ρ = r.den ρ then ro.den ρ else ro.den ρ + p.den ρ) := rfl
      refine (fnM_snd (by rw [hf]; split <;> omega) (by rw [hf]; split <;> omega)).bind fun ρ1 n1 rr hn ha ⟨g1, g2⟩ => Snd.pure ?_
      rw [hf] at g2
      have a1 := Lin.den_agree ha x2; have a2 := Lin.den_agree ha scq; have a3 := Lin.den_agree ha scp; have a4 := Lin.den_agree ha scr
      refine ⟨⟨x1, ⟨x2.mono hn, g1, Lin.sc_sub (scq.mono hn) (scp.mono hn), Lin.sc_sub (scr.mono hn) (scp.mono hn)⟩, ?_⟩, _, rfl, fun w _ => ?_⟩
      · rw [Lin.den_sub, Lin.den_sub, a1, a2, a3, a4, g2]
        refine ⟨⟨x6, ?_, by omega, by omega⟩, ⟨by omega, ?_⟩, fun h => by omega, fun h => by omega⟩
        · split <;> omega
        · split <;> omega
      · rw [e1']
        have hbs : (Instr.sliceBounds true (len.den ρ).toNat (cap.den ρ).toNat (lo.map a.eval) (some (a.eval hi)) (some (a.eval mx))).run P w = .ok ((p.den ρ).toNat, (q.den ρ).toNat, (r.den ρ).toNat) w := by
          rw [hq', hr']
          rcases hsp with ⟨rfl, rfl⟩ | ⟨kp, hp', _⟩
          · simp [Instr.sliceBounds, Lin.den_const, sliceB_ok (P := P) (y := (cap.den ρ).toNat) (by omega : 0 ≤ r.den ρ) (by omega), sliceB_ok (P := P) (y := (r.den ρ).toNat) (by omega : 0 ≤ q.den ρ) (by omega)]
          · rw [hp']
            simp [Instr.sliceBounds, sliceB_ok (P := P) (y := (cap.den ρ).toNat) (by omega : 0 ≤ r.den ρ) (by omega), sliceB_ok (P := P) (y := (r.den ρ).toNat) (by omega : 0 ≤ q.den ρ) (by omega), sliceB_ok (P := P) (y := (q.den ρ).toNat) k1 (by omega)]
        have e4 : (q.den ρ).toNat - (p.den ρ).toNat = (q.den ρ - p.den ρ).toNat := by omega
        have e5 : (r.den ρ).toNat - (p.den ρ).toNat = (r.den ρ - p.den ρ).toNat := by omega
        simp only [Instr.sliceAt, Sem.run_bind, run_underlying (slcOf_spec h1), Result.andThen_ok, Instr.slice, hbs, run_szB h2, Sem.run_pure, e4, e5, W.den, A.den, Lin.den_sub, a1, a2, a3, a4, g2]
        rw [if_neg (show ¬ (r.den ρ - p.den ρ < 0) by omega)]
        by_cases hpc : p.den ρ = r.den ρ
        · rw [if_pos hpc, if_pos (by omega)]
        · rw [if_neg hpc, if_neg (by omega)]
          have e6 : (ro.den ρ + p.den ρ).toNat = (ro.den ρ).toNat + (p.den ρ).toNat := by omega
          rw [e6, Nat.add_mul, ← Nat.add_assoc]
          simp [addr_add]
theorem rowsQ2_snd (hb : BlOk n bl.length ρ bl) (hex : ∃ w, Mem w0 ρ m bl w) (ht : TRel n bl.length ρ m tm a.tmps) (o : Oper) {q : M V} (hq : rowsQ2 P bl tm o = some q) : Snd S L q n ρ (QR w0 m bl n ρ P o a) := by
  obtain ⟨wx, hwx⟩ := hex
  unfold rowsQ2 at hq
  split at hq
  · rename_i t x ix h
    have hx := opV_spec ht x
    have hi := opV_spec ht ix
    split at hq
    · rename_i b off k i hv hvi
      rw [hv] at hx; rw [hvi] at hi
      split at hq
      · rename_i sh code c len e har harr
        split at hq
        · rename_i s hs
          cases hc : (Nat.beq s sh.length && Nat.beq len c) with
          | false => rw [hc] at hq; cases hq
          | true =>
            rw [hc] at hq
            simp only [cond_true, Option.some.injEq] at hq
            subst hq
            simp only [Bool.and_eq_true] at hc
            have c2 := Nat.eq_of_beq_eq_true hc.2
            subst c2
            obtain ⟨rfl, cap, kind, bt, hbl, hk, hcap⟩ := arrRows_spec har
            refine chkM_snd fun hk30 => Snd.pure ?_
            simp only [List.map_cons, List.map_nil, chkD, Lin.den_const] at hk30
            have hxr : a.eval x = .pointer (some ⟨m b, 0, none⟩) := hx.2
            have hir : a.eval ix = .int k (i.l.den ρ) := hi.2
            have hisc : IV.ok n ρ i := hi.1
            have hxo : b < bl.length := hx.1
            refine ⟨⟨hxo, ⟨Lin.sc_const _ _, hisc.1⟩, by rw [Lin.den_const]; omega, hk30.1⟩, _, rfl, fun w _ => .inl ?_⟩
            have c1 : i.l.den ρ < ((len : Nat) : Int) := hk30.2
            simp [execOp, h, hxr, hir, Instr.indexAt, asIntOf, run_underlying (arrOf_spec harr), Instr.sureAddr, hk30.1, c1, run_szB hs, addr_add, W.den, A.den, Lin.den_const]
        · cases hq
      · cases hq
    · cases hq
  · rename_i t x h
    have hx := opV_spec ht x
    split at hq
    · rename_i b off hv
      rw [hv] at hx
      split at hq
      · rename_i sh code c k har hagg hs
        cases hc : (Nat.beq k (c * sh.length)) with
        | false => rw [hc] at hq; cases hq
        | true =>
          rw [hc] at hq
          simp only [cond_true, Option.some.injEq] at hq
          subst hq
          have hc := Nat.eq_of_beq_eq_true hc
          subst hc
          obtain ⟨rfl, cap, kind, bt, hbl, hk, hcap⟩ := arrRows_spec har
          refine chkM_snd fun hk31 => ?_
          simp only [List.map_cons, List.map_nil, chkD, Lin.den_const] at hk31
          have hAok : (A.rows sh (.const 0) code cap kind).ok n bl.length ρ := hb _ (List.mem_of_getElem? hbl) _ (by simp)
          have hmem : ∀ w, Mem w0 ρ m bl w → ∃ cells t' fz, w.heap[m b]? = some (.cells cells t' fz) ∧ RowsAt cells 0 sh (rOf (code.den ρ)) := fun w hw => by
            obtain ⟨_, cells, tq, fz, g1, ⟨g2, g3⟩, _⟩ := (hw.rws b sh (.const 0) code cap kind bt hbl (by omega)).2 (by rw [hcap]; omega)
            rw [Lin.den_const] at g3
            exact ⟨cells, tq, fz, g1, g3⟩
          obtain ⟨_, _, _, _, hrk0⟩ := hmem wx hwx
          refine (allRowsM_snd (nb := bl.length) (m := m) (k := c) (i := 0) hAok.1.2.1 hrk0.1 (by omega)).bind fun ρ1 n1 l hn ha ⟨g1, g2, g3⟩ => Snd.pure ⟨g1, _, rfl, fun w hw => .inl ?_⟩
          obtain ⟨cells, tq, fz, q1, q2⟩ := hmem w hw
          have hl := run_loadCells_list (P := P) w ⟨m b, 0, none⟩ (l.map (A.den ρ1 m)) fun x v hj => by
            rw [addr_add]
            rw [List.getElem?_map] at hj
            cases hq : l[x]? with
            | none => simp [hq] at hj
            | some y =>
              simp only [hq, Option.map_some, Option.some.injEq] at hj
              subst hj
              have h3 := g3 x y hq
              rw [Nat.zero_mul, Nat.zero_add] at h3
              simp only [World.cell?, q1, Option.isSome_none, Bool.false_eq_true, if_false]
              obtain ⟨_, pre, post, p1, p2⟩ := q2
              have hpre : pre = [] := List.eq_nil_of_length_eq_zero p2
              subst hpre
              have hlt := (List.getElem?_eq_some_iff.1 h3).1
              rw [← Array.getElem?_toList, p1, List.nil_append, List.getElem?_append_left (by omega), Nat.zero_add]
              exact h3
          simp only [List.length_map, g2] at hl
          have hxr : a.eval x = .pointer (some ⟨m b, 0, none⟩) := hx.2
          simp [execOp, h, hxr, Instr.loadAt, Instr.sureAddr, loadVar, run_isAggB hagg, run_szB hs, hl, W.den]
      · cases hq
    · cases hq
  · rename_i t x lo hi mx h
    have hx := opV_spec ht x
    split at hq
    · rename_i b sz off ro len cap hv
      rw [hv] at hx
      have hxr : a.eval x = (A.sl b sz off ro len cap).den ρ m := hx.2
      have he : execOp a.eval o = (do pure (Next.value (← Instr.sliceAt t ((A.sl b sz off ro len cap).den ρ m) (lo.map a.eval) (some (a.eval hi)) (some (a.eval mx))))) := by simp only [execOp, h, hxr]; rfl
      split at hq
      · rename_i p q' r hp hq' hr
        cases hq
        exact (slSub3_snd hx.1 ht hp hq' hr).mono fun _ _ _ _ _ hq => QR.of_run he hq
      · cases hq
    · cases hq
  · rename_i c h
    split at hq
    · rename_i hc
      split at hq
      · rename_i x t hxs hts
        have hx := opV_spec ht x
        split at hq
        · rename_i e hv hs
          cases hq
          rw [hv] at hx
          have hxr : a.eval x = .slice none 0 0 := hx.2
          have a1 : c.args = #[x] := by rw [← Array.toArray_toList (xs := c.args), hxs]
          have a2 : c.argTypes = #[t] := by rw [← Array.toArray_toList (xs := c.argTypes), hts]
          refine Snd.pure ⟨IV.const_ok _ _ _, _, rfl, fun w _ => .inl ?_⟩
          simp [execOp, h, resolve, hc, a1, a2, hxr, invoke, builtin, Builtin.len_, run_underlying (slcOf_spec hs), goInt, W.den, A.den, IV.const, Lin.den_const]
        · cases hq
      · cases hq
    · cases hq
  · cases hq
theorem qop_snd {cal : Cal} (hcal : CalOk S P gl w0 cal) (hb : BlOk n bl.length ρ bl) (hg : GOk gl w0) (hex : ∃ w, Mem w0 ρ m bl w) (ht : TRel n bl.length ρ m tm a.tmps) (o : Oper) :
    Snd S L (qop P cal gl bl tm o) n ρ (QR w0 m bl n ρ P o a) := by
  unfold qop
  cases hq : rowsQ P bl tm o with
  | none =>
    simp only
    cases hq2 : rowsQ2 P bl tm o with
    | some q => exact rowsQ2_snd hb hex ht o hq2
    | none =>
    simp only
    cases hd : dynQ cal bl tm o with
    | none => exact qop0_snd hcal hb hg hex ht o
    | some q =>
      simp only
      unfold dynQ at hd
      split at hd
      · rename_i c ho
        split at hd
        · rename_i x hc
          split at hd
          · rename_i f fa fb hv
            cases hz : (Nat.beq fa.size 0 && Nat.beq fb.size 0) with
            | false => rw [hz] at hd; cases hd
            | true =>
              rw [hz] at hd
              simp only [cond_true, Option.map_eq_some_iff] at hd
              obtain ⟨g, hgf, rfl⟩ := hd
              simp only [Bool.and_eq_true, Nat.beq_eq] at hz
              have e0 : fa = #[] := Array.eq_empty_of_size_eq_zero hz.1
              have e1 : fb = #[] := Array.eq_empty_of_size_eq_zero hz.2
              subst e0 e1
              have hx := opV_spec ht (.tmp x)
              rw [hv] at hx
              have hxr : a.eval (.tmp x) = .func (.func f) #[] #[] := hx.2
              have hargs : ∀ v ∈ c.args.toList.map (opV tm), V.ok n bl.length ρ v := fun v hv => by
                obtain ⟨x, _, rfl⟩ := List.mem_map.1 hv
                exact (opV_spec ht x).1
              have he : execOp a.eval o = callFunc f (c.args.map a.eval) := by
                simp only [execOp, ho, resolve, hc, hxr, Deferred.ofValue]
                simp [invoke, bind_pure_comp]
              refine (hcal f g hgf L n ρ m bl _ _ hb hex hargs (LRel_map (xs := c.args.toList) ht)).mono fun ρ1 n1 v _ _ ⟨q1, val, q2, q3⟩ => ⟨q1, val, q2, fun w hw => ?_⟩
              have ha : (c.args.toList.map a.eval).toArray = c.args.map a.eval := by
                rw [← Array.toList_map]
              have q4 := q3 w hw
              rw [ha] at q4
              rcases q4 with q4 | ⟨q4, q5⟩
              · exact .inl (by rw [he]; exact q4)
              · exact .inr ⟨f, _, by rw [he]; exact q4, q5⟩
          · cases hd
        · cases hd
      · cases hd
  | some q =>
    simp only
    unfold rowsQ at hq
    split at hq
    case h_1 t x h =>
      have hx := opV_spec ht x
      split at hq
      · rename_i b sz off i j hv
        cases hq
        rw [hv] at hx
        have hxr : a.eval x = (A.ep b sz off i j).den ρ m := hx.2
        have he : execOp a.eval o = (do pure (Next.value (← Instr.loadAt t ((A.ep b sz off i j).den ρ m)))) := by simp only [execOp, h, hxr]
        exact (epLoad_snd hb hex t hx.1).mono fun _ _ _ _ _ hq => QR.of_run he hq
      · rename_i b off ix hv
        split at hq
        · rename_i hu
          cases hq
          rw [hv] at hx
          have hxr : a.eval x = (A.pix b off ix).den ρ m := hx.2
          have he : execOp a.eval o = (do pure (Next.value (← Instr.loadAt t ((A.pix b off ix).den ρ m)))) := by simp only [execOp, h, hxr]
          exact (selB_snd hb hu b off hx.1.2.1).mono fun _ _ _ _ _ hq => QR.of_run he hq
        · cases hq
      · cases hq
    case h_2 x h =>
      have hx := opV_spec ht x
      split at hq
      · rename_i b sz off i j hv
        cases hq
        rw [hv] at hx
        refine Snd.pure ⟨hx.1, _, rfl, fun w _ => .inl ?_⟩
        have hxr := hx.2
        simp only [V.rel, W.den, A.den] at hxr
        simp [execOp, h, hxr, W.den, A.den]
      · cases hq
    case h_3 t x ix h =>
      have hx := opV_spec ht x
      have hi := opV_spec ht ix
      split at hq
      · rename_i b sz off ro len cap k i hv hvi
        cases hq
        rw [hv] at hx
        rw [hvi] at hi
        have hxr : a.eval x = (A.sl b sz off ro len cap).den ρ m := hx.2
        have hir : a.eval ix = .int k (i.l.den ρ) := hi.2
        have he : execOp a.eval o = (do pure (Next.value (← Instr.indexAt t ((A.sl b sz off ro len cap).den ρ m) (.int k (i.l.den ρ))))) := by simp only [execOp, h, hxr, hir]
        have hisc : IV.ok n ρ i := hi.1
        exact (slIdx_snd hx.1 hisc.1).mono fun _ _ _ _ _ hq => QR.of_run he hq
      · cases hq
    case h_4 t x h =>
      have hx := opV_spec ht x
      split at hq
      · rename_i b sz off ro len cap k e hv ha
        cases hq
        rw [hv] at hx
        refine snd_guard fun hc => chkM_snd fun hk => ?_
        have hc : 0 < k := Nat.le_of_ble_eq_true hc
        simp only [List.map_cons, List.map_nil, Lin.den_const, chkD] at hk
        have hok : A.ok n bl.length ρ (.sl b sz off ro len cap) := hx.1
        obtain ⟨h1, ⟨h2, h3, h4, h5⟩, h6⟩ := hok
        have hcap : ¬ cap.den ρ < 0 := fun hneg => by have := h6.2.2.1 hneg; omega
        refine Snd.pure ⟨⟨h1, ⟨h2, h3⟩, h6.1.1, h6.1.2.1⟩, _, rfl, fun w _ => .inl ?_⟩
        have hxr : a.eval x = (A.sl b sz off ro len cap).den ρ m := hx.2
        have hle : ¬ (len.den ρ).toNat < k := by omega
        simp only [execOp, h]
        rw [hxr]
        simp only [A.den, if_neg hcap]
        simp [Instr.arrayAt, run_underlying (arrOf_spec ha), hle, W.den, A.den]
      · cases hq
    case h_5 s x f h =>
      have hx := opV_spec ht x
      split at hq
      · rename_i b sz off i j fd hv hf
        rw [hv] at hx
        obtain ⟨fs, hu, hfd⟩ := fieldOf_spec hf
        split at hq
        · rename_i k hs
          cases hq
          refine Snd.pure ⟨hx.1, _, rfl, fun w _ => .inl ?_⟩
          have hxr := hx.2
          simp only [V.rel, W.den, A.den] at hxr
          simp [execOp, h, hxr, Instr.fieldAt, run_underlying hu, hfd, Instr.sureAddr, fieldPlace, run_szB hs, addr_add, W.den, A.den, Nat.add_assoc]
        · cases hq
      · cases hq
    case h_6 t x lo hi h =>
      have hx := opV_spec ht x
      split at hq
      · rename_i b sz off ro len cap hv
        rw [hv] at hx
        have hxr : a.eval x = (A.sl b sz off ro len cap).den ρ m := hx.2
        have he : execOp a.eval o = (do pure (Next.value (← Instr.sliceAt t ((A.sl b sz off ro len cap).den ρ m) (lo.map a.eval) (hi.map a.eval) none))) := by simp only [execOp, h, hxr]; rfl
        split at hq
        · rename_i p q' hp hq'
          cases hq
          exact (slSub_snd hx.1 ht hp hq').mono fun _ _ _ _ _ hq => QR.of_run he hq
        · cases hq
      · cases hq
    case h_7 s d x h =>
      have hx := opV_spec ht x
      split at hq
      · rename_i b sz off ro len cap e hv hs hd
        split at hq
        · rename_i he8
          cases hq
          rw [hv] at hx
          have hxr : a.eval x = (A.sl b sz off ro len cap).den ρ m := hx.2
          have he : execOp a.eval o = (do pure (Next.value (← convert s d ((A.sl b sz off ro len cap).den ρ m)))) := by simp only [execOp, h, hxr]
          exact (slStr_snd hb hex (slcOf_spec hs) he8 hd hx.1).mono fun _ _ _ _ _ hq => QR.of_run he hq
        · cases hq
      · cases hq
    case h_8 c h =>
      split at hq
      · rename_i hc
        split at hq
        · rename_i x t hxs hts
          have hx := opV_spec ht x
          split at hq
          · rename_i b sz off ro len cap e hv hs
            cases hq
            rw [hv] at hx
            have hxr : a.eval x = (A.sl b sz off ro len cap).den ρ m := hx.2
            have hxo : (A.sl b sz off ro len cap).ok n bl.length ρ := hx.1
            obtain ⟨ptr, e1, _, _⟩ := sl_den (m := m) hxo
            rw [e1] at hxr
            obtain ⟨x1, ⟨x2, x3, x4, x5⟩, ⟨x6, x7, x8, x9⟩, _⟩ := hxo
            have a1 : c.args = #[x] := by rw [← Array.toArray_toList (xs := c.args), hxs]
            have a2 : c.argTypes = #[t] := by rw [← Array.toArray_toList (xs := c.argTypes), hts]
            refine Snd.pure ⟨⟨x4, x8, x9⟩, _, rfl, fun w _ => .inl ?_⟩
            have e4 : ((len.den ρ).toNat : Int) = len.den ρ := by omega
            simp [-Int.ofNat_toNat, execOp, h, resolve, hc, a1, a2, hxr, invoke, builtin, Builtin.len_, run_underlying (slcOf_spec hs), goInt, W.den, A.den, e4]
          · cases hq
        · cases hq
      · rename_i hc
        split at hq
        · rename_i x y hxs
          have hx := opV_spec ht x
          have hy := opV_spec ht y
          split at hq
          · rename_i k p k' q' hv1 hv2
            by_cases hkk : k = k'
            · subst hkk
              simp only [decide_true, cond_true] at hq
              cases hq
              rw [hv1] at hx; rw [hv2] at hy
              have e1 : a.eval x = .int k (p.l.den ρ) := hx.2
              have e2 : a.eval y = .int k (q'.l.den ρ) := hy.2
              have a1 : c.args = #[x, y] := by rw [← Array.toArray_toList (xs := c.args), hxs]
              have he : execOp a.eval o = (do pure (Next.value (← Builtin.min_ c.argTypes o.type #[.int k (p.l.den ρ), .int k (q'.l.den ρ)]))) := by
                simp [execOp, h, resolve, hc, a1, e1, e2, invoke, builtin]
              exact (minM_snd hx.1 hy.1).mono fun _ _ _ _ _ hq => QR.of_run he hq
            · simp [hkk] at hq
          · cases hq
        · cases hq
      · rename_i hc
        split at hq
        · rename_i x y hxs
          have hx := opV_spec ht x
          have hy := opV_spec ht y
          split at hq
          · rename_i k p k' q' hv1 hv2
            by_cases hkk : k = k'
            · subst hkk
              simp only [decide_true, cond_true] at hq
              cases hq
              rw [hv1] at hx; rw [hv2] at hy
              have e1 : a.eval x = .int k (p.l.den ρ) := hx.2
              have e2 : a.eval y = .int k (q'.l.den ρ) := hy.2
              have a1 : c.args = #[x, y] := by rw [← Array.toArray_toList (xs := c.args), hxs]
              have he : execOp a.eval o = (do pure (Next.value (← Builtin.max_ c.argTypes o.type #[.int k (p.l.den ρ), .int k (q'.l.den ρ)]))) := by
                simp [execOp, h, resolve, hc, a1, e1, e2, invoke, builtin]
              exact (maxM_snd hx.1 hy.1).mono fun _ _ _ _ _ hq => QR.of_run he hq
            · simp [hkk] at hq
          · cases hq
        · cases hq
      · cases hq
    case h_9 op t x y q0 h =>
      have hx := opV_spec ht x
      have hy := opV_spec ht y
      split at hq
      · rename_i e b sz o' ro len cap hs hv1 hv2
        rw [hv1] at hx; rw [hv2] at hy
        have hxr : a.eval x = (A.sl b sz o' ro len cap).den ρ m := hx.2
        have hyr : a.eval y = .slice none 0 0 := hy.2
        have hxo : (A.sl b sz o' ro len cap).ok n bl.length ρ := hx.1
        obtain ⟨ptr, e1, e2, e3⟩ := sl_den (m := m) hxo
        rw [e1] at hxr
        obtain ⟨x1, ⟨x2, x3, x4, x5⟩, _, _, x11, _⟩ := hxo
        have has : chkD 53 ([cap, len].map (·.den ρ)) := x11
        have hp : ptr.isNone = decide (cap.den ρ < 0) := by
          rcases Int.lt_or_le (cap.den ρ) 0 with h0 | h0
          · rw [e2 h0, decide_eq_true h0]; rfl
          · rw [e3 h0, decide_eq_false (by omega)]; rfl
        split at hq
        · cases hq
          refine (asmM_snd has).bind fun ρ1 n1 _ _ _ ⟨hρ, hn⟩ => ?_
          have hρ := hρ.symm
          have hn := hn.symm
          subst hρ hn
          refine Snd.pure ⟨⟨x5, Lin.sc_const _ _⟩, _, rfl, fun w _ => .inl ?_⟩
          have hg0 : eqGuard .eql t x y (.slice ptr (len.den ρ).toNat (if cap.den ρ < 0 then 0 else (cap.den ρ).toNat)) (.slice none 0 0) = Pure.pure () := rfl
          have he : execOp a.eval o = (do pure (Next.value (← binOp .eql t (.slice ptr (len.den ρ).toNat (if cap.den ρ < 0 then 0 else (cap.den ρ).toNat)) (.slice none 0 0)))) := by
            simp only [execOp, h, hxr, hyr, hg0, pure_bind]
          simp only [he, Sem.run_bind, run_eq_nil w (slcOf_spec hs), Result.andThen_ok, Sem.run_pure, hp]
          simp [W.den, A.den, BE.den, Lin.den_const]
        · cases hq
          refine (asmM_snd has).bind fun ρ1 n1 _ _ _ ⟨hρ, hn⟩ => ?_
          have hρ := hρ.symm
          have hn := hn.symm
          subst hρ hn
          refine Snd.pure ⟨BE.sc_mkNot ⟨x5, Lin.sc_const _ _⟩, _, rfl, fun w _ => .inl ?_⟩
          have hg0 : eqGuard .neq t x y (.slice ptr (len.den ρ).toNat (if cap.den ρ < 0 then 0 else (cap.den ρ).toNat)) (.slice none 0 0) = Pure.pure () := rfl
          have he : execOp a.eval o = (do pure (Next.value (← binOp .neq t (.slice ptr (len.den ρ).toNat (if cap.den ρ < 0 then 0 else (cap.den ρ).toNat)) (.slice none 0 0)))) := by
            simp only [execOp, h, hxr, hyr, hg0, pure_bind]
          simp only [he, Sem.run_bind, run_ne_nil w (slcOf_spec hs), Result.andThen_ok, Sem.run_pure, hp]
          simp [W.den, A.den, BE.den, BE.den_mkNot, Lin.den_const]
        · cases hq
      · cases hq
    case h_10 => cases hq
end
end Go.Rx

/- A region whose order is open: quiet operations first, whichever of them comes when; then what goes one behind the other. -/
set_option linter.unusedVariables false
set_option linter.unusedSimpArgs false
namespace Go.Rx

def depB (ops : Array Oper) (n : Nat) : Bool :=
  (List.range n).all fun i => match ops[i]? with
    | none => false
    | some oi => (oi.after.all fun e => !Region.binds .any e || Nat.blt e.on i) && (match oi.op with | .select .. => false | _ => true) &&
      (List.range n).all fun j => Nat.beq i j || match ops[j]? with
        | none => false
        | some oj => match oj.dst with
          | none => true
          | some d => (!(oi.looksAt ops).contains d || Region.waitsFor .any ops i j || Region.waitsFor .any ops j i) && !(match oi.dst with | some d' => Nat.beq d' d | none => false)
def headSet (size n : Nat) : Array Bool := ((List.range size).map fun i => Nat.blt i n).toArray
/-- What yields its value in whatever world. -/
def floatO (o : Oper) : Bool := match o.op with | .move _ | .assign _ | .extract _ _ => true | _ => false
def floatB (ops : Array Oper) (i : Nat) : Bool := match ops[i]? with | some o => floatO o | none => false
/-- A new variable: its address hangs on when it comes. -/
def alO (o : Oper) : Bool := match o.op, o.guard, o.dst with | .alloc _, none, some _ => true | _, _, _ => false
def alB (ops : Array Oper) (i : Nat) : Bool := match ops[i]? with | some o => alO o | none => false
/-- No operation of the head looks at a new variable of it. -/
def newB (ops : Array Oper) (n : Nat) : Bool :=
  (List.range n).all fun i => !alB ops i || match ops[i]? with
    | some oi => match oi.dst with
      | some d => (List.range n).all fun j => match ops[j]? with | some oj => !(oj.looksAt ops).contains d | none => true
      | none => false
    | none => false
def sinkF (ops : Array Oper) (n : Nat) : Bool :=
  (List.range n).all fun i => floatB ops i || (List.range (n + 1)).any fun j => Nat.blt i j && Region.waitsFor .any ops j i && (Nat.beq j n || !floatB ops j)
def freeF (ops : Array Oper) (n : Nat) : Bool :=
  (List.range n).all fun i => !floatB ops i || (List.range ops.size).all fun j => Nat.blt j n || Region.waitsFor .any ops j i || (match ops[i]?, ops[j]? with | some oi, some oj => oi.apart ops oj | _, _ => false)
def tailB (ops : Array Oper) (n : Nat) : Bool :=
  Region.noSelect ops && freeF ops n && newB ops n && depB ops n && Nat.ble n ops.size && (Nat.beq n ops.size || (sinkF ops n && Region.chainB .any ops n)) && Region.seqB .any ops (ops.size - n) n (headSet ops.size n)
/-- Q, but 'False' at a panic. -/
def calm (Q : Exit → Act → World → Prop) : Exit → Act → World → Prop
  | .panic _, _, _ => False
  | e, a, w => Q e a w
theorem calm.imp {Q : Exit → Act → World → Prop} : ∀ (e : Exit) (a : Act) (w : World), calm Q e a w → Q e a w := fun e a w h => by
  cases e <;> first | exact h | exact (h : False).elim

theorem blt_lt {a b : Nat} (h : Nat.blt a b = true) : a < b := Nat.le_of_ble_eq_true h
theorem lt_blt {a b : Nat} (h : a < b) : Nat.blt a b = true := Nat.ble_eq_true_of_le h
section
variable {P : Program} {ops : Array Oper} {C : World → Prop}

/-- What a quiet operation does, in every world of the class; all of it stays. -/
def YieldsQ (P : Program) (ops : Array Oper) (C : World → Prop) (o : Oper) (v : Value) (a : Act) : Prop :=
  (Region.wanted o (yielded ops a.tmps) = true ∧ ∀ w, C w → QRes P o a w v) ∨ (Region.wanted o (yielded ops a.tmps) = false ∧ v = undef)
/-- The head, one behind the other, new variables passed over. -/
def Chain (P : Program) (ops : Array Oper) (C : World → Prop) (F : Act → Prop) : List Oper → Act → Prop
  | [], a => F a
  | o :: r, a => cond (alO o) (Chain P ops C F r a) (∃ v, YieldsQ P ops C o v a ∧ Chain P ops C F r (a.put o.dst v))
theorem quiet_chain {Q : Act → Prop} : ∀ (l : List Oper) (a : Act), Chain P ops C Q l a → ∃ (as : Nat → Act) (vs : Nat → Value), as 0 = a ∧ (∀ i o, l[i]? = some o → (alO o = false → YieldsQ P ops C o (vs i) (as i) ∧ as (i + 1) = (as i).put o.dst (vs i)) ∧ (alO o = true → as (i + 1) = as i)) ∧ Q (as l.length)
  | [], a, h => ⟨fun _ => a, fun _ => undef, rfl, fun i o hi => by simp at hi, h⟩
  | o :: r, a, h => by
    unfold Chain at h
    cases hal : alO o with
    | true =>
      simp only [hal, cond_true] at h
      obtain ⟨as, vs, e0, hs, hQ⟩ := quiet_chain r _ h
      refine ⟨fun i => match i with | 0 => a | i + 1 => as i, fun i => match i with | 0 => undef | i + 1 => vs i, rfl, fun i o' hi => ?_, hQ⟩
      cases i with
      | zero =>
        simp at hi; subst hi
        exact ⟨fun h1 => by (rw [hal] at h1; cases h1), fun _ => e0⟩
      | succ i =>
        simp at hi
        exact hs i o' hi
    | false =>
      simp only [hal, cond_false] at h
      obtain ⟨v, hy, h2⟩ := h
      obtain ⟨as, vs, e0, hs, hQ⟩ := quiet_chain r _ h2
      refine ⟨fun i => match i with | 0 => a | i + 1 => as i, fun i => match i with | 0 => v | i + 1 => vs i, rfl, fun i o' hi => ?_, hQ⟩
      cases i with
      | zero =>
        simp at hi; subst hi
        exact ⟨fun _ => ⟨hy, e0⟩, fun h1 => by (rw [hal] at h1; cases h1)⟩
      | succ i =>
        simp at hi
        exact hs i o' hi

theorem wpAny_more {Q : Exit → Act → World → Prop} {md : Region.Mode} : ∀ (f : Nat) (listed : Array Bool) (a : Act) (w : World), wpAny P md ops Q f listed a w → wpAny P md ops Q (f + 1) listed a w
  | 0, _, _, _, h => ⟨fun _ => h.2, fun i hi => by rw [h.1] at hi; cases hi⟩
  | f + 1, _, _, _, h => ⟨h.1, fun i hi => wpOp_mono (fun a' w' h' => wpAny_more f _ a' w' h') (h.2 i hi)⟩
theorem wpAny_le {Q : Exit → Act → World → Prop} {md : Region.Mode} {listed : Array Bool} {a : Act} {w : World} {f f' : Nat} (h : wpAny P md ops Q f listed a w) (hle : f ≤ f') : wpAny P md ops Q f' listed a w := by
  induction hle with
  | refl => exact h
  | step _ ih => exact wpAny_more _ _ _ _ ih

theorem countP_lt {α : Type} {p q : α → Bool} : ∀ {l : List α}, (∀ x ∈ l, q x = true → p x = true) → (∃ x ∈ l, p x = true ∧ q x = false) → l.countP q < l.countP p
  | [], _, ⟨x, hx, _⟩ => by simp at hx
  | y :: r, h1, ⟨x, hx, h2, h3⟩ => by
    have hle : r.countP q ≤ r.countP p := List.countP_mono_left fun z hz => h1 z (List.mem_cons_of_mem _ hz)
    rw [List.countP_cons, List.countP_cons]
    rcases List.mem_cons.1 hx with rfl | hx
    · simp [h2, h3]; omega
    · have ih := countP_lt (l := r) (fun z hz => h1 z (List.mem_cons_of_mem _ hz)) ⟨x, hx, h2, h3⟩
      have := h1 y (by simp)
      cases hq : q y <;> cases hp : p y <;> simp [hq, hp] at this ⊢ <;> omega

theorem depB_spec {n i : Nat} {oi : Oper} (h : depB ops n = true) (hi : i < n) (ho : ops[i]? = some oi) :
    (∀ e ∈ oi.after, Region.binds .any e = true → e.on < i) ∧ (∀ cs b, oi.op ≠ .select cs b) ∧
    ∀ j oj d, j < n → j ≠ i → ops[j]? = some oj → oj.dst = some d → oi.dst ≠ some d ∧ (d ∈ oi.looksAt ops → Region.waitsFor .any ops i j = true ∨ Region.waitsFor .any ops j i = true) := by
  have h1 := List.all_eq_true.1 h i (List.mem_range.2 hi)
  simp only [ho, Bool.and_eq_true] at h1
  obtain ⟨⟨h1, h2⟩, h3⟩ := h1
  refine ⟨fun e he hb => ?_, fun cs b hc => by simp [hc] at h2, fun j oj d hj hne hoj hd => ?_⟩
  · have := Array.all_eq_true_iff_forall_mem.1 h1 e he
    simp only [hb, Bool.not_true, Bool.false_or] at this
    exact blt_lt this
  · have h4 := List.all_eq_true.1 h3 j (List.mem_range.2 hj)
    have h5 : Nat.beq i j = false := by cases hb : Nat.beq i j with | false => rfl | true => exact absurd (Nat.eq_of_beq_eq_true hb).symm hne
    simp only [h5, Bool.false_or, hoj, hd, Bool.and_eq_true] at h4
    refine ⟨fun hdi => ?_, fun hmem => ?_⟩
    · have := h4.2
      simp [hdi] at this
    · have := h4.1
      have hc : (oi.looksAt ops).contains d = true := by simpa using hmem
      simp only [hc, Bool.not_true, Bool.false_or, Bool.or_eq_true] at this
      exact this

theorem act_ext {a b : Act} (h1 : a.defers = b.defers) (h2 : ∀ t : Nat, a.tmps[t]? = b.tmps[t]?) : a = b := by
  cases a; cases b
  simp only at h1 h2
  rw [h1, Array.ext_getElem? h2]

theorem put_other {a : Act} {o : Option Tmp} {v : Value} {t : Nat} (h : o ≠ some t) : (a.put o v).tmps[t]? = a.tmps[t]? := by
  cases o with
  | none => rfl
  | some d => simp only [Act.put]; rw [Array.getElem?_setIfInBounds_ne (fun e => h (by rw [e]))]
theorem put_defers (a : Act) (o : Option Tmp) (v : Value) : (a.put o v).defers = a.defers := by cases o <;> rfl
theorem put_size (a : Act) (o : Option Tmp) (v : Value) : (a.put o v).tmps.size = a.tmps.size := by cases o <;> simp [Act.put]

theorem float_yields {o : Oper} {a : Act} {v : Value} {w : World} (hf : floatO o = true) (hC : C w) (h : YieldsQ P ops C o v a) : Yields P ops o v a := by
  rcases h with ⟨h1, h2⟩ | h
  · refine .inl ⟨h1, fun w' => ?_⟩
    have h3 := h2 w hC
    unfold QRes at h3
    unfold floatO at hf
    split at hf
    · rename_i x ho
      simp only [execOp, ho, Sem.run_pure] at h3 ⊢
      rcases h3 with h3 | ⟨f, args, h3, _⟩
      · simp only [Result.ok.injEq, Next.value.injEq, and_true] at h3; rw [h3]
      · simp at h3
    · rename_i x ho
      simp only [execOp, ho, Sem.run_pure] at h3 ⊢
      rcases h3 with h3 | ⟨f, args, h3, _⟩
      · simp only [Result.ok.injEq, Next.value.injEq, and_true] at h3; rw [h3]
      · simp at h3
    · rename_i x i ho
      simp only [execOp, ho, Sem.run_bind] at h3 ⊢
      unfold Instr.extract at h3 ⊢
      cases hx : a.eval x <;> simp only [hx] at h3 ⊢ <;> try (simp [Result.andThen] at h3; done)
      rename_i vs
      cases hv : vs[i]? with
      | none => simp [hv, Result.andThen] at h3
      | some u => simp [hv] at h3; simp [h3]
    · cases hf
  · exact .inr h

theorem sinkF_waits {n : Nat} {listed : Array Bool} (hs : sinkF ops n = true) (hc : Region.chainB .any ops n = true) (hn : n < ops.size) (inv : HeadInv .any ops n listed) :
    ∀ (d i : Nat), n - i = d → i < n → floatB ops i = false → listed.getD i false = false → ∀ t, n ≤ t → t ∉ Region.ready .any ops listed := by
  intro d
  induction d using Nat.strongRecOn with
  | _ d ih =>
    intro i hd hi hfl hun t ht hr
    obtain ⟨_, ot, hot, hall⟩ := mem_ready.1 hr
    have htlt : t < ops.size := (Array.getElem?_eq_some_iff.1 hot).1
    by_cases htn : t = n
    · subst htn
      have h1 := List.all_eq_true.1 hs i (List.mem_range.2 hi)
      simp only [hfl, Bool.false_or] at h1
      obtain ⟨j, hj, hj2⟩ := List.any_eq_true.1 h1
      simp only [Bool.and_eq_true, Bool.or_eq_true] at hj2
      obtain ⟨⟨hj0, hj1⟩, hj3⟩ := hj2
      have hj0 := blt_lt hj0
      obtain ⟨oj, hoj, e, he, hb, hon⟩ := Region.waitsFor_spec hj1
      have hjle : j ≤ t := by have := List.mem_range.1 hj; omega
      by_cases hjt : j = t
      · subst hjt
        have : oj = ot := Option.some.inj (hoj.symm.trans hot)
        subst this
        have h2 := hall e he hb
        rw [hon, hun] at h2
        cases h2
      · cases hl : listed.getD j false with
        | true =>
          have h2 := inv.closed j oj hoj hl e he hb
          rw [hon, hun] at h2
          cases h2
        | false =>
          have hfj : floatB ops j = false := by
            rcases hj3 with h3 | h3
            · exact absurd (Nat.eq_of_beq_eq_true h3) hjt
            · simpa using h3
          exact ih (t - j) (by omega) j rfl (by omega) hfj hl t (Nat.le_refl _) hr
    · have h1 := List.all_eq_true.1 hc t (List.mem_range.2 htlt)
      simp only [Bool.or_eq_true, decide_eq_true_eq] at h1
      rcases h1 with h1 | h1
      · omega
      · obtain ⟨o', ho', e, he, hb, hon⟩ := Region.waitsFor_spec h1
        have : o' = ot := Option.some.inj (ho'.symm.trans hot)
        subst this
        have h2 := hall e he hb
        rw [hon, getD_both (inv.tail (t - 1) (by omega) (by omega))] at h2
        cases h2

theorem float_not_al {o : Oper} (h : floatO o = true) : alO o = false := by
  unfold floatO at h
  unfold alO
  cases ho : o.op <;> simp only [ho] at h ⊢ <;> cases h
theorem newB_spec {n i j : Nat} {oi oj : Oper} {d : Tmp} (h : newB ops n = true) (hi : i < n) (ho : ops[i]? = some oi) (hal : alO oi = true) (hd : oi.dst = some d) (hj : j < n) (hoj : ops[j]? = some oj) : d ∉ oj.looksAt ops := by
  have h1 := List.all_eq_true.1 h i (List.mem_range.2 hi)
  have ha : alB ops i = true := by simp [alB, ho, hal]
  simp only [ha, Bool.not_true, Bool.false_or, ho, hd] at h1
  have h2 := List.all_eq_true.1 h1 j (List.mem_range.2 hj)
  simp only [hoj, Bool.not_eq_true'] at h2
  intro hm
  have : (oj.looksAt ops).contains d = true := by simpa using hm
  rw [this] at h2; cases h2
theorem wpOp_quiet {Q : Exit → Act → World → Prop} {o : Oper} {i : Nat} {v : Value} {a : Act} {w : World} {K : Act → World → Prop} (hi : ops[i]? = some o) (hC : C w) (hy : YieldsQ P ops C o v a) (h : ∀ w', w.Extends w' → K (a.put o.dst v) w') : wpOp P ops Q i K a w := by
  unfold wpOp
  simp only [hi]
  rcases hy with ⟨h1, h2⟩ | ⟨h1, h2⟩
  · rw [if_pos h1]
    refine .inl ?_
    unfold Oper.wp
    rcases h2 w hC with h3 | ⟨f, args, h3, h4⟩
    · rw [h3]; exact h w (World.Extends.refl w)
    · rw [h3]
      refine h4.mono fun e w'' ⟨he, hx⟩ => ?_
      subst he
      exact h w'' hx
  · rw [if_neg (by simp [h1]), ← h2]
    exact h w (World.Extends.refl w)
theorem YieldsQ.of_same {o : Oper} {v : Value} {a a' : Act} (hy : YieldsQ P ops C o v a) (he : execOp a'.eval o = execOp a.eval o) (hw : Region.wanted o (yielded ops a'.tmps) = Region.wanted o (yielded ops a.tmps)) : YieldsQ P ops C o v a' := by
  unfold YieldsQ QRes at *
  rw [he, hw]
  exact hy

/-- The slots behind the head: what is quiet as in the lexical walk, new variables at their addresses. -/
structure Slots (ops : Array Oper) (n : Nat) (S : Nat → Prop) (a an b : Act) (γ : Nat → Nat) : Prop where
  d : b.defers = a.defers
  sz : b.tmps.size = a.tmps.size
  q : ∀ t : Nat, (∃ j o, j < n ∧ S j ∧ ops[j]? = some o ∧ alO o = false ∧ o.dst = some t) → b.tmps[t]? = an.tmps[t]?
  al : ∀ (t : Nat) j o, j < n → S j → ops[j]? = some o → alO o = true → o.dst = some t → t < b.tmps.size → b.tmps[t]? = some (.pointer (some ⟨γ j, 0, none⟩))
  no : ∀ t : Nat, (∀ j o, j < n → S j → ops[j]? = some o → o.dst ≠ some t) → b.tmps[t]? = a.tmps[t]?
/-- The same behind the whole head. -/
structure Fin (ops : Array Oper) (n : Nat) (an b : Act) (γ : Nat → Nat) : Prop where
  d : b.defers = an.defers
  sz : b.tmps.size = an.tmps.size
  al : ∀ (t : Nat) j o, j < n → ops[j]? = some o → alO o = true → o.dst = some t → t < b.tmps.size → b.tmps[t]? = some (.pointer (some ⟨γ j, 0, none⟩))
  no : ∀ t : Nat, (∀ j o, j < n → ops[j]? = some o → alO o = true → o.dst ≠ some t) → b.tmps[t]? = an.tmps[t]?
/-- The new variables in memory. -/
def News (ops : Array Oper) (n : Nat) (S : Nat → Prop) (Z : Nat → Obj) (γ : Nat → Nat) (sz : Nat) (w : World) : Prop :=
  (∀ j, j < n → S j → alB ops j = true → sz ≤ γ j ∧ w.heap[γ j]? = some (Z j)) ∧ ∀ i j, i < n → j < n → S i → S j → alB ops i = true → alB ops j = true → γ i = γ j → i = j
theorem News.grow {n : Nat} {S : Nat → Prop} {Z : Nat → Obj} {γ : Nat → Nat} {sz : Nat} {w w' : World} (h : News ops n S Z γ sz w) (he : w.Extends w') : News ops n S Z γ sz w' :=
  ⟨fun j h1 h2 h3 => by
    obtain ⟨h4, h5⟩ := h.1 j h1 h2 h3
    exact ⟨h4, by rw [he.block _ (Array.getElem?_eq_some_iff.1 h5).1]; exact h5⟩, h.2⟩

theorem wp_region_quiet_tail {Q : Exit → Act → World → Prop} {a : Act} {w : World} {l : List Oper} (n : Nat) (Z : Nat → Obj) (hm : P.follows .mixedOrders = true) (hB : tailB l.toArray n = true) (hC : ∀ w', w.drew.Extends w' → C w')
    (hZ : ∀ j o, j < n → l.toArray[j]? = some o → alO o = true → ∀ (b : Act) w', (execOp b.eval o).run P w' = .ok (.value (.pointer (some ⟨w'.heap.size, 0, none⟩))) (w'.alloc (Z j)))
    (h : Chain P l.toArray C (fun an => ∀ γ b w', Fin l.toArray n an b γ → w.drew.Extends w' → News l.toArray n (fun _ => True) Z γ w.drew.heap.size w' → wpList P l.toArray (calm Q) (l.drop n) b w') (l.take n) a) : wpAny P .any l.toArray (calm Q) l.toArray.size (Array.replicate l.toArray.size false) a { w with drawn := w.drawn + 1 } := by
  simp only [tailB, Bool.and_eq_true] at hB
  obtain ⟨⟨⟨⟨⟨⟨hnosel, hfree⟩, hnew⟩, hdep⟩, hle⟩, hsink⟩, hseq⟩ := hB
  have hle : n ≤ l.length := by simpa using Nat.le_of_ble_eq_true hle
  obtain ⟨as, vs, e0, hs, hT⟩ := quiet_chain _ _ h
  have hlen : (l.take n).length = n := by simp; omega
  rw [hlen] at hT
  have hop : ∀ i, i < n → ∃ o, l.toArray[i]? = some o ∧ (alO o = false → YieldsQ P l.toArray C o (vs i) (as i) ∧ as (i + 1) = (as i).put o.dst (vs i)) ∧ (alO o = true → as (i + 1) = as i) := fun i hi => by
    have hlt : i < l.length := by omega
    have h1 : (l.take n)[i]? = some l[i] := by rw [List.getElem?_take, if_pos hi, List.getElem?_eq_getElem hlt]
    have h2 := hs i _ h1
    exact ⟨l[i], by simp [hlt], h2⟩
  have hdef : ∀ i, i ≤ n → (as i).defers = a.defers ∧ (as i).tmps.size = a.tmps.size := by
    intro i
    induction i with
    | zero => intro _; rw [e0]; exact ⟨rfl, rfl⟩
    | succ i ih =>
      intro hi
      obtain ⟨o, ho, h1, h2⟩ := hop i (by omega)
      cases hal : alO o with
      | true => rw [h2 hal]; exact ih (by omega)
      | false => rw [(h1 hal).2, put_defers, put_size]; exact ih (by omega)
  -- a slot that nobody quiet has written yet
  have hS2 : ∀ i, i ≤ n → ∀ t : Nat, (∀ j o, j < i → l.toArray[j]? = some o → alO o = false → o.dst ≠ some t) → (as i).tmps[t]? = a.tmps[t]? := by
    intro i
    induction i with
    | zero => intro _ t _; rw [e0]
    | succ i ih =>
      intro hi t hno
      obtain ⟨o, ho, h1, h2⟩ := hop i (by omega)
      have ih' := ih (by omega) t fun j o hj => hno j o (by omega)
      cases hal : alO o with
      | true => rw [h2 hal]; exact ih'
      | false => rw [(h1 hal).2, put_other (hno i o (by omega) ho hal)]; exact ih'
  -- a slot that has been written stays
  have hS1 : ∀ (d i : Nat), i + d = n → ∀ t : Nat, (∃ j o, j < i ∧ l.toArray[j]? = some o ∧ o.dst = some t) → (as n).tmps[t]? = (as i).tmps[t]? := by
    intro d
    induction d with
    | zero => intro i hi t _; rw [show i = n by omega]
    | succ d ih =>
      intro i hi t hj
      obtain ⟨o, ho, h1, h2⟩ := hop i (by omega)
      rw [ih (i + 1) (by omega) t (by obtain ⟨j, o, h1, h2⟩ := hj; exact ⟨j, o, by omega, h2⟩)]
      cases hal : alO o with
      | true => rw [h2 hal]
      | false =>
        rw [(h1 hal).2]
        obtain ⟨j, oj, hj1, hj2, hj3⟩ := hj
        exact put_other ((depB_spec hdep (show i < n by omega) ho).2.2 j oj t (by omega) (by omega) hj2 hj3).1
  have hsz : l.toArray.size = l.length := by simp
  have main : ∀ (f : Nat) (listed : Array Bool) (b : Act) (w1 : World) (γ : Nat → Nat), HeadInv .any l.toArray n listed → w.drew.Extends w1 →
      Slots l.toArray n (fun j => listed.getD j false = true) a (as n) b γ → News l.toArray n (fun j => listed.getD j false = true) Z γ w.drew.heap.size w1 →
      (List.range n).countP (fun i => !listed.getD i false) + (l.length - n) ≤ f → wpAny P .any l.toArray (calm Q) f listed b w1 := by
    intro f
    have done : ∀ (listed : Array Bool) (b : Act) (w1 : World) (γ : Nat → Nat), HeadInv .any l.toArray n listed → w.drew.Extends w1 →
      Slots l.toArray n (fun j => listed.getD j false = true) a (as n) b γ → News l.toArray n (fun j => listed.getD j false = true) Z γ w.drew.heap.size w1 → (∀ i, i < n → listed.getD i false = true) →
      wpAny P .any l.toArray (calm Q) (l.drop n).length listed b w1 := by
      intro listed b w1 γ inv hEx hSl hNw hall
      have hl : listed = headSet l.toArray.size n := by
        apply Array.ext_getElem?
        intro i
        unfold headSet
        simp only [List.getElem?_toArray, List.getElem?_map]
        rcases Nat.lt_or_ge i l.length with hi | hi
        · rw [List.getElem?_range (by simpa using hi)]
          have hi2 : i < listed.size := by rw [inv.size]; simpa using hi
          rcases Nat.lt_or_ge i n with hin | hin
          · have := hall i hin
            simp [hi2] at this
            simp [hi2, this, lt_blt hin]
          · have := inv.tail i hin (by simpa using hi)
            simp [hi2] at this
            have hb : Nat.blt i n = false := by cases hq : Nat.blt i n with | false => rfl | true => have := blt_lt hq; omega
            simp [hi2, this, hb]
        · have h1 : listed.size ≤ i := by rw [inv.size]; simpa using hi
          have h2 : (List.range l.toArray.size)[i]? = none := by simp; omega
          rw [h2, Array.getElem?_eq_none h1]; rfl
      have hsq : Region.seqB .any l.toArray (l.drop n).length n listed = true := by rw [hl]; simpa using hseq
      refine wpAny_of_seq (P := P) (md := .any) (Q' := calm Q) (l.drop n) n listed b w1 (fun j => by simp [List.getElem?_drop]) hsq (hT γ b w1 ?_ hEx ?_)
      · refine ⟨hSl.d.trans (hdef n (Nat.le_refl _)).1.symm, hSl.sz.trans (hdef n (Nat.le_refl _)).2.symm, fun t j o h1 h3 h4 h5 => hSl.al t j o h1 (hall j h1) h3 h4 h5, fun t hno => ?_⟩
        by_cases hq : ∃ j o, j < n ∧ l.toArray[j]? = some o ∧ alO o = false ∧ o.dst = some t
        · obtain ⟨j, o, h1, h2, h3, h4⟩ := hq
          exact hSl.q t ⟨j, o, h1, hall j h1, h2, h3, h4⟩
        · have hq' : ∀ j o, j < n → l.toArray[j]? = some o → alO o = false → o.dst ≠ some t := fun j o h1 h2 h3 h4 => hq ⟨j, o, h1, h2, h3, h4⟩
          rw [hSl.no t fun j o h1 _ h3 => (by
            cases hal : alO o with
            | true => exact hno j o h1 h3 hal
            | false => exact hq' j o h1 h3 hal), hS2 n (Nat.le_refl _) t hq']
      · exact ⟨fun j h1 _ h3 => hNw.1 j h1 (hall j h1) h3, fun i j h1 h2 _ _ h5 h6 => hNw.2 i j h1 h2 (hall i h1) (hall j h2) h5 h6⟩
    have allOf : ∀ (listed : Array Bool), (List.range n).countP (fun i => !listed.getD i false) = 0 → ∀ i, i < n → listed.getD i false = true := fun listed hc i hi => by
      cases hq : listed.getD i false with
      | true => rfl
      | false =>
        have : 0 < (List.range n).countP (fun i => !listed.getD i false) := List.countP_pos_iff.2 ⟨i, List.mem_range.2 hi, by simp [hq]⟩
        omega
    induction f with
    | zero =>
      intro listed b w1 γ inv hEx hSl hNw hf
      have := done listed b w1 γ inv hEx hSl hNw (allOf listed (by omega))
      exact wpAny_le this (by simp; omega)
    | succ f ih =>
      intro listed b w1 γ inv hEx hSl hNw hf
      by_cases hcnt : (List.range n).countP (fun i => !listed.getD i false) = 0
      · exact wpAny_le (done listed b w1 γ inv hEx hSl hNw (allOf listed hcnt)) (by simp; omega)
      · -- somebody of the head is still to come
        have hpos : ∃ i, i < n ∧ listed.getD i false = false := by
          have h1 : 0 < (List.range n).countP (fun i => !listed.getD i false) := by omega
          obtain ⟨i, hi, hq⟩ := List.countP_pos_iff.1 h1
          exact ⟨i, List.mem_range.1 hi, by simpa using hq⟩
        have hne : Region.ready .any l.toArray listed ≠ [] := by
          have key : ∀ k, ∀ i, i ≤ k → i < n → listed.getD i false = false → Region.ready .any l.toArray listed ≠ [] := by
            intro k
            induction k with
            | zero =>
              intro i hik hin hq hnil
              obtain ⟨o, ho, _, _⟩ := hop i hin
              have hlt : i < listed.size := by rw [inv.size]; exact (Array.getElem?_eq_some_iff.1 ho).1
              have : i ∈ Region.ready .any l.toArray listed := mem_ready.2 ⟨getD_in hlt hq, o, ho, fun e he hb => by have := (depB_spec hdep hin ho).1 e he hb; omega⟩
              rw [hnil] at this; cases this
            | succ k ihk =>
              intro i hik hin hq hnil
              obtain ⟨o, ho, _, _⟩ := hop i hin
              have hlt : i < listed.size := by rw [inv.size]; exact (Array.getElem?_eq_some_iff.1 ho).1
              have : i ∈ Region.ready .any l.toArray listed := mem_ready.2 ⟨getD_in hlt hq, o, ho, fun e he hb => by
                have h1 := (depB_spec hdep hin ho).1 e he hb
                cases hq2 : listed.getD e.on false with
                | true => rfl
                | false => exact absurd hnil (ihk e.on (by omega) (by omega) hq2)⟩
              rw [hnil] at this; cases this
          obtain ⟨i, hi, hq⟩ := hpos
          exact key i i (Nat.le_refl _) hi hq
        have hset : ∀ i, i ∈ Region.ready .any l.toArray listed → ∀ j, (listed.setIfInBounds i true).getD j false = true ↔ (j = i ∨ listed.getD j false = true) := fun i hi j => by
          obtain ⟨hun, oi, hoi, hall⟩ := mem_ready.1 hi
          have hlt : i < listed.size := by rw [inv.size]; exact (Array.getElem?_eq_some_iff.1 hoi).1
          by_cases hj : i = j
          · subst hj; simp [hlt]
          · rw [getD_set_ne false hj]
            exact ⟨.inr, fun h => h.resolve_left (fun e => hj e.symm)⟩
        have hless : ∀ i, i ∈ Region.ready .any l.toArray listed → i < n → (List.range n).countP (fun j => !(listed.setIfInBounds i true).getD j false) + (l.length - n) ≤ f := fun i hi hin => by
          obtain ⟨hun, _⟩ := mem_ready.1 hi
          have : (List.range n).countP (fun j => !(listed.setIfInBounds i true).getD j false) < (List.range n).countP (fun j => !listed.getD j false) := by
            refine countP_lt (fun j _ hj => ?_) ⟨i, List.mem_range.2 hin, ?_, ?_⟩
            · cases hq : listed.getD j false with
              | false => rfl
              | true => rw [(hset i hi j).2 (.inr hq)] at hj; cases hj
            · simp only [getD_both hun]; rfl
            · simp only [(hset i hi i).2 (.inl rfl)]; rfl
          omega
        -- a quiet one that is ready
        have step : ∀ i, i ∈ Region.ready .any l.toArray listed → i < n → ∀ o, l.toArray[i]? = some o → alO o = false → YieldsQ P l.toArray C o (vs i) b ∧ ∀ w', w1.Extends w' → wpAny P .any l.toArray (calm Q) f (listed.setIfInBounds i true) (b.put o.dst (vs i)) w' := by
          intro i hi hin o ho hal
          obtain ⟨hun, oi, hoi, hall⟩ := mem_ready.1 hi
          have : o = oi := Option.some.inj (ho.symm.trans hoi)
          subst this
          obtain ⟨o', ho', hy', _⟩ := hop i hin
          have : o' = o := Option.some.inj (ho'.symm.trans ho)
          subst this
          obtain ⟨hy, he⟩ := hy' hal
          have hdp := depB_spec hdep hin ho
          have hslot : ∀ t : Nat, t ∈ o'.looksAt l.toArray → b.tmps[t]? = (as i).tmps[t]? := fun t ht => by
            by_cases hw : ∃ j oj, j < i ∧ l.toArray[j]? = some oj ∧ alO oj = false ∧ oj.dst = some t
            · obtain ⟨j, oj, h1, h2, h2', h3⟩ := hw
              rw [← hS1 (n - i) i (by omega) t ⟨j, oj, h1, h2, h3⟩]
              refine hSl.q t ⟨j, oj, by omega, ?_, h2, h2', h3⟩
              rcases (hdp.2.2 j oj t (by omega) (by omega) h2 h3).2 ht with h4 | h4
              · obtain ⟨oi', hoi', e, he1, he2, he3⟩ := Region.waitsFor_spec h4
                have : oi' = o' := Option.some.inj (hoi'.symm.trans ho)
                subst this
                have := hall e he1 he2
                rwa [he3] at this
              · obtain ⟨oj', hoj', e, he1, he2, he3⟩ := Region.waitsFor_spec h4
                have : oj' = oj := Option.some.inj (hoj'.symm.trans h2)
                subst this
                have := (depB_spec hdep (show j < n by omega) h2).1 e he1 he2
                omega
            · rw [hS2 i (by omega) t fun j oj h1 h2 h2' h3 => hw ⟨j, oj, h1, h2, h2', h3⟩]
              refine hSl.no t fun j oj h1 hl h2 h3 => ?_
              cases halj : alO oj with
              | true => exact newB_spec hnew h1 h2 halj h3 hin ho ht
              | false =>
                by_cases hji : j = i
                · subst hji
                  rw [getD_both hun] at hl; cases hl
                · rcases (hdp.2.2 j oj t h1 hji h2 h3).2 ht with h4 | h4
                  · obtain ⟨oi', hoi', e, he1, he2, he3⟩ := Region.waitsFor_spec h4
                    have : oi' = o' := Option.some.inj (hoi'.symm.trans ho)
                    subst this
                    have := hdp.1 e he1 he2
                    exact hw ⟨j, oj, by omega, h2, halj, h3⟩
                  · obtain ⟨oj', hoj', e, he1, he2, he3⟩ := Region.waitsFor_spec h4
                    have : oj' = oj := Option.some.inj (hoj'.symm.trans h2)
                    subst this
                    have := inv.closed j oj' h2 hl e he1 he2
                    rw [he3, getD_both hun] at this; cases this
          have hev : ∀ x ∈ o'.op.operands, b.eval x = (as i).eval x := fun x hx => by
            cases x with
            | tmp t =>
              have := hslot t (List.mem_append_left _ (List.mem_filterMap.2 ⟨.tmp t, by simpa using hx, rfl⟩))
              simp only [Act.eval]
              simp [this]
            | _ => rfl
          have hex : execOp b.eval o' = execOp (as i).eval o' := execOp_congr o' hdp.2.1 hev
          have hwt : Region.wanted o' (yielded l.toArray b.tmps) = Region.wanted o' (yielded l.toArray (as i).tmps) := by
            unfold Region.wanted
            cases hg : o'.guard with
            | none => rfl
            | some gw =>
              obtain ⟨g, want⟩ := gw
              have : yielded l.toArray b.tmps g = yielded l.toArray (as i).tmps g := by
                unfold yielded
                cases ht : (l.toArray[g]?).bind (·.dst) with
                | none => rfl
                | some t =>
                  have := hslot t (List.mem_append_right _ (by simp only [hg, ht]; simp))
                  simp [this]
              simp only [this]
          refine ⟨hy.of_same hex hwt, fun w' hw' => ?_⟩
          refine ih _ _ _ γ (inv.set hi hin) (hEx.trans hw') ⟨(put_defers _ _ _).trans hSl.d, (put_size _ _ _).trans hSl.sz, ?_, ?_, ?_⟩ (News.grow (w := w1) ⟨fun j h1 h2 h3 => ?_, fun i1 j1 h1 h2 h3 h4 h5 h6 => ?_⟩ hw') (hless i hi hin)
          · rintro t ⟨j, oj, h1, h2, h3, h3', h4⟩
            by_cases ht : o'.dst = some t
            · have e1 : (as n).tmps[t]? = (as (i + 1)).tmps[t]? := hS1 (n - (i + 1)) (i + 1) (by omega) t ⟨i, o', by omega, ho, ht⟩
              rw [e1, he, ht]
              simp only [Act.put]
              have hs3 : b.tmps.size = (as i).tmps.size := hSl.sz.trans (hdef i (by omega)).2.symm
              rcases Nat.lt_or_ge t b.tmps.size with h5 | h5
              · simp [h5, hs3 ▸ h5]
              · rw [Array.getElem?_eq_none (by simpa using h5), Array.getElem?_eq_none (by rw [Array.size_setIfInBounds, ← hs3]; exact h5)]
            · rw [put_other ht]
              rcases (hset i hi j).1 h2 with rfl | h5
              · have : oj = o' := Option.some.inj (h3.symm.trans ho)
                subst this
                exact absurd h4 ht
              · exact hSl.q t ⟨j, oj, h1, h5, h3, h3', h4⟩
          · intro t j oj h1 h2 h3 h4 h5 h6
            rcases (hset i hi j).1 h2 with rfl | h7
            · have : oj = o' := Option.some.inj (h3.symm.trans ho)
              subst this
              rw [hal] at h4; cases h4
            · have hji : j ≠ i := fun e => by subst e; rw [getD_both hun] at h7; cases h7
              have ht : o'.dst ≠ some t := (hdp.2.2 j oj t h1 hji h3 h5).1
              rw [put_other ht]
              rw [put_size] at h6
              exact hSl.al t j oj h1 h7 h3 h4 h5 h6
          · intro t hno
            have ht : o'.dst ≠ some t := hno i o' hin ((hset i hi i).2 (.inl rfl)) ho
            rw [put_other ht]
            exact hSl.no t fun j oj h1 h2 h3 => hno j oj h1 ((hset i hi j).2 (.inr h2)) h3
          · rcases (hset i hi j).1 h2 with rfl | h7
            · simp [alB, ho, hal] at h3
            · exact hNw.1 j h1 h7 h3
          · have k1 : listed.getD i1 false = true := by
              rcases (hset i hi i1).1 h3 with rfl | h7
              · simp [alB, ho, hal] at h5
              · exact h7
            have k2 : listed.getD j1 false = true := by
              rcases (hset i hi j1).1 h4 with rfl | h7
              · simp [alB, ho, hal] at h6
              · exact h7
            exact hNw.2 i1 j1 h1 h2 k1 k2 h5 h6
        by_cases hfl : ∃ i, i ∈ Region.ready .any l.toArray listed ∧ i < n ∧ floatB l.toArray i = true
        · obtain ⟨i, hi, hin, hf1⟩ := hfl
          obtain ⟨o, ho, _, _⟩ := hop i hin
          obtain ⟨hun, oi, hoi, hall⟩ := mem_ready.1 hi
          have hfo : floatO o = true := by unfold floatB at hf1; simpa [ho] using hf1
          have hal : alO o = false := float_not_al hfo
          obtain ⟨hyb, hnext⟩ := step i hi hin o ho hal
          refine wpAny_first ho (Region.noSelect_spec hnosel) (fun c a' w' hq => hq.elim) f listed b w1 (fun j oj hoj hji hjun hjno => ?_) hi (float_yields hfo (hC w1 hEx) hyb) (hnext w1 (World.Extends.refl w1))
          have hnw : Region.waitsFor .any l.toArray j i = false := by
            cases hq : Region.waitsFor .any l.toArray j i with
            | false => rfl
            | true =>
              obtain ⟨oj', hoj', e, he1, he2, he3⟩ := Region.waitsFor_spec hq
              have : oj' = oj := Option.some.inj (hoj'.symm.trans hoj)
              subst this
              exact absurd he3 (hjno e he1 he2)
          have hnw2 : j < n → Region.waitsFor .any l.toArray i j = false := fun hjn => by
            cases hq : Region.waitsFor .any l.toArray i j with
            | false => rfl
            | true =>
              obtain ⟨o', ho', e, he1, he2, he3⟩ := Region.waitsFor_spec hq
              have : o' = oi := Option.some.inj (ho'.symm.trans hoi)
              subst this
              have := hall e he1 he2
              rw [he3, getD_both hjun] at this; cases this
          by_cases hjn : j < n
          · have d1 := (depB_spec hdep hin ho).2.2 j oj
            have d2 := (depB_spec hdep hjn hoj).2.2 i o
            simp only [Oper.apart, Bool.and_eq_true]
            constructor
            · cases hd : o.dst with
              | none => rfl
              | some d =>
                have := d2 d hin (fun e => hji e.symm) ho hd
                simp only [Bool.and_eq_true, Bool.not_eq_true', bne_iff_ne, ne_eq]
                refine ⟨?_, this.1⟩
                cases hc : (oj.looksAt l.toArray).contains d with
                | false => rfl
                | true =>
                  rcases this.2 (by simpa using hc) with h1 | h1
                  · rw [hnw] at h1; cases h1
                  · rw [hnw2 hjn] at h1; cases h1
            · cases hd : oj.dst with
              | none => rfl
              | some d =>
                have := d1 d hjn hji hoj hd
                simp only [Bool.not_eq_true']
                cases hc : (o.looksAt l.toArray).contains d with
                | false => rfl
                | true =>
                  rcases this.2 (by simpa using hc) with h1 | h1
                  · rw [hnw2 hjn] at h1; cases h1
                  · rw [hnw] at h1; cases h1
          · have h1 := List.all_eq_true.1 hfree i (List.mem_range.2 hin)
            simp only [hf1, Bool.not_true, Bool.false_or] at h1
            have h2 := List.all_eq_true.1 h1 j (List.mem_range.2 (Array.getElem?_eq_some_iff.1 hoj).1)
            have hb : Nat.blt j n = false := by cases hq : Nat.blt j n with | false => rfl | true => exact absurd (blt_lt hq) hjn
            simp only [hb, hnw, Bool.false_or, ho, hoj] at h2
            exact h2
        · -- no floater is ready: somebody who is none is still to come
          have hnf : ∃ i, i < n ∧ floatB l.toArray i = false ∧ listed.getD i false = false := by
            have key : ∀ k, ∀ i, i ≤ k → i < n → listed.getD i false = false → ∃ i, i < n ∧ floatB l.toArray i = false ∧ listed.getD i false = false := by
              intro k
              induction k with
              | zero =>
                intro i hik hin hq
                cases hf2 : floatB l.toArray i with
                | false => exact ⟨i, hin, hf2, hq⟩
                | true =>
                  obtain ⟨o, ho, _, _⟩ := hop i hin
                  have hlt : i < listed.size := by rw [inv.size]; exact (Array.getElem?_eq_some_iff.1 ho).1
                  exact absurd ⟨i, mem_ready.2 ⟨getD_in hlt hq, o, ho, fun e he hb => by have := (depB_spec hdep hin ho).1 e he hb; omega⟩, hin, hf2⟩ hfl
              | succ k ihk =>
                intro i hik hin hq
                cases hf2 : floatB l.toArray i with
                | false => exact ⟨i, hin, hf2, hq⟩
                | true =>
                  obtain ⟨o, ho, _, _⟩ := hop i hin
                  have hlt : i < listed.size := by rw [inv.size]; exact (Array.getElem?_eq_some_iff.1 ho).1
                  by_cases hdone : ∀ e ∈ o.after, Region.binds .any e = true → listed.getD e.on false = true
                  · exact absurd ⟨i, mem_ready.2 ⟨getD_in hlt hq, o, ho, hdone⟩, hin, hf2⟩ hfl
                  · have hex : ∃ e, e ∈ o.after ∧ Region.binds .any e = true ∧ ¬ listed.getD e.on false = true := by
                      apply Classical.byContradiction
                      intro hno
                      exact hdone fun e he hb => Classical.byContradiction fun hq2 => hno ⟨e, he, hb, hq2⟩
                    obtain ⟨e, he, hb, hq2⟩ := hex
                    have h1 := (depB_spec hdep hin ho).1 e he hb
                    exact ihk e.on (by omega) (by omega) (by simpa using hq2)
            obtain ⟨i, hi, hq⟩ := hpos
            exact key i i (Nat.le_refl _) hi hq
          refine ⟨fun h0 => absurd h0 hne, fun i hi => ?_⟩
          have hin : i < n := by
            rcases Nat.lt_or_ge i n with h1 | h1
            · exact h1
            · exfalso
              obtain ⟨_, oi, hoi, _⟩ := mem_ready.1 hi
              have hisz : i < l.toArray.size := (Array.getElem?_eq_some_iff.1 hoi).1
              simp only [Bool.or_eq_true, Bool.and_eq_true] at hsink
              rcases hsink with h2 | ⟨h2, h3⟩
              · have := Nat.eq_of_beq_eq_true h2; omega
              · obtain ⟨i0, hi0, hf0, hq0⟩ := hnf
                exact sinkF_waits h2 h3 (by omega) inv (n - i0) i0 rfl hi0 hf0 hq0 i h1 hi
          obtain ⟨o, ho, _, _⟩ := hop i hin
          cases hal : alO o with
          | false =>
            obtain ⟨hyb, hnext⟩ := step i hi hin o ho hal
            exact wpOp_quiet ho (hC w1 hEx) hyb hnext
          | true =>
            -- a new variable
            obtain ⟨hun, _⟩ := mem_ready.1 hi
            have hgd : o.guard = none ∧ ∃ d, o.dst = some d := by
              unfold alO at hal
              split at hal
              · rename_i h1 h2 h3; exact ⟨h2, _, h3⟩
              · cases hal
            obtain ⟨hgd, d, hd⟩ := hgd
            have hdp := depB_spec hdep hin ho
            unfold wpOp
            simp only [ho]
            rw [if_pos (by simp [Region.wanted, hgd])]
            refine .inl ?_
            unfold Oper.wp
            rw [hZ i o hin ho hal b w1]
            show wpAny P .any l.toArray (calm Q) f (listed.setIfInBounds i true) (b.put o.dst _) _
            have hγlt : ∀ j, j < n → listed.getD j false = true → alB l.toArray j = true → γ j < w1.heap.size := fun j h1 h2 h3 => (Array.getElem?_eq_some_iff.1 (hNw.1 j h1 h2 h3).2).1
            refine ih _ _ _ (fun j => if j = i then w1.heap.size else γ j) (inv.set hi hin) (hEx.alloc _) ⟨(put_defers _ _ _).trans hSl.d, (put_size _ _ _).trans hSl.sz, ?_, ?_, ?_⟩ ⟨fun j h1 h2 h3 => ?_, fun i1 j1 h1 h2 h3 h4 h5 h6 h7 => ?_⟩ (hless i hi hin)
            · rintro t ⟨j, oj, h1, h2, h3, h3', h4⟩
              rcases (hset i hi j).1 h2 with rfl | h5
              · have : oj = o := Option.some.inj (h3.symm.trans ho)
                subst this
                rw [hal] at h3'; cases h3'
              · have hji : j ≠ i := fun e => by subst e; rw [getD_both hun] at h5; cases h5
                rw [put_other (hdp.2.2 j oj t h1 hji h3 h4).1]
                exact hSl.q t ⟨j, oj, h1, h5, h3, h3', h4⟩
            · intro t j oj h1 h2 h3 h4 h5 h6
              rcases (hset i hi j).1 h2 with rfl | h7
              · have : oj = o := Option.some.inj (h3.symm.trans ho)
                subst this
                rw [h5]
                simp only [if_true]
                rw [put_size] at h6
                simp [Act.put, h6]
              · have hji : j ≠ i := fun e => by subst e; rw [getD_both hun] at h7; cases h7
                rw [put_other (hdp.2.2 j oj t h1 hji h3 h5).1]
                rw [put_size] at h6
                rw [if_neg hji]
                exact hSl.al t j oj h1 h7 h3 h4 h5 h6
            · intro t hno
              rw [put_other (hno i o hin ((hset i hi i).2 (.inl rfl)) ho)]
              exact hSl.no t fun j oj h1 h2 h3 => hno j oj h1 ((hset i hi j).2 (.inr h2)) h3
            · show w.drew.heap.size ≤ (if j = i then w1.heap.size else γ j) ∧ (w1.alloc (Z i)).heap[(if j = i then w1.heap.size else γ j)]? = some (Z j)
              by_cases hji : j = i
              · subst hji
                rw [if_pos rfl]
                exact ⟨hEx.size, heap_alloc_new w1 (Z j)⟩
              · rw [if_neg hji]
                have h7 := ((hset i hi j).1 h2).resolve_left hji
                obtain ⟨h8, h9⟩ := hNw.1 j h1 h7 h3
                exact ⟨h8, by rw [heap_alloc_old w1 _ (hγlt j h1 h7 h3)]; exact h9⟩
            · change (if i1 = i then w1.heap.size else γ i1) = (if j1 = i then w1.heap.size else γ j1) at h7
              by_cases h8 : i1 = i <;> by_cases h9 : j1 = i
              · rw [h8, h9]
              · rw [if_pos h8, if_neg h9] at h7
                have := hγlt j1 h2 (((hset i hi j1).1 h4).resolve_left h9) h6
                omega
              · rw [if_neg h8, if_pos h9] at h7
                have := hγlt i1 h1 (((hset i hi i1).1 h3).resolve_left h8) h5
                omega
              · rw [if_neg h8, if_neg h9] at h7
                exact hNw.2 i1 j1 h1 h2 (((hset i hi i1).1 h3).resolve_left h8) (((hset i hi j1).1 h4).resolve_left h9) h5 h6 h7
  have inv0 : HeadInv .any l.toArray n (Array.replicate l.toArray.size false) :=
    ⟨by simp, fun j oj _ hl => (by rw [getD_replicate_false] at hl; cases hl), fun t _ ht => getD_in (by simpa using ht) (getD_replicate_false _ _)⟩
  have none0 : ∀ j, ¬ (Array.replicate l.toArray.size false).getD j false = true := fun j h => by rw [getD_replicate_false] at h; cases h
  refine main l.toArray.size _ a _ (fun _ => 0) inv0 (World.Extends.refl w.drew) ⟨rfl, rfl, fun t ⟨j, o, _, h2, _⟩ => absurd h2 (none0 j), fun t j o _ h2 => absurd h2 (none0 j), fun _ _ => rfl⟩ ⟨fun j _ h2 => absurd h2 (none0 j), fun i j _ _ h3 => absurd h3 (none0 i)⟩ ?_
  have : (List.range n).countP (fun i => !(Array.replicate l.toArray.size false).getD i false) ≤ n := by
    have := List.countP_le_length (p := fun i => !(Array.replicate l.toArray.size false).getD i false) (l := List.range n)
    simpa using this
  omega
end
end Go.Rx
