/- Quiet operations, one by one. -/
import Derived.Test.YtkedgkbkibncgaaDoorPaa
import Derived.Laws.Tables
import Derived.Laws.Strings2
import Derived.Laws.Concat
import Derived.Laws.Cover1

set_option linter.unusedVariables false
set_option linter.unusedSimpArgs false
namespace Go.Rx
open M

/-- What is known of functions: how a call is answered. -/
abbrev Cal := FuncId → Option (List Blk → List V → M V)
/-- An operation that yields a value, and leaves what was there. -/
def QRes (P : Program) (o : Oper) (a : Act) (w : World) (val : Value) : Prop :=
  (execOp a.eval o).run P w = .ok (.value val) w ∨
  ∃ f args, (execOp a.eval o).run P w = .ok (.enter f args) w ∧ Calls P f args w fun e w'' => e = .returned val ∧ w.Extends w''
def FRes (P : Program) (f : FuncId) (args : Array Value) (w : World) (val : Value) : Prop :=
  (callFunc f args).run P w = .ok (.value val) w ∨
  ((callFunc f args).run P w = .ok (.enter f args) w ∧ Calls P f args w fun e w'' => e = .returned val ∧ w.Extends w'')
def LRel (ρ : Env) (m : Nat → Nat) : List V → List Value → Prop
  | [], [] => True
  | v :: r, x :: s => v.rel ρ m x ∧ LRel ρ m r s
  | _, _ => False
def CalOk (S : Nat → List Int → List Int → Prop) (P : Program) (gl : Glo) (w0 : Base) (cal : Cal) : Prop :=
  ∀ f g, cal f = some g → ∀ (L : V → Env → Prop) (n : Nat) (ρ : Env) (m : Nat → Nat) (bl : List Blk) (vs : List V) (xs : List Value), BlOk n bl.length ρ bl → (∃ w, Mem w0 ρ m bl w) → (∀ v ∈ vs, v.ok n bl.length ρ) → LRel ρ m vs xs →
    Snd S L (g bl vs) n ρ fun ρ' n' v => v.ok n' bl.length ρ' ∧ ∃ val, v.rel ρ' m val ∧ ∀ w, Mem w0 ρ m bl w → FRes P f xs.toArray w val

def fieldOf (P : Program) (s : TypeId) (f : Nat) : Option Field := match P.underlying s with | some (.struct fs) => fs[f]? | _ => none
def arrOf (P : Program) (t : TypeId) : Option (Nat × TypeId) := match P.underlying t with | some (.array n e) => some (n, e) | _ => none
def slcOf (P : Program) (t : TypeId) : Option TypeId := match P.underlying t with | some (.slice e) => some e | _ => none

def partQ (P : Program) (t : TypeId) (l : List A) (off : Nat) : M V :=
  match isAggB P t, szB P t with
  | some true, some k => pure (.w (.agg ((l.drop off).take k)))
  | some false, _ => match l[off]? with | some a => pure (.w (.one a)) | none => fail
  | _, _ => fail
def idxQ (P : Program) (t : TypeId) (x : V) (ix : IV) : M V :=
  match x with
  | .w (.one (.ptr b off)) => match arrOf P t with
    | some (len, e) => match szB P e with
      | some s => match ix.l.isC with
        | some i => cond (decide (0 ≤ i) && decide (i < len)) (pure (.w (.one (.ptr b (off + i.toNat * s))))) fail
        | none => cond (Nat.beq s 1 && decide (0 ≤ ix.lo) && decide (ix.hi < len)) (pure (.w (.one (.pix b off ix)))) fail
      | none => fail
    | none => fail
  | .w (.one (.gptr g off)) => match arrOf P t with
    | some (len, e) => match szB P e with
      | some s => match ix.l.isC with
        | some i => cond (decide (0 ≤ i) && decide (i < len)) (pure (.w (.one (.gptr g (off + i.toNat * s))))) fail
        | none => cond (Nat.beq s 1) (bind (chkM 74 [ix.l, .const len]) fun _ => pure (.w (.one (.gpx g off ⟨ix.l, 0, (len : Int) - 1⟩)))) fail
      | none => fail
    | none => fail
  | .w (.one (.slc b off len _)) => match slcOf P t with
    | some e => match szB P e with
      | some s => match ix.l.isC with
        | some i => cond (decide (0 ≤ i) && decide (i < len)) (pure (.w (.one (.ptr b (off + i.toNat * s))))) fail
        | none => cond (Nat.beq s 1 && decide (0 ≤ ix.lo) && decide (ix.hi < len)) (pure (.w (.one (.pix b off ix)))) fail
      | none => fail
    | none => fail
  | .osl b len _ => match slcOf P t with
    | some e => match szB P e with
      | some s => match ix.l.isC with
        | some i => cond (decide (0 ≤ i) && decide (i < len)) (pure (.w (.one (.ptr b (i.toNat * s))))) fail
        | none => fail
      | none => fail
    | none => fail
  | _ => fail
def onesL : List V → Option (List A)
  | [] => some []
  | .w (.one a) :: r => match onesL r with | some l => some (a :: l) | none => none
  | _ :: _ => none
def eqL : List A → List A → Option BE
  | [], [] => some (.lit true)
  | .int k x :: r, .int k' y :: r' => cond (decide (k = k')) (match eqL r r' with | some b => some (.mkAnd (.mkEq x y) b) | none => none) none
  | _, _ => none
def eqQ (P : Program) (t : TypeId) (x y : List A) : Option BE :=
  match arrOf P t with
  | some (len, e) => match kindOf P e, szB P e with
    | some _, some 1 => cond (Nat.beq x.length len && Nat.beq y.length len && !P.eqGuardType P.depth t) (eqL x y) none
    | _, _ => none
  | none => none
/-- Are these cells words and texts, each of one cell, one behind the other? -/
def fldOk (P : Program) : Nat → List Field → Bool
  | _, [] => true
  | i, f :: r => (f.name != "_") && Nat.beq f.offset i && fldOk P (i + 1) r
noncomputable def eqF (P : Program) : List Field → List A → List A → M BE
  | [], [], [] => pure (.lit true)
  | f :: fs, .int k a :: xs, .int k' b :: ys => match kindOf P f.type with
    | some k2 => cond (decide (k = k')) (bind (eqF P fs xs ys) fun r => pure (.mkAnd (.mkEq a b) r)) fail
    | none => fail
  | f :: fs, .str a :: xs, .str b :: ys => match P.underlying f.type with
    | some .string => bind (fnM 4 [a, b] 0 1) fun l => bind (eqF P fs xs ys) fun r => pure (.mkAnd (.mkEq ⟨l, 0, 1⟩ (.const 1)) r)
    | _ => fail
  | _, _, _ => fail
/-- Cells of a struct whose parts may be structs. -/
noncomputable def eqGF (P : Program) (g : TypeId → List A → List A → M BE) : Nat → List Field → List A → List A → M BE
  | _, [], _, _ => pure (.lit true)
  | o, f :: fs, x, y => match szB P f.type with
    | some s => cond ((f.name != "_") && Nat.beq f.offset o) (bind (g f.type (x.take s) (y.take s)) fun b => bind (eqGF P g (o + s) fs (x.drop s) (y.drop s)) fun r => pure (.mkAnd b r)) fail
    | none => fail
noncomputable def eqG (P : Program) : Nat → TypeId → List A → List A → M BE
  | 0, _, _, _ => fail
  | d + 1, t, x, y => match P.underlying t with
    | some (.int k) => match x, y with
      | [.int k1 a], [.int k2 b] => cond (decide (k1 = k2)) (pure (.mkEq a b)) fail
      | _, _ => fail
    | some .string => match x, y with
      | [.str a], [.str b] => bind (fnM 4 [a, b] 0 1) fun l => pure (.mkEq ⟨l, 0, 1⟩ (.const 1))
      | _, _ => fail
    | some .bool => match x, y with
      | [.bool a], [.bool b] => pure (.mkIff a b)
      | _, _ => fail
    | some (.struct fs) => cond (!P.stoodInHeld t) (eqGF P (eqG P d) 0 fs.toList x y) fail
    | _ => fail
noncomputable def eqS (P : Program) (t : TypeId) (x y : List A) : M BE :=
  match P.underlying t with
  | some (.struct fs) => cond (fldOk P 0 fs.toList && !P.stoodInHeld t && !P.eqGuardType P.depth t) (cond (fs.toList.all fun f => match P.underlying f.type with | some (.int _) => true | some .string => true | _ => false) (eqF P fs.toList x y) (eqG P 8 t x y))
      (cond (!P.eqGuardType P.depth t) (eqG P 8 t x y) fail)
  | _ => fail
/-- Texts. -/
noncomputable def strBin (op : BinOp) (a b : Lin) : M V :=
  match op with
  | .add => bind (chkM 3 [a, b]) fun _ => bind (fnM 3 [a, b] 0 HB) fun l => pure (.w (.one (.str l)))
  | .eql => bind (fnM 4 [a, b] 0 1) fun l => pure (.w (.one (.bool (.mkEq ⟨l, 0, 1⟩ (.const 1)))))
  | .neq => bind (fnM 4 [a, b] 0 1) fun l => pure (.w (.one (.bool (.mkNot (.mkEq ⟨l, 0, 1⟩ (.const 1))))))
  | .lss => bind (fnM 5 [a, b] 0 1) fun l => pure (.w (.one (.bool (.mkEq ⟨l, 0, 1⟩ (.const 1)))))
  | .geq => bind (fnM 5 [a, b] 0 1) fun l => pure (.w (.one (.bool (.mkNot (.mkEq ⟨l, 0, 1⟩ (.const 1))))))
  | _ => fail
def strLen (s : Lin) : M V := bind (fnM 0 [s] 0 9223372036854775807) fun l => pure (.w (.one (.int .i64 ⟨l, 0, 9223372036854775807⟩)))
def strIdx (s i : Lin) : M V := bind (chkM 1 [s, i]) fun _ => bind (fnM 1 [s, i] 0 255) fun l => pure (.w (.one (.int .u8 ⟨l, 0, 255⟩)))
noncomputable def strSub (s a b : Lin) : M V := bind (chkM 2 [s, a, b]) fun _ => bind (fnM 2 [s, a, b] 0 HB) fun l => pure (.w (.one (.str l)))
def intL (v : V) : Option Lin := match v with | .w (.one (.int _ a)) => some a.l | _ => none
noncomputable def strSl (tm : List V) (s : Lin) (lo hi : Option Operand) : M V :=
  match (match lo with | none => some (Lin.const 0) | some x => intL (opV tm x)) with
  | none => fail
  | some a => match hi with
    | none => bind (fnM 0 [s] 0 9223372036854775807) fun b => strSub s a b
    | some y => match intL (opV tm y) with
      | some b => strSub s a b
      | none => fail
noncomputable def binQ (P : Program) (op : BinOp) (t : TypeId) (x y : V) : M V :=
  match x, y with
  | .w (.one (.int k a)), .w (.one (.int k' b)) => bind (binI op k a k' b) fun r => pure (.w (.one r))
  | .w (.agg a), .w (.agg b) => match op, eqQ P t a b with
    | .eql, some e => pure (.w (.one (.bool e)))
    | .neq, some e => pure (.w (.one (.bool (.mkNot e))))
    | .eql, none => bind (eqS P t a b) fun e => pure (.w (.one (.bool e)))
    | .neq, none => bind (eqS P t a b) fun e => pure (.w (.one (.bool (.mkNot e))))
    | _, _ => fail
  | .w (.one (.str a)), .w (.one (.str b)) => strBin op a b
  | .w (.one (.bool a)), .w (.one (.bool b)) => match op, P.underlying t with
    | .eql, some .bool => pure (.w (.one (.bool (.mkIff a b))))
    | .neq, some .bool => pure (.w (.one (.bool (.mkNot (.mkIff a b)))))
    | _, _ => fail
  | _, _ => fail
def unQ (op : UnOp) (x : V) : M V :=
  match op, x with
  | .not, .w (.one (.bool b)) => pure (.w (.one (.bool (.mkNot b))))
  | .xor, .w (.one (.int k a)) => cond (!k.signed && decide (0 ≤ a.lo) && decide (a.hi < two k)) (pure (.w (.one (.int k ⟨(Lin.const (two k - 1)).sub a.l, two k - 1 - a.hi, two k - 1 - a.lo⟩)))) fail
  | .neg, .w (.one (.int k a)) => bind (wrapM k ⟨a.l.smul (-1), -a.hi, -a.lo⟩) fun r => pure (.w (.one (.int k r)))
  | _, _ => fail
def convQ (P : Program) (src dst : TypeId) (x : V) : M V :=
  match P.underlying src, P.underlying dst, x with
  | some _, some .string, .w (.one (.int _ a)) => match a.l.isC with
    | some c => cond (Nat.ble (Utf8.encode c).size 1000) (pure (.w (.one (.str (.const (cOf (Utf8.encode c).data.toList)))))) fail
    | none => fail
  | _, _, _ => match P.underlying src, kindOf P dst, x with
  | some _, some k, .w (.one (.int _ a)) => bind (wrapM k a) fun r => pure (.w (.one (.int k r)))
  | _, _, _ => fail
def constI (v : V) : Option Int := match v with | .w (.one (.int _ a)) => a.l.isC | _ => none
def optC (tm : List V) : Option Operand → Option (Option Int)
  | none => some none
  | some x => match constI (opV tm x) with | some c => some (some c) | none => none
def slQ (P : Program) (t : TypeId) (x : V) (lo hi : Option Int) : M V :=
  match x, arrOf P t with
  | .w (.one (.ptr b off)), some (n, e) => match szB P e with
    | some s => cond (decide (0 ≤ lo.getD 0) && decide (lo.getD 0 ≤ hi.getD n) && decide (hi.getD n ≤ n) && decide (lo.getD 0 < n)) (pure (.w (.one (.slc b (off + (lo.getD 0).toNat * s) ((hi.getD n).toNat - (lo.getD 0).toNat) (n - (lo.getD 0).toNat))))) fail
    | none => fail
  | .w (.one (.slc b off len cap)), none => match slcOf P t with
    | some e => match szB P e with
      | some s => cond (decide (0 ≤ lo.getD 0) && decide (lo.getD 0 ≤ hi.getD len) && decide (hi.getD len ≤ cap) && decide (lo.getD 0 < cap)) (pure (.w (.one (.slc b (off + (lo.getD 0).toNat * s) ((hi.getD len).toNat - (lo.getD 0).toNat) (cap - (lo.getD 0).toNat))))) fail
      | none => fail
    | none => fail
  | _, _ => fail
def nilQ (x : V) : M V :=
  match x with
  | .w (.one (.ptr b o)) => pure (.w (.one (.ptr b o)))
  | .w (.one (.pix b o i)) => pure (.w (.one (.pix b o i)))
  | .w (.one (.gptr g o)) => pure (.w (.one (.gptr g o)))
  | _ => fail

def W.cells : W → List A
  | .one a => [a]
  | .agg l => l
def zeroL (P : Program) (t : TypeId) : Option (List A) :=
  match P.info? t with
  | some i => match i.zero with
    | some z => constL z.cells.toList
    | none => none
  | none => none
/-- An array or a struct out of its parts. -/
def fillL (place : Nat → Option (Nat × Nat)) : List A → List (Nat × V) → Option (List A)
  | cells, [] => some cells
  | cells, (i, .w u) :: r => match place i with
    | some (off, size) => cond (Nat.beq u.cells.length size && Nat.ble (off + size) cells.length) (fillL place (cells.take off ++ u.cells ++ cells.drop (off + size)) r) none
    | none => none
  | _, _ :: _ => none
def buildL (P : Program) (t : TypeId) (parts : List (Nat × V)) : Option (List A) :=
  match zeroL P t, P.underlying t with
  | some z, some (.array _ e) => match szB P e with
    | some s => fillL (fun i => some (i * s, s)) z parts
    | none => none
  | some z, some (.struct fields) => match fields.toList.mapM (fun f => (P.info? f.type).map fun i => (f.offset, i.size)) with
    | some places => fillL (places.toArray[·]?) z parts
    | none => none
  | _, _ => none

/-- Which operation it is. -/
noncomputable def qop0 (P : Program) (cal : Cal) (gl : Glo) (bl : List Blk) (tm : List V) (o : Oper) : M V :=
  match o.op with
  | .move x | .assign x => pure (opV tm x)
  | .load t x => match opV tm x with
    | .w (.one (.pix b off ix)) => selQ P bl t b off ix
    | .w (.one (.gpx g off ix)) => selG P gl t g off ix
    | .w (.one p) => loadQ P bl gl t p
    | _ => fail
  | .nilCheck x => nilQ (opV tm x)
  | .pick c x y => match opV tm c with
    | .w (.one (.bool (.lit v))) => pure (cond v (opV tm x) (opV tm y))
    | _ => fail
  | .binOp op t x y _ => binQ P op t (opV tm x) (opV tm y)
  | .unOp op _ x => unQ op (opV tm x)
  | .convert s d x => convQ P s d (opV tm x)
  | .indexAddr t x ix => match opV tm ix with
    | .w (.one (.int _ i)) => idxQ P t (opV tm x) i
    | _ => fail
  | .index t x ix => match opV tm x with
    | .w (.one (.str s)) => match P.underlying t, intL (opV tm ix) with
      | some .string, some i => strIdx s i
      | _, _ => fail
    | _ => match opV tm x, constI (opV tm ix), arrOf P t with
      | .w (.agg l), some i, some (len, e) => match szB P e with
        | some s => cond (decide (0 ≤ i) && decide (i < len)) (partQ P e l (i.toNat * s)) fail
        | none => fail
      | _, _, _ => fail
  | .fieldAddr s x f => match opV tm x, fieldOf P s f with
    | .w (.one (.ptr b off)), some fd => match szB P fd.type with
      | some (_ + 1) => pure (.w (.one (.ptr b (off + fd.offset))))
      | _ => fail
    | _, _ => fail
  | .field s x f => match opV tm x, fieldOf P s f with
    | .w (.agg l), some fd => partQ P fd.type l fd.offset
    | _, _ => fail
  | .extract x i => match opV tm x with
    | .tup l => match l[i]? with | some u => pure (.w u) | none => fail
    | _ => fail
  | .slice t x lo hi none => match opV tm x, P.underlying t with
    | .w (.one (.str s)), some .string => strSl tm s lo hi
    | _, _ => match optC tm lo, optC tm hi with
      | some l, some h => slQ P t (opV tm x) l h
      | _, _ => fail
  | .call c => match c.callee with
    | .value (.func f) => match cal f with
      | some g => g bl (c.args.toList.map (opV tm))
      | none => fail
    | .builtin .len => match c.args.toList, c.argTypes.toList with
      | [x], [t] => match opV tm x, P.underlying t with
       | .w (.one (.str s)), some .string => strLen s
       | _, _ => match opV tm x, slcOf P t with
        | .w (.one (.slc _ _ len _)), some _ => pure (.w (.one (.int .i64 (.const len))))
        | .osl _ len _, some _ => pure (.w (.one (.int .i64 (.const len))))
        | _, _ => fail
      | _, _ => fail
    | _ => fail
  | .makeFunc (.func f) first caps => match first.toList, onesL (caps.toList.map (opV tm)) with
    | [], some l => pure (.clo f l)
    | _, _ => fail
  | .build t parts => match buildL P t (parts.toList.map fun p => (p.1, opV tm p.2)) with
    | some l => pure (.w (.agg l))
    | none => fail
  | .sliceToArrayPointer t x => match opV tm x, arrOf P t with
    | .osl b len _, some (k, _) => cond (Nat.ble k len) (pure (.w (.one (.ptr b 0)))) fail
    | _, _ => fail
  | _ => fail

section
variable {S : Nat → List Int → List Int → Prop} {L : V → Env → Prop} {n : Nat} {ρ : Env} {m : Nat → Nat} {bl : List Blk} {gl : Glo} {w0 : Base} {P : Program} {tm : List V} {a : Act}

/-- What a quiet operation is good for. -/
def QR (w0 : Base) (m : Nat → Nat) (bl : List Blk) (n : Nat) (ρ : Env) (P : Program) (o : Oper) (a : Act) (ρ' : Env) (n' : Nat) (v : V) : Prop :=
  v.ok n' bl.length ρ' ∧ ∃ val, v.rel ρ' m val ∧ ∀ w, Mem w0 ρ m bl w → QRes P o a w val
theorem QR.of_run {o : Oper} {s : Sem Value} {ρ' : Env} {n' : Nat} {v : V} (he : execOp a.eval o = (do pure (Next.value (← s)))) (h : QV w0 m bl n ρ (fun w => s.run P w) ρ' n' v) : QR w0 m bl n ρ P o a ρ' n' v := by
  obtain ⟨h1, val, h2, h3⟩ := h
  exact ⟨h1, val, h2, fun w hw => .inl (by rw [he]; simp [h3 w hw])⟩

theorem W.cells_den {n nb : Nat} {ρ : Env} {m : Nat → Nat} (u : W) (hu : u.ok n nb ρ) : (u.den ρ m).cells = (u.cells.map (A.den ρ m)).toArray := by
  cases u with
  | one a =>
    have := A.oneCell (m := m) hu
    simp only [W.den, W.cells, List.map_cons, List.map_nil]
    generalize A.den ρ m a = v at *
    cases v <;> first | rfl | simp [Value.oneCell'] at this
  | agg l => simp [W.den, W.cells, Value.cells]
theorem W.cells_ok {n nb : Nat} {ρ : Env} {u : W} (hu : u.ok n nb ρ) : ∀ a ∈ u.cells, A.ok n nb ρ a := by
  cases u with
  | one a => intro x hx; simp [W.cells] at hx; subst hx; exact hu
  | agg l => exact hu


/-- Parts as they lie and as they are. -/
def PRel (n nb : Nat) (ρ : Env) (m : Nat → Nat) : List (Nat × V) → List (Nat × Value) → Prop
  | [], [] => True
  | p :: r, q :: s => (p.1 = q.1 ∧ V.ok n nb ρ p.2 ∧ V.rel ρ m p.2 q.2) ∧ PRel n nb ρ m r s
  | _, _ => False
theorem fold_cells (off : Nat) : ∀ (src : List Value) (dst : Array Value) (k : Nat), off + k + src.length ≤ dst.size →
    ((src.zipIdx k).foldl (fun cs (c, j) => cs.setIfInBounds (off + j) c) dst) = (dst.toList.take (off + k) ++ src ++ dst.toList.drop (off + k + src.length)).toArray
  | [], dst, k, h => by simp
  | c :: src, dst, k, h => by
    simp only [List.length_cons] at h
    rw [List.zipIdx_cons, List.foldl_cons, fold_cells off src _ (k + 1) (by simp; omega)]
    congr 1
    simp only [Array.toList_setIfInBounds, List.length_cons]
    have h1 : off + k < dst.toList.length := by simp; omega
    rw [List.take_set, show off + (k + 1) = off + k + 1 by omega, List.drop_set_of_lt (by omega), List.take_add_one, List.getElem?_eq_getElem h1]
    rw [show off + k + 1 + src.length = off + k + (src.length + 1) by omega]
    simp only [Option.toList_some]
    rw [List.set_append_right _ _ (by simp; omega)]
    have hm : min (off + k) dst.size = off + k := Nat.min_eq_left (by omega)
    simp [hm]
theorem fillL_spec {n nb : Nat} {ρ : Env} {m : Nat → Nat} {place : Nat → Option (Nat × Nat)} : ∀ {parts : List (Nat × V)} {vals : List (Nat × Value)} {cells l : List A}, fillL place cells parts = some l → (∀ a ∈ cells, A.ok n nb ρ a) →
    PRel n nb ρ m parts vals → (∀ a ∈ l, A.ok n nb ρ a) ∧ Instr.fill place (cells.map (A.den ρ m)).toArray vals = some (l.map (A.den ρ m)).toArray
  | [], [], cells, l, h, hc, _ => by simp [fillL] at h; subst h; exact ⟨hc, rfl⟩
  | (i, .w u) :: r, (i', x) :: s, cells, l, h, hc, ⟨⟨e1, e2, e3⟩, hr⟩ => by
    simp only at e1; subst e1
    simp only [V.rel] at e3
    have e3 : x = u.den ρ m := e3
    subst e3
    simp only [fillL] at h
    cases hp : place i with
    | none => simp [hp] at h
    | some q =>
      obtain ⟨off, size⟩ := q
      simp only [hp] at h
      cases hq : (Nat.beq u.cells.length size && Nat.ble (off + size) cells.length) with
      | false => simp [hq] at h
      | true =>
        simp only [hq, cond_true] at h
        simp only [Bool.and_eq_true] at hq
        have q1 := Nat.eq_of_beq_eq_true hq.1
        have q2 := Nat.le_of_ble_eq_true hq.2
        have hcells := W.cells_den (m := m) u e2
        obtain ⟨g1, g2⟩ := fillL_spec (m := m) h (fun a ha => by
          rcases List.mem_append.1 ha with ha | ha
          · rcases List.mem_append.1 ha with ha | ha
            · exact hc a (List.mem_of_mem_take ha)
            · exact W.cells_ok e2 a ha
          · exact hc a (List.mem_of_mem_drop ha)) hr
        refine ⟨g1, ?_⟩
        simp only [Instr.fill, hp, hcells, List.size_toArray, List.length_map, q1]
        rw [if_neg (by simp; omega)]
        rw [← g2]
        congr 1
        have := fold_cells off (u.cells.map (A.den ρ m)) (cells.map (A.den ρ m)).toArray 0 (by simp; omega)
        simp only [Nat.add_zero] at this
        rw [← Array.foldl_toList]
        simp only [Array.toList_zipIdx]
        rw [this]
        simp [List.map_take, List.map_drop, q1]
  | (_, .tup _) :: _, _, _, _, h, _, _ => by simp [fillL] at h
  | (_, .any) :: _, _, _, _, h, _, _ => by simp [fillL] at h
  | [], _ :: _, _, _, _, _, hr => hr.elim
  | (_, .w _) :: _, [], _, _, _, _, hr => hr.elim
theorem buildL_spec {n nb : Nat} {ρ : Env} {m : Nat → Nat} {t : TypeId} {parts : List (Nat × V)} {vals : List (Nat × Value)} {l : List A} (h : buildL P t parts = some l)
    (hr : PRel n nb ρ m parts vals) : (∀ a ∈ l, A.ok n nb ρ a) ∧ P.built t vals = some (l.map (A.den ρ m)).toArray := by
  unfold buildL at h
  unfold Program.built
  cases hz : zeroL P t with
  | none => simp [hz] at h
  | some z =>
    unfold zeroL at hz
    cases hi : P.info? t with
    | none => simp [hi] at hz
    | some it =>
      simp only [hi] at hz
      cases hz0 : it.zero with
      | none => simp [hz0] at hz
      | some z0 =>
        simp only [hz0] at hz
        have hzs := constL_spec hz n nb ρ m
        have hz1 : z0.cells = (z.map (A.den ρ m)).toArray := by rw [hzs.2]
        cases hu : P.underlying t with
        | none => simp [zeroL, hi, hz0, hz, hu] at h
        | some d =>
          cases d <;> try (simp [zeroL, hi, hz0, hz, hu] at h; done)
          case array len e =>
            simp only [zeroL, hi, hz0, hz, hu, szB] at h
            cases hie : P.info? e with
            | none => simp [hie] at h
            | some ie =>
              simp only [hie] at h
              simp only [hz0, hie, hz1]
              exact fillL_spec h hzs.1 hr
          case struct fields =>
            simp only [zeroL, hi, hz0, hz, hu] at h
            cases hp : fields.toList.mapM (fun f => (P.info? f.type).map fun i => (f.offset, i.size)) with
            | none => simp [hp] at h
            | some places =>
              simp only [hp] at h
              simp only [hz0, hp, hz1]
              exact fillL_spec h hzs.1 hr

theorem partQ_snd {t : TypeId} {l : List A} {off : Nat} (hl : ∀ x ∈ l, A.ok n bl.length ρ x) : Snd S L (partQ P t l off) n ρ (QV w0 m bl n ρ fun w => (part t (l.map (A.den ρ m)).toArray off).run P w) := by
  unfold partQ
  cases h1 : isAggB P t with
  | none => exact Snd.fail
  | some b =>
    cases b with
    | true =>
      cases h2 : szB P t with
      | none => exact Snd.fail
      | some k =>
        refine Snd.pure ⟨fun x hx => hl x (List.mem_of_mem_drop (List.mem_of_mem_take hx)), _, rfl, fun w _ => ?_⟩
        simp [part, run_isAggB h1, run_szB h2, W.den, List.map_take, List.map_drop, List.take_drop]
        try congr 1
    | false =>
      cases h3 : l[off]? with
      | none => exact Snd.fail
      | some x =>
        refine Snd.pure ⟨hl x (List.mem_of_getElem? h3), _, rfl, fun w _ => ?_⟩
        simp [part, run_isAggB h1, h3, W.den]

theorem arrOf_spec {t : TypeId} {len : Nat} {e : TypeId} (h : arrOf P t = some (len, e)) : P.underlying t = some (.array len e) := by
  unfold arrOf at h
  cases hu : P.underlying t with
  | none => simp [hu] at h
  | some d => cases d <;> simp [hu] at h <;> simp [h]
theorem slcOf_spec {t e : TypeId} (h : slcOf P t = some e) : P.underlying t = some (.slice e) := by
  unfold slcOf at h
  cases hu : P.underlying t with
  | none => simp [hu] at h
  | some d => cases d <;> simp [hu] at h <;> simp [h]
theorem kindOf_spec {t : TypeId} {k : IntKind} (h : kindOf P t = some k) : P.underlying t = some (.int k) := by
  unfold kindOf at h
  cases hu : P.underlying t with
  | none => simp [hu] at h
  | some d => cases d <;> simp [hu] at h <;> simp [h]
theorem fieldOf_spec {s : TypeId} {f : Nat} {fd : Field} (h : fieldOf P s f = some fd) : ∃ fs, P.underlying s = some (.struct fs) ∧ fs[f]? = some fd := by
  unfold fieldOf at h
  cases hu : P.underlying s with
  | none => simp [hu] at h
  | some d => cases d <;> simp [hu] at h <;> exact ⟨_, rfl, h⟩

theorem idxQ_snd {t : TypeId} {x : V} {k : IntKind} {ix : IV} {X : Value} (hx : x.ok n bl.length ρ) (hX : x.rel ρ m X) (hi : ix.ok n ρ) :
    Snd S L (idxQ P t x ix) n ρ (QV w0 m bl n ρ fun w => (Instr.indexAt t X (.int k (ix.l.den ρ))).run P w) := by
  unfold idxQ
  split
  · rename_i b off
    simp only [V.rel, W.den, A.den] at hX; subst hX
    cases h1 : arrOf P t with
    | none => exact Snd.fail
    | some q =>
      obtain ⟨len, e⟩ := q
      cases h2 : szB P e with
      | none => simp only [h2]; exact Snd.fail
      | some s =>
        simp only [h2]
        cases h3 : ix.l.isC with
        | some i =>
          refine snd_guard fun hc => Snd.pure ⟨hx, _, rfl, fun w _ => ?_⟩
          simp only [Bool.and_eq_true, decide_eq_true_eq] at hc
          simp [Instr.indexAt, asIntOf, run_underlying (arrOf_spec h1), Instr.sureAddr, Lin.den_isC h3, hc, run_szB h2, addr_add, W.den, A.den]
        | none =>
          refine snd_guard fun hc => Snd.pure ⟨?_, _, rfl, fun w _ => ?_⟩
          · simp only [Bool.and_eq_true, decide_eq_true_eq] at hc
            exact ⟨hx, hi, hc.1.2⟩
          · simp only [Bool.and_eq_true, decide_eq_true_eq] at hc
            have hs := Nat.eq_of_beq_eq_true hc.1.1
            subst hs
            have b1 := hi.2
            have c1 : 0 ≤ ix.l.den ρ := by omega
            have c2 : ix.l.den ρ < len := by omega
            simp [Instr.indexAt, asIntOf, run_underlying (arrOf_spec h1), Instr.sureAddr, c1, c2, run_szB h2, addr_add, W.den, A.den]
  · rename_i g off
    simp only [V.rel, W.den, A.den] at hX; subst hX
    cases h1 : arrOf P t with
    | none => exact Snd.fail
    | some q =>
      obtain ⟨len, e⟩ := q
      cases h2 : szB P e with
      | none => simp only [h2]; exact Snd.fail
      | some s =>
        simp only [h2]
        cases h3 : ix.l.isC with
        | some i =>
          refine snd_guard fun hc => Snd.pure ⟨trivial, _, rfl, fun w _ => ?_⟩
          simp only [Bool.and_eq_true, decide_eq_true_eq] at hc
          simp [Instr.indexAt, asIntOf, run_underlying (arrOf_spec h1), Instr.sureAddr, Lin.den_isC h3, hc, run_szB h2, addr_add, W.den, A.den]
        | none =>
          refine snd_guard fun hc => chkM_snd fun hq => Snd.pure ⟨?_, _, rfl, fun w _ => ?_⟩
          · simp only [List.map_cons, List.map_nil, Lin.den_const, chkD, chkD2] at hq
            exact ⟨⟨hi.1, by show (0 : Int) ≤ _; exact hq.1, by show _ ≤ ((len : Int) - 1); have := hq.2; simp only; omega⟩, Int.le_refl _⟩
          · simp only [List.map_cons, List.map_nil, Lin.den_const, chkD, chkD2] at hq
            have hs := Nat.eq_of_beq_eq_true hc
            subst hs
            simp [Instr.indexAt, asIntOf, run_underlying (arrOf_spec h1), Instr.sureAddr, hq.1, hq.2, run_szB h2, addr_add, W.den, A.den]
  · rename_i b off len cap
    simp only [V.rel, W.den, A.den] at hX; subst hX
    cases h1 : slcOf P t with
    | none => exact Snd.fail
    | some e =>
      cases h2 : szB P e with
      | none => simp only [h2]; exact Snd.fail
      | some s =>
        simp only [h2]
        cases h3 : ix.l.isC with
        | some i =>
          refine snd_guard fun hc => Snd.pure ⟨hx, _, rfl, fun w _ => ?_⟩
          simp only [Bool.and_eq_true, decide_eq_true_eq] at hc
          simp [Instr.indexAt, asIntOf, run_underlying (slcOf_spec h1), Instr.sureAddr, Lin.den_isC h3, hc, run_szB h2, addr_add, W.den, A.den]
        | none =>
          refine snd_guard fun hc => Snd.pure ⟨?_, _, rfl, fun w _ => ?_⟩
          · simp only [Bool.and_eq_true, decide_eq_true_eq] at hc
            exact ⟨hx, hi, hc.1.2⟩
          · simp only [Bool.and_eq_true, decide_eq_true_eq] at hc
            have hs := Nat.eq_of_beq_eq_true hc.1.1
            subst hs
            have b1 := hi.2
            have c1 : 0 ≤ ix.l.den ρ := by omega
            have c2 : ix.l.den ρ < len := by omega
            simp [Instr.indexAt, asIntOf, run_underlying (slcOf_spec h1), Instr.sureAddr, c1, c2, run_szB h2, addr_add, W.den, A.den]
  · rename_i b len lo
    obtain ⟨c, _, hX⟩ := hX
    subst hX
    cases h1 : slcOf P t with
    | none => exact Snd.fail
    | some e =>
      cases h2 : szB P e with
      | none => simp only [h2]; exact Snd.fail
      | some s =>
        simp only [h2]
        cases h3 : ix.l.isC with
        | some i =>
          refine snd_guard fun hc => Snd.pure ⟨hx, _, rfl, fun w _ => ?_⟩
          simp only [Bool.and_eq_true, decide_eq_true_eq] at hc
          simp [Instr.indexAt, asIntOf, run_underlying (slcOf_spec h1), Instr.sureAddr, Lin.den_isC h3, hc, run_szB h2, addr_add, W.den, A.den]
        | none => exact Snd.fail
  · exact Snd.fail
theorem onesL_spec {vs : List V} : ∀ {l : List A} {xs : List Value}, onesL vs = some l → (∀ v ∈ vs, V.ok n bl.length ρ v) → LRel ρ m vs xs → (∀ a ∈ l, A.ok n bl.length ρ a) ∧ xs = l.map (A.den ρ m) := by
  induction vs with
  | nil =>
    intro l xs h _ hr
    simp [onesL] at h; subst h
    cases xs with
    | nil => exact ⟨fun _ h => by simp at h, rfl⟩
    | cons _ _ => exact hr.elim
  | cons v r ih =>
    intro l xs h hok hr
    cases xs with
    | nil => cases v <;> exact hr.elim
    | cons x s =>
      cases v with
      | w y =>
        cases y with
        | agg q => simp [onesL] at h
        | one a =>
          cases h1 : onesL r with
          | none => simp [onesL, h1] at h
          | some l' =>
            simp only [onesL, h1, Option.some.injEq] at h
            subst h
            obtain ⟨e1, e2⟩ := ih h1 (fun v hv => hok v (List.mem_cons_of_mem _ hv)) hr.2
            have h0 : x = a.den ρ m := hr.1
            exact ⟨fun b hb => by rcases List.mem_cons.1 hb with rfl | hb; exact hok (.w (.one b)) (by simp); exact e1 b hb, by rw [h0, e2]; rfl⟩
      | _ => simp [onesL] at h

theorem eqL_spec {e : TypeId} {k : IntKind} (he : P.underlying e = some (.int k)) (d : Nat) (xs ys : Array Value) (w : World) : ∀ (l l' : List A) (i : Nat) (b : BE), eqL l l' = some b → (∀ x ∈ l, A.ok n bl.length ρ x) → (∀ x ∈ l', A.ok n bl.length ρ x) →
    xs.toList.drop i = l.map (A.den ρ m) → ys.toList.drop i = l'.map (A.den ρ m) → b.sc n ∧ (Op.eqItems (d + 1) e 1 xs ys (List.range' i l.length)).run P w = .ok (b.den ρ) w := by
  intro l
  induction l with
  | nil =>
    intro l' i b h _ _ _ _
    cases l' with
    | nil => simp [eqL] at h; subst h; exact ⟨trivial, by simp [Op.eqItems, BE.den]⟩
    | cons y r' => simp [eqL] at h
  | cons x r ih =>
    intro l' i b h hl hl' hx hy
    cases l' with
    | nil => cases x <;> simp [eqL] at h
    | cons y r' =>
      cases x <;> cases y <;> simp only [eqL] at h <;> try (cases h; done)
      rename_i k1 x k2 y
      by_cases hk : k1 = k2
      · subst hk
        simp only [decide_true, cond_true] at h
        cases hr : eqL r r' with
        | none => simp [hr] at h
        | some b' =>
          simp only [hr, Option.some.injEq] at h
          subst h
          have hox : x.ok n ρ := hl (.int k1 x) (by simp)
          have hoy : y.ok n ρ := hl' (.int k1 y) (by simp)
          have e1 := BE.den_mkEq hox hoy
          have gx : xs[i]? = some (.int k1 (x.l.den ρ)) := by
            have := congrArg List.head? hx
            simpa [A.den] using this
          have gy : ys[i]? = some (.int k1 (y.l.den ρ)) := by
            have := congrArg List.head? hy
            simpa [A.den] using this
          have dx : xs.toList.drop (i + 1) = r.map (A.den ρ m) := by
            have := congrArg List.tail hx
            simpa using this
          have dy : ys.toList.drop (i + 1) = r'.map (A.den ρ m) := by
            have := congrArg List.tail hy
            simpa using this
          obtain ⟨s2, r2⟩ := ih r' (i + 1) b' hr (fun z hz => hl z (List.mem_cons_of_mem _ hz)) (fun z hz => hl' z (List.mem_cons_of_mem _ hz)) dx dy
          refine ⟨BE.sc_mkAnd e1.2 s2, ?_⟩
          simp only [List.length_cons, List.range'_succ, Op.eqItems, Sem.run_bind]
          have px : (part e xs (i * 1)).run P w = .ok (.int k1 (x.l.den ρ)) w := by simp [part, isAgg, run_underlying he, gx]
          have py : (part e ys (i * 1)).run P w = .ok (.int k1 (y.l.den ρ)) w := by simp [part, isAgg, run_underlying he, gy]
          simp only [px, py, Result.andThen_ok, run_equalIn_int w d e k1 k _ _ he, BE.den_mkAnd, e1.1]
          by_cases hq : x.l.den ρ = y.l.den ρ
          · simp [hq, r2]
          · simp [hq]
      · simp [hk] at h

theorem eqQ_spec {t : TypeId} {x y : List A} {b : BE} (h : eqQ P t x y = some b) (hx : ∀ z ∈ x, A.ok n bl.length ρ z) (hy : ∀ z ∈ y, A.ok n bl.length ρ z) :
    b.sc n ∧ P.eqGuardType P.depth t = false ∧ ∀ w, (Op.equalIn 10000 t (.agg (x.map (A.den ρ m)).toArray) (.agg (y.map (A.den ρ m)).toArray)).run P w = .ok (b.den ρ) w := by
  unfold eqQ at h
  cases h1 : arrOf P t with
  | none => simp [h1] at h
  | some q =>
    obtain ⟨len, e⟩ := q
    simp only [h1] at h
    cases h2 : kindOf P e with
    | none => simp [h2] at h
    | some k =>
      cases h3 : szB P e with
      | none => simp [h2, h3] at h
      | some s =>
        match s, h3 with
        | 0, h3 => simp [h2, h3] at h
        | s + 2, h3 => simp [h2, h3] at h
        | 1, h3 =>
          simp only [h2, h3] at h
          cases hc : (Nat.beq x.length len && Nat.beq y.length len && !P.eqGuardType P.depth t) with
          | false => simp [hc] at h
          | true =>
            simp only [hc, cond_true] at h
            simp only [Bool.and_eq_true, Bool.not_eq_true'] at hc
            have hl := Nat.eq_of_beq_eq_true hc.1.1
            have hinfo : ∃ i, P.info? e = some i ∧ P.cellsOf e = 1 := by
              unfold szB at h3
              cases hq : P.info? e with
              | none => simp [hq] at h3
              | some i => simp [hq] at h3; exact ⟨i, rfl, by simp [Program.cellsOf, hq, h3]⟩
            obtain ⟨i, hi1, hi2⟩ := hinfo
            have hsp := fun w => eqL_spec (P := P) (bl := bl) (n := n) (ρ := ρ) (m := m) (kindOf_spec h2) 9998 (x.map (A.den ρ m)).toArray (y.map (A.den ρ m)).toArray w x y 0 b h hx hy (by simp) (by simp)
            refine ⟨(hsp default).1, hc.2, fun w => ?_⟩
            rw [show (10000 : Nat) = 9999 + 1 from rfl, run_equalIn_array w 9999 _ _ (arrOf_spec h1) hi1, hi2, List.range_eq_range', ← hl]
            exact (hsp w).2

theorem bA_toList (l : List UInt8) : (bA l).toList = l := ByteArray.toList_mk l
theorem bA_size (l : List UInt8) : (bA l).size = l.length := by simp [bA, ByteArray.size]
theorem beq_bit (l l' : List UInt8) : (l == l') = decide ((if l = l' then (1 : Int) else 0) = 1) := by
  by_cases h : l = l'
  · subst h; simp
  · rw [if_neg h]; simp [h]
theorem bit01 (p : Prop) [Decidable p] : (0 : Int) ≤ (if p then 1 else 0) ∧ (if p then (1 : Int) else 0) ≤ 1 := by split <;> decide
theorem less_bit (b : Bool) : b = decide ((if b = true then (1 : Int) else 0) = 1) := by cases b <;> rfl
theorem strBin_snd {op : BinOp} {t : TypeId} {x y : Operand} {p q : Lin} (hp : (A.str p).ok n bl.length ρ) (hq : (A.str q).ok n bl.length ρ) :
    Snd S L (strBin op p q) n ρ (QV w0 m bl n ρ fun w => (do eqGuard op t x y (.string (bA (sOf (p.den ρ)))) (.string (bA (sOf (q.den ρ)))); binOp op t (.string (bA (sOf (p.den ρ)))) (.string (bA (sOf (q.den ρ)))) : Sem Value).run P w) := by
  have b1 := bit01 (sOf (p.den ρ) = sOf (q.den ρ))
  have b2 := bit01 (Op.bytesLess (sOf (p.den ρ)) (sOf (q.den ρ)) = true)
  unfold strBin
  split
  · refine chkM_snd fun hc => ?_
    have hc : (sOf (p.den ρ)).length + (sOf (q.den ρ)).length ≤ mxL := hc
    have hl : (sOf (p.den ρ) ++ sOf (q.den ρ)).length ≤ mxL := by simpa using hc
    refine (fnM_snd (op := 3) (args := [p, q]) (cOf_nonneg _) (HB_c hl)).bind fun ρ1 n1 l _ _ ⟨h1, h2⟩ => ?_
    have h2 : l.den ρ1 = cOf (sOf (p.den ρ) ++ sOf (q.den ρ)) := h2
    refine Snd.pure ⟨⟨h1, by rw [h2]; exact cOf_nonneg _, by rw [h2]; exact HB_c hl⟩, _, rfl, fun w _ => ?_⟩
    have hr := run_string_add_sum (P := P) w (bA (sOf (p.den ρ))) (bA (sOf (q.den ρ))) (by rw [bA_size, bA_size]; unfold mxL at hc; omega)
    simp only [eqGuard, binOp_string_add, W.den, A.den, h2, sOf_cOf]
    simp [hr]
    exact ByteArray.mk_append_mk _ _
  · refine (fnM_snd (op := 4) (args := [p, q]) b1.1 b1.2).bind fun ρ1 n1 l _ _ ⟨h1, h2⟩ => ?_
    have h2 : l.den ρ1 = if sOf (p.den ρ) = sOf (q.den ρ) then 1 else 0 := h2
    have e := BE.den_mkEq (n := n1) (ρ := ρ1) (a := ⟨l, 0, 1⟩) (b := .const 1) ⟨h1, by simp only [h2]; exact b1.1, by simp only [h2]; exact b1.2⟩ (IV.const_ok _ _ _)
    refine Snd.pure ⟨e.2, _, rfl, fun w _ => ?_⟩
    simp only [W.den, A.den, binOp_string_eql, bA_toList]
    rw [e.1]
    simp only [h2, IV.const, Lin.den_const, beq_bit]
    simp [eqGuard]
  · refine (fnM_snd (op := 4) (args := [p, q]) b1.1 b1.2).bind fun ρ1 n1 l _ _ ⟨h1, h2⟩ => ?_
    have h2 : l.den ρ1 = if sOf (p.den ρ) = sOf (q.den ρ) then 1 else 0 := h2
    have e := BE.den_mkEq (n := n1) (ρ := ρ1) (a := ⟨l, 0, 1⟩) (b := .const 1) ⟨h1, by simp only [h2]; exact b1.1, by simp only [h2]; exact b1.2⟩ (IV.const_ok _ _ _)
    refine Snd.pure ⟨BE.sc_mkNot e.2, _, rfl, fun w _ => ?_⟩
    simp only [W.den, A.den, BE.den_mkNot, binOp_string_neq, bA_toList]
    rw [e.1]
    simp only [h2, IV.const, Lin.den_const, beq_bit]
    simp [eqGuard]
  · refine (fnM_snd (op := 5) (args := [p, q]) b2.1 b2.2).bind fun ρ1 n1 l _ _ ⟨h1, h2⟩ => ?_
    have h2 : l.den ρ1 = if Op.bytesLess (sOf (p.den ρ)) (sOf (q.den ρ)) = true then 1 else 0 := h2
    have e := BE.den_mkEq (n := n1) (ρ := ρ1) (a := ⟨l, 0, 1⟩) (b := .const 1) ⟨h1, by simp only [h2]; exact b2.1, by simp only [h2]; exact b2.2⟩ (IV.const_ok _ _ _)
    refine Snd.pure ⟨e.2, _, rfl, fun w _ => ?_⟩
    simp only [W.den, A.den, binOp_string_lss, bA_toList]
    rw [e.1]
    simp only [h2, IV.const, Lin.den_const]
    rw [← less_bit]
    simp [eqGuard]
  · refine (fnM_snd (op := 5) (args := [p, q]) b2.1 b2.2).bind fun ρ1 n1 l _ _ ⟨h1, h2⟩ => ?_
    have h2 : l.den ρ1 = if Op.bytesLess (sOf (p.den ρ)) (sOf (q.den ρ)) = true then 1 else 0 := h2
    have e := BE.den_mkEq (n := n1) (ρ := ρ1) (a := ⟨l, 0, 1⟩) (b := .const 1) ⟨h1, by simp only [h2]; exact b2.1, by simp only [h2]; exact b2.2⟩ (IV.const_ok _ _ _)
    refine Snd.pure ⟨BE.sc_mkNot e.2, _, rfl, fun w _ => ?_⟩
    simp only [W.den, A.den, BE.den_mkNot, binOp_string_geq, bA_toList]
    rw [e.1]
    simp only [h2, IV.const, Lin.den_const]
    rw [← less_bit]
    simp [eqGuard]
  · exact Snd.fail
theorem strLen_snd {t ty : TypeId} {p : Lin} (hu : P.underlying t = some .string) (hp : (A.str p).ok n bl.length ρ) :
    Snd S L (strLen p) n ρ (QV w0 m bl n ρ fun w => (Builtin.len_ #[t] ty #[.string (bA (sOf (p.den ρ)))]).run P w) := by
  have hl := HB_s hp.2.2
  unfold mxL at hl
  refine (fnM_snd (op := 0) (args := [p]) (Int.natCast_nonneg _) (by show ((sOf (p.den ρ)).length : Int) ≤ _; omega)).bind fun ρ1 n1 l _ _ ⟨h1, h2⟩ => ?_
  have h2 : l.den ρ1 = ((sOf (p.den ρ)).length : Int) := h2
  refine Snd.pure ⟨⟨h1, by simp only [h2]; omega, by simp only [h2]; omega⟩, _, rfl, fun w _ => ?_⟩
  simp [Builtin.len_, run_underlying hu, goInt, W.den, A.den, h2, bA_size]
theorem strIdx_snd {t : TypeId} {k : IntKind} {p i : Lin} (hu : P.underlying t = some .string) (hp : (A.str p).ok n bl.length ρ) :
    Snd S L (strIdx p i) n ρ (QV w0 m bl n ρ fun w => (Instr.index t (.string (bA (sOf (p.den ρ)))) (.int k (i.den ρ))).run P w) := by
  refine chkM_snd fun hc => ?_
  have hc : 0 ≤ i.den ρ ∧ i.den ρ < ((sOf (p.den ρ)).length : Int) := hc
  have hlt : (i.den ρ).toNat < (sOf (p.den ρ)).length := by omega
  have hb := ((sOf (p.den ρ)).getD (i.den ρ).toNat 0).toNat_lt
  refine (fnM_snd (op := 1) (args := [p, i]) (Int.natCast_nonneg _) (by show (((sOf (p.den ρ)).getD (i.den ρ).toNat 0).toNat : Int) ≤ _; omega)).bind fun ρ1 n1 l _ _ ⟨h1, h2⟩ => ?_
  have h2 : l.den ρ1 = (((sOf (p.den ρ)).getD (i.den ρ).toNat 0).toNat : Int) := h2
  refine Snd.pure ⟨⟨h1, by simp only [h2]; omega, by simp only [h2]; omega⟩, _, rfl, fun w _ => ?_⟩
  have e : (bA (sOf (p.den ρ)))[(i.den ρ).toNat]? = some ((sOf (p.den ρ)).getD (i.den ρ).toNat 0) := by
    rw [ByteArray.getElem?_lt' _ _ (by rw [bA_size]; exact hlt)]
    simp [bA, List.getD, hlt]
    rfl
  simp [Instr.index, asIntOf, run_underlying hu, hc.1, e, W.den, A.den, h2]
theorem strSub_snd {p a b : Lin} (hp : (A.str p).ok n bl.length ρ) : Snd S L (strSub p a b) n ρ fun ρ' n' v => v.ok n' bl.length ρ' ∧ v.rel ρ' m (.string ((bA (sOf (p.den ρ))).extract (a.den ρ).toNat (b.den ρ).toNat)) ∧ 0 ≤ a.den ρ ∧ a.den ρ ≤ b.den ρ ∧ b.den ρ ≤ ((sOf (p.den ρ)).length : Int) := by
  refine chkM_snd fun hc => ?_
  have hc : 0 ≤ a.den ρ ∧ a.den ρ ≤ b.den ρ ∧ b.den ρ ≤ ((sOf (p.den ρ)).length : Int) := hc
  have hl := HB_s hp.2.2
  have hl2 : (((sOf (p.den ρ)).drop (a.den ρ).toNat).take ((b.den ρ).toNat - (a.den ρ).toNat)).length ≤ mxL := by simp; omega
  refine (fnM_snd (op := 2) (args := [p, a, b]) (cOf_nonneg _) (HB_c hl2)).bind fun ρ1 n1 l _ _ ⟨h1, h2⟩ => ?_
  have h2 : l.den ρ1 = cOf (((sOf (p.den ρ)).drop (a.den ρ).toNat).take ((b.den ρ).toNat - (a.den ρ).toNat)) := h2
  refine Snd.pure ⟨⟨h1, by rw [h2]; exact cOf_nonneg _, by rw [h2]; exact HB_c hl2⟩, ?_, hc⟩
  show _ = _
  simp only [W.den, A.den, h2, sOf_cOf]
  congr 1
  exact ByteArray.extract_mk _ _ _
theorem intL_spec {v : V} {l : Lin} {x : Value} (h : intL v = some l) (hr : v.rel ρ m x) (hok : v.ok n bl.length ρ) : ∃ k, x = .int k (l.den ρ) ∧ l.sc n := by
  unfold intL at h
  split at h
  · rename_i k a
    simp only [Option.some.injEq] at h; subst h
    exact ⟨k, hr, hok.1⟩
  · cases h
theorem sliceB_ok {k : IntKind} {i : Int} {y : Nat} {cd : BoundsCode} (p1 : 0 ≤ i) (p2 : i ≤ y) (w : World) : (Instr.sliceBound (.int k i) y cd).run P w = .ok i.toNat w := by
  simp [Instr.sliceBound, asIntOf, p1, p2]
theorem strSl_snd {t : TypeId} {p : Lin} {lo hi : Option Operand} (hu : P.underlying t = some .string) (hp : (A.str p).ok n bl.length ρ) (ht : TRel n bl.length ρ m tm a.tmps) :
    Snd S L (strSl tm p lo hi) n ρ (QV w0 m bl n ρ fun w => (Instr.sliceAt t (.string (bA (sOf (p.den ρ)))) (lo.map a.eval) (hi.map a.eval) none).run P w) := by
  unfold strSl
  split
  · exact Snd.fail
  · rename_i la hla
    have hlo : ∃ f : Option Value, lo.map a.eval = f ∧ (f = none ∧ la.den ρ = 0 ∨ ∃ k, f = some (.int k (la.den ρ))) := by
      cases lo with
      | none => simp only [Option.some.injEq] at hla; subst hla; exact ⟨none, rfl, .inl ⟨rfl, Lin.den_const _ _⟩⟩
      | some x =>
        obtain ⟨k, hk, _⟩ := intL_spec (m := m) (bl := bl) hla (opV_spec ht x).2 (opV_spec ht x).1
        exact ⟨_, rfl, .inr ⟨k, by rw [← hk]; rfl⟩⟩
    obtain ⟨fl, e1, hfl⟩ := hlo
    have key : ∀ (lb : Lin) (ρ1 : Env) (n1 : Nat), n ≤ n1 → agree n ρ ρ1 → (hi.map a.eval = none ∧ lb.den ρ1 = ((sOf (p.den ρ)).length : Int) ∨ ∃ k, hi.map a.eval = some (.int k (lb.den ρ1))) → la.sc n →
        Snd S L (strSub p la lb) n1 ρ1 (QV w0 m bl n ρ fun w => (Instr.sliceAt t (.string (bA (sOf (p.den ρ)))) (lo.map a.eval) (hi.map a.eval) none).run P w) := fun lb ρ1 n1 hn ha hh hsc => by
      have hp1 : (A.str p).ok n1 bl.length ρ1 := hp.ext ha hn (Nat.le_refl _)
      have ep : p.den ρ1 = p.den ρ := Lin.den_agree ha hp.1
      have ea : la.den ρ1 = la.den ρ := Lin.den_agree ha hsc
      refine (strSub_snd (m := m) (bl := bl) (a := la) (b := lb) hp1).mono fun ρ2 n2 v _ _ ⟨q1, q2, q3, q4, q5⟩ => ⟨q1, _, q2, fun w _ => ?_⟩
      rw [ep, ea] at *
      have hbs : (Instr.sliceBounds false (bA (sOf (p.den ρ))).size (bA (sOf (p.den ρ))).size fl (hi.map a.eval) none).run P w = .ok ((la.den ρ).toNat, (lb.den ρ1).toNat, (bA (sOf (p.den ρ))).size) w := by
        rw [bA_size]
        rcases hfl with ⟨rfl, hz⟩ | ⟨k, rfl⟩ <;> rcases hh with ⟨h1, h2⟩ | ⟨k2, h1⟩
        · rw [h1, hz, h2]; simp [Instr.sliceBounds]
        · rw [h1, hz]; simp [Instr.sliceBounds, sliceB_ok (P := P) (by omega : 0 ≤ lb.den ρ1) q5]
        · rw [h1, h2]; simp [Instr.sliceBounds, sliceB_ok (P := P) (y := (sOf (p.den ρ)).length) q3 (by omega)]
        · rw [h1]; simp [Instr.sliceBounds, sliceB_ok (P := P) (by omega : 0 ≤ lb.den ρ1) q5, sliceB_ok (P := P) (y := (lb.den ρ1).toNat) q3 (by omega)]
      rw [e1]
      simp [Instr.sliceAt, Instr.slice, run_underlying hu, hbs]
    have hlsc : la.sc n := by
      cases lo with
      | none => simp only [Option.some.injEq] at hla; subst hla; exact Lin.sc_const _ _
      | some x => exact (intL_spec (m := m) (bl := bl) hla (opV_spec ht x).2 (opV_spec ht x).1).choose_spec.2
    cases hi with
    | none =>
      have hl := HB_s hp.2.2
      unfold mxL at hl
      exact (fnM_snd (op := 0) (args := [p]) (Int.natCast_nonneg _) (by show ((sOf (p.den ρ)).length : Int) ≤ _; omega)).bind fun ρ1 n1 l hn ha ⟨h1, h2⟩ => key l ρ1 n1 hn ha (.inl ⟨rfl, h2⟩) hlsc
    | some y =>
      simp only
      cases hy : intL (opV tm y) with
      | none => exact Snd.fail
      | some b =>
        obtain ⟨k, hk, _⟩ := intL_spec (m := m) (bl := bl) hy (opV_spec ht y).2 (opV_spec ht y).1
        exact key b ρ n (Nat.le_refl _) (agree.refl _ _) (.inr ⟨k, by rw [← hk]; rfl⟩) hlsc
theorem LRel_map {xs : List Operand} (h : TRel n bl.length ρ m tm a.tmps) : LRel ρ m (xs.map (opV tm)) (xs.map a.eval) := by
  induction xs with
  | nil => trivial
  | cons x r ih => exact ⟨(opV_spec h x).2, ih⟩
theorem run_callFunc_eval {c : Call} {f : FuncId} (hc : c.callee = .value (.func f)) (o : Oper) (ho : o.op = .call c) : execOp a.eval o = callFunc f (c.args.map a.eval) := by
  simp only [execOp, ho, resolve, hc, Act.eval, Deferred.ofValue]
  simp [invoke, bind_pure_comp]

theorem eqF_snd {nb : Nat} {m : Nat → Nat} : ∀ (fs : List Field) (x y : List A) (i n : Nat) (ρ : Env), fldOk P i fs = true → (∀ a ∈ x, A.ok n nb ρ a) → (∀ a ∈ y, A.ok n nb ρ a) →
    Snd S L (eqF P fs x y) n ρ fun ρ' n' b => b.sc n' ∧ ∀ (w : World) (d : Nat) (xs ys : Array Value), xs.toList.drop i = x.map (A.den ρ m) → ys.toList.drop i = y.map (A.den ρ m) → (Op.eqFields (d + 1) xs ys fs).run P w = .ok (b.den ρ') w
  | [], [], [], i, n, ρ, _, _, _ => Snd.pure ⟨trivial, fun w d xs ys _ _ => by simp [Op.eqFields, BE.den]⟩
  | f :: fs, x :: xs, y :: ys, i, n, ρ, hf, hx, hy => by
    cases x with
    | int k a =>
      cases y with
      | int k' b =>
        unfold fldOk at hf
        simp only [Bool.and_eq_true, bne_iff_ne, ne_eq] at hf
        obtain ⟨⟨hn, ho⟩, hf⟩ := hf
        have ho := Nat.eq_of_beq_eq_true ho
        unfold eqF
        split
        · rename_i k2 hk2
          have hu := kindOf_spec hk2
          refine snd_guard fun hk => ?_
          have hk : k = k' := by simpa using hk
          subst hk
          have oa : a.ok n ρ := hx (.int k a) (by simp)
          have ob : b.ok n ρ := hy (.int k b) (by simp)
          refine (eqF_snd (nb := nb) (m := m) fs xs ys (i + 1) n ρ hf (fun z hz => hx z (List.mem_cons_of_mem _ hz)) (fun z hz => hy z (List.mem_cons_of_mem _ hz))).bind fun ρ' n' r hnn hag ⟨r1, r2⟩ => Snd.pure ?_
          have e1 := BE.den_mkEq (oa.agree hag hnn) (ob.agree hag hnn)
          refine ⟨BE.sc_mkAnd e1.2 r1, fun w d vx vy hvx hvy => ?_⟩
          have gx : vx[i]? = some (.int k (a.l.den ρ)) := by
            have := congrArg List.head? hvx
            simpa [A.den] using this
          have gy : vy[i]? = some (.int k (b.l.den ρ)) := by
            have := congrArg List.head? hvy
            simpa [A.den] using this
          have dx : vx.toList.drop (i + 1) = xs.map (A.den ρ m) := by
            have := congrArg List.tail hvx
            simpa using this
          have dy : vy.toList.drop (i + 1) = ys.map (A.den ρ m) := by
            have := congrArg List.tail hvy
            simpa using this
          have px : (part f.type vx f.offset).run P w = .ok (.int k (a.l.den ρ)) w := by simp [part, isAgg, run_underlying hu, ho, gx]
          have py : (part f.type vy f.offset).run P w = .ok (.int k (b.l.den ρ)) w := by simp [part, isAgg, run_underlying hu, ho, gy]
          have ea : a.l.den ρ' = a.l.den ρ := by
            have := A.den_ext (m := m) (m' := m) (hx (.int k a) (by simp)) hag (fun _ _ => rfl)
            simpa [A.den] using this
          have eb : b.l.den ρ' = b.l.den ρ := by
            have := A.den_ext (m := m) (m' := m) (hy (.int k b) (by simp)) hag (fun _ _ => rfl)
            simpa [A.den] using this
          simp only [Op.eqFields, ne_eq, hn, not_false_eq_true, if_true, Sem.run_bind, px, py, Result.andThen_ok, run_equalIn_int w d f.type k k2 _ _ hu, BE.den_mkAnd, e1.1, ea, eb]
          by_cases hq : a.l.den ρ = b.l.den ρ
          · simp [hq, r2 w d vx vy dx dy]
          · simp [hq]
        · exact Snd.fail
      | _ => unfold eqF; exact Snd.fail
    | str a =>
      cases y with
      | str b =>
        unfold fldOk at hf
        simp only [Bool.and_eq_true, bne_iff_ne, ne_eq] at hf
        obtain ⟨⟨hn, ho⟩, hf⟩ := hf
        have ho := Nat.eq_of_beq_eq_true ho
        unfold eqF
        split
        · rename_i hu
          have b1 := bit01 (sOf (a.den ρ) = sOf (b.den ρ))
          refine (fnM_snd (op := 4) (args := [a, b]) b1.1 b1.2).bind fun ρ1 n1 l hn1 hag1 ⟨h1, h2⟩ => ?_
          have h2 : l.den ρ1 = if sOf (a.den ρ) = sOf (b.den ρ) then 1 else 0 := h2
          have hx1 : ∀ z ∈ xs, A.ok n1 nb ρ1 z := fun z hz => (hx z (List.mem_cons_of_mem _ hz)).ext hag1 hn1 (Nat.le_refl _)
          have hy1 : ∀ z ∈ ys, A.ok n1 nb ρ1 z := fun z hz => (hy z (List.mem_cons_of_mem _ hz)).ext hag1 hn1 (Nat.le_refl _)
          have ol : (⟨l, 0, 1⟩ : IV).ok n1 ρ1 := ⟨h1, by simp only [h2]; exact b1.1, by simp only [h2]; exact b1.2⟩
          refine (eqF_snd (nb := nb) (m := m) fs xs ys (i + 1) n1 ρ1 hf hx1 hy1).bind fun ρ' n' r hnn hag ⟨r1, r2⟩ => Snd.pure ?_
          have e1 := BE.den_mkEq (n := n') (ρ := ρ') (a := ⟨l, 0, 1⟩) (b := .const 1) (ol.agree hag hnn) (IV.const_ok _ _ _)
          refine ⟨BE.sc_mkAnd e1.2 r1, fun w d vx vy hvx hvy => ?_⟩
          have gx : vx[i]? = some (.string (bA (sOf (a.den ρ)))) := by
            have := congrArg List.head? hvx
            simpa [A.den] using this
          have gy : vy[i]? = some (.string (bA (sOf (b.den ρ)))) := by
            have := congrArg List.head? hvy
            simpa [A.den] using this
          have dx : vx.toList.drop (i + 1) = xs.map (A.den ρ1 m) := by
            have := congrArg List.tail hvx
            rw [List.map_congr_left (g := A.den ρ m) fun z hz => A.den_ext (hx z (List.mem_cons_of_mem _ hz)) hag1 (fun _ _ => rfl)]
            simpa using this
          have dy : vy.toList.drop (i + 1) = ys.map (A.den ρ1 m) := by
            have := congrArg List.tail hvy
            rw [List.map_congr_left (g := A.den ρ m) fun z hz => A.den_ext (hy z (List.mem_cons_of_mem _ hz)) hag1 (fun _ _ => rfl)]
            simpa using this
          have px : (part f.type vx f.offset).run P w = .ok (.string (bA (sOf (a.den ρ)))) w := by simp [part, isAgg, run_underlying hu, ho, gx]
          have py : (part f.type vy f.offset).run P w = .ok (.string (bA (sOf (b.den ρ)))) w := by simp [part, isAgg, run_underlying hu, ho, gy]
          have el : l.den ρ' = l.den ρ1 := Lin.den_agree hag h1
          have e2 : (BE.mkEq ⟨l, 0, 1⟩ (.const 1)).den ρ' = decide (sOf (a.den ρ) = sOf (b.den ρ)) := by
            rw [e1.1]
            simp only [IV.const, Lin.den_const, el, h2]
            by_cases hq : sOf (a.den ρ) = sOf (b.den ρ) <;> simp [hq]
          simp only [Op.eqFields, ne_eq, hn, not_false_eq_true, if_true, Sem.run_bind, px, py, Result.andThen_ok, run_equalIn_string w d f.type _ _ hu, BE.den_mkAnd, e2, bA_toList]
          by_cases hq : sOf (a.den ρ) = sOf (b.den ρ)
          · simp [hq, r2 w d vx vy dx dy]
          · simp [hq]
        · exact Snd.fail
      | _ => unfold eqF; exact Snd.fail
    | _ => unfold eqF; exact Snd.fail
  | [], _ :: _, _, _, _, _, _, _, _ => by unfold eqF; exact Snd.fail
  | [], [], y :: _, _, _, _, _, _, _ => by cases y <;> (unfold eqF; exact Snd.fail)
  | _ :: _, [], _, _, _, _, _, _, _ => by unfold eqF; exact Snd.fail
  | _ :: _, x :: _, [], _, _, _, _, _, _ => by cases x <;> (unfold eqF; exact Snd.fail)
/-- Cells, and the value that they are. -/
def ValOf (P : Program) (t : TypeId) (l : List Value) (v : Value) : Prop := (isAggB P t = some true ∧ v = .agg l.toArray) ∨ (isAggB P t = some false ∧ l = [v])
theorem part_val {t : TypeId} {xs : Array Value} {o s : Nat} (hs : szB P t = some s) {v : Value} (h : ValOf P t ((xs.toList.drop o).take s) v) (w : World) : (part t xs o).run P w = .ok v w := by
  obtain ⟨l⟩ := xs
  rcases h with ⟨h1, rfl⟩ | ⟨h1, h2⟩
  · simp [part, run_isAggB h1, run_szB hs, List.take_drop]
  · have h3 : (⟨l⟩ : Array Value)[o]? = some v := by
      have h4 := congrArg List.head? h2
      rw [← Array.getElem?_toList]
      cases s with
      | zero => simp at h2
      | succ s => simpa [List.head?_take, List.head?_drop] using h4
    simp [part, run_isAggB h1, h3]
theorem eqGF_snd {nb : Nat} {m : Nat → Nat} {g : TypeId → List A → List A → M BE} {D : Nat}
    (hg : ∀ (t : TypeId) (x y : List A) (n : Nat) (ρ : Env), (∀ a ∈ x, A.ok n nb ρ a) → (∀ a ∈ y, A.ok n nb ρ a) → Snd S L (g t x y) n ρ fun ρ' n' b => b.sc n' ∧ ∃ vx vy, ValOf P t (x.map (A.den ρ m)) vx ∧ ValOf P t (y.map (A.den ρ m)) vy ∧ ∀ w, (Op.equalIn D t vx vy).run P w = .ok (b.den ρ') w) :
    ∀ (fs : List Field) (x y : List A) (o n : Nat) (ρ : Env), (∀ a ∈ x, A.ok n nb ρ a) → (∀ a ∈ y, A.ok n nb ρ a) →
    Snd S L (eqGF P g o fs x y) n ρ fun ρ' n' b => b.sc n' ∧ ∀ (w : World) (xs ys : Array Value), xs.toList.drop o = x.map (A.den ρ m) → ys.toList.drop o = y.map (A.den ρ m) → (Op.eqFields D xs ys fs).run P w = .ok (b.den ρ') w
  | [], x, y, o, n, ρ, _, _ => Snd.pure ⟨trivial, fun w xs ys _ _ => by simp [Op.eqFields, BE.den]⟩
  | f :: fs, x, y, o, n, ρ, hx, hy => by
    unfold eqGF
    cases hs : szB P f.type with
    | none => exact Snd.fail
    | some s =>
      simp only
      refine snd_guard fun hc => ?_
      simp only [Bool.and_eq_true, bne_iff_ne, ne_eq] at hc
      obtain ⟨hn, ho⟩ := hc
      have ho := Nat.eq_of_beq_eq_true ho
      refine (hg f.type (x.take s) (y.take s) n ρ (fun a ha => hx a (List.mem_of_mem_take ha)) (fun a ha => hy a (List.mem_of_mem_take ha))).bind fun ρ1 n1 b hn1 ha1 ⟨b1, vx, vy, b2, b3, b4⟩ => ?_
      refine (eqGF_snd hg fs (x.drop s) (y.drop s) (o + s) n1 ρ1 (fun a ha => (hx a (List.mem_of_mem_drop ha)).ext ha1 hn1 (Nat.le_refl _)) (fun a ha => (hy a (List.mem_of_mem_drop ha)).ext ha1 hn1 (Nat.le_refl _))).bind fun ρ2 n2 r hn2 ha2 ⟨r1, r2⟩ => Snd.pure ⟨BE.sc_mkAnd (b1.mono hn2) r1, fun w xs ys hxs hys => ?_⟩
      have px : (part f.type xs f.offset).run P w = .ok vx w := part_val hs (by rw [ho, hxs, ← List.map_take]; exact b2) w
      have py : (part f.type ys f.offset).run P w = .ok vy w := part_val hs (by rw [ho, hys, ← List.map_take]; exact b3) w
      have dx : xs.toList.drop (o + s) = (x.drop s).map (A.den ρ1 m) := by
        rw [← List.drop_drop, hxs, ← List.map_drop]
        exact (map_den_ext (fun a ha => hx a (List.mem_of_mem_drop ha)) ha1 (fun _ _ => rfl)).symm
      have dy : ys.toList.drop (o + s) = (y.drop s).map (A.den ρ1 m) := by
        rw [← List.drop_drop, hys, ← List.map_drop]
        exact (map_den_ext (fun a ha => hy a (List.mem_of_mem_drop ha)) ha1 (fun _ _ => rfl)).symm
      have eb : b.den ρ2 = b.den ρ1 := BE.den_agree ha2 b1
      simp only [Op.eqFields, ne_eq, hn, not_false_eq_true, if_true, Sem.run_bind, px, py, Result.andThen_ok, b4 w, BE.den_mkAnd, eb]
      cases hq : b.den ρ1 with
      | true => simp [r2 w xs ys dx dy]
      | false => simp
theorem eqG_snd {nb : Nat} {m : Nat → Nat} : ∀ (d : Nat) (t : TypeId) (x y : List A) (n : Nat) (ρ : Env), (∀ a ∈ x, A.ok n nb ρ a) → (∀ a ∈ y, A.ok n nb ρ a) → ∀ D, d ≤ D →
    Snd S L (eqG P d t x y) n ρ fun ρ' n' b => b.sc n' ∧ ∃ vx vy, ValOf P t (x.map (A.den ρ m)) vx ∧ ValOf P t (y.map (A.den ρ m)) vy ∧ ∀ w, (Op.equalIn D t vx vy).run P w = .ok (b.den ρ') w
  | 0, t, x, y, n, ρ, _, _, _, _ => Snd.fail
  | d + 1, t, x, y, n, ρ, hx, hy, D, hD => by
    obtain ⟨E, rfl⟩ : ∃ E, D = E + 1 := ⟨D - 1, by omega⟩
    unfold eqG
    split
    · rename_i k hu
      split
      · rename_i k1 a k2 b
        refine snd_guard fun hk => ?_
        have hk : k1 = k2 := by simpa using hk
        subst hk
        have oa : a.ok n ρ := hx (.int k1 a) (by simp)
        have ob : b.ok n ρ := hy (.int k1 b) (by simp)
        have e1 := BE.den_mkEq oa ob
        have hag : isAggB P t = some false := by simp [isAggB, hu]
        refine Snd.pure ⟨e1.2, _, _, .inr ⟨hag, rfl⟩, .inr ⟨hag, rfl⟩, fun w => ?_⟩
        simp only [A.den]
        rw [run_equalIn_int w E t k1 k _ _ hu, e1.1]
        rfl
      · exact Snd.fail
    · rename_i hu
      split
      · rename_i a b
        have b1 := bit01 (sOf (a.den ρ) = sOf (b.den ρ))
        have hag : isAggB P t = some false := by simp [isAggB, hu]
        refine (fnM_snd (op := 4) (args := [a, b]) b1.1 b1.2).bind fun ρ1 n1 l hn1 hag1 ⟨h1, h2⟩ => Snd.pure ?_
        have h2 : l.den ρ1 = if sOf (a.den ρ) = sOf (b.den ρ) then 1 else 0 := h2
        have ol : (⟨l, 0, 1⟩ : IV).ok n1 ρ1 := ⟨h1, by simp only [h2]; exact b1.1, by simp only [h2]; exact b1.2⟩
        have e1 := BE.den_mkEq (n := n1) (ρ := ρ1) (a := ⟨l, 0, 1⟩) (b := .const 1) ol (IV.const_ok _ _ _)
        refine ⟨e1.2, _, _, .inr ⟨hag, rfl⟩, .inr ⟨hag, rfl⟩, fun w => ?_⟩
        simp only [A.den]
        rw [run_equalIn_string w E t _ _ hu, e1.1, bA_toList, bA_toList]
        simp only [IV.const, Lin.den_const, h2]
        by_cases hq : sOf (a.den ρ) = sOf (b.den ρ)
        · simp [hq]
        · simp [hq]
      · exact Snd.fail
    · rename_i hu
      split
      · rename_i a b
        have hag : isAggB P t = some false := by simp [isAggB, hu]
        have oa : a.sc n := hx (.bool a) (by simp)
        have ob : b.sc n := hy (.bool b) (by simp)
        refine Snd.pure ⟨BE.sc_mkIff oa ob, _, _, .inr ⟨hag, rfl⟩, .inr ⟨hag, rfl⟩, fun w => ?_⟩
        simp only [A.den]
        rw [run_equalIn_bool w E t _ _ hu, BE.den_mkIff]
      · exact Snd.fail
    · rename_i fs hu
      refine snd_guard fun hg => ?_
      have hg : P.stoodInHeld t = false := by simpa using hg
      have hag : isAggB P t = some true := by simp [isAggB, hu]
      refine (eqGF_snd (m := m) (D := E) (fun t x y n ρ h1 h2 => eqG_snd d t x y n ρ h1 h2 E (by omega)) fs.toList x y 0 n ρ hx hy).mono fun ρ' n' b _ _ ⟨h1, h2⟩ => ⟨h1, _, _, .inl ⟨hag, rfl⟩, .inl ⟨hag, rfl⟩, fun w => ?_⟩
      have hf : P.fieldsOf t = fs := by simp [Program.fieldsOf, hu]
      rw [run_equalIn_struct w E t _ _ (by rw [hf]; exact hu) hg, hf]
      exact h2 w _ _ (by simp) (by simp)
    · exact Snd.fail
theorem eqS_snd {nb : Nat} {m : Nat → Nat} {t : TypeId} {x y : List A} (hx : ∀ a ∈ x, A.ok n nb ρ a) (hy : ∀ a ∈ y, A.ok n nb ρ a) :
    Snd S L (eqS P t x y) n ρ fun ρ' n' b => b.sc n' ∧ P.eqGuardType P.depth t = false ∧ ∀ w, (Op.equalIn 10000 t (.agg (x.map (A.den ρ m)).toArray) (.agg (y.map (A.den ρ m)).toArray)).run P w = .ok (b.den ρ') w := by
  unfold eqS
  split
  · rename_i fs hu
    have hagg : isAggB P t = some true := by simp [isAggB, hu]
    have deep : P.eqGuardType P.depth t = false → Snd S L (eqG P 8 t x y) n ρ fun ρ' n' b => b.sc n' ∧ P.eqGuardType P.depth t = false ∧ ∀ w, (Op.equalIn 10000 t (.agg (x.map (A.den ρ m)).toArray) (.agg (y.map (A.den ρ m)).toArray)).run P w = .ok (b.den ρ') w := fun hg =>
      (eqG_snd (m := m) 8 t x y n ρ hx hy 10000 (by decide)).mono fun ρ' n' b _ _ ⟨h1, vx, vy, h2, h3, h4⟩ => ⟨h1, hg, fun w => by
        rcases h2 with ⟨_, rfl⟩ | ⟨h2, _⟩
        · rcases h3 with ⟨_, rfl⟩ | ⟨h3, _⟩
          · exact h4 w
          · rw [hagg] at h3; cases h3
        · rw [hagg] at h2; cases h2⟩
    cases hg : (fldOk P 0 fs.toList && !P.stoodInHeld t && !P.eqGuardType P.depth t) with
    | true =>
      simp only [cond_true]
      simp only [Bool.and_eq_true, Bool.not_eq_true'] at hg
      generalize (fs.toList.all fun f => match P.underlying f.type with | some (.int _) => true | some .string => true | _ => false) = flat
      cases flat with
      | true =>
        simp only [cond_true]
        refine (eqF_snd (nb := nb) (m := m) fs.toList x y 0 n ρ hg.1.1 hx hy).mono fun ρ' n' b _ _ ⟨h1, h2⟩ => ⟨h1, hg.2, fun w => ?_⟩
        have hf : P.fieldsOf t = fs := by simp [Program.fieldsOf, hu]
        rw [run_equalIn_struct w 9999 t _ _ (by rw [hf]; exact hu) hg.1.2, hf]
        exact h2 w 9998 _ _ (by simp) (by simp)
      | false => exact deep hg.2
    | false =>
      simp only [cond_false]
      refine snd_guard fun hg2 => deep (by simpa using hg2)
  · exact Snd.fail
theorem qop0_snd {cal : Cal} (hcal : CalOk S P gl w0 cal) (hb : BlOk n bl.length ρ bl) (hg : GOk gl w0) (hex : ∃ w, Mem w0 ρ m bl w) (ht : TRel n bl.length ρ m tm a.tmps) (o : Oper) :
    Snd S L (qop0 P cal gl bl tm o) n ρ (QR w0 m bl n ρ P o a) := by
  unfold qop0
  split
  case h_1 x h =>
    exact Snd.pure ⟨(opV_spec ht x).1, _, (opV_spec ht x).2, fun w _ => .inl (by simp [execOp, h])⟩
  case h_2 x h =>
    exact Snd.pure ⟨(opV_spec ht x).1, _, (opV_spec ht x).2, fun w _ => .inl (by simp [execOp, h])⟩
  case h_3 t x h =>
    have hx := opV_spec ht x
    have he : execOp a.eval o = (do pure (Next.value (← Instr.loadAt t (a.eval x)))) := by simp only [execOp, h]
    split
    · rename_i b off ix hv
      rw [hv] at hx
      have hxr : a.eval x = (A.pix b off ix).den ρ m := hx.2
      rw [hxr] at he
      exact (selQ_snd hb t b off hx.1.2.1).mono fun _ _ _ _ _ hq => QR.of_run he hq
    · rename_i g off ix hv
      rw [hv] at hx
      have hxr : a.eval x = (A.gpx g off ix).den ρ m := hx.2
      rw [hxr] at he
      exact (selG_snd hg t g off hx.1.1).mono fun _ _ _ _ _ hq => QR.of_run he hq
    · rename_i p _ _ hv
      rw [hv] at hx
      have hxr : a.eval x = p.den ρ m := hx.2
      rw [hxr] at he
      exact (loadQ_snd hb hg hex t p).mono fun _ _ _ _ _ hq => QR.of_run he hq
    · exact Snd.fail
  case h_4 x h =>
    have hx := opV_spec ht x
    unfold nilQ
    split <;> first
      | exact Snd.fail
      | (rename_i hv
         rw [hv] at hx
         refine Snd.pure ⟨hx.1, _, rfl, fun w _ => .inl ?_⟩
         have hxr := hx.2
         simp only [V.rel, W.den, A.den] at hxr
         simp [execOp, h, hxr, W.den, A.den])
  case h_5 c x y h =>
    have hc := opV_spec ht c
    split
    · rename_i v hv
      rw [hv] at hc
      have e1 : a.eval c = .bool v := hc.2
      cases v with
      | true => exact Snd.pure ⟨(opV_spec ht x).1, _, (opV_spec ht x).2, fun w _ => .inl (by simp [execOp, h, e1, asBool])⟩
      | false => exact Snd.pure ⟨(opV_spec ht y).1, _, (opV_spec ht y).2, fun w _ => .inl (by simp [execOp, h, e1, asBool])⟩
    · exact Snd.fail
  case h_6 op t x y t' h =>
    have hx := opV_spec ht x
    have hy := opV_spec ht y
    unfold binQ
    split
    · rename_i k p k' q hv1 hv2
      rw [hv1] at hx; rw [hv2] at hy
      have e1 : a.eval x = .int k (p.l.den ρ) := hx.2
      have e2 : a.eval y = .int k' (q.l.den ρ) := hy.2
      refine (binI_snd (nb := bl.length) (m := m) P t hx.1 hy.1).bind fun ρ1 n1 r _ _ ⟨h1, h2⟩ => Snd.pure ⟨h1, _, rfl, fun w _ => .inl ?_⟩
      have hgd : (eqGuard op t x y (.int k (p.l.den ρ)) (.int k' (q.l.den ρ))).run P w = .ok () w := by cases op <;> simp [eqGuard]
      simp only [execOp, h, e1, e2]
      simp [hgd, h2, W.den]
    · rename_i p q hv1 hv2
      rw [hv1] at hx; rw [hv2] at hy
      have e1 : a.eval x = .agg (p.map (A.den ρ m)).toArray := hx.2
      have e2 : a.eval y = .agg (q.map (A.den ρ m)).toArray := hy.2
      split
      · rename_i b heq
        obtain ⟨s1, g1, r1⟩ := eqQ_spec (m := m) heq hx.1 hy.1
        refine Snd.pure ⟨s1, _, rfl, fun w _ => .inl ?_⟩
        simp only [execOp, h, e1, e2]
        simp [run_eqGuard_agg w .eql t x y _ _ g1, run_eql_struct, r1, W.den, A.den]
      · rename_i b heq
        obtain ⟨s1, g1, r1⟩ := eqQ_spec (m := m) heq hx.1 hy.1
        refine Snd.pure ⟨BE.sc_mkNot s1, _, rfl, fun w _ => .inl ?_⟩
        simp only [execOp, h, e1, e2]
        simp [run_eqGuard_agg w .neq t x y _ _ g1, run_neq_struct, r1, W.den, A.den, BE.den_mkNot]
      · rename_i heq
        refine (eqS_snd (m := m) (t := t) hx.1 hy.1).bind fun ρ' n' r _ _ ⟨r1, g1, r2⟩ => Snd.pure ⟨r1, _, rfl, fun w _ => .inl ?_⟩
        simp only [execOp, h, e1, e2]
        simp [run_eqGuard_agg w .eql t x y _ _ g1, run_eql_struct, r2, W.den, A.den]
      · rename_i heq
        refine (eqS_snd (m := m) (t := t) hx.1 hy.1).bind fun ρ' n' r _ _ ⟨r1, g1, r2⟩ => Snd.pure ⟨BE.sc_mkNot r1, _, rfl, fun w _ => .inl ?_⟩
        simp only [execOp, h, e1, e2]
        simp [run_eqGuard_agg w .neq t x y _ _ g1, run_neq_struct, r2, W.den, A.den, BE.den_mkNot]
      · exact Snd.fail
    · rename_i p q hv1 hv2
      rw [hv1] at hx; rw [hv2] at hy
      have e1 : a.eval x = .string (bA (sOf (p.den ρ))) := hx.2
      have e2 : a.eval y = .string (bA (sOf (q.den ρ))) := hy.2
      have he : execOp a.eval o = (do pure (Next.value (← (do eqGuard op t x y (.string (bA (sOf (p.den ρ)))) (.string (bA (sOf (q.den ρ)))); binOp op t (.string (bA (sOf (p.den ρ)))) (.string (bA (sOf (q.den ρ)))) : Sem Value)))) := by simp only [execOp, h, e1, e2]
      exact (strBin_snd (op := op) (t := t) (x := x) (y := y) (w0 := w0) (m := m) hx.1 hy.1).mono fun _ _ _ _ _ hq => QR.of_run he hq
    · rename_i p q hv1 hv2
      rw [hv1] at hx; rw [hv2] at hy
      have e1 : a.eval x = .bool (p.den ρ) := hx.2
      have e2 : a.eval y = .bool (q.den ρ) := hy.2
      have hgd : (eqGuard op t x y (.bool (p.den ρ)) (.bool (q.den ρ))).run P = fun w => .ok () w := by funext w; cases op <;> simp [eqGuard]
      split
      · rename_i hu
        refine Snd.pure ⟨BE.sc_mkIff hx.1 hy.1, _, rfl, fun w _ => .inl ?_⟩
        simp only [execOp, h, e1, e2]
        simp [hgd, run_eql_bool w t _ _ hu, W.den, A.den, BE.den_mkIff]
      · rename_i hu
        refine Snd.pure ⟨BE.sc_mkNot (BE.sc_mkIff hx.1 hy.1), _, rfl, fun w _ => .inl ?_⟩
        simp only [execOp, h, e1, e2]
        simp [hgd, run_neq_bool w t _ _ hu, W.den, A.den, BE.den_mkIff, BE.den_mkNot]
      · exact Snd.fail
    · exact Snd.fail
  case h_7 op t x h =>
    have hx := opV_spec ht x
    unfold unQ
    split
    · rename_i b hv
      rw [hv] at hx
      have e1 : a.eval x = .bool (b.den ρ) := hx.2
      refine Snd.pure ⟨BE.sc_mkNot hx.1, _, rfl, fun w _ => .inl ?_⟩
      simp [execOp, h, e1, Op.unary, W.den, A.den, BE.den_mkNot]
    · rename_i k p hv
      rw [hv] at hx
      have e1 : a.eval x = .int k (p.l.den ρ) := hx.2
      refine snd_guard fun hc => ?_
      simp only [Bool.and_eq_true, Bool.not_eq_true', decide_eq_true_eq] at hc
      have hp := hx.1
      have bp := IV.ok.agree (n' := n) hp (agree.refl n ρ) (Nat.le_refl _)
      have b2 := bp.2
      have e2 : ((Lin.const (two k - 1)).sub p.l).den ρ = two k - 1 - p.l.den ρ := by rw [Lin.den_sub, Lin.den_const]
      refine Snd.pure ⟨⟨Lin.sc_sub (Lin.sc_const _ _) bp.1, by simp only [e2]; omega, by simp only [e2]; omega⟩, _, rfl, fun w _ => .inl ?_⟩
      have key : k.wrap (BitVec.ofInt k.bits (if k.signed = true then -1 else k.max) ^^^ BitVec.ofInt k.bits (p.l.den ρ)).toNat = two k - 1 - p.l.den ρ := by
        have hk := hc.1.1
        obtain ⟨X, hX⟩ := Int.eq_ofNat_of_zero_le (show 0 ≤ p.l.den ρ by omega)
        have hlt : X < 2 ^ k.bits := by
          have : (X : Int) < 2 ^ k.bits := by rw [← two_eq, ← hX]; omega
          exact_mod_cast this
        have hall : (BitVec.ofInt k.bits (if k.signed = true then -1 else k.max)) = BitVec.allOnes k.bits := by
          cases k <;> simp [IntKind.signed] at hk <;> rfl
        rw [hall, BitVec.allOnes_xor, BitVec.toNat_not, hX, BitVec.toNat_ofInt]
        have e3 : ((X : Int) % ((2 ^ k.bits : Nat) : Int)).toNat = X := by
          rw [Int.emod_eq_of_lt (by omega) (by exact_mod_cast hlt)]; rfl
        rw [e3, wrap_eq]
        have hh : half k = 0 := by simp [half, hk]
        have h2 : two k = ((2 ^ k.bits : Nat) : Int) := by rw [two_eq]; simp
        rw [hh, h2, Int.add_zero, Int.sub_zero, Int.emod_eq_of_lt (by omega) (by omega)]
        omega
      simp only [execOp, h, e1, Op.unary, Op.intBits, W.den, A.den, e2]
      simp at key
      simp [key]
    · rename_i k p hv
      rw [hv] at hx
      have e1 : a.eval x = .int k (p.l.den ρ) := hx.2
      have b2 := IV.ok.agree (n' := n) hx.1 (agree.refl n ρ) (Nat.le_refl _)
      have b3 := b2.2
      have e2 : (p.l.smul (-1)).den ρ = -p.l.den ρ := by rw [Lin.den_smul]; omega
      refine (wrapM_snd (k := k) (x := ⟨p.l.smul (-1), -p.hi, -p.lo⟩) ⟨Lin.sc_smul b2.1, by simp only [e2]; omega, by simp only [e2]; omega⟩).bind fun ρ1 n1 r _ _ ⟨h1, h2⟩ => Snd.pure ⟨h1, _, rfl, fun w _ => .inl ?_⟩
      simp only [e2] at h2
      simp [execOp, h, e1, Op.unary, Op.intArith, W.den, A.den, h2]
    · exact Snd.fail
  case h_8 s d x h =>
    have hx := opV_spec ht x
    unfold convQ
    split
    · rename_i k' p hu hk hv
      rw [hv] at hx
      have e1 : a.eval x = .int k' (p.l.den ρ) := hx.2
      split
      · rename_i c hc
        refine snd_guard fun hsz => ?_
        have hl : (Utf8.encode c).data.toList.length ≤ mxL := by
          have := Nat.le_of_ble_eq_true hsz
          have h2 : (Utf8.encode c).data.toList.length = (Utf8.encode c).size := by simp
          unfold mxL; omega
        refine Snd.pure ⟨⟨Lin.sc_const _ _, by rw [Lin.den_const]; exact cOf_nonneg _, by rw [Lin.den_const]; exact HB_c hl⟩, _, rfl, fun w _ => .inl ?_⟩
        simp [execOp, h, e1, convert, run_underlying hu, run_underlying hk, Conv.intToString, W.den, A.den, Lin.den_const, sOf_cOf, bA, Lin.den_isC hc]
      · exact Snd.fail
    · split
      rotate_left
      · exact Snd.fail
      rename_i k k' p hu hk hv
      rw [hv] at hx
      have e1 : a.eval x = .int k' (p.l.den ρ) := hx.2
      refine (wrapM_snd (k := k) hx.1).bind fun ρ1 n1 r _ _ ⟨h1, h2⟩ => Snd.pure ⟨h1, _, rfl, fun w _ => .inl ?_⟩
      simp [execOp, h, e1, convert, run_underlying hu, run_underlying (kindOf_spec hk), Conv.intToInt, W.den, A.den, h2]
  case h_9 t x ix h =>
    have hx := opV_spec ht x
    have hi := opV_spec ht ix
    split
    · rename_i k i hv
      rw [hv] at hi
      have e1 : a.eval ix = .int k (i.l.den ρ) := hi.2
      have he : execOp a.eval o = (do pure (Next.value (← Instr.indexAt t (a.eval x) (.int k (i.l.den ρ))))) := by simp only [execOp, h, e1]
      exact (idxQ_snd hx.1 hx.2 hi.1).mono fun _ _ _ _ _ hq => QR.of_run he hq
    · exact Snd.fail
  case h_10 t x ix h =>
    have hx := opV_spec ht x
    have hi := opV_spec ht ix
    split
    · rename_i s hv
      rw [hv] at hx
      have e1 : a.eval x = .string (bA (sOf (s.den ρ))) := hx.2
      split
      · rename_i i hu hci
        obtain ⟨k, hk, _⟩ := intL_spec (m := m) (bl := bl) hci hi.2 hi.1
        have he : execOp a.eval o = (do pure (Next.value (← Instr.index t (.string (bA (sOf (s.den ρ)))) (.int k (i.den ρ))))) := by simp only [execOp, h, e1, hk]
        exact (strIdx_snd (w0 := w0) (m := m) hu hx.1).mono fun _ _ _ _ _ hq => QR.of_run he hq
      · exact Snd.fail
    split
    · rename_i l i len e hv hci harr
      rw [hv] at hx
      have e1 : a.eval x = .agg (l.map (A.den ρ m)).toArray := hx.2
      have e2 : ∃ k, a.eval ix = .int k i := by
        unfold constI at hci
        split at hci
        · rename_i k p hv2
          rw [hv2] at hi
          have : a.eval ix = .int k (p.l.den ρ) := hi.2
          exact ⟨k, by rw [this, Lin.den_isC hci]⟩
        · cases hci
      obtain ⟨k, e2⟩ := e2
      split
      · rename_i s hs
        refine snd_guard fun hc => ?_
        simp only [Bool.and_eq_true, decide_eq_true_eq] at hc
        refine (partQ_snd (w0 := w0) (m := m) (bl := bl) hx.1).mono fun ρ1 n1 v _ _ ⟨q1, val, q2, q3⟩ => ⟨q1, val, q2, fun w hw => .inl ?_⟩
        have := q3 w hw
        simp [execOp, h, e1, e2, Instr.index, asIntOf, run_underlying (arrOf_spec harr), hc, run_szB hs, this]
      · exact Snd.fail
    · exact Snd.fail
  case h_11 s x f h =>
    have hx := opV_spec ht x
    split
    · rename_i b off fd hv hf
      rw [hv] at hx
      have e1 : a.eval x = .pointer (some ⟨m b, off, none⟩) := hx.2
      obtain ⟨fs, hu, hfd⟩ := fieldOf_spec hf
      split
      · rename_i k hs
        refine Snd.pure ⟨hx.1, _, rfl, fun w _ => .inl ?_⟩
        simp [execOp, h, e1, Instr.fieldAt, run_underlying hu, hfd, Instr.sureAddr, fieldPlace, run_szB hs, addr_add, W.den, A.den]
      · exact Snd.fail
    · exact Snd.fail
  case h_12 s x f h =>
    have hx := opV_spec ht x
    split
    · rename_i l fd hv hf
      rw [hv] at hx
      have e1 : a.eval x = .agg (l.map (A.den ρ m)).toArray := hx.2
      obtain ⟨fs, hu, hfd⟩ := fieldOf_spec hf
      refine (partQ_snd (w0 := w0) (m := m) (bl := bl) hx.1).mono fun ρ1 n1 v _ _ ⟨q1, val, q2, q3⟩ => ⟨q1, val, q2, fun w hw => .inl ?_⟩
      have := q3 w hw
      simp [execOp, h, e1, Instr.field, asAgg, run_underlying hu, hfd, this]
    · exact Snd.fail
  case h_13 x i h =>
    have hx := opV_spec ht x
    split
    · rename_i l hv
      rw [hv] at hx
      have e1 : a.eval x = .tuple (l.map (W.den ρ m)).toArray := hx.2
      split
      · rename_i u hu
        refine Snd.pure ⟨hx.1 u (List.mem_of_getElem? hu), _, rfl, fun w _ => .inl ?_⟩
        simp [execOp, h, e1, Instr.extract, hu]
      · exact Snd.fail
    · exact Snd.fail
  case h_14 t x lo hi h =>
    have hx := opV_spec ht x
    split
    · rename_i s hv hu
      rw [hv] at hx
      have e1 : a.eval x = .string (bA (sOf (s.den ρ))) := hx.2
      have he : execOp a.eval o = (do pure (Next.value (← Instr.sliceAt t (.string (bA (sOf (s.den ρ)))) (lo.map a.eval) (hi.map a.eval) none))) := by simp only [execOp, h, e1]; rfl
      exact (strSl_snd (w0 := w0) (m := m) hu hx.1 ht).mono fun _ _ _ _ _ hq => QR.of_run he hq
    have key : ∀ (y : Option Operand) (c : Option Int), optC tm y = some c → ∃ f : Int → Value, (∀ c, ∃ k, f c = .int k c) ∧ y.map a.eval = c.map f := by
      intro y c hy
      unfold optC at hy
      cases y with
      | none => simp at hy; subst hy; exact ⟨fun c => .int .i64 c, fun c => ⟨_, rfl⟩, rfl⟩
      | some y =>
        simp only at hy
        have hi := opV_spec ht y
        unfold constI at hy
        split at hy
        · rename_i c' hq
          split at hq
          · rename_i k p hv2
            simp only [Option.some.injEq] at hy; subst hy
            rw [hv2] at hi
            have : a.eval y = .int k (p.l.den ρ) := hi.2
            exact ⟨fun c => .int k c, fun c => ⟨_, rfl⟩, by simp [this, Lin.den_isC hq]⟩
          · cases hq
        · cases hy
    split
    · rename_i l hh h1 h2
      obtain ⟨fl, fl1, fl2⟩ := key lo l h1
      obtain ⟨fh, fh1, fh2⟩ := key hi hh h2
      unfold slQ
      split
      · rename_i b off nn e hv harr
        rw [hv] at hx
        have e1 : a.eval x = .pointer (some ⟨m b, off, none⟩) := hx.2
        split
        · rename_i s hs
          refine snd_guard fun hc => ?_
          simp only [Bool.and_eq_true, decide_eq_true_eq] at hc
          refine Snd.pure ⟨hx.1, _, rfl, fun w _ => .inl ?_⟩
          have hb1 : (Instr.sliceBounds false nn nn (lo.map a.eval) (hi.map a.eval) none).run P w = .ok ((l.getD 0).toNat, (hh.getD nn).toNat, nn) w := by
            rw [fl2, fh2]
            have c1 : ∀ (k : IntKind) (i : Int) (y : Nat) (cd : BoundsCode), 0 ≤ i → i ≤ y → (Instr.sliceBound (.int k i) y cd).run P w = .ok i.toNat w := fun k i y cd p1 p2 => by
              simp [Instr.sliceBound, asIntOf, p1, p2]
            cases l with
            | none =>
              cases hh with
              | none => simp [Instr.sliceBounds]
              | some h' =>
                obtain ⟨k', hk'⟩ := fh1 h'
                simp only [Option.getD_none, Option.getD_some] at hc
                simp [Instr.sliceBounds, hk', c1 k' h' nn _ (by omega) (by omega)]
            | some l' =>
              obtain ⟨k1, hk1⟩ := fl1 l'
              cases hh with
              | none =>
                simp only [Option.getD_none, Option.getD_some] at hc
                simp [Instr.sliceBounds, hk1, c1 k1 l' nn _ (by omega) (by omega)]
              | some h' =>
                obtain ⟨k', hk'⟩ := fh1 h'
                simp only [Option.getD_some] at hc
                simp [Instr.sliceBounds, hk', hk1, c1 k' h' nn _ (by omega) (by omega), c1 k1 l' h'.toNat _ (by omega) (by omega)]
          simp only [execOp, h, e1, Option.map_none, Instr.sliceAt]
          simp [run_underlying (arrOf_spec harr), Instr.sureAddr, hb1, run_szB hs, addr_add, W.den, A.den]
          intro hq
          have h3 := hc.2
          omega
        · exact Snd.fail
      · rename_i b off len cap hv harr
        rw [hv] at hx
        have e1 : a.eval x = .slice (some ⟨m b, off, none⟩) len cap := hx.2
        split
        · rename_i e hsl
          split
          · rename_i s hs
            refine snd_guard fun hc => ?_
            simp only [Bool.and_eq_true, decide_eq_true_eq] at hc
            refine Snd.pure ⟨hx.1, _, rfl, fun w _ => .inl ?_⟩
            have hb1 : (Instr.sliceBounds true len cap (lo.map a.eval) (hi.map a.eval) none).run P w = .ok ((l.getD 0).toNat, (hh.getD len).toNat, cap) w := by
              rw [fl2, fh2]
              have c1 : ∀ (k : IntKind) (i : Int) (y : Nat) (cd : BoundsCode), 0 ≤ i → i ≤ y → (Instr.sliceBound (.int k i) y cd).run P w = .ok i.toNat w := fun k i y cd p1 p2 => by
                simp [Instr.sliceBound, asIntOf, p1, p2]
              cases l with
              | none =>
                cases hh with
                | none => simp [Instr.sliceBounds]
                | some h' =>
                  obtain ⟨k', hk'⟩ := fh1 h'
                  simp only [Option.getD_none, Option.getD_some] at hc
                  simp [Instr.sliceBounds, hk', c1 k' h' cap _ (by omega) (by omega)]
              | some l' =>
                obtain ⟨k1, hk1⟩ := fl1 l'
                cases hh with
                | none =>
                  simp only [Option.getD_none, Option.getD_some] at hc
                  simp [Instr.sliceBounds, hk1, c1 k1 l' len _ (by omega) (by omega)]
                | some h' =>
                  obtain ⟨k', hk'⟩ := fh1 h'
                  simp only [Option.getD_some] at hc
                  simp [Instr.sliceBounds, hk', hk1, c1 k' h' cap _ (by omega) (by omega), c1 k1 l' h'.toNat _ (by omega) (by omega)]
            simp only [execOp, h, e1, Option.map_none, Instr.sliceAt]
            simp [run_underlying (slcOf_spec hsl), Instr.slice, hb1, run_szB hs, addr_add, W.den, A.den]
            intro hq
            have h3 := hc.2
            omega
          · exact Snd.fail
        · exact Snd.fail
      · exact Snd.fail
    · exact Snd.fail
  case h_15 c h =>
    split
    · rename_i f hc
      split
      · rename_i g hgf
        have hargs : ∀ v ∈ c.args.toList.map (opV tm), V.ok n bl.length ρ v := fun v hv => by
          obtain ⟨x, _, rfl⟩ := List.mem_map.1 hv
          exact (opV_spec ht x).1
        refine (hcal f g hgf L n ρ m bl _ _ hb hex hargs (LRel_map (xs := c.args.toList) ht)).mono fun ρ1 n1 v _ _ ⟨q1, val, q2, q3⟩ => ⟨q1, val, q2, fun w hw => ?_⟩
        have he := run_callFunc_eval (a := a) hc o h
        have ha : (c.args.toList.map a.eval).toArray = c.args.map a.eval := by
          rw [← Array.toList_map]
        have q4 := q3 w hw
        rw [ha] at q4
        rcases q4 with q4 | ⟨q4, q5⟩
        · exact .inl (by rw [he]; exact q4)
        · exact .inr ⟨f, _, by rw [he]; exact q4, q5⟩
      · exact Snd.fail
    · rename_i hc
      split
      · rename_i x t hxs hts
        have hx := opV_spec ht x
        split
        · rename_i s hv hu
          rw [hv] at hx
          have e1 : a.eval x = .string (bA (sOf (s.den ρ))) := hx.2
          have a1 : c.args = #[x] := by rw [← Array.toArray_toList (xs := c.args), hxs]
          have a2 : c.argTypes = #[t] := by rw [← Array.toArray_toList (xs := c.argTypes), hts]
          have he : execOp a.eval o = (do pure (Next.value (← Builtin.len_ #[t] o.type #[.string (bA (sOf (s.den ρ)))]))) := by
            simp [execOp, h, resolve, hc, a1, a2, e1, invoke, builtin]
          exact (strLen_snd (w0 := w0) (m := m) hu hx.1).mono fun _ _ _ _ _ hq => QR.of_run he hq
        split
        · rename_i b off len cap e hv hs
          rw [hv] at hx
          have e1 : a.eval x = .slice (some ⟨m b, off, none⟩) len cap := hx.2
          refine Snd.pure ⟨IV.const_ok _ _ _, _, rfl, fun w _ => .inl ?_⟩
          have a1 : c.args = #[x] := by rw [← Array.toArray_toList (xs := c.args), hxs]
          have a2 : c.argTypes = #[t] := by rw [← Array.toArray_toList (xs := c.argTypes), hts]
          simp [execOp, h, resolve, hc, a1, a2, e1, invoke, builtin, Builtin.len_, run_underlying (slcOf_spec hs), goInt, W.den, A.den, IV.const, Lin.den_const]
        · rename_i b len lo e hv hs
          rw [hv] at hx
          obtain ⟨cp, _, e1⟩ := hx.2
          refine Snd.pure ⟨IV.const_ok _ _ _, _, rfl, fun w _ => .inl ?_⟩
          have a1 : c.args = #[x] := by rw [← Array.toArray_toList (xs := c.args), hxs]
          have a2 : c.argTypes = #[t] := by rw [← Array.toArray_toList (xs := c.argTypes), hts]
          simp [execOp, h, resolve, hc, a1, a2, e1, invoke, builtin, Builtin.len_, run_underlying (slcOf_spec hs), goInt, W.den, A.den, IV.const, Lin.den_const]
        · exact Snd.fail
      · exact Snd.fail
    · exact Snd.fail
  case h_16 f first caps h =>
    split
    · rename_i l hf hl
      obtain ⟨g1, g2⟩ := onesL_spec (m := m) hl (fun v hv => by obtain ⟨x, _, rfl⟩ := List.mem_map.1 hv; exact (opV_spec ht x).1) (LRel_map (xs := caps.toList) ht)
      have hf' : first = #[] := by rw [← Array.toArray_toList (xs := first), hf]
      have hc' : caps.map a.eval = (l.map (A.den ρ m)).toArray := by rw [← g2, ← Array.toList_map]
      refine Snd.pure ⟨g1, _, rfl, fun w _ => .inl ?_⟩
      simp only [execOp, h, hc', hf']
      simp [Instr.makeFunc]
    · exact Snd.fail
  case h_17 t parts h =>
    split
    · rename_i l hl
      obtain ⟨g1, g2⟩ := buildL_spec (n := n) (nb := bl.length) (ρ := ρ) (m := m) (vals := (parts.map fun (i, x) => (i, a.eval x)).toList) hl (by
        rw [Array.toList_map]
        generalize parts.toList = ps
        induction ps with
        | nil => exact trivial
        | cons p r ih => exact ⟨⟨rfl, opV_spec ht p.2⟩, ih⟩)
      refine Snd.pure ⟨g1, _, rfl, fun w _ => .inl ?_⟩
      simp only [execOp, h]
      simp [run_build w t _ _ g2, W.den]
    · exact Snd.fail
  case h_18 t x h =>
    have hx := opV_spec ht x
    split
    · rename_i b len lo k e hv ha
      rw [hv] at hx
      refine snd_guard fun hc => Snd.pure ⟨hx.1, _, rfl, fun w _ => .inl ?_⟩
      obtain ⟨c, hc1, hc2⟩ := hx.2
      have hle : ¬ len < k := by have := Nat.le_of_ble_eq_true hc; omega
      simp only [execOp, h]
      rw [hc2]
      simp [Instr.arrayAt, run_underlying (arrOf_spec ha), hle, W.den, A.den]
    · exact Snd.fail
  case h_19 => exact Snd.fail
end
end Go.Rx
