/- Quiet operations,one by one. -/
import Derived.Test.YtodhngllhbgndaaGreatDoorPaa
import Derived.Laws.Tables
import Derived.Laws.Strings2
import Derived.Laws.Concat
import Derived.Laws.Cover1
import Derived.Laws.Cover3
import Derived.Laws.BytesArg
set_option linter.unusedVariables false
set_option linter.unusedSimpArgs false
namespace Go.Rx
open M
abbrev Cal := FuncId -> Option (List Blk -> List V -> M V)
def QRes (P : Program) (o : Oper) (a : Act) (w : World) (val : Value) : Prop :=
 (execOp a.eval o).run P w = .ok (.value val) w ∨
 ∃ f args,(execOp a.eval o).run P w = .ok (.enter f args) w /\ Calls P f args w fun e w'' => e = .returned val /\ w.Extends w''
def FRes (P : Program) (f : FuncId) (args : Array Value) (w : World) (val : Value) : Prop :=
 (callFunc f args).run P w = .ok (.value val) w ∨
 ((callFunc f args).run P w = .ok (.enter f args) w /\ Calls P f args w fun e w'' => e = .returned val /\ w.Extends w'')
def LRel (ρ : Env) (m : Nat -> Nat) : List V -> List Value -> Prop
 | [],[] => True
 | v :: r,x :: s => v.rel ρ m x /\ LRel ρ m r s
 | _,_ => False
def CalOk (S : Nat -> List Int -> List Int -> Prop) (P : Program) (gl : Glo) (w0 : Base) (cal : Cal) : Prop :=
 ∀ f g,cal f = some g -> ∀ (L : V -> Env -> Prop) (n : Nat) (ρ : Env) (m : Nat -> Nat) (bl : List Blk) (vs : List V) (xs : List Value),BlOk n bl.length ρ bl -> (∃ w,Mem w0 ρ m bl w) -> (∀ v ∈ vs,v.ok n bl.length ρ) -> LRel ρ m vs xs ->
  Snd S L (g bl vs) n ρ fun ρ' n' v => v.ok n' bl.length ρ' /\ ∃ val,v.rel ρ' m val /\ ∀ w,Mem w0 ρ m bl w -> FRes P f xs.toArray w val
def fieldOf (P : Program) (s : TypeId) (f : Nat) : Option Field := match P.underlying s with | some (.struct fs) => fs[f]? | _ => none
def arrOf (P : Program) (t : TypeId) : Option (Nat × TypeId) := match P.underlying t with | some (.array n e) => some (n,e) | _ => none
def slcOf (P : Program) (t : TypeId) : Option TypeId := match P.underlying t with | some (.slice e) => some e | _ => none
def partQ (P : Program) (t : TypeId) (l : List A) (off : Nat) : M V :=
 match isAggB P t,szB P t with
 | some true,some k => pure (.w (.agg ((l.drop off).take k)))
 | some false,_ => match l[off]? with | some a => pure (.w (.one a)) | none => fail
 | _,_ => fail
def idxQ (P : Program) (t : TypeId) (x : V) (ix : IV) : M V :=
 match x with
 | .w (.one (.ptr b off)) => match arrOf P t with
  | some (len,e) => match szB P e with
   | some s => match ix.l.isC with
    | some i => cond (decide (0 <= i) && decide (i < len)) (pure (.w (.one (.ptr b (off + i.toNat * s))))) fail
    | none => cond (Nat.beq s 1 && decide (0 <= ix.lo) && decide (ix.hi < len)) (pure (.w (.one (.pix b off ix)))) fail
   | none => fail
  | none => fail
 | .w (.one (.gptr g off)) => match arrOf P t with
  | some (len,e) => match szB P e with
   | some s => match ix.l.isC with
    | some i => cond (decide (0 <= i) && decide (i < len)) (pure (.w (.one (.gptr g (off + i.toNat * s))))) fail
    | none => fail
   | none => fail
  | none => fail
 | .w (.one (.slc b off len _)) => match slcOf P t with
  | some e => match szB P e with
   | some s => match ix.l.isC with
    | some i => cond (decide (0 <= i) && decide (i < len)) (pure (.w (.one (.ptr b (off + i.toNat * s))))) fail
    | none => cond (Nat.beq s 1 && decide (0 <= ix.lo) && decide (ix.hi < len)) (pure (.w (.one (.pix b off ix)))) fail
   | none => fail
  | none => fail
 | .osl b len _ => match slcOf P t with
  | some e => match szB P e with
   | some s => match ix.l.isC with
    | some i => cond (decide (0 <= i) && decide (i < len)) (pure (.w (.one (.ptr b (i.toNat * s))))) fail
    | none => fail
   | none => fail
  | none => fail
 | _ => fail
def onesL : List V -> Option (List A)
 | [] => some []
 | .w (.one a) :: r => match onesL r with | some l => some (a :: l) | none => none
 | _ :: _ => none
def eqL : List A -> List A -> Option BE
 | [],[] => some (.lit true)
 | .int k x :: r,.int k' y :: r' => cond (decide (k = k')) (match eqL r r' with | some b => some (.mkAnd (.mkEq x y) b) | none => none) none
 | _,_ => none
def eqQ (P : Program) (t : TypeId) (x y : List A) : Option BE :=
 match arrOf P t with
 | some (len,e) => match kindOf P e,szB P e with
  | some _,some 1 => cond (Nat.beq x.length len && Nat.beq y.length len && !P.eqGuardType P.depth t) (eqL x y) none
  | _,_ => none
 | none => none
def fldOk (P : Program) : Nat -> List Field -> Bool
 | _,[] => true
 | i,f :: r => (f.name != "_") && Nat.beq f.offset i && fldOk P (i + 1) r
noncomputable def eqF (P : Program) : List Field -> List A -> List A -> M BE
 | [],[],[] => pure (.lit true)
 | f :: fs,.int k a :: xs,.int k' b :: ys => match kindOf P f.type with
  | some k2 => cond (decide (k = k')) (bind (eqF P fs xs ys) fun r => pure (.mkAnd (.mkEq a b) r)) fail
  | none => fail
 | f :: fs,.str a :: xs,.str b :: ys => match P.underlying f.type with
  | some .string => bind (fnM 4 [a,b] 0 1) fun l => bind (eqF P fs xs ys) fun r => pure (.mkAnd (.mkEq ⟨l,0,1⟩ (.const 1)) r)
  | _ => fail
 | _,_,_ => fail
noncomputable def eqGF (P : Program) (g : TypeId -> List A -> List A -> M BE) : Nat -> List Field -> List A -> List A -> M BE
 | _,[],_,_ => pure (.lit true)
 | o,f :: fs,x,y => match szB P f.type with
  | some s => cond ((f.name != "_") && Nat.beq f.offset o) (bind (g f.type (x.take s) (y.take s)) fun b => bind (eqGF P g (o + s) fs (x.drop s) (y.drop s)) fun r => pure (.mkAnd b r)) fail
  | none => fail
noncomputable def eqG (P : Program) : Nat -> TypeId -> List A -> List A -> M BE
 | 0,_,_,_ => fail
 | d + 1,t,x,y => match P.underlying t with
  | some (.int k) => match x,y with
   | [.int k1 a],[.int k2 b] => cond (decide (k1 = k2)) (pure (.mkEq a b)) fail
   | _,_ => fail
  | some .string => match x,y with
   | [.str a],[.str b] => bind (fnM 4 [a,b] 0 1) fun l => pure (.mkEq ⟨l,0,1⟩ (.const 1))
   | _,_ => fail
  | some .bool => match x,y with
   | [.bool a],[.bool b] => pure (.mkIff a b)
   | _,_ => fail
  | some (.struct fs) => cond (!P.stoodInHeld t) (eqGF P (eqG P d) 0 fs.toList x y) fail
  | _ => fail
noncomputable def eqS (P : Program) (t : TypeId) (x y : List A) : M BE :=
 match P.underlying t with
 | some (.struct fs) => cond (fldOk P 0 fs.toList && !P.stoodInHeld t && !P.eqGuardType P.depth t) (cond (fs.toList.all fun f => match P.underlying f.type with | some (.int _) => true | some .string => true | _ => false) (eqF P fs.toList x y) (eqG P 8 t x y))
  (cond (!P.eqGuardType P.depth t) (eqG P 8 t x y) fail)
 | _ => fail
noncomputable def strBin (op : BinOp) (a b : Lin) : M V :=
 match op with
 | .add => bind (chkM 3 [a,b]) fun _ => bind (fnM 3 [a,b] 0 HB) fun l => pure (.w (.one (.str l)))
 | .eql => bind (fnM 4 [a,b] 0 1) fun l => pure (.w (.one (.bool (.mkEq ⟨l,0,1⟩ (.const 1)))))
 | .neq => bind (fnM 4 [a,b] 0 1) fun l => pure (.w (.one (.bool (.mkNot (.mkEq ⟨l,0,1⟩ (.const 1))))))
 | .lss => bind (fnM 5 [a,b] 0 1) fun l => pure (.w (.one (.bool (.mkEq ⟨l,0,1⟩ (.const 1)))))
 | .geq => bind (fnM 5 [a,b] 0 1) fun l => pure (.w (.one (.bool (.mkNot (.mkEq ⟨l,0,1⟩ (.const 1))))))
 | _ => fail
def strLen (s : Lin) : M V := bind (fnM 0 [s] 0 9223372036854775807) fun l => pure (.w (.one (.int .i64 ⟨l,0,9223372036854775807⟩)))
def strIdx (s i : Lin) : M V := bind (chkM 1 [s,i]) fun _ => bind (fnM 1 [s,i] 0 255) fun l => pure (.w (.one (.int .u8 ⟨l,0,255⟩)))
noncomputable def strSub (s a b : Lin) : M V := bind (chkM 2 [s,a,b]) fun _ => bind (fnM 2 [s,a,b] 0 HB) fun l => pure (.w (.one (.str l)))
def intL (v : V) : Option Lin := match v with | .w (.one (.int _ a)) => some a.l | _ => none
noncomputable def strSl (tm : List V) (s : Lin) (lo hi : Option Operand) : M V :=
 match (match lo with | none => some (Lin.const 0) | some x => intL (opV tm x)) with
 | none => fail
 | some a => match hi with
  | none => bind (fnM 0 [s] 0 9223372036854775807) fun b => strSub s a b
  | some y => match intL (opV tm y) with
   | some b => strSub s a b
   | none => fail
noncomputable def binQ (P : Program) (op : BinOp) (t : TypeId) (x y : V) : M V :=
 match x,y with
 | .w (.one (.int k a)),.w (.one (.int k' b)) => bind (binI op k a k' b) fun r => pure (.w (.one r))
 | .w (.agg a),.w (.agg b) => match op,eqQ P t a b with
  | .eql,some e => pure (.w (.one (.bool e)))
  | .neq,some e => pure (.w (.one (.bool (.mkNot e))))
  | .eql,none => bind (eqS P t a b) fun e => pure (.w (.one (.bool e)))
  | .neq,none => bind (eqS P t a b) fun e => pure (.w (.one (.bool (.mkNot e))))
  | _,_ => fail
 | .w (.one (.str a)),.w (.one (.str b)) => strBin op a b
 | .w (.one (.bool a)),.w (.one (.bool b)) => match op,P.underlying t with
  | .eql,some .bool => pure (.w (.one (.bool (.mkIff a b))))
  | .neq,some .bool => pure (.w (.one (.bool (.mkNot (.mkIff a b)))))
  | _,_ => fail
 | _,_ => fail
def unQ (op : UnOp) (x : V) : M V :=
 match op,x with
 | .not,.w (.one (.bool b)) => pure (.w (.one (.bool (.mkNot b))))
 | .xor,.w (.one (.int k a)) => cond (!k.signed && decide (0 <= a.lo) && decide (a.hi < two k)) (pure (.w (.one (.int k ⟨(Lin.const (two k - 1)).sub a.l,two k - 1 - a.hi,two k - 1 - a.lo⟩)))) fail
 | .neg,.w (.one (.int k a)) => bind (wrapM k ⟨a.l.smul (-1),-a.hi,-a.lo⟩) fun r => pure (.w (.one (.int k r)))
 | _,_ => fail
def convQ (P : Program) (src dst : TypeId) (x : V) : M V :=
 match P.underlying src,P.underlying dst,x with
 | some _,some .string,.w (.one (.int _ a)) => match a.l.isC with
  | some c => cond (Nat.ble (Utf8.encode c).size 1000) (pure (.w (.one (.str (.const (cOf (Utf8.encode c).data.toList)))))) fail
  | none => fail
 | _,_,_ => match P.underlying src,kindOf P dst,x with
 | some _,some k,.w (.one (.int _ a)) => bind (wrapM k a) fun r => pure (.w (.one (.int k r)))
 | _,_,_ => fail
def constI (v : V) : Option Int := match v with | .w (.one (.int _ a)) => a.l.isC | _ => none
def optC (tm : List V) : Option Operand -> Option (Option Int)
 | none => some none
 | some x => match constI (opV tm x) with | some c => some (some c) | none => none
def slQ (P : Program) (t : TypeId) (x : V) (lo hi : Option Int) : M V :=
 match x,arrOf P t with
 | .w (.one (.ptr b off)),some (n,e) => match szB P e with
  | some s => cond (decide (0 <= lo.getD 0) && decide (lo.getD 0 <= hi.getD n) && decide (hi.getD n <= n) && decide (lo.getD 0 < n)) (pure (.w (.one (.slc b (off + (lo.getD 0).toNat * s) ((hi.getD n).toNat - (lo.getD 0).toNat) (n - (lo.getD 0).toNat))))) fail
  | none => fail
 | _,_ => fail
def nilQ (x : V) : M V :=
 match x with
 | .w (.one (.ptr b o)) => pure (.w (.one (.ptr b o)))
 | .w (.one (.pix b o i)) => pure (.w (.one (.pix b o i)))
 | .w (.one (.gptr g o)) => pure (.w (.one (.gptr g o)))
 | _ => fail
def W.cells : W -> List A
 | .one a => [a]
 | .agg l => l
def zeroL (P : Program) (t : TypeId) : Option (List A) :=
 match P.info? t with
 | some i => match i.zero with
  | some z => constL z.cells.toList
  | none => none
 | none => none
def fillL (place : Nat -> Option (Nat × Nat)) : List A -> List (Nat × V) -> Option (List A)
 | cells,[] => some cells
 | cells,(i,.w u) :: r => match place i with
  | some (off,size) => cond (Nat.beq u.cells.length size && Nat.ble (off + size) cells.length) (fillL place (cells.take off ++ u.cells ++ cells.drop (off + size)) r) none
  | none => none
 | _,_ :: _ => none
def buildL (P : Program) (t : TypeId) (parts : List (Nat × V)) : Option (List A) :=
 match zeroL P t,P.underlying t with
 | some z,some (.array _ e) => match szB P e with
  | some s => fillL (fun i => some (i * s,s)) z parts
  | none => none
 | some z,some (.struct fields) => match fields.toList.mapM (fun f => (P.info? f.type).map fun i => (f.offset,i.size)) with
  | some places => fillL (places.toArray[·]?) z parts
  | none => none
 | _,_ => none
noncomputable def qop0 (P : Program) (cal : Cal) (gl : Glo) (bl : List Blk) (tm : List V) (o : Oper) : M V :=
 match o.op with
 | .move x | .assign x => pure (opV tm x)
 | .load t x => match opV tm x with
  | .w (.one (.pix b off ix)) => selQ P bl t b off ix
  | .w (.one p) => loadQ P bl gl t p
  | _ => fail
 | .nilCheck x => nilQ (opV tm x)
 | .pick c x y => match opV tm c with
  | .w (.one (.bool (.lit v))) => pure (cond v (opV tm x) (opV tm y))
  | _ => fail
 | .binOp op t x y _ => binQ P op t (opV tm x) (opV tm y)
 | .unOp op _ x => unQ op (opV tm x)
 | .convert s d x => convQ P s d (opV tm x)
 | .indexAddr t x ix => match opV tm ix with
  | .w (.one (.int _ i)) => idxQ P t (opV tm x) i
  | _ => fail
 | .index t x ix => match opV tm x with
  | .w (.one (.str s)) => match P.underlying t,intL (opV tm ix) with
   | some .string,some i => strIdx s i
   | _,_ => fail
  | _ => match opV tm x,constI (opV tm ix),arrOf P t with
   | .w (.agg l),some i,some (len,e) => match szB P e with
    | some s => cond (decide (0 <= i) && decide (i < len)) (partQ P e l (i.toNat * s)) fail
    | none => fail
   | _,_,_ => fail
 | .fieldAddr s x f => match opV tm x,fieldOf P s f with
  | .w (.one (.ptr b off)),some fd => match szB P fd.type with
   | some (_ + 1) => pure (.w (.one (.ptr b (off + fd.offset))))
   | _ => fail
  | _,_ => fail
 | .field s x f => match opV tm x,fieldOf P s f with
  | .w (.agg l),some fd => partQ P fd.type l fd.offset
  | _,_ => fail
 | .extract x i => match opV tm x with
  | .tup l => match l[i]? with | some u => pure (.w u) | none => fail
  | _ => fail
 | .slice t x lo hi none => match opV tm x,P.underlying t with
  | .w (.one (.str s)),some .string => strSl tm s lo hi
  | _,_ => match optC tm lo,optC tm hi with
   | some l,some h => slQ P t (opV tm x) l h
   | _,_ => fail
 | .call c => match c.callee with
  | .value (.func f) => match cal f with
   | some g => g bl (c.args.toList.map (opV tm))
   | none => fail
  | .builtin .len => match c.args.toList,c.argTypes.toList with
   | [x],[t] => match opV tm x,P.underlying t with
    | .w (.one (.str s)),some .string => strLen s
    | _,_ => match opV tm x,slcOf P t with
     | .w (.one (.slc _ _ len _)),some _ => pure (.w (.one (.int .i64 (.const len))))
     | .osl _ len _,some _ => pure (.w (.one (.int .i64 (.const len))))
     | _,_ => fail
   | _,_ => fail
  | _ => fail
 | .makeFunc (.func f) first caps => match first.toList,onesL (caps.toList.map (opV tm)) with
  | [],some l => pure (.clo f l)
  | _,_ => fail
 | .build t parts => match buildL P t (parts.toList.map fun p => (p.1,opV tm p.2)) with
  | some l => pure (.w (.agg l))
  | none => fail
 | _ => fail
section
variable {S : Nat -> List Int -> List Int -> Prop} {L : V -> Env -> Prop} {n : Nat} {ρ : Env} {m : Nat -> Nat} {bl : List Blk} {gl : Glo} {w0 : Base} {P : Program} {tm : List V} {a : Act}
def QR (w0 : Base) (m : Nat -> Nat) (bl : List Blk) (n : Nat) (ρ : Env) (P : Program) (o : Oper) (a : Act) (ρ' : Env) (n' : Nat) (v : V) : Prop :=
 v.ok n' bl.length ρ' /\ ∃ val,v.rel ρ' m val /\ ∀ w,Mem w0 ρ m bl w -> QRes P o a w val
theorem QR.of_run {o : Oper} {s : Sem Value} {ρ' : Env} {n' : Nat} {v : V} (he : execOp a.eval o = (do pure (Next.value (<- s)))) (h : QV w0 m bl n ρ (fun w => s.run P w) ρ' n' v) : QR w0 m bl n ρ P o a ρ' n' v := by
 obtain ⟨h1,val,h2,h3⟩ := h
 exact ⟨h1,val,h2,fun w hw => .inl (by rw [he]; simp [h3 w hw])⟩
theorem W.cells_den {n nb : Nat} {ρ : Env} {m : Nat -> Nat} (u : W) (hu : u.ok n nb ρ) : (u.den ρ m).cells = (u.cells.map (A.den ρ m)).toArray := by
 cases u with
 | one a =>
  have := A.oneCell (m := m) hu
  simp only [W.den,W.cells,List.map_cons,List.map_nil]
  generalize A.den ρ m a = v at *
  cases v <;> first | rfl | simp [Value.oneCell'] at this
 | agg l => simp [W.den,W.cells,Value.cells]
theorem W.cells_ok {n nb : Nat} {ρ : Env} {u : W} (hu : u.ok n nb ρ) : ∀ a ∈ u.cells,A.ok n nb ρ a := by
 cases u with
 | one a => intro x hx; simp [W.cells] at hx; subst hx; exact hu
 | agg l => exact hu
def PRel (n nb : Nat) (ρ : Env) (m : Nat -> Nat) : List (Nat × V) -> List (Nat × Value) -> Prop
 | [],[] => True
 | p :: r,q :: s => (p.1 = q.1 /\ V.ok n nb ρ p.2 /\ V.rel ρ m p.2 q.2) /\ PRel n nb ρ m r s
 | _,_ => False
theorem fold_cells (off : Nat) : ∀ (src : List Value) (dst : Array Value) (k : Nat),off + k + src.length <= dst.size ->
 ((src.zipIdx k).foldl (fun cs (c,j) => cs.setIfInBounds (off + j) c) dst) = (dst.toList.take (off + k) ++ src ++ dst.toList.drop (off + k + src.length)).toArray
 | [],dst,k,h => by simp
 | c :: src,dst,k,h => by
  simp only [List.length_cons] at h
  rw [List.zipIdx_cons,List.foldl_cons,fold_cells off src _ (k + 1) (by simp; omega)]
  congr 1
  simp only [Array.toList_setIfInBounds,List.length_cons]
  have h1 : off + k < dst.toList.length := by simp; omega
  rw [List.take_set,show off + (k + 1) = off + k + 1 by omega,List.drop_set_of_lt (by omega),List.take_add_one,List.getElem?_eq_getElem h1]
  rw [show off + k + 1 + src.length = off + k + (src.length + 1) by omega]
  simp only [Option.toList_some]
  rw [List.set_append_right _ _ (by simp; omega)]
  have hm : min (off + k) dst.size = off + k := Nat.min_eq_left (by omega)
  simp [hm]
theorem fillL_spec {n nb : Nat} {ρ : Env} {m : Nat -> Nat} {place : Nat -> Option (Nat × Nat)} : ∀ {parts : List (Nat × V)} {vals : List (Nat × Value)} {cells l : List A},fillL place cells parts = some l -> (∀ a ∈ cells,A.ok n nb ρ a) ->
 PRel n nb ρ m parts vals -> (∀ a ∈ l,A.ok n nb ρ a) /\ Instr.fill place (cells.map (A.den ρ m)).toArray vals = some (l.map (A.den ρ m)).toArray
 | [],[],cells,l,h,hc,_ => by simp [fillL] at h; subst h; exact ⟨hc,rfl⟩
 | (i,.w u) :: r,(i',x) :: s,cells,l,h,hc,⟨⟨e1,e2,e3⟩,hr⟩ => by
  simp only at e1; subst e1
  simp only [V.rel] at e3
  have e3 : x = u.den ρ m := e3
  subst e3
  simp only [fillL] at h
  cases hp : place i with
  | none => simp [hp] at h
  | some q =>
   obtain ⟨off,size⟩ := q
   simp only [hp] at h
   cases hq : (Nat.beq u.cells.length size && Nat.ble (off + size) cells.length) with
   | false => simp [hq] at h
   | true =>
    simp only [hq,cond_true] at h
    simp only [Bool.and_eq_true] at hq
    have q1 := Nat.eq_of_beq_eq_true hq.1
    have q2 := Nat.le_of_ble_eq_true hq.2
    have hcells := W.cells_den (m := m) u e2
    obtain ⟨g1,g2⟩ := fillL_spec (m := m) h (fun a ha => by
     rcases List.mem_append.1 ha with ha | ha
     ·rcases List.mem_append.1 ha with ha | ha
      ·exact hc a (List.mem_of_mem_take ha)
      ·exact W.cells_ok e2 a ha
     ·exact hc a (List.mem_of_mem_drop ha)) hr
    refine ⟨g1,?_⟩
    simp only [Instr.fill,hp,hcells,List.size_toArray,List.length_map,q1]
    rw [if_neg (by simp; omega)]
    rw [<- g2]
    congr 1
    have := fold_cells off (u.cells.map (A.den ρ m)) (cells.map (A.den ρ m)).toArray 0 (by simp; omega)
    simp only [Nat.add_zero] at this
    rw [<- Array.foldl_toList]
    simp only [Array.toList_zipIdx]
    rw [this]
    simp [List.map_take,List.map_drop,q1]
 | (_,.tup _) :: _,_,_,_,h,_,_ => by simp [fillL] at h
 | (_,.any) :: _,_,_,_,h,_,_ => by simp [fillL] at h
 | [],_ :: _,_,_,_,_,hr => hr.elim
 | (_,.w _) :: _,[],_,_,_,_,hr => hr.elim
theorem buildL_spec {n nb : Nat} {ρ : Env} {m : Nat -> Nat} {t : TypeId} {parts : List (Nat × V)} {vals : List (Nat × Value)} {l : List A} (h : buildL P t parts = some l)
 (hr : PRel n nb ρ m parts vals) : (∀ a ∈ l,A.ok n nb ρ a) /\ P.built t vals = some (l.map (A.den ρ m)).toArray := by
 unfold buildL at h
 unfold Program.built
 cases hz : zeroL P t with
 | none => simp [hz] at h
 | some z =>
  unfold zeroL at hz
  cases hi : P.info? t with
  | none => simp [hi] at hz
  | some it =>
   simp only [hi] at hz
   cases hz0 : it.zero with
   | none => simp [hz0] at hz
   | some z0 =>
    simp only [hz0] at hz
    have hzs := constL_spec hz n nb ρ m
    have hz1 : z0.cells = (z.map (A.den ρ m)).toArray := by rw [hzs.2]
    cases hu : P.underlying t with
    | none => simp [zeroL,hi,hz0,hz,hu] at h
    | some d =>
     cases d <;> try (simp [zeroL,hi,hz0,hz,hu] at h; done)
     case array len e =>
      simp only [zeroL,hi,hz0,hz,hu,szB] at h
      cases hie : P.info? e with
      | none => simp [hie] at h
      | some ie =>
       simp only [hie] at h
       simp only [hz0,hie,hz1]
       exact fillL_spec h hzs.1 hr
     case struct fields =>
      simp only [zeroL,hi,hz0,hz,hu] at h
      cases hp : fields.toList.mapM (fun f => (P.info? f.type).map fun i => (f.offset,i.size)) with
      | none => simp [hp] at h
      | some places =>
       simp only [hp] at h
       simp only [hz0,hp,hz1]
       exact fillL_spec h hzs.1 hr
theorem partQ_snd {t : TypeId} {l : List A} {off : Nat} (hl : ∀ x ∈ l,A.ok n bl.length ρ x) : Snd S L (partQ P t l off) n ρ (QV w0 m bl n ρ fun w => (part t (l.map (A.den ρ m)).toArray off).run P w) := by
 unfold partQ
 cases h1 : isAggB P t with
 | none => exact Snd.fail
 | some b =>
  cases b with
  | true =>
   cases h2 : szB P t with
   | none => exact Snd.fail
   | some k =>
    refine Snd.pure ⟨fun x hx => hl x (List.mem_of_mem_drop (List.mem_of_mem_take hx)),_,rfl,fun w _ => ?_⟩
    simp [part,run_isAggB h1,run_szB h2,W.den,List.map_take,List.map_drop,List.take_drop]
    try congr 1
  | false =>
   cases h3 : l[off]? with
   | none => exact Snd.fail
   | some x =>
    refine Snd.pure ⟨hl x (List.mem_of_getElem? h3),_,rfl,fun w _ => ?_⟩
    simp [part,run_isAggB h1,h3,W.den]
theorem arrOf_spec {t : TypeId} {len : Nat} {e : TypeId} (h : arrOf P t = some (len,e)) : P.underlying t = some (.array len e) := by
 unfold arrOf at h
 cases hu : P.underlying t with
 | none => simp [hu] at h
 | some d => cases d <;> simp [hu] at h <;> simp [h]
theorem slcOf_spec {t e : TypeId} (h : slcOf P t = some e) : P.underlying t = some (.slice e) := by
 unfold slcOf at h
 cases hu : P.underlying t with
 | none => simp [hu] at h
 | some d => cases d <;> simp [hu] at h <;> simp [h]
theorem kindOf_spec {t : TypeId} {k : IntKind} (h : kindOf P t = some k) : P.underlying t = some (.int k) := by
 unfold kindOf at h
 cases hu : P.underlying t with
 | none => simp [hu] at h
 | some d => cases d <;> simp [hu] at h <;> simp [h]
theorem fieldOf_spec {s : TypeId} {f : Nat} {fd : Field} (h : fieldOf P s f = some fd) : ∃ fs,P.underlying s = some (.struct fs) /\ fs[f]? = some fd := by
 unfold fieldOf at h
 cases hu : P.underlying s with
 | none => simp [hu] at h
 | some d => cases d <;> simp [hu] at h <;> exact ⟨_,rfl,h⟩
theorem idxQ_snd {t : TypeId} {x : V} {k : IntKind} {ix : IV} {X : Value} (hx : x.ok n bl.length ρ) (hX : x.rel ρ m X) (hi : ix.ok n ρ) :
 Snd S L (idxQ P t x ix) n ρ (QV w0 m bl n ρ fun w => (Instr.indexAt t X (.int k (ix.l.den ρ))).run P w) := by
 unfold idxQ
 split
 ·rename_i b off
  simp only [V.rel,W.den,A.den] at hX; subst hX
  cases h1 : arrOf P t with
  | none => exact Snd.fail
  | some q =>
   obtain ⟨len,e⟩ := q
   cases h2 : szB P e with
   | none => simp only [h2]; exact Snd.fail
   | some s =>
    simp only [h2]
    cases h3 : ix.l.isC with
    | some i =>
     refine snd_guard fun hc => Snd.pure ⟨hx,_,rfl,fun w _ => ?_⟩
     simp only [Bool.and_eq_true,decide_eq_true_eq] at hc
     simp [Instr.indexAt,asIntOf,run_underlying (arrOf_spec h1),Instr.sureAddr,Lin.den_isC h3,hc,run_szB h2,addr_add,W.den,A.den]
    | none =>
     refine snd_guard fun hc => Snd.pure ⟨?_,_,rfl,fun w _ => ?_⟩
     ·simp only [Bool.and_eq_true,decide_eq_true_eq] at hc
      exact ⟨hx,hi,hc.1.2⟩
     ·simp only [Bool.and_eq_true,decide_eq_true_eq] at hc
      have hs := Nat.eq_of_beq_eq_true hc.1.1
      subst hs
      have b1 := hi.2
      have c1 : 0 <= ix.l.den ρ := by omega
      have c2 : ix.l.den ρ < len := by omega
      simp [Instr.indexAt,asIntOf,run_underlying (arrOf_spec h1),Instr.sureAddr,c1,c2,run_szB h2,addr_add,W.den,A.den]
 ·rename_i g off
  simp only [V.rel,W.den,A.den] at hX; subst hX
  cases h1 : arrOf P t with
  | none => exact Snd.fail
  | some q =>
   obtain ⟨len,e⟩ := q
   cases h2 : szB P e with
   | none => simp only [h2]; exact Snd.fail
   | some s =>
    simp only [h2]
    cases h3 : ix.l.isC with
    | some i =>
     refine snd_guard fun hc => Snd.pure ⟨trivial,_,rfl,fun w _ => ?_⟩
     simp only [Bool.and_eq_true,decide_eq_true_eq] at hc
     simp [Instr.indexAt,asIntOf,run_underlying (arrOf_spec h1),Instr.sureAddr,Lin.den_isC h3,hc,run_szB h2,addr_add,W.den,A.den]
    | none => exact Snd.fail
 ·rename_i b off len cap
  simp only [V.rel,W.den,A.den] at hX; subst hX
  cases h1 : slcOf P t with
  | none => exact Snd.fail
  | some e =>
   cases h2 : szB P e with
   | none => simp only [h2]; exact Snd.fail
   | some s =>
    simp only [h2]
    cases h3 : ix.l.isC with
    | some i =>
     refine snd_guard fun hc => Snd.pure ⟨hx,_,rfl,fun w _ => ?_⟩
     simp only [Bool.and_eq_true,decide_eq_true_eq] at hc
     simp [Instr.indexAt,asIntOf,run_underlying (slcOf_spec h1),Instr.sureAddr,Lin.den_isC h3,hc,run_szB h2,addr_add,W.den,A.den]
    | none =>
     refine snd_guard fun hc => Snd.pure ⟨?_,_,rfl,fun w _ => ?_⟩
     ·simp only [Bool.and_eq_true,decide_eq_true_eq] at hc
      exact ⟨hx,hi,hc.1.2⟩
     ·simp only [Bool.and_eq_true,decide_eq_true_eq] at hc
      have hs := Nat.eq_of_beq_eq_true hc.1.1
      subst hs
      have b1 := hi.2
      have c1 : 0 <= ix.l.den ρ := by omega
      have c2 : ix.l.den ρ < len := by omega
      simp [Instr.indexAt,asIntOf,run_underlying (slcOf_spec h1),Instr.sureAddr,c1,c2,run_szB h2,addr_add,W.den,A.den]
 ·rename_i b len lo
  obtain ⟨c,_,hX⟩ := hX
  subst hX
  cases h1 : slcOf P t with
  | none => exact Snd.fail
  | some e =>
   cases h2 : szB P e with
   | none => simp only [h2]; exact Snd.fail
   | some s =>
    simp only [h2]
    cases h3 : ix.l.isC with
    | some i =>
     refine snd_guard fun hc => Snd.pure ⟨hx,_,rfl,fun w _ => ?_⟩
     simp only [Bool.and_eq_true,decide_eq_true_eq] at hc
     simp [Instr.indexAt,asIntOf,run_underlying (slcOf_spec h1),Instr.sureAddr,Lin.den_isC h3,hc,run_szB h2,addr_add,W.den,A.den]
    | none => exact Snd.fail
 ·exact Snd.fail
theorem onesL_spec {vs : List V} : ∀ {l : List A} {xs : List Value},onesL vs = some l -> (∀ v ∈ vs,V.ok n bl.length ρ v) -> LRel ρ m vs xs -> (∀ a ∈ l,A.ok n bl.length ρ a) /\ xs = l.map (A.den ρ m) := by
 induction vs with
 | nil =>
  intro l xs h _ hr
  simp [onesL] at h; subst h
  cases xs with
  | nil => exact ⟨fun _ h => by simp at h,rfl⟩
  | cons _ _ => exact hr.elim
 | cons v r ih =>
  intro l xs h hok hr
  cases xs with
  | nil => cases v <;> exact hr.elim
  | cons x s =>
   cases v with
   | w y =>
    cases y with
    | agg q => simp [onesL] at h
    | one a =>
     cases h1 : onesL r with
     | none => simp [onesL,h1] at h
     | some l' =>
      simp only [onesL,h1,Option.some.injEq] at h
      subst h
      obtain ⟨e1,e2⟩ := ih h1 (fun v hv => hok v (List.mem_cons_of_mem _ hv)) hr.2
      have h0 : x = a.den ρ m := hr.1
      exact ⟨fun b hb => by rcases List.mem_cons.1 hb with rfl | hb; exact hok (.w (.one b)) (by simp); exact e1 b hb,by rw [h0,e2]; rfl⟩
   | _ => simp [onesL] at h
theorem eqL_spec {e : TypeId} {k : IntKind} (he : P.underlying e = some (.int k)) (d : Nat) (xs ys : Array Value) (w : World) : ∀ (l l' : List A) (i : Nat) (b : BE),eqL l l' = some b -> (∀ x ∈ l,A.ok n bl.length ρ x) -> (∀ x ∈ l',A.ok n bl.length ρ x) ->
 xs.toList.drop i = l.map (A.den ρ m) -> ys.toList.drop i = l'.map (A.den ρ m) -> b.sc n /\ (Op.eqItems (d + 1) e 1 xs ys (List.range' i l.length)).run P w = .ok (b.den ρ) w := by
 intro l
 induction l with
 | nil =>
  intro l' i b h _ _ _ _
  cases l' with
  | nil => simp [eqL] at h; subst h; exact ⟨trivial,by simp [Op.eqItems,BE.den]⟩
  | cons y r' => simp [eqL] at h
 | cons x r ih =>
  intro l' i b h hl hl' hx hy
  cases l' with
  | nil => cases x <;> simp [eqL] at h
  | cons y r' =>
   cases x <;> cases y <;> simp only [eqL] at h <;> try (cases h; done)
   rename_i k1 x k2 y
   by_cases hk : k1 = k2
   ·subst hk
    simp only [decide_true,cond_true] at h
    cases hr : eqL r r' with
    | none => simp [hr] at h
    | some b' =>
     simp only [hr,Option.some.injEq] at h
     subst h
     have hox : x.ok n ρ := hl (.int k1 x) (by simp)
     have hoy : y.ok n ρ := hl' (.int k1 y) (by simp)
     have e1 := BE.den_mkEq hox hoy
     have gx : xs[i]? = some (.int k1 (x.l.den ρ)) := by
      have := congrArg List.head? hx
      simpa [A.den] using this
     have gy : ys[i]? = some (.int k1 (y.l.den ρ)) := by
      have := congrArg List.head? hy
      simpa [A.den] using this
     have dx : xs.toList.drop (i + 1) = r.map (A.den ρ m) := by
      have := congrArg List.tail hx
      simpa using this
     have dy : ys.toList.drop (i + 1) = r'.map (A.den ρ m) := by
      have := congrArg List.tail hy
      simpa using this
     obtain ⟨s2,r2⟩ := ih r' (i + 1) b' hr (fun z hz => hl z (List.mem_cons_of_mem _ hz)) (fun z hz => hl' z (List.mem_cons_of_mem _ hz)) dx dy
     refine ⟨BE.sc_mkAnd e1.2 s2,?_⟩
     simp only [List.length_cons,List.range'_succ,Op.eqItems,Sem.run_bind]
     have px : (part e xs (i * 1)).run P w = .ok (.int k1 (x.l.den ρ)) w := by simp [part,isAgg,run_underlying he,gx]
     have py : (part e ys (i * 1)).run P w = .ok (.int k1 (y.l.den ρ)) w := by simp [part,isAgg,run_underlying he,gy]
     simp only [px,py,Result.andThen_ok,run_equalIn_int w d e k1 k _ _ he,BE.den_mkAnd,e1.1]
     by_cases hq : x.l.den ρ = y.l.den ρ
     ·simp [hq,r2]
     ·simp [hq]
   ·simp [hk] at h
theorem eqQ_spec {t : TypeId} {x y : List A} {b : BE} (h : eqQ P t x y = some b) (hx : ∀ z ∈ x,A.ok n bl.length ρ z) (hy : ∀ z ∈ y,A.ok n bl.length ρ z) :
 b.sc n /\ P.eqGuardType P.depth t = false /\ ∀ w,(Op.equalIn 10000 t (.agg (x.map (A.den ρ m)).toArray) (.agg (y.map (A.den ρ m)).toArray)).run P w = .ok (b.den ρ) w := by
 unfold eqQ at h
 cases h1 : arrOf P t with
 | none => simp [h1] at h
 | some q =>
  obtain ⟨len,e⟩ := q
  simp only [h1] at h
  cases h2 : kindOf P e with
  | none => simp [h2] at h
  | some k =>
   cases h3 : szB P e with
   | none => simp [h2,h3] at h
   | some s =>
    match s,h3 with
    | 0,h3 => simp [h2,h3] at h
    | s + 2,h3 => simp [h2,h3] at h
    | 1,h3 =>
     simp only [h2,h3] at h
     cases hc : (Nat.beq x.length len && Nat.beq y.length len && !P.eqGuardType P.depth t) with
     | false => simp [hc] at h
     | true =>
      simp only [hc,cond_true] at h
      simp only [Bool.and_eq_true,Bool.not_eq_true'] at hc
      have hl := Nat.eq_of_beq_eq_true hc.1.1
      have hinfo : ∃ i,P.info? e = some i /\ P.cellsOf e = 1 := by
       unfold szB at h3
       cases hq : P.info? e with
       | none => simp [hq] at h3
       | some i => simp [hq] at h3; exact ⟨i,rfl,by simp [Program.cellsOf,hq,h3]⟩
      obtain ⟨i,hi1,hi2⟩ := hinfo
      have hsp := fun w => eqL_spec (P := P) (bl := bl) (n := n) (ρ := ρ) (m := m) (kindOf_spec h2) 9998 (x.map (A.den ρ m)).toArray (y.map (A.den ρ m)).toArray w x y 0 b h hx hy (by simp) (by simp)
      refine ⟨(hsp default).1,hc.2,fun w => ?_⟩
      rw [show (10000 : Nat) = 9999 + 1 from rfl,run_equalIn_array w 9999 _ _ (arrOf_spec h1) hi1,hi2,List.range_eq_range',<- hl]
      exact (hsp w).2
theorem bA_toList (l : List UInt8) : (bA l).toList = l := ByteArray.toList_mk l
theorem bA_size (l : List UInt8) : (bA l).size = l.length := by simp [bA,ByteArray.size]
theorem beq_bit (l l' : List UInt8) : (l == l') = decide ((if l = l' then (1 : Int) else 0) = 1) := by
 by_cases h : l = l'
 ·subst h; simp
 ·rw [if_neg h]; simp [h]
theorem bit01 (p : Prop) [Decidable p] : (0 : Int) <= (if p then 1 else 0) /\ (if p then (1 : Int) else 0) <= 1 := by split <;> decide
theorem less_bit (b : Bool) : b = decide ((if b = true then (1 : Int) else 0) = 1) := by cases b <;> rfl
theorem strBin_snd {op : BinOp} {t : TypeId} {x y : Operand} {p q : Lin} (hp : (A.str p).ok n bl.length ρ) (hq : (A.str q).ok n bl.length ρ) :
 Snd S L (strBin op p q) n ρ (QV w0 m bl n ρ fun w => (do eqGuard op t x y (.string (bA (sOf (p.den ρ)))) (.string (bA (sOf (q.den ρ)))); binOp op t (.string (bA (sOf (p.den ρ)))) (.string (bA (sOf (q.den ρ)))) : Sem Value).run P w) := by
 have b1 := bit01 (sOf (p.den ρ) = sOf (q.den ρ))
 have b2 := bit01 (Op.bytesLess (sOf (p.den ρ)) (sOf (q.den ρ)) = true)
 unfold strBin
 split
 ·refine chkM_snd fun hc => ?_
  have hc : (sOf (p.den ρ)).length + (sOf (q.den ρ)).length <= mxL := hc
  have hl : (sOf (p.den ρ) ++ sOf (q.den ρ)).length <= mxL := by simpa using hc
  refine (fnM_snd (op := 3) (args := [p,q]) (cOf_nonneg _) (HB_c hl)).bind fun ρ1 n1 l _ _ ⟨h1,h2⟩ => ?_
  have h2 : l.den ρ1 = cOf (sOf (p.den ρ) ++ sOf (q.den ρ)) := h2
  refine Snd.pure ⟨⟨h1,by rw [h2]; exact cOf_nonneg _,by rw [h2]; exact HB_c hl⟩,_,rfl,fun w _ => ?_⟩
  have hr := run_string_add_sum (P := P) w (bA (sOf (p.den ρ))) (bA (sOf (q.den ρ))) (by rw [bA_size,bA_size]; unfold mxL at hc; omega)
  simp only [eqGuard,binOp_string_add,W.den,A.den,h2,sOf_cOf]
  simp [hr]
  exact ByteArray.mk_append_mk _ _
 ·refine (fnM_snd (op := 4) (args := [p,q]) b1.1 b1.2).bind fun ρ1 n1 l _ _ ⟨h1,h2⟩ => ?_
  have h2 : l.den ρ1 = if sOf (p.den ρ) = sOf (q.den ρ) then 1 else 0 := h2
  have e := BE.den_mkEq (n := n1) (ρ := ρ1) (a := ⟨l,0,1⟩) (b := .const 1) ⟨h1,by simp only [h2]; exact b1.1,by simp only [h2]; exact b1.2⟩ (IV.const_ok _ _ _)
  refine Snd.pure ⟨e.2,_,rfl,fun w _ => ?_⟩
  simp only [W.den,A.den,binOp_string_eql,bA_toList]
  rw [e.1]
  simp only [h2,IV.const,Lin.den_const,beq_bit]
  simp [eqGuard]
 ·refine (fnM_snd (op := 4) (args := [p,q]) b1.1 b1.2).bind fun ρ1 n1 l _ _ ⟨h1,h2⟩ => ?_
  have h2 : l.den ρ1 = if sOf (p.den ρ) = sOf (q.den ρ) then 1 else 0 := h2
  have e := BE.den_mkEq (n := n1) (ρ := ρ1) (a := ⟨l,0,1⟩) (b := .const 1) ⟨h1,by simp only [h2]; exact b1.1,by simp only [h2]; exact b1.2⟩ (IV.const_ok _ _ _)
  refine Snd.pure ⟨BE.sc_mkNot e.2,_,rfl,fun w _ => ?_⟩
  simp only [W.den,A.den,BE.den_mkNot,binOp_string_neq,bA_toList]
  rw [e.1]
  simp only [h2,IV.const,Lin.den_const,beq_bit]
  simp [eqGuard]
 ·refine (fnM_snd (op := 5) (args := [p,q]) b2.1 b2.2).bind fun ρ1 n1 l _ _ ⟨h1,h2⟩ => ?_
  have h2 : l.den ρ1 = if Op.bytesLess (sOf (p.den ρ)) (sOf (q.den ρ)) = true then 1 else 0 := h2
  have e := BE.den_mkEq (n := n1) (ρ := ρ1) (a := ⟨l,0,1⟩) (b := .const 1) ⟨h1,by simp only [h2]; exact b2.1,by simp only [h2]; exact b2.2⟩ (IV.const_ok _ _ _)
  refine Snd.pure ⟨e.2,_,rfl,fun w _ => ?_⟩
  simp only [W.den,A.den,binOp_string_lss,bA_toList]
  rw [e.1]
  simp only [h2,IV.const,Lin.den_const]
  rw [<- less_bit]
  simp [eqGuard]
 ·refine (fnM_snd (op := 5) (args := [p,q]) b2.1 b2.2).bind fun ρ1 n1 l _ _ ⟨h1,h2⟩ => ?_
  have h2 : l.den ρ1 = if Op.bytesLess (sOf (p.den ρ)) (sOf (q.den ρ)) = true then 1 else 0 := h2
  have e := BE.den_mkEq (n := n1) (ρ := ρ1) (a := ⟨l,0,1⟩) (b := .const 1) ⟨h1,by simp only [h2]; exact b2.1,by simp only [h2]; exact b2.2⟩ (IV.const_ok _ _ _)
  refine Snd.pure ⟨BE.sc_mkNot e.2,_,rfl,fun w _ => ?_⟩
  simp only [W.den,A.den,BE.den_mkNot,binOp_string_geq,bA_toList]
  rw [e.1]
  simp only [h2,IV.const,Lin.den_const]
  rw [<- less_bit]
  simp [eqGuard]
 ·exact Snd.fail
theorem strLen_snd {t ty : TypeId} {p : Lin} (hu : P.underlying t = some .string) (hp : (A.str p).ok n bl.length ρ) :
 Snd S L (strLen p) n ρ (QV w0 m bl n ρ fun w => (Builtin.len_ #[t] ty #[.string (bA (sOf (p.den ρ)))]).run P w) := by
 have hl := HB_s hp.2.2
 unfold mxL at hl
 refine (fnM_snd (op := 0) (args := [p]) (Int.natCast_nonneg _) (by show ((sOf (p.den ρ)).length : Int) <= _; omega)).bind fun ρ1 n1 l _ _ ⟨h1,h2⟩ => ?_
 have h2 : l.den ρ1 = ((sOf (p.den ρ)).length : Int) := h2
 refine Snd.pure ⟨⟨h1,by simp only [h2]; omega,by simp only [h2]; omega⟩,_,rfl,fun w _ => ?_⟩
 simp [Builtin.len_,run_underlying hu,goInt,W.den,A.den,h2,bA_size]
theorem strIdx_snd {t : TypeId} {k : IntKind} {p i : Lin} (hu : P.underlying t = some .string) (hp : (A.str p).ok n bl.length ρ) :
 Snd S L (strIdx p i) n ρ (QV w0 m bl n ρ fun w => (Instr.index t (.string (bA (sOf (p.den ρ)))) (.int k (i.den ρ))).run P w) := by
 refine chkM_snd fun hc => ?_
 have hc : 0 <= i.den ρ /\ i.den ρ < ((sOf (p.den ρ)).length : Int) := hc
 have hlt : (i.den ρ).toNat < (sOf (p.den ρ)).length := by omega
 have hb := ((sOf (p.den ρ)).getD (i.den ρ).toNat 0).toNat_lt
 refine (fnM_snd (op := 1) (args := [p,i]) (Int.natCast_nonneg _) (by show (((sOf (p.den ρ)).getD (i.den ρ).toNat 0).toNat : Int) <= _; omega)).bind fun ρ1 n1 l _ _ ⟨h1,h2⟩ => ?_
 have h2 : l.den ρ1 = (((sOf (p.den ρ)).getD (i.den ρ).toNat 0).toNat : Int) := h2
 refine Snd.pure ⟨⟨h1,by simp only [h2]; omega,by simp only [h2]; omega⟩,_,rfl,fun w _ => ?_⟩
 have e : (bA (sOf (p.den ρ)))[(i.den ρ).toNat]? = some ((sOf (p.den ρ)).getD (i.den ρ).toNat 0) := by
  rw [ByteArray.getElem?_lt' _ _ (by rw [bA_size]; exact hlt)]
  simp [bA,List.getD,hlt]
  rfl
 simp [Instr.index,asIntOf,run_underlying hu,hc.1,e,W.den,A.den,h2]
theorem strSub_snd {p a b : Lin} (hp : (A.str p).ok n bl.length ρ) : Snd S L (strSub p a b) n ρ fun ρ' n' v => v.ok n' bl.length ρ' /\ v.rel ρ' m (.string ((bA (sOf (p.den ρ))).extract (a.den ρ).toNat (b.den ρ).toNat)) /\ 0 <= a.den ρ /\ a.den ρ <= b.den ρ /\ b.den ρ <= ((sOf (p.den ρ)).length : Int) := by
 refine chkM_snd fun hc => ?_
 have hc : 0 <= a.den ρ /\ a.den ρ <= b.den ρ /\ b.den ρ <= ((sOf (p.den ρ)).length : Int) := hc
 have hl := HB_s hp.2.2
 have hl2 : (((sOf (p.den ρ)).drop (a.den ρ).toNat).take ((b.den ρ).toNat - (a.den ρ).toNat)).length <= mxL := by simp; omega
 refine (fnM_snd (op := 2) (args := [p,a,b]) (cOf_nonneg _) (HB_c hl2)).bind fun ρ1 n1 l _ _ ⟨h1,h2⟩ => ?_
 have h2 : l.den ρ1 = cOf (((sOf (p.den ρ)).drop (a.den ρ).toNat).take ((b.den ρ).toNat - (a.den ρ).toNat)) := h2
 refine Snd.pure ⟨⟨h1,by rw [h2]; exact cOf_nonneg _,by rw [h2]; exact HB_c hl2⟩,?_,hc⟩
 show _ = _
 simp only [W.den,A.den,h2,sOf_cOf]
 congr 1
 exact ByteArray.extract_mk _ _ _
theorem intL_spec {v : V} {l : Lin} {x : Value} (h : intL v = some l) (hr : v.rel ρ m x) (hok : v.ok n bl.length ρ) : ∃ k,x = .int k (l.den ρ) /\ l.sc n := by
 unfold intL at h
 split at h
 ·rename_i k a
  simp only [Option.some.injEq] at h; subst h
  exact ⟨k,hr,hok.1⟩
 ·cases h
theorem sliceB_ok {k : IntKind} {i : Int} {y : Nat} {cd : BoundsCode} (p1 : 0 <= i) (p2 : i <= y) (w : World) : (Instr.sliceBound (.int k i) y cd).run P w = .ok i.toNat w := by
 simp [Instr.sliceBound,asIntOf,p1,p2]
theorem strSl_snd {t : TypeId} {p : Lin} {lo hi : Option Operand} (hu : P.underlying t = some .string) (hp : (A.str p).ok n bl.length ρ) (ht : TRel n bl.length ρ m tm a.tmps) :
 Snd S L (strSl tm p lo hi) n ρ (QV w0 m bl n ρ fun w => (Instr.sliceAt t (.string (bA (sOf (p.den ρ)))) (lo.map a.eval) (hi.map a.eval) none).run P w) := by
 unfold strSl
 split
 ·exact Snd.fail
 ·rename_i la hla
  have hlo : ∃ f : Option Value,lo.map a.eval = f /\ (f = none /\ la.den ρ = 0 ∨ ∃ k,f = some (.int k (la.den ρ))) := by
   cases lo with
   | none => simp only [Option.some.injEq] at hla; subst hla; exact ⟨none,rfl,.inl ⟨rfl,Lin.den_const _ _⟩⟩
   | some x =>
    obtain ⟨k,hk,_⟩ := intL_spec (m := m) (bl := bl) hla (opV_spec ht x).2 (opV_spec ht x).1
    exact ⟨_,rfl,.inr ⟨k,by rw [<- hk]; rfl⟩⟩
  obtain ⟨fl,e1,hfl⟩ := hlo
  have key : ∀ (lb : Lin) (ρ1 : Env) (n1 : Nat),n <= n1 -> agree n ρ ρ1 -> (hi.map a.eval = none /\ lb.den ρ1 = ((sOf (p.den ρ)).length : Int) ∨ ∃ k,hi.map a.eval = some (.int k (lb.den ρ1))) -> la.sc n ->
   Snd S L (strSub p la lb) n1 ρ1 (QV w0 m bl n ρ fun w => (Instr.sliceAt t (.string (bA (sOf (p.den ρ)))) (lo.map a.eval) (hi.map a.eval) none).run P w) := fun lb ρ1 n1 hn ha hh hsc => by
   have hp1 : (A.str p).ok n1 bl.length ρ1 := hp.ext ha hn (Nat.le_refl _)
   have ep : p.den ρ1 = p.den ρ := Lin.den_agree ha hp.1
   have ea : la.den ρ1 = la.den ρ := Lin.den_agree ha hsc
   refine (strSub_snd (m := m) (bl := bl) (a := la) (b := lb) hp1).mono fun ρ2 n2 v _ _ ⟨q1,q2,q3,q4,q5⟩ => ⟨q1,_,q2,fun w _ => ?_⟩
   rw [ep,ea] at *
   have hbs : (Instr.sliceBounds false (bA (sOf (p.den ρ))).size (bA (sOf (p.den ρ))).size fl (hi.map a.eval) none).run P w = .ok ((la.den ρ).toNat,(lb.den ρ1).toNat,(bA (sOf (p.den ρ))).size) w := by
    rw [bA_size]
    rcases hfl with ⟨rfl,hz⟩ | ⟨k,rfl⟩ <;> rcases hh with ⟨h1,h2⟩ | ⟨k2,h1⟩
    ·rw [h1,hz,h2]; simp [Instr.sliceBounds]
    ·rw [h1,hz]; simp [Instr.sliceBounds,sliceB_ok (P := P) (by omega : 0 <= lb.den ρ1) q5]
    ·rw [h1,h2]; simp [Instr.sliceBounds,sliceB_ok (P := P) (y := (sOf (p.den ρ)).length) q3 (by omega)]
    ·rw [h1]; simp [Instr.sliceBounds,sliceB_ok (P := P) (by omega : 0 <= lb.den ρ1) q5,sliceB_ok (P := P) (y := (lb.den ρ1).toNat) q3 (by omega)]
   rw [e1]
   simp [Instr.sliceAt,Instr.slice,run_underlying hu,hbs]
  have hlsc : la.sc n := by
   cases lo with
   | none => simp only [Option.some.injEq] at hla; subst hla; exact Lin.sc_const _ _
   | some x => exact (intL_spec (m := m) (bl := bl) hla (opV_spec ht x).2 (opV_spec ht x).1).choose_spec.2
  cases hi with
  | none =>
   have hl := HB_s hp.2.2
   unfold mxL at hl
   exact (fnM_snd (op := 0) (args := [p]) (Int.natCast_nonneg _) (by show ((sOf (p.den ρ)).length : Int) <= _; omega)).bind fun ρ1 n1 l hn ha ⟨h1,h2⟩ => key l ρ1 n1 hn ha (.inl ⟨rfl,h2⟩) hlsc
  | some y =>
   simp only
   cases hy : intL (opV tm y) with
   | none => exact Snd.fail
   | some b =>
    obtain ⟨k,hk,_⟩ := intL_spec (m := m) (bl := bl) hy (opV_spec ht y).2 (opV_spec ht y).1
    exact key b ρ n (Nat.le_refl _) (agree.refl _ _) (.inr ⟨k,by rw [<- hk]; rfl⟩) hlsc
theorem LRel_map {xs : List Operand} (h : TRel n bl.length ρ m tm a.tmps) : LRel ρ m (xs.map (opV tm)) (xs.map a.eval) := by
 induction xs with
 | nil => trivial
 | cons x r ih => exact ⟨(opV_spec h x).2,ih⟩
theorem run_callFunc_eval {c : Call} {f : FuncId} (hc : c.callee = .value (.func f)) (o : Oper) (ho : o.op = .call c) : execOp a.eval o = callFunc f (c.args.map a.eval) := by
 simp only [execOp,ho,resolve,hc,Act.eval,Deferred.ofValue]
 simp [invoke,bind_pure_comp]
theorem eqF_snd {nb : Nat} {m : Nat -> Nat} : ∀ (fs : List Field) (x y : List A) (i n : Nat) (ρ : Env),fldOk P i fs = true -> (∀ a ∈ x,A.ok n nb ρ a) -> (∀ a ∈ y,A.ok n nb ρ a) ->
 Snd S L (eqF P fs x y) n ρ fun ρ' n' b => b.sc n' /\ ∀ (w : World) (d : Nat) (xs ys : Array Value),xs.toList.drop i = x.map (A.den ρ m) -> ys.toList.drop i = y.map (A.den ρ m) -> (Op.eqFields (d + 1) xs ys fs).run P w = .ok (b.den ρ') w
 | [],[],[],i,n,ρ,_,_,_ => Snd.pure ⟨trivial,fun w d xs ys _ _ => by simp [Op.eqFields,BE.den]⟩
 | f :: fs,x :: xs,y :: ys,i,n,ρ,hf,hx,hy => by
  cases x with
  | int k a =>
   cases y with
   | int k' b =>
    unfold fldOk at hf
    simp only [Bool.and_eq_true,bne_iff_ne,ne_eq] at hf
    obtain ⟨⟨hn,ho⟩,hf⟩ := hf
    have ho := Nat.eq_of_beq_eq_true ho
    unfold eqF
    split
    ·rename_i k2 hk2
     have hu := kindOf_spec hk2
     refine snd_guard fun hk => ?_
     have hk : k = k' := by simpa using hk
     subst hk
     have oa : a.ok n ρ := hx (.int k a) (by simp)
     have ob : b.ok n ρ := hy (.int k b) (by simp)
     refine (eqF_snd (nb := nb) (m := m) fs xs ys (i + 1) n ρ hf (fun z hz => hx z (List.mem_cons_of_mem _ hz)) (fun z hz => hy z (List.mem_cons_of_mem _ hz))).bind fun ρ' n' r hnn hag ⟨r1,r2⟩ => Snd.pure ?_
     have e1 := BE.den_mkEq (oa.agree hag hnn) (ob.agree hag hnn)
     refine ⟨BE.sc_mkAnd e1.2 r1,fun w d vx vy hvx hvy => ?_⟩
     have gx : vx[i]? = some (.int k (a.l.den ρ)) := by
      have := congrArg List.head? hvx
      simpa [A.den] using this
     have gy : vy[i]? = some (.int k (b.l.den ρ)) := by
      have := congrArg List.head? hvy
      simpa [A.den] using this
     have dx : vx.toList.drop (i + 1) = xs.map (A.den ρ m) := by
      have := congrArg List.tail hvx
      simpa using this
     have dy : vy.toList.drop (i + 1) = ys.map (A.den ρ m) := by
      have := congrArg List.tail hvy
      simpa using this
     have px : (part f.type vx f.offset).run P w = .ok (.int k (a.l.den ρ)) w := by simp [part,isAgg,run_underlying hu,ho,gx]
     have py : (part f.type vy f.offset).run P w = .ok (.int k (b.l.den ρ)) w := by simp [part,isAgg,run_underlying hu,ho,gy]
     have ea : a.l.den ρ' = a.l.den ρ := by
      have := A.den_ext (m := m) (m' := m) (hx (.int k a) (by simp)) hag (fun _ _ => rfl)
      simpa [A.den] using this
     have eb : b.l.den ρ' = b.l.den ρ := by
      have := A.den_ext (m := m) (m' := m) (hy (.int k b) (by simp)) hag (fun _ _ => rfl)
      simpa [A.den] using this
     simp only [Op.eqFields,ne_eq,hn,not_false_eq_true,if_true,Sem.run_bind,px,py,Result.andThen_ok,run_equalIn_int w d f.type k k2 _ _ hu,BE.den_mkAnd,e1.1,ea,eb]
     by_cases hq : a.l.den ρ = b.l.den ρ
     ·simp [hq,r2 w d vx vy dx dy]
     ·simp [hq]
    ·exact Snd.fail
   | _ => unfold eqF; exact Snd.fail
  | str a =>
   cases y with
   | str b =>
    unfold fldOk at hf
    simp only [Bool.and_eq_true,bne_iff_ne,ne_eq] at hf
    obtain ⟨⟨hn,ho⟩,hf⟩ := hf
    have ho := Nat.eq_of_beq_eq_true ho
    unfold eqF
    split
    ·rename_i hu
     have b1 := bit01 (sOf (a.den ρ) = sOf (b.den ρ))
     refine (fnM_snd (op := 4) (args := [a,b]) b1.1 b1.2).bind fun ρ1 n1 l hn1 hag1 ⟨h1,h2⟩ => ?_
     have h2 : l.den ρ1 = if sOf (a.den ρ) = sOf (b.den ρ) then 1 else 0 := h2
     have hx1 : ∀ z ∈ xs,A.ok n1 nb ρ1 z := fun z hz => (hx z (List.mem_cons_of_mem _ hz)).ext hag1 hn1 (Nat.le_refl _)
     have hy1 : ∀ z ∈ ys,A.ok n1 nb ρ1 z := fun z hz => (hy z (List.mem_cons_of_mem _ hz)).ext hag1 hn1 (Nat.le_refl _)
     have ol : (⟨l,0,1⟩ : IV).ok n1 ρ1 := ⟨h1,by simp only [h2]; exact b1.1,by simp only [h2]; exact b1.2⟩
     refine (eqF_snd (nb := nb) (m := m) fs xs ys (i + 1) n1 ρ1 hf hx1 hy1).bind fun ρ' n' r hnn hag ⟨r1,r2⟩ => Snd.pure ?_
     have e1 := BE.den_mkEq (n := n') (ρ := ρ') (a := ⟨l,0,1⟩) (b := .const 1) (ol.agree hag hnn) (IV.const_ok _ _ _)
     refine ⟨BE.sc_mkAnd e1.2 r1,fun w d vx vy hvx hvy => ?_⟩
     have gx : vx[i]? = some (.string (bA (sOf (a.den ρ)))) := by
      have := congrArg List.head? hvx
      simpa [A.den] using this
     have gy : vy[i]? = some (.string (bA (sOf (b.den ρ)))) := by
      have := congrArg List.head? hvy
      simpa [A.den] using this
     have dx : vx.toList.drop (i + 1) = xs.map (A.den ρ1 m) := by
      have := congrArg List.tail hvx
      rw [List.map_congr_left (g := A.den ρ m) fun z hz => A.den_ext (hx z (List.mem_cons_of_mem _ hz)) hag1 (fun _ _ => rfl)]
      simpa using this
     have dy : vy.toList.drop (i + 1) = ys.map (A.den ρ1 m) := by
      have := congrArg List.tail hvy
      rw [List.map_congr_left (g := A.den ρ m) fun z hz => A.den_ext (hy z (List.mem_cons_of_mem _ hz)) hag1 (fun _ _ => rfl)]
      simpa using this
     have px : (part f.type vx f.offset).run P w = .ok (.string (bA (sOf (a.den ρ)))) w := by simp [part,isAgg,run_underlying hu,ho,gx]
     have py : (part f.type vy f.offset).run P w = .ok (.string (bA (sOf (b.den ρ)))) w := by simp [part,isAgg,run_underlying hu,ho,gy]
     have el : l.den ρ' = l.den ρ1 := Lin.den_agree hag h1
     have e2 : (BE.mkEq ⟨l,0,1⟩ (.const 1)).den ρ' = decide (sOf (a.den ρ) = sOf (b.den ρ)) := by
      rw [e1.1]
      simp only [IV.const,Lin.den_const,el,h2]
      by_cases hq : sOf (a.den ρ) = sOf (b.den ρ) <;> simp [hq]
     simp only [Op.eqFields,ne_eq,hn,not_false_eq_true,if_true,Sem.run_bind,px,py,Result.andThen_ok,run_equalIn_string w d f.type _ _ hu,BE.den_mkAnd,e2,bA_toList]
     by_cases hq : sOf (a.den ρ) = sOf (b.den ρ)
     ·simp [hq,r2 w d vx vy dx dy]
     ·simp [hq]
    ·exact Snd.fail
   | _ => unfold eqF; exact Snd.fail
  | _ => unfold eqF; exact Snd.fail
 | [],_ :: _,_,_,_,_,_,_,_ => by unfold eqF; exact Snd.fail
 | [],[],y :: _,_,_,_,_,_,_ => by cases y <;> (unfold eqF; exact Snd.fail)
 | _ :: _,[],_,_,_,_,_,_,_ => by unfold eqF; exact Snd.fail
 | _ :: _,x :: _,[],_,_,_,_,_,_ => by cases x <;> (unfold eqF; exact Snd.fail)
def ValOf (P : Program) (t : TypeId) (l : List Value) (v : Value) : Prop := (isAggB P t = some true /\ v = .agg l.toArray) ∨ (isAggB P t = some false /\ l = [v])
theorem part_val {t : TypeId} {xs : Array Value} {o s : Nat} (hs : szB P t = some s) {v : Value} (h : ValOf P t ((xs.toList.drop o).take s) v) (w : World) : (part t xs o).run P w = .ok v w := by
 obtain ⟨l⟩ := xs
 rcases h with ⟨h1,rfl⟩ | ⟨h1,h2⟩
 ·simp [part,run_isAggB h1,run_szB hs,List.take_drop]
 ·have h3 : (⟨l⟩ : Array Value)[o]? = some v := by
   have h4 := congrArg List.head? h2
   rw [<- Array.getElem?_toList]
   cases s with
   | zero => simp at h2
   | succ s => simpa [List.head?_take,List.head?_drop] using h4
  simp [part,run_isAggB h1,h3]
theorem eqGF_snd {nb : Nat} {m : Nat -> Nat} {g : TypeId -> List A -> List A -> M BE} {D : Nat}
 (hg : ∀ (t : TypeId) (x y : List A) (n : Nat) (ρ : Env),(∀ a ∈ x,A.ok n nb ρ a) -> (∀ a ∈ y,A.ok n nb ρ a) -> Snd S L (g t x y) n ρ fun ρ' n' b => b.sc n' /\ ∃ vx vy,ValOf P t (x.map (A.den ρ m)) vx /\ ValOf P t (y.map (A.den ρ m)) vy /\ ∀ w,(Op.equalIn D t vx vy).run P w = .ok (b.den ρ') w) :
 ∀ (fs : List Field) (x y : List A) (o n : Nat) (ρ : Env),(∀ a ∈ x,A.ok n nb ρ a) -> (∀ a ∈ y,A.ok n nb ρ a) ->
 Snd S L (eqGF P g o fs x y) n ρ fun ρ' n' b => b.sc n' /\ ∀ (w : World) (xs ys : Array Value),xs.toList.drop o = x.map (A.den ρ m) -> ys.toList.drop o = y.map (A.den ρ m) -> (Op.eqFields D xs ys fs).run P w = .ok (b.den ρ') w
 | [],x,y,o,n,ρ,_,_ => Snd.pure ⟨trivial,fun w xs ys _ _ => by simp [Op.eqFields,BE.den]⟩
 | f :: fs,x,y,o,n,ρ,hx,hy => by
  unfold eqGF
  cases hs : szB P f.type with
  | none => exact Snd.fail
  | some s =>
   simp only
   refine snd_guard fun hc => ?_
   simp only [Bool.and_eq_true,bne_iff_ne,ne_eq] at hc
   obtain ⟨hn,ho⟩ := hc
   have ho := Nat.eq_of_beq_eq_true ho
   refine (hg f.type (x.take s) (y.take s) n ρ (fun a ha => hx a (List.mem_of_mem_take ha)) (fun a ha => hy a (List.mem_of_mem_take ha))).bind fun ρ1 n1 b hn1 ha1 ⟨b1,vx,vy,b2,b3,b4⟩ => ?_
   refine (eqGF_snd hg fs (x.drop s) (y.drop s) (o + s) n1 ρ1 (fun a ha => (hx a (List.mem_of_mem_drop ha)).ext ha1 hn1 (Nat.le_refl _)) (fun a ha => (hy a (List.mem_of_mem_drop ha)).ext ha1 hn1 (Nat.le_refl _))).bind fun ρ2 n2 r hn2 ha2 ⟨r1,r2⟩ => Snd.pure ⟨BE.sc_mkAnd (b1.mono hn2) r1,fun w xs ys hxs hys => ?_⟩
   have px : (part f.type xs f.offset).run P w = .ok vx w := part_val hs (by rw [ho,hxs,<- List.map_take]; exact b2) w
   have py : (part f.type ys f.offset).run P w = .ok vy w := part_val hs (by rw [ho,hys,<- List.map_take]; exact b3) w
   have dx : xs.toList.drop (o + s) = (x.drop s).map (A.den ρ1 m) := by
    rw [<- List.drop_drop,hxs,<- List.map_drop]
    exact (map_den_ext (fun a ha => hx a (List.mem_of_mem_drop ha)) ha1 (fun _ _ => rfl)).symm
   have dy : ys.toList.drop (o + s) = (y.drop s).map (A.den ρ1 m) := by
    rw [<- List.drop_drop,hys,<- List.map_drop]
    exact (map_den_ext (fun a ha => hy a (List.mem_of_mem_drop ha)) ha1 (fun _ _ => rfl)).symm
   have eb : b.den ρ2 = b.den ρ1 := BE.den_agree ha2 b1
   simp only [Op.eqFields,ne_eq,hn,not_false_eq_true,if_true,Sem.run_bind,px,py,Result.andThen_ok,b4 w,BE.den_mkAnd,eb]
   cases hq : b.den ρ1 with
   | true => simp [r2 w xs ys dx dy]
   | false => simp
theorem eqG_snd {nb : Nat} {m : Nat -> Nat} : ∀ (d : Nat) (t : TypeId) (x y : List A) (n : Nat) (ρ : Env),(∀ a ∈ x,A.ok n nb ρ a) -> (∀ a ∈ y,A.ok n nb ρ a) -> ∀ D,d <= D ->
 Snd S L (eqG P d t x y) n ρ fun ρ' n' b => b.sc n' /\ ∃ vx vy,ValOf P t (x.map (A.den ρ m)) vx /\ ValOf P t (y.map (A.den ρ m)) vy /\ ∀ w,(Op.equalIn D t vx vy).run P w = .ok (b.den ρ') w
 | 0,t,x,y,n,ρ,_,_,_,_ => Snd.fail
 | d + 1,t,x,y,n,ρ,hx,hy,D,hD => by
  obtain ⟨E,rfl⟩ : ∃ E,D = E + 1 := ⟨D - 1,by omega⟩
  unfold eqG
  split
  ·rename_i k hu
   split
   ·rename_i k1 a k2 b
    refine snd_guard fun hk => ?_
    have hk : k1 = k2 := by simpa using hk
    subst hk
    have oa : a.ok n ρ := hx (.int k1 a) (by simp)
    have ob : b.ok n ρ := hy (.int k1 b) (by simp)
    have e1 := BE.den_mkEq oa ob
    have hag : isAggB P t = some false := by simp [isAggB,hu]
    refine Snd.pure ⟨e1.2,_,_,.inr ⟨hag,rfl⟩,.inr ⟨hag,rfl⟩,fun w => ?_⟩
    simp only [A.den]
    rw [run_equalIn_int w E t k1 k _ _ hu,e1.1]
    rfl
   ·exact Snd.fail
  ·rename_i hu
   split
   ·rename_i a b
    have b1 := bit01 (sOf (a.den ρ) = sOf (b.den ρ))
    have hag : isAggB P t = some false := by simp [isAggB,hu]
    refine (fnM_snd (op := 4) (args := [a,b]) b1.1 b1.2).bind fun ρ1 n1 l hn1 hag1 ⟨h1,h2⟩ => Snd.pure ?_
    have h2 : l.den ρ1 = if sOf (a.den ρ) = sOf (b.den ρ) then 1 else 0 := h2
    have ol : (⟨l,0,1⟩ : IV).ok n1 ρ1 := ⟨h1,by simp only [h2]; exact b1.1,by simp only [h2]; exact b1.2⟩
    have e1 := BE.den_mkEq (n := n1) (ρ := ρ1) (a := ⟨l,0,1⟩) (b := .const 1) ol (IV.const_ok _ _ _)
    refine ⟨e1.2,_,_,.inr ⟨hag,rfl⟩,.inr ⟨hag,rfl⟩,fun w => ?_⟩
    simp only [A.den]
    rw [run_equalIn_string w E t _ _ hu,e1.1,bA_toList,bA_toList]
    simp only [IV.const,Lin.den_const,h2]
    by_cases hq : sOf (a.den ρ) = sOf (b.den ρ)
    ·simp [hq]
    ·simp [hq]
   ·exact Snd.fail
  ·rename_i hu
   split
   ·rename_i a b
    have hag : isAggB P t = some false := by simp [isAggB,hu]
    have oa : a.sc n := hx (.bool a) (by simp)
    have ob : b.sc n := hy (.bool b) (by simp)
    refine Snd.pure ⟨BE.sc_mkIff oa ob,_,_,.inr ⟨hag,rfl⟩,.inr ⟨hag,rfl⟩,fun w => ?_⟩
    simp only [A.den]
    rw [run_equalIn_bool w E t _ _ hu,BE.den_mkIff]
   ·exact Snd.fail
  ·rename_i fs hu
   refine snd_guard fun hg => ?_
   have hg : P.stoodInHeld t = false := by simpa using hg
   have hag : isAggB P t = some true := by simp [isAggB,hu]
   refine (eqGF_snd (m := m) (D := E) (fun t x y n ρ h1 h2 => eqG_snd d t x y n ρ h1 h2 E (by omega)) fs.toList x y 0 n ρ hx hy).mono fun ρ' n' b _ _ ⟨h1,h2⟩ => ⟨h1,_,_,.inl ⟨hag,rfl⟩,.inl ⟨hag,rfl⟩,fun w => ?_⟩
   have hf : P.fieldsOf t = fs := by simp [Program.fieldsOf,hu]
   rw [run_equalIn_struct w E t _ _ (by rw [hf]; exact hu) hg,hf]
   exact h2 w _ _ (by simp) (by simp)
  ·exact Snd.fail
theorem eqS_snd {nb : Nat} {m : Nat -> Nat} {t : TypeId} {x y : List A} (hx : ∀ a ∈ x,A.ok n nb ρ a) (hy : ∀ a ∈ y,A.ok n nb ρ a) :
 Snd S L (eqS P t x y) n ρ fun ρ' n' b => b.sc n' /\ P.eqGuardType P.depth t = false /\ ∀ w,(Op.equalIn 10000 t (.agg (x.map (A.den ρ m)).toArray) (.agg (y.map (A.den ρ m)).toArray)).run P w = .ok (b.den ρ') w := by
 unfold eqS
 split
 ·rename_i fs hu
  have hagg : isAggB P t = some true := by simp [isAggB,hu]
  have deep : P.eqGuardType P.depth t = false -> Snd S L (eqG P 8 t x y) n ρ fun ρ' n' b => b.sc n' /\ P.eqGuardType P.depth t = false /\ ∀ w,(Op.equalIn 10000 t (.agg (x.map (A.den ρ m)).toArray) (.agg (y.map (A.den ρ m)).toArray)).run P w = .ok (b.den ρ') w := fun hg =>
   (eqG_snd (m := m) 8 t x y n ρ hx hy 10000 (by decide)).mono fun ρ' n' b _ _ ⟨h1,vx,vy,h2,h3,h4⟩ => ⟨h1,hg,fun w => by
     rcases h2 with ⟨_,rfl⟩ | ⟨h2,_⟩
     ·rcases h3 with ⟨_,rfl⟩ | ⟨h3,_⟩
      ·exact h4 w
      ·rw [hagg] at h3; cases h3
     ·rw [hagg] at h2; cases h2⟩
  cases hg : (fldOk P 0 fs.toList && !P.stoodInHeld t && !P.eqGuardType P.depth t) with
  | true =>
   simp only [cond_true]
   simp only [Bool.and_eq_true,Bool.not_eq_true'] at hg
   generalize (fs.toList.all fun f => match P.underlying f.type with | some (.int _) => true | some .string => true | _ => false) = flat
   cases flat with
   | true =>
    simp only [cond_true]
    refine (eqF_snd (nb := nb) (m := m) fs.toList x y 0 n ρ hg.1.1 hx hy).mono fun ρ' n' b _ _ ⟨h1,h2⟩ => ⟨h1,hg.2,fun w => ?_⟩
    have hf : P.fieldsOf t = fs := by simp [Program.fieldsOf,hu]
    rw [run_equalIn_struct w 9999 t _ _ (by rw [hf]; exact hu) hg.1.2,hf]
    exact h2 w 9998 _ _ (by simp) (by simp)
   | false => exact deep hg.2
  | false =>
   simp only [cond_false]
   refine snd_guard fun hg2 => deep (by simpa using hg2)
 ·exact Snd.fail
theorem qop0_snd {cal : Cal} (hcal : CalOk S P gl w0 cal) (hb : BlOk n bl.length ρ bl) (hg : GOk gl w0) (hex : ∃ w,Mem w0 ρ m bl w) (ht : TRel n bl.length ρ m tm a.tmps) (o : Oper) :
 Snd S L (qop0 P cal gl bl tm o) n ρ (QR w0 m bl n ρ P o a) := by
 unfold qop0
 split
 case h_1 x h =>
  exact Snd.pure ⟨(opV_spec ht x).1,_,(opV_spec ht x).2,fun w _ => .inl (by simp [execOp,h])⟩
 case h_2 x h =>
  exact Snd.pure ⟨(opV_spec ht x).1,_,(opV_spec ht x).2,fun w _ => .inl (by simp [execOp,h])⟩
 case h_3 t x h =>
  have hx := opV_spec ht x
  have he : execOp a.eval o = (do pure (Next.value (<- Instr.loadAt t (a.eval x)))) := by simp only [execOp,h]
  split
  ·rename_i b off ix hv
   rw [hv] at hx
   have hxr : a.eval x = (A.pix b off ix).den ρ m := hx.2
   rw [hxr] at he
   exact (selQ_snd hb t b off hx.1.2.1).mono fun _ _ _ _ _ hq => QR.of_run he hq
  ·rename_i p _ hv
   rw [hv] at hx
   have hxr : a.eval x = p.den ρ m := hx.2
   rw [hxr] at he
   exact (loadQ_snd hb hg hex t p).mono fun _ _ _ _ _ hq => QR.of_run he hq
  ·exact Snd.fail
 case h_4 x h =>
  have hx := opV_spec ht x
  unfold nilQ
  split <;> first
   | exact Snd.fail
   | (rename_i hv
      rw [hv] at hx
      refine Snd.pure ⟨hx.1,_,rfl,fun w _ => .inl ?_⟩
      have hxr := hx.2
      simp only [V.rel,W.den,A.den] at hxr
      simp [execOp,h,hxr,W.den,A.den])
 case h_5 c x y h =>
  have hc := opV_spec ht c
  split
  ·rename_i v hv
   rw [hv] at hc
   have e1 : a.eval c = .bool v := hc.2
   cases v with
   | true => exact Snd.pure ⟨(opV_spec ht x).1,_,(opV_spec ht x).2,fun w _ => .inl (by simp [execOp,h,e1,asBool])⟩
   | false => exact Snd.pure ⟨(opV_spec ht y).1,_,(opV_spec ht y).2,fun w _ => .inl (by simp [execOp,h,e1,asBool])⟩
  ·exact Snd.fail
 case h_6 op t x y t' h =>
  have hx := opV_spec ht x
  have hy := opV_spec ht y
  unfold binQ
  split
  ·rename_i k p k' q hv1 hv2
   rw [hv1] at hx; rw [hv2] at hy
   have e1 : a.eval x = .int k (p.l.den ρ) := hx.2
   have e2 : a.eval y = .int k' (q.l.den ρ) := hy.2
   refine (binI_snd (nb := bl.length) (m := m) P t hx.1 hy.1).bind fun ρ1 n1 r _ _ ⟨h1,h2⟩ => Snd.pure ⟨h1,_,rfl,fun w _ => .inl ?_⟩
   have hgd : (eqGuard op t x y (.int k (p.l.den ρ)) (.int k' (q.l.den ρ))).run P w = .ok () w := by cases op <;> simp [eqGuard]
   simp only [execOp,h,e1,e2]
   simp [hgd,h2,W.den]
  ·rename_i p q hv1 hv2
   rw [hv1] at hx; rw [hv2] at hy
   have e1 : a.eval x = .agg (p.map (A.den ρ m)).toArray := hx.2
   have e2 : a.eval y = .agg (q.map (A.den ρ m)).toArray := hy.2
   split
   ·rename_i b heq
    obtain ⟨s1,g1,r1⟩ := eqQ_spec (m := m) heq hx.1 hy.1
    refine Snd.pure ⟨s1,_,rfl,fun w _ => .inl ?_⟩
    simp only [execOp,h,e1,e2]
    simp [run_eqGuard_agg w .eql t x y _ _ g1,run_eql_struct,r1,W.den,A.den]
   ·rename_i b heq
    obtain ⟨s1,g1,r1⟩ := eqQ_spec (m := m) heq hx.1 hy.1
    refine Snd.pure ⟨BE.sc_mkNot s1,_,rfl,fun w _ => .inl ?_⟩
    simp only [execOp,h,e1,e2]
    simp [run_eqGuard_agg w .neq t x y _ _ g1,run_neq_struct,r1,W.den,A.den,BE.den_mkNot]
   ·rename_i heq
    refine (eqS_snd (m := m) (t := t) hx.1 hy.1).bind fun ρ' n' r _ _ ⟨r1,g1,r2⟩ => Snd.pure ⟨r1,_,rfl,fun w _ => .inl ?_⟩
    simp only [execOp,h,e1,e2]
    simp [run_eqGuard_agg w .eql t x y _ _ g1,run_eql_struct,r2,W.den,A.den]
   ·rename_i heq
    refine (eqS_snd (m := m) (t := t) hx.1 hy.1).bind fun ρ' n' r _ _ ⟨r1,g1,r2⟩ => Snd.pure ⟨BE.sc_mkNot r1,_,rfl,fun w _ => .inl ?_⟩
    simp only [execOp,h,e1,e2]
    simp [run_eqGuard_agg w .neq t x y _ _ g1,run_neq_struct,r2,W.den,A.den,BE.den_mkNot]
   ·exact Snd.fail
  ·rename_i p q hv1 hv2
   rw [hv1] at hx; rw [hv2] at hy
   have e1 : a.eval x = .string (bA (sOf (p.den ρ))) := hx.2
   have e2 : a.eval y = .string (bA (sOf (q.den ρ))) := hy.2
   have he : execOp a.eval o = (do pure (Next.value (<- (do eqGuard op t x y (.string (bA (sOf (p.den ρ)))) (.string (bA (sOf (q.den ρ)))); binOp op t (.string (bA (sOf (p.den ρ)))) (.string (bA (sOf (q.den ρ)))) : Sem Value)))) := by simp only [execOp,h,e1,e2]
   exact (strBin_snd (op := op) (t := t) (x := x) (y := y) (w0 := w0) (m := m) hx.1 hy.1).mono fun _ _ _ _ _ hq => QR.of_run he hq
  ·rename_i p q hv1 hv2
   rw [hv1] at hx; rw [hv2] at hy
   have e1 : a.eval x = .bool (p.den ρ) := hx.2
   have e2 : a.eval y = .bool (q.den ρ) := hy.2
   have hgd : (eqGuard op t x y (.bool (p.den ρ)) (.bool (q.den ρ))).run P = fun w => .ok () w := by funext w; cases op <;> simp [eqGuard]
   split
   ·rename_i hu
    refine Snd.pure ⟨BE.sc_mkIff hx.1 hy.1,_,rfl,fun w _ => .inl ?_⟩
    simp only [execOp,h,e1,e2]
    simp [hgd,run_eql_bool w t _ _ hu,W.den,A.den,BE.den_mkIff]
   ·rename_i hu
    refine Snd.pure ⟨BE.sc_mkNot (BE.sc_mkIff hx.1 hy.1),_,rfl,fun w _ => .inl ?_⟩
    simp only [execOp,h,e1,e2]
    simp [hgd,run_neq_bool w t _ _ hu,W.den,A.den,BE.den_mkIff,BE.den_mkNot]
   ·exact Snd.fail
  ·exact Snd.fail
 case h_7 op t x h =>
  have hx := opV_spec ht x
  unfold unQ
  split
  ·rename_i b hv
   rw [hv] at hx
   have e1 : a.eval x = .bool (b.den ρ) := hx.2
   refine Snd.pure ⟨BE.sc_mkNot hx.1,_,rfl,fun w _ => .inl ?_⟩
   simp [execOp,h,e1,Op.unary,W.den,A.den,BE.den_mkNot]
  ·rename_i k p hv
   rw [hv] at hx
   have e1 : a.eval x = .int k (p.l.den ρ) := hx.2
   refine snd_guard fun hc => ?_
   simp only [Bool.and_eq_true,Bool.not_eq_true',decide_eq_true_eq] at hc
   have hp := hx.1
   have bp := IV.ok.agree (n' := n) hp (agree.refl n ρ) (Nat.le_refl _)
   have b2 := bp.2
   have e2 : ((Lin.const (two k - 1)).sub p.l).den ρ = two k - 1 - p.l.den ρ := by rw [Lin.den_sub,Lin.den_const]
   refine Snd.pure ⟨⟨Lin.sc_sub (Lin.sc_const _ _) bp.1,by simp only [e2]; omega,by simp only [e2]; omega⟩,_,rfl,fun w _ => .inl ?_⟩
   have key : k.wrap (BitVec.ofInt k.bits (if k.signed = true then -1 else k.max) ^^^ BitVec.ofInt k.bits (p.l.den ρ)).toNat = two k - 1 - p.l.den ρ := by
    have hk := hc.1.1
    obtain ⟨X,hX⟩ := Int.eq_ofNat_of_zero_le (show 0 <= p.l.den ρ by omega)
    have hlt : X < 2 ^ k.bits := by
     have : (X : Int) < 2 ^ k.bits := by rw [<- two_eq,<- hX]; omega
     exact_mod_cast this
    have hall : (BitVec.ofInt k.bits (if k.signed = true then -1 else k.max)) = BitVec.allOnes k.bits := by
     cases k <;> simp [IntKind.signed] at hk <;> rfl
    rw [hall,BitVec.allOnes_xor,BitVec.toNat_not,hX,BitVec.toNat_ofInt]
    have e3 : ((X : Int) % ((2 ^ k.bits : Nat) : Int)).toNat = X := by
     rw [Int.emod_eq_of_lt (by omega) (by exact_mod_cast hlt)]; rfl
    rw [e3,wrap_eq]
    have hh : half k = 0 := by simp [half,hk]
    have h2 : two k = ((2 ^ k.bits : Nat) : Int) := by rw [two_eq]; simp
    rw [hh,h2,Int.add_zero,Int.sub_zero,Int.emod_eq_of_lt (by omega) (by omega)]
    omega
   simp only [execOp,h,e1,Op.unary,Op.intBits,W.den,A.den,e2]
   simp at key
   simp [key]
  ·rename_i k p hv
   rw [hv] at hx
   have e1 : a.eval x = .int k (p.l.den ρ) := hx.2
   have b2 := IV.ok.agree (n' := n) hx.1 (agree.refl n ρ) (Nat.le_refl _)
   have b3 := b2.2
   have e2 : (p.l.smul (-1)).den ρ = -p.l.den ρ := by rw [Lin.den_smul]; omega
   refine (wrapM_snd (k := k) (x := ⟨p.l.smul (-1),-p.hi,-p.lo⟩) ⟨Lin.sc_smul b2.1,by simp only [e2]; omega,by simp only [e2]; omega⟩).bind fun ρ1 n1 r _ _ ⟨h1,h2⟩ => Snd.pure ⟨h1,_,rfl,fun w _ => .inl ?_⟩
   simp only [e2] at h2
   simp [execOp,h,e1,Op.unary,Op.intArith,W.den,A.den,h2]
  ·exact Snd.fail
 case h_8 s d x h =>
  have hx := opV_spec ht x
  unfold convQ
  split
  ·rename_i k' p hu hk hv
   rw [hv] at hx
   have e1 : a.eval x = .int k' (p.l.den ρ) := hx.2
   split
   ·rename_i c hc
    refine snd_guard fun hsz => ?_
    have hl : (Utf8.encode c).data.toList.length <= mxL := by
     have := Nat.le_of_ble_eq_true hsz
     have h2 : (Utf8.encode c).data.toList.length = (Utf8.encode c).size := by simp
     unfold mxL; omega
    refine Snd.pure ⟨⟨Lin.sc_const _ _,by rw [Lin.den_const]; exact cOf_nonneg _,by rw [Lin.den_const]; exact HB_c hl⟩,_,rfl,fun w _ => .inl ?_⟩
    simp [execOp,h,e1,convert,run_underlying hu,run_underlying hk,Conv.intToString,W.den,A.den,Lin.den_const,sOf_cOf,bA,Lin.den_isC hc]
   ·exact Snd.fail
  ·split
   rotate_left
   ·exact Snd.fail
   rename_i k k' p hu hk hv
   rw [hv] at hx
   have e1 : a.eval x = .int k' (p.l.den ρ) := hx.2
   refine (wrapM_snd (k := k) hx.1).bind fun ρ1 n1 r _ _ ⟨h1,h2⟩ => Snd.pure ⟨h1,_,rfl,fun w _ => .inl ?_⟩
   simp [execOp,h,e1,convert,run_underlying hu,run_underlying (kindOf_spec hk),Conv.intToInt,W.den,A.den,h2]
 case h_9 t x ix h =>
  have hx := opV_spec ht x
  have hi := opV_spec ht ix
  split
  ·rename_i k i hv
   rw [hv] at hi
   have e1 : a.eval ix = .int k (i.l.den ρ) := hi.2
   have he : execOp a.eval o = (do pure (Next.value (<- Instr.indexAt t (a.eval x) (.int k (i.l.den ρ))))) := by simp only [execOp,h,e1]
   exact (idxQ_snd hx.1 hx.2 hi.1).mono fun _ _ _ _ _ hq => QR.of_run he hq
  ·exact Snd.fail
 case h_10 t x ix h =>
  have hx := opV_spec ht x
  have hi := opV_spec ht ix
  split
  ·rename_i s hv
   rw [hv] at hx
   have e1 : a.eval x = .string (bA (sOf (s.den ρ))) := hx.2
   split
   ·rename_i i hu hci
    obtain ⟨k,hk,_⟩ := intL_spec (m := m) (bl := bl) hci hi.2 hi.1
    have he : execOp a.eval o = (do pure (Next.value (<- Instr.index t (.string (bA (sOf (s.den ρ)))) (.int k (i.den ρ))))) := by simp only [execOp,h,e1,hk]
    exact (strIdx_snd (w0 := w0) (m := m) hu hx.1).mono fun _ _ _ _ _ hq => QR.of_run he hq
   ·exact Snd.fail
  split
  ·rename_i l i len e hv hci harr
   rw [hv] at hx
   have e1 : a.eval x = .agg (l.map (A.den ρ m)).toArray := hx.2
   have e2 : ∃ k,a.eval ix = .int k i := by
    unfold constI at hci
    split at hci
    ·rename_i k p hv2
     rw [hv2] at hi
     have : a.eval ix = .int k (p.l.den ρ) := hi.2
     exact ⟨k,by rw [this,Lin.den_isC hci]⟩
    ·cases hci
   obtain ⟨k,e2⟩ := e2
   split
   ·rename_i s hs
    refine snd_guard fun hc => ?_
    simp only [Bool.and_eq_true,decide_eq_true_eq] at hc
    refine (partQ_snd (w0 := w0) (m := m) (bl := bl) hx.1).mono fun ρ1 n1 v _ _ ⟨q1,val,q2,q3⟩ => ⟨q1,val,q2,fun w hw => .inl ?_⟩
    have := q3 w hw
    simp [execOp,h,e1,e2,Instr.index,asIntOf,run_underlying (arrOf_spec harr),hc,run_szB hs,this]
   ·exact Snd.fail
  ·exact Snd.fail
 case h_11 s x f h =>
  have hx := opV_spec ht x
  split
  ·rename_i b off fd hv hf
   rw [hv] at hx
   have e1 : a.eval x = .pointer (some ⟨m b,off,none⟩) := hx.2
   obtain ⟨fs,hu,hfd⟩ := fieldOf_spec hf
   split
   ·rename_i k hs
    refine Snd.pure ⟨hx.1,_,rfl,fun w _ => .inl ?_⟩
    simp [execOp,h,e1,Instr.fieldAt,run_underlying hu,hfd,Instr.sureAddr,fieldPlace,run_szB hs,addr_add,W.den,A.den]
   ·exact Snd.fail
  ·exact Snd.fail
 case h_12 s x f h =>
  have hx := opV_spec ht x
  split
  ·rename_i l fd hv hf
   rw [hv] at hx
   have e1 : a.eval x = .agg (l.map (A.den ρ m)).toArray := hx.2
   obtain ⟨fs,hu,hfd⟩ := fieldOf_spec hf
   refine (partQ_snd (w0 := w0) (m := m) (bl := bl) hx.1).mono fun ρ1 n1 v _ _ ⟨q1,val,q2,q3⟩ => ⟨q1,val,q2,fun w hw => .inl ?_⟩
   have := q3 w hw
   simp [execOp,h,e1,Instr.field,asAgg,run_underlying hu,hfd,this]
  ·exact Snd.fail
 case h_13 x i h =>
  have hx := opV_spec ht x
  split
  ·rename_i l hv
   rw [hv] at hx
   have e1 : a.eval x = .tuple (l.map (W.den ρ m)).toArray := hx.2
   split
   ·rename_i u hu
    refine Snd.pure ⟨hx.1 u (List.mem_of_getElem? hu),_,rfl,fun w _ => .inl ?_⟩
    simp [execOp,h,e1,Instr.extract,hu]
   ·exact Snd.fail
  ·exact Snd.fail
 case h_14 t x lo hi h =>
  have hx := opV_spec ht x
  split
  ·rename_i s hv hu
   rw [hv] at hx
   have e1 : a.eval x = .string (bA (sOf (s.den ρ))) := hx.2
   have he : execOp a.eval o = (do pure (Next.value (<- Instr.sliceAt t (.string (bA (sOf (s.den ρ)))) (lo.map a.eval) (hi.map a.eval) none))) := by simp only [execOp,h,e1]; rfl
   exact (strSl_snd (w0 := w0) (m := m) hu hx.1 ht).mono fun _ _ _ _ _ hq => QR.of_run he hq
  have key : ∀ (y : Option Operand) (c : Option Int),optC tm y = some c -> ∃ f : Int -> Value,(∀ c,∃ k,f c = .int k c) /\ y.map a.eval = c.map f := by
   intro y c hy
   unfold optC at hy
   cases y with
   | none => simp at hy; subst hy; exact ⟨fun c => .int .i64 c,fun c => ⟨_,rfl⟩,rfl⟩
   | some y =>
    simp only at hy
    have hi := opV_spec ht y
    unfold constI at hy
    split at hy
    ·rename_i c' hq
     split at hq
     ·rename_i k p hv2
      simp only [Option.some.injEq] at hy; subst hy
      rw [hv2] at hi
      have : a.eval y = .int k (p.l.den ρ) := hi.2
      exact ⟨fun c => .int k c,fun c => ⟨_,rfl⟩,by simp [this,Lin.den_isC hq]⟩
     ·cases hq
    ·cases hy
  split
  ·rename_i l hh h1 h2
   obtain ⟨fl,fl1,fl2⟩ := key lo l h1
   obtain ⟨fh,fh1,fh2⟩ := key hi hh h2
   unfold slQ
   split
   ·rename_i b off nn e hv harr
    rw [hv] at hx
    have e1 : a.eval x = .pointer (some ⟨m b,off,none⟩) := hx.2
    split
    ·rename_i s hs
     refine snd_guard fun hc => ?_
     simp only [Bool.and_eq_true,decide_eq_true_eq] at hc
     refine Snd.pure ⟨hx.1,_,rfl,fun w _ => .inl ?_⟩
     have hb1 : (Instr.sliceBounds false nn nn (lo.map a.eval) (hi.map a.eval) none).run P w = .ok ((l.getD 0).toNat,(hh.getD nn).toNat,nn) w := by
      rw [fl2,fh2]
      have c1 : ∀ (k : IntKind) (i : Int) (y : Nat) (cd : BoundsCode),0 <= i -> i <= y -> (Instr.sliceBound (.int k i) y cd).run P w = .ok i.toNat w := fun k i y cd p1 p2 => by
       simp [Instr.sliceBound,asIntOf,p1,p2]
      cases l with
      | none =>
       cases hh with
       | none => simp [Instr.sliceBounds]
       | some h' =>
        obtain ⟨k',hk'⟩ := fh1 h'
        simp only [Option.getD_none,Option.getD_some] at hc
        simp [Instr.sliceBounds,hk',c1 k' h' nn _ (by omega) (by omega)]
      | some l' =>
       obtain ⟨k1,hk1⟩ := fl1 l'
       cases hh with
       | none =>
        simp only [Option.getD_none,Option.getD_some] at hc
        simp [Instr.sliceBounds,hk1,c1 k1 l' nn _ (by omega) (by omega)]
       | some h' =>
        obtain ⟨k',hk'⟩ := fh1 h'
        simp only [Option.getD_some] at hc
        simp [Instr.sliceBounds,hk',hk1,c1 k' h' nn _ (by omega) (by omega),c1 k1 l' h'.toNat _ (by omega) (by omega)]
     simp only [execOp,h,e1,Option.map_none,Instr.sliceAt]
     simp [run_underlying (arrOf_spec harr),Instr.sureAddr,hb1,run_szB hs,addr_add,W.den,A.den]
     intro hq
     have h3 := hc.2
     omega
    ·exact Snd.fail
   ·exact Snd.fail
  ·exact Snd.fail
 case h_15 c h =>
  split
  ·rename_i f hc
   split
   ·rename_i g hgf
    have hargs : ∀ v ∈ c.args.toList.map (opV tm),V.ok n bl.length ρ v := fun v hv => by
     obtain ⟨x,_,rfl⟩ := List.mem_map.1 hv
     exact (opV_spec ht x).1
    refine (hcal f g hgf L n ρ m bl _ _ hb hex hargs (LRel_map (xs := c.args.toList) ht)).mono fun ρ1 n1 v _ _ ⟨q1,val,q2,q3⟩ => ⟨q1,val,q2,fun w hw => ?_⟩
    have he := run_callFunc_eval (a := a) hc o h
    have ha : (c.args.toList.map a.eval).toArray = c.args.map a.eval := by
     rw [<- Array.toList_map]
    have q4 := q3 w hw
    rw [ha] at q4
    rcases q4 with q4 | ⟨q4,q5⟩
    ·exact .inl (by rw [he]; exact q4)
    ·exact .inr ⟨f,_,by rw [he]; exact q4,q5⟩
   ·exact Snd.fail
  ·rename_i hc
   split
   ·rename_i x t hxs hts
    have hx := opV_spec ht x
    split
    ·rename_i s hv hu
     rw [hv] at hx
     have e1 : a.eval x = .string (bA (sOf (s.den ρ))) := hx.2
     have a1 : c.args = #[x] := by rw [<- Array.toArray_toList (xs := c.args),hxs]
     have a2 : c.argTypes = #[t] := by rw [<- Array.toArray_toList (xs := c.argTypes),hts]
     have he : execOp a.eval o = (do pure (Next.value (<- Builtin.len_ #[t] o.type #[.string (bA (sOf (s.den ρ)))]))) := by
      simp [execOp,h,resolve,hc,a1,a2,e1,invoke,builtin]
     exact (strLen_snd (w0 := w0) (m := m) hu hx.1).mono fun _ _ _ _ _ hq => QR.of_run he hq
    split
    ·rename_i b off len cap e hv hs
     rw [hv] at hx
     have e1 : a.eval x = .slice (some ⟨m b,off,none⟩) len cap := hx.2
     refine Snd.pure ⟨IV.const_ok _ _ _,_,rfl,fun w _ => .inl ?_⟩
     have a1 : c.args = #[x] := by rw [<- Array.toArray_toList (xs := c.args),hxs]
     have a2 : c.argTypes = #[t] := by rw [<- Array.toArray_toList (xs := c.argTypes),hts]
     simp [execOp,h,resolve,hc,a1,a2,e1,invoke,builtin,Builtin.len_,run_underlying (slcOf_spec hs),goInt,W.den,A.den,IV.const,Lin.den_const]
    ·rename_i b len lo e hv hs
     rw [hv] at hx
     obtain ⟨cp,_,e1⟩ := hx.2
     refine Snd.pure ⟨IV.const_ok _ _ _,_,rfl,fun w _ => .inl ?_⟩
     have a1 : c.args = #[x] := by rw [<- Array.toArray_toList (xs := c.args),hxs]
     have a2 : c.argTypes = #[t] := by rw [<- Array.toArray_toList (xs := c.argTypes),hts]
     simp [execOp,h,resolve,hc,a1,a2,e1,invoke,builtin,Builtin.len_,run_underlying (slcOf_spec hs),goInt,W.den,A.den,IV.const,Lin.den_const]
    ·exact Snd.fail
   ·exact Snd.fail
  ·exact Snd.fail
 case h_16 f first caps h =>
  split
  ·rename_i l hf hl
   obtain ⟨g1,g2⟩ := onesL_spec (m := m) hl (fun v hv => by obtain ⟨x,_,rfl⟩ := List.mem_map.1 hv; exact (opV_spec ht x).1) (LRel_map (xs := caps.toList) ht)
   have hf' : first = #[] := by rw [<- Array.toArray_toList (xs := first),hf]
   have hc' : caps.map a.eval = (l.map (A.den ρ m)).toArray := by rw [<- g2,<- Array.toList_map]
   refine Snd.pure ⟨g1,_,rfl,fun w _ => .inl ?_⟩
   simp only [execOp,h,hc',hf']
   simp [Instr.makeFunc]
  ·exact Snd.fail
 case h_17 t parts h =>
  split
  ·rename_i l hl
   obtain ⟨g1,g2⟩ := buildL_spec (n := n) (nb := bl.length) (ρ := ρ) (m := m) (vals := (parts.map fun (i,x) => (i,a.eval x)).toList) hl (by
    rw [Array.toList_map]
    generalize parts.toList = ps
    induction ps with
    | nil => exact trivial
    | cons p r ih => exact ⟨⟨rfl,opV_spec ht p.2⟩,ih⟩)
   refine Snd.pure ⟨g1,_,rfl,fun w _ => .inl ?_⟩
   simp only [execOp,h]
   simp [run_build w t _ _ g2,W.den]
  ·exact Snd.fail
 case h_18 => exact Snd.fail
end
end Go.Rx
set_option linter.unusedVariables false
set_option linter.unusedSimpArgs false
namespace Go.Rx
open M
noncomputable def cellM (c : CK) (code i : Lin) (j : Nat) : M A :=
 match c with
 | .int k lo hi => bind (fnM 21 [code,i,.const j] lo hi) fun l => pure (.int k ⟨l,lo,hi⟩)
 | .str => bind (fnM 21 [code,i,.const j] 0 HB) fun l => pure (.str l)
 | .bool => bind (fnM 21 [code,i,.const j] 0 1) fun l => pure (.bool (.mkEq ⟨l,0,1⟩ (.const 1)))
noncomputable def cellsM (code i : Lin) : Nat -> List CK -> M (List A)
 | _,[] => pure []
 | j,c :: r => bind (cellM c code i j) fun a => bind (cellsM code i (j + 1) r) fun l => pure (a :: l)
noncomputable def epLoad (P : Program) (bl : List Blk) (t : TypeId) (b sz : Nat) (o i : Lin) (j : Nat) : M V :=
 match bl[b]? with
 | some ([.rows sh off code cap kind],_) => cond (Nat.blt 0 kind && Nat.beq sz sh.length && Lin.beq o off) (bind (chkM 21 [code,i]) fun _ => match isAggB P t,szB P t with
  | some true,some k => cond (Nat.ble (j + k) sh.length) (bind (cellsM code i j ((sh.drop j).take k)) fun l => pure (.w (.agg l))) fail
  | some false,_ => match sh[j]? with
   | some c => bind (cellM c code i j) fun a => pure (.w (.one a))
   | none => fail
  | _,_ => fail) fail
 | _ => fail
def slIdx (P : Program) (t : TypeId) (b sz : Nat) (o ro len : Lin) (ix : Lin) : M V :=
 match slcOf P t with
 | some e => match szB P e with
  | some s => cond (Nat.beq s sz) (bind (chkM 30 [ix,len]) fun _ => pure (.w (.one (.ep b sz o (ro.add ix) 0)))) fail
  | none => fail
 | none => fail
def asmM (op : Nat) (ls : List Lin) : M Unit := fun n k => .asm op ls (k () n)
def slSub (P : Program) (t : TypeId) (b sz : Nat) (o ro len cap : Lin) (x y : Lin) : M V :=
 match slcOf P t with
 | some e => match szB P e with
  | some s => cond (Nat.beq s sz) (bind (chkM 32 [x,y,len]) fun _ => match x.isC with
   | some 0 => pure (.w (.one (.sl b sz o ro y cap)))
   | _ => bind (asmM 68 [len,cap]) fun _ => bind (fnM 33 [ro,x,cap] 0 9223372036854775808) fun r => pure (.w (.one (.sl b sz o r (y.sub x) (cap.sub x))))) fail
  | none => fail
 | none => fail
def bndL (tm : List V) (d : Lin) : Option Operand -> Option Lin
 | none => some d
 | some x => intL (opV tm x)
def byteSh : List CK -> Bool
 | [.int .u8 lo hi] => decide (lo = 0) && decide (hi = 255)
 | _ => false
noncomputable def slStr (bl : List Blk) (b sz : Nat) (o ro len : Lin) : M V :=
 match bl[b]? with
 | some ([.rows sh off code cap kind],_) => cond (Nat.blt 0 kind && Nat.beq sz 1 && Lin.beq o off && byteSh sh) (bind (chkM 35 [code,ro,ro.add len]) fun _ => bind (fnM 34 [code,ro,ro.add len] 0 HB) fun l => pure (.w (.one (.str l)))) fail
 | _ => fail
def brM {α : Type} (b : BE) (x y : M α) : M α := fun n k => match b with
 | .lit v => cond v (x n k) (y n k)
 | b => .br b (x n k) (y n k)
def minM (k : IntKind) (x y : IV) : M V := brM (.mkLt y x) (pure (.w (.one (.int k y)))) (pure (.w (.one (.int k x))))
def maxM (k : IntKind) (x y : IV) : M V := brM (.mkLt x y) (pure (.w (.one (.int k y)))) (pure (.w (.one (.int k x))))
def boolsOf : List A -> Option (List Bool)
 | [] => some []
 | .bool (.lit b) :: r => match boolsOf r with | some l => some (b :: l) | none => none
 | _ :: _ => none
def idxB : Nat -> List Bool -> List UInt8
 | _,[] => []
 | i,b :: r => cond b (UInt8.ofNat i :: idxB (i + 1) r) (idxB (i + 1) r)
def selB (bl : List Blk) (b off : Nat) (ix : IV) : M V :=
 match bl[b]? with
 | some (cs,_) => match boolsOf ((cs.drop off).take (ix.hi.toNat + 1)) with
  | some l => cond (Nat.beq l.length (ix.hi.toNat + 1) && Nat.ble ix.hi.toNat 255 && decide (0 <= ix.lo) && isOrd cs) (bind (fnM 43 [.const (cOf (idxB 0 l)),ix.l] 0 1) fun r => pure (.w (.one (.bool (.mkEq ⟨r,0,1⟩ (.const 1)))))) fail
  | none => fail
 | none => fail
noncomputable def rowsQ (P : Program) (bl : List Blk) (tm : List V) (o : Oper) : Option (M V) :=
 match o.op with
 | .load t x => match opV tm x with
  | .w (.one (.ep b sz o i j)) => some (epLoad P bl t b sz o i j)
  | .w (.one (.pix b off ix)) => match P.underlying t with
   | some .bool => some (selB bl b off ix)
   | _ => none
  | _ => none
 | .nilCheck x => match opV tm x with
  | .w (.one (.ep b sz o i j)) => some (pure (.w (.one (.ep b sz o i j))))
  | _ => none
 | .indexAddr t x ix => match opV tm x,opV tm ix with
  | .w (.one (.sl b sz o ro len cap)),.w (.one (.int _ i)) => some (slIdx P t b sz o ro len i.l)
  | _,_ => none
 | .fieldAddr s x f => match opV tm x,fieldOf P s f with
  | .w (.one (.ep b sz o i j)),some fd => match szB P fd.type with
   | some (_ + 1) => some (pure (.w (.one (.ep b sz o i (j + fd.offset)))))
   | _ => none
  | _,_ => none
 | .slice t x lo hi none => match opV tm x with
  | .w (.one (.sl b sz o ro len cap)) => match bndL tm (.const 0) lo,bndL tm len hi with
   | some p,some q => some (slSub P t b sz o ro len cap p q)
   | _,_ => none
  | _ => none
 | .convert s d x => match opV tm x,slcOf P s,P.underlying d with
  | .w (.one (.sl b sz o ro len cap)),some e,some .string => match P.underlying e with
   | some (.int .u8) => some (slStr bl b sz o ro len)
   | _ => none
  | _,_,_ => none
 | .call c => match c.callee with
  | .builtin .len => match c.args.toList,c.argTypes.toList with
   | [x],[t] => match opV tm x,slcOf P t with
    | .w (.one (.sl b sz o ro len cap)),some _ => some (pure (.w (.one (.int .i64 ⟨len,0,9223372036854775807⟩))))
    | _,_ => none
   | _,_ => none
  | .builtin .min => match c.args.toList with
   | [x,y] => match opV tm x,opV tm y with
    | .w (.one (.int k p)),.w (.one (.int k' q)) => cond (decide (k = k')) (some (minM k p q)) none
    | _,_ => none
   | _ => none
  | .builtin .max => match c.args.toList with
   | [x,y] => match opV tm x,opV tm y with
    | .w (.one (.int k p)),.w (.one (.int k' q)) => cond (decide (k = k')) (some (maxM k p q)) none
    | _,_ => none
   | _ => none
  | _ => none
 | .binOp op t x y _ => match slcOf P t,opV tm x,opV tm y with
  | some _,.w (.one (.sl b sz o ro len cap)),.w (.one (.con (.slice none 0 0))) => match op with
   | .eql => some (bind (asmM 53 [cap,len]) fun _ => pure (.w (.one (.bool (.lt cap (.const 0))))))
   | .neq => some (bind (asmM 53 [cap,len]) fun _ => pure (.w (.one (.bool (.mkNot (.lt cap (.const 0)))))))
   | _ => none
  | _,_,_ => none
 | _ => none
def arrRows (bl : List Blk) (b off : Nat) : Option (List CK × Lin × Nat) :=
 match bl[b]? with
 | some ([.rows sh o code cap kind],_) => match cap.isC with
  | some c => cond (Nat.beq off 0 && Nat.blt 0 kind && Lin.beq o (.const 0) && decide (0 <= c)) (some (sh,code,c.toNat)) none
  | none => none
 | _ => none
noncomputable def allRowsM (code : Lin) (sh : List CK) : Nat -> Nat -> M (List A)
 | _,0 => pure []
 | i,k + 1 => bind (cellsM code (.const i) 0 sh) fun a => bind (allRowsM code sh (i + 1) k) fun l => pure (a ++ l)
def slSub3 (P : Program) (t : TypeId) (b sz : Nat) (o ro len cap : Lin) (x y z : Lin) : M V :=
 match slcOf P t with
 | some e => match szB P e with
  | some s => cond (Nat.beq s sz) (bind (chkM 64 [x,y,z,len]) fun _ => bind (fnM 33 [ro,x,z] 0 9223372036854775808) fun r => pure (.w (.one (.sl b sz o r (y.sub x) (z.sub x))))) fail
  | none => fail
 | none => fail
noncomputable def rowsQ2 (P : Program) (bl : List Blk) (tm : List V) (o : Oper) : Option (M V) :=
 match o.op with
 | .indexAddr t x ix => match opV tm x,opV tm ix with
  | .w (.one (.ptr b off)),.w (.one (.int _ i)) => match arrRows bl b off,arrOf P t with
   | some (sh,code,c),some (len,e) => match szB P e with
    | some s => cond (Nat.beq s sh.length && Nat.beq len c) (some (bind (chkM 30 [i.l,.const len]) fun _ => pure (.w (.one (.ep b s (.const 0) i.l 0))))) none
    | none => none
   | _,_ => none
  | _,_ => none
 | .load t x => match opV tm x with
  | .w (.one (.ptr b off)) => match arrRows bl b off,isAggB P t,szB P t with
   | some (sh,code,c),some true,some k => cond (Nat.beq k (c * sh.length)) (some (bind (chkM 31 [code,.const c]) fun _ => bind (allRowsM code sh 0 c) fun l => pure (.w (.agg l)))) none
   | _,_,_ => none
  | _ => none
 | .slice t x lo (some hi) (some mx) => match opV tm x with
  | .w (.one (.sl b sz o' ro len cap)) => match bndL tm (.const 0) lo,intL (opV tm hi),intL (opV tm mx) with
   | some p,some q,some r => some (slSub3 P t b sz o' ro len cap p q r)
   | _,_,_ => none
  | _ => none
 | .call c => match c.callee with
  | .builtin .len => match c.args.toList,c.argTypes.toList with
   | [x],[t] => match opV tm x,slcOf P t with
    | .w (.one (.con (.slice none 0 0))),some _ => some (pure (.w (.one (.int .i64 (.const 0)))))
    | _,_ => none
   | _,_ => none
  | _ => none
 | _ => none
noncomputable def dynQ (cal : Cal) (bl : List Blk) (tm : List V) (o : Oper) : Option (M V) :=
 match o.op with
 | .call c => match c.callee with
  | .value (.tmp x) => match opV tm (.tmp x) with
   | .w (.one (.con (.func (.func f) fa fb))) => cond (Nat.beq fa.size 0 && Nat.beq fb.size 0) ((cal f).map fun g => g bl (c.args.toList.map (opV tm))) none
   | _ => none
  | _ => none
 | _ => none
noncomputable def qop (P : Program) (cal : Cal) (gl : Glo) (bl : List Blk) (tm : List V) (o : Oper) : M V :=
 match rowsQ P bl tm o with
 | some x => x
 | none => match rowsQ2 P bl tm o with
  | some x => x
  | none => match dynQ cal bl tm o with
   | some x => x
   | none => qop0 P cal gl bl tm o
theorem RowsAt.get {cells : Array Value} {off : Nat} {sh : List CK} {rows : List (List Int)} (h : RowsAt cells off sh rows) {i j : Nat} {row : List Int} {v : Value} (hi : rows[i]? = some row) (hj : (rowV sh row)[j]? = some v) : cells[off + i * sh.length + j]? = some v := by
 obtain ⟨h1,pre,post,h2,h3⟩ := h
 have h4 := flatV_get h1 hi hj
 rw [<- Array.getElem?_toList,h2,List.append_assoc,List.getElem?_append_right (by omega),List.getElem?_append_left]
 ·rw [show off + i * sh.length + j - pre.length = i * sh.length + j by omega]; exact h4
 ·have := (List.getElem?_eq_some_iff.1 h4).1; omega
section
variable {S : Nat -> List Int -> List Int -> Prop} {L : V -> Env -> Prop} {n : Nat} {ρ : Env} {m : Nat -> Nat} {bl : List Blk} {gl : Glo} {w0 : Base} {P : Program} {tm : List V} {a : Act}
theorem brM_snd {α : Type} {b : BE} {x y : M α} {R : Env -> Nat -> α -> Prop} (h1 : b.den ρ = true -> Snd S L x n ρ R) (h2 : b.den ρ = false -> Snd S L y n ρ R) : Snd S L (brM b x y) n ρ R := by
 intro A k hk
 unfold brM at hk
 cases hb : b.den ρ with
 | true =>
  cases b with
  | lit v => simp only [BE.den] at hb; subst hb; exact h1 rfl A k hk
  | _ => exact h1 hb A k (hk.1 hb)
 | false =>
  cases b with
  | lit v => simp only [BE.den] at hb; subst hb; exact h2 rfl A k hk
  | _ => exact h2 hb A k (hk.2 hb)
theorem cellM_snd {nb : Nat} {c : CK} {code i : Lin} {j : Nat} {z : Int} {row : List Int} (hrow : (rOf (code.den ρ))[(i.den ρ).toNat]? = some row) (hz : row[j]? = some z) (h1 : c.bd.1 <= z) (h2 : z <= c.bd.2) :
 Snd S L (cellM c code i j) n ρ fun ρ' n' x => x.ok n' nb ρ' /\ x.den ρ' m = c.val z := by
 have hf : fnD 21 ([code,i,Lin.const (j : Nat)].map (·.den ρ)) = z := by
  simp only [List.map_cons,List.map_nil,Lin.den_const,fnD,Int.toNat_natCast]
  simp [List.getD,hrow,hz]
 cases c with
 | int k lo hi =>
  refine (fnM_snd (by rw [hf]; exact h1) (by rw [hf]; exact h2)).bind fun ρ1 n1 l _ _ ⟨g1,g2⟩ => Snd.pure ⟨⟨g1,?_,?_⟩,?_⟩
  ·rw [g2,hf]; exact h1
  ·rw [g2,hf]; exact h2
  ·simp only [A.den,CK.val]; rw [g2,hf]
 | str =>
  refine (fnM_snd (by rw [hf]; exact h1) (by rw [hf]; exact h2)).bind fun ρ1 n1 l _ _ ⟨g1,g2⟩ => Snd.pure ⟨⟨g1,?_,?_⟩,?_⟩
  ·rw [g2,hf]; exact h1
  ·rw [g2,hf]; exact h2
  ·simp only [A.den,CK.val]; rw [g2,hf]
 | bool =>
  refine (fnM_snd (by rw [hf]; exact h1) (by rw [hf]; exact h2)).bind fun ρ1 n1 l _ _ ⟨g1,g2⟩ => Snd.pure ?_
  have hok : IV.ok n1 ρ1 ⟨l,0,1⟩ := ⟨g1,by simp only; rw [g2,hf]; exact h1,by simp only; rw [g2,hf]; exact h2⟩
  have e := BE.den_mkEq hok (IV.const_ok n1 ρ1 1)
  refine ⟨e.2,?_⟩
  simp only [A.den,CK.val]
  rw [e.1]
  simp only [IV.const,Lin.den_const]
  rw [g2,hf]
theorem cellsM_snd {nb : Nat} {sh : List CK} {row : List Int} (hok : RowOk sh row) : ∀ {r : List CK} {n : Nat} {ρ : Env} {code i : Lin} {j : Nat},code.sc n -> i.sc n -> (rOf (code.den ρ))[(i.den ρ).toNat]? = some row -> (∀ (x : Nat) (c : CK),r[x]? = some c -> sh[j + x]? = some c) ->
 Snd S L (cellsM code i j r) n ρ fun ρ' n' l => (∀ a ∈ l,A.ok n' nb ρ' a) /\ l.length = r.length /\ ∀ (x : Nat) (a : A),l[x]? = some a -> (rowV sh row)[j + x]? = some (a.den ρ' m)
 | [],n,ρ,code,i,j,_,_,_,_ => Snd.pure ⟨fun _ h => by simp at h,rfl,fun x a h => by simp at h⟩
 | c :: r,n,ρ,code,i,j,hs1,hs2,hrow,hr => by
  have h0 := hr 0 c rfl
  obtain ⟨z,h1,h2,h3,h4⟩ := hok.get h0
  refine (cellM_snd (nb := nb) (m := m) hrow h1 h2 h3).bind fun ρ1 n1 y hn ha ⟨g1,g2⟩ => ?_
  refine (cellsM_snd (nb := nb) (r := r) (n := n1) (ρ := ρ1) (code := code) (i := i) (j := j + 1) hok (hs1.mono hn) (hs2.mono hn) (by rw [Lin.den_agree ha hs1,Lin.den_agree ha hs2]; exact hrow) (fun x c hx => by
   have := hr (x + 1) c (by simpa using hx)
   rw [show j + 1 + x = j + (x + 1) by omega]; exact this)).bind fun ρ2 n2 l hn2 ha2 ⟨k1,k2,k3⟩ => Snd.pure ⟨fun b hb => ?_,by simp [k2],fun x b hb => ?_⟩
  ·rcases List.mem_cons.1 hb with rfl | hb
   ·exact g1.ext ha2 hn2 (Nat.le_refl _)
   ·exact k1 b hb
  ·cases x with
   | zero =>
    simp only [List.getElem?_cons_zero,Option.some.injEq] at hb
    subst hb
    rw [A.den_ext g1 ha2 (fun _ _ => rfl),g2]; exact h4
   | succ x =>
    have := k3 x b (by simpa using hb)
    rw [show j + (x + 1) = j + 1 + x by omega]; exact this
theorem epLoad_snd (hb : BlOk n bl.length ρ bl) (hex : ∃ w,Mem w0 ρ m bl w) (t : TypeId) {b sz : Nat} {o i : Lin} {j : Nat} (hx : (A.ep b sz o i j).ok n bl.length ρ) :
 Snd S L (epLoad P bl t b sz o i j) n ρ (QV w0 m bl n ρ fun w => (Instr.loadAt t ((A.ep b sz o i j).den ρ m)).run P w) := by
 obtain ⟨wx,hwx⟩ := hex
 unfold epLoad
 split
 ·rename_i sh off code cap kind t' hbl
  refine snd_guard fun hc => chkM_snd fun hk => ?_
  simp only [Bool.and_eq_true] at hc
  obtain ⟨⟨c1,c2⟩,c3⟩ := hc
  have c1 : 0 < kind := Nat.le_of_ble_eq_true c1
  have c2 := Nat.eq_of_beq_eq_true c2
  have c3 := Lin.beq_eq c3
  subst c3
  have hrok : (A.rows sh o code cap kind).ok n bl.length ρ := hb _ (List.mem_of_getElem? hbl) _ (by simp)
  simp only [List.map_cons,List.map_nil,chkD] at hk
  have hlt : (i.den ρ).toNat < (rOf (code.den ρ)).length := by omega
  have hrow : (rOf (code.den ρ))[(i.den ρ).toNat]? = some (rOf (code.den ρ))[(i.den ρ).toNat] := List.getElem?_eq_getElem hlt
  generalize (rOf (code.den ρ))[(i.den ρ).toNat] = row at hrow
  have hcap : 0 <= cap.den ρ := by
   rcases Int.lt_or_le (cap.den ρ) 0 with h | h
   ·have := (hwx.rws b sh o code cap kind t' hbl (by omega)).1 h
    rw [this] at hlt; simp at hlt
   ·exact h
  have hmem : ∀ w,Mem w0 ρ m bl w -> RowOk sh row /\ ∀ (x : Nat) (v : Value),(rowV sh row)[x]? = some v -> w.cell? ⟨m b,(o.den ρ).toNat + (i.den ρ).toNat * sz + x,none⟩ = some v := fun w hw => by
   obtain ⟨_,cells,tq,fz,g1,⟨g2,g3⟩,_⟩ := (hw.rws b sh o code cap kind t' hbl (by omega)).2 hcap
   refine ⟨g3.1 _ (List.mem_of_getElem? hrow),fun x v hv => ?_⟩
   have := g3.get hrow hv
   simp only [World.cell?,g1,Option.isSome_none,Bool.false_eq_true,if_false]
   rw [c2]; exact this
  have hrk := (hmem wx hwx).1
  cases hagg : isAggB P t with
  | none => exact Snd.fail
  | some ag =>
   cases ag with
   | true =>
    cases hs : szB P t with
    | none => exact Snd.fail
    | some k =>
     refine snd_guard fun hk2 => ?_
     have hk2 := Nat.le_of_ble_eq_true hk2
     refine (cellsM_snd (nb := bl.length) (m := m) (r := (sh.drop j).take k) hrk hrok.1.2.1 hx.2.1.2 hrow (fun x c hxc => by
      rw [List.getElem?_take] at hxc
      split at hxc
      ·rw [List.getElem?_drop] at hxc; exact hxc
      ·cases hxc)).bind fun ρ1 n1 l hn ha ⟨g1,g2,g3⟩ => Snd.pure ⟨g1,_,rfl,fun w hw => ?_⟩
     have hl := run_loadCells_list (P := P) w ⟨m b,(o.den ρ).toNat + (i.den ρ).toNat * sz + j,none⟩ (l.map (A.den ρ1 m)) fun x v hj => by
      rw [addr_add]
      rw [List.getElem?_map] at hj
      cases hq : l[x]? with
      | none => simp [hq] at hj
      | some y =>
       simp only [hq,Option.map_some,Option.some.injEq] at hj
       subst hj
       rw [Nat.add_assoc]
       exact (hmem w hw).2 (j + x) _ (g3 x y hq)
     simp only [List.length_map,g2,List.length_take,List.length_drop,Nat.min_eq_left (show k <= sh.length - j by omega)] at hl
     simp [Instr.loadAt,Instr.sureAddr,A.den,loadVar,run_isAggB hagg,run_szB hs,hl,W.den]
   | false =>
    cases hc : sh[j]? with
    | none => simp only; exact Snd.fail
    | some c =>
     simp only
     obtain ⟨z,h1,h2,h3,h4⟩ := hrk.get hc
     refine (cellM_snd (nb := bl.length) (m := m) hrow h1 h2 h3).bind fun ρ1 n1 y hn ha ⟨g1,g2⟩ => Snd.pure ⟨g1,_,rfl,fun w hw => ?_⟩
     have := (hmem w hw).2 j _ h4
     have hpd : (A.ep b sz o i j).den ρ m = .pointer (some ⟨m b,(o.den ρ).toNat + (i.den ρ).toNat * sz + j,none⟩) := rfl
     simp [Instr.loadAt,Instr.sureAddr,hpd,loadVar,run_isAggB hagg,this,W.den,g2]
 ·exact Snd.fail
theorem sl_den {b sz : Nat} {o ro len cap : Lin} (hx : (A.sl b sz o ro len cap).ok n bl.length ρ) : ∃ p,(A.sl b sz o ro len cap).den ρ m = .slice p (len.den ρ).toNat (if cap.den ρ < 0 then 0 else (cap.den ρ).toNat) /\ (cap.den ρ < 0 -> p = none) /\ (0 <= cap.den ρ -> p = some ⟨m b,(o.den ρ).toNat + (ro.den ρ).toNat * sz,none⟩) := by
 obtain ⟨_,_,_,_,h3,_⟩ := hx
 simp only [A.den]
 by_cases hc : cap.den ρ < 0
 ·rw [if_pos hc,if_pos hc,h3 hc]
  exact ⟨none,rfl,fun _ => rfl,fun h => by omega⟩
 ·rw [if_neg hc,if_neg hc]
  exact ⟨_,rfl,fun h => absurd h hc,fun _ => rfl⟩
theorem slIdx_snd {t : TypeId} {b sz : Nat} {o ro len cap ix : Lin} {k : IntKind} (hx : (A.sl b sz o ro len cap).ok n bl.length ρ) (hi : ix.sc n) :
 Snd S L (slIdx P t b sz o ro len ix) n ρ (QV w0 m bl n ρ fun w => (Instr.indexAt t ((A.sl b sz o ro len cap).den ρ m) (.int k (ix.den ρ))).run P w) := by
 unfold slIdx
 cases h1 : slcOf P t with
 | none => exact Snd.fail
 | some e =>
  cases h2 : szB P e with
  | none => simp only [h2]; exact Snd.fail
  | some s =>
   simp only [h2]
   refine snd_guard fun hs => chkM_snd fun hk => Snd.pure ?_
   have hs := Nat.eq_of_beq_eq_true hs
   subst hs
   simp only [List.map_cons,List.map_nil,chkD] at hk
   obtain ⟨x1,⟨x2,x3,x4,x5⟩,⟨x6,x7,x8,x9⟩,x10,x11,x12⟩ := hx
   have hcap : ¬ (cap.den ρ < 0) := fun h => by have := x11 h; omega
   refine ⟨⟨x1,⟨x2,Lin.sc_add x3 hi⟩,x6,by rw [Lin.den_add]; omega⟩,_,rfl,fun w _ => ?_⟩
   have c2 : ix.den ρ < ((len.den ρ).toNat : Int) := by omega
   have e1 : (ro.den ρ + ix.den ρ).toNat = (ro.den ρ).toNat + (ix.den ρ).toNat := by omega
   simp only [A.den,if_neg hcap,W.den,Lin.den_add,e1]
   simp [-Int.ofNat_toNat,Instr.indexAt,asIntOf,run_underlying (slcOf_spec h1),hk.1,c2,run_szB h2,addr_add,Nat.add_mul,Nat.add_assoc]
theorem bndL_spec {d : Lin} {y : Option Operand} {l : Lin} (h : bndL tm d y = some l) (ht : TRel n bl.length ρ m tm a.tmps) : (y = none /\ l = d) ∨ ∃ k,y.map a.eval = some (.int k (l.den ρ)) /\ l.sc n := by
 cases y with
 | none => exact .inl ⟨rfl,by simpa [bndL] using h.symm⟩
 | some x =>
  obtain ⟨k,hk,h2⟩ := intL_spec (m := m) (bl := bl) h (opV_spec ht x).2 (opV_spec ht x).1
  exact .inr ⟨k,by rw [<- hk]; rfl,h2⟩
theorem asmM_snd {op : Nat} {ls : List Lin} (h : chkD op (ls.map (·.den ρ))) : Snd S L (asmM op ls) n ρ fun ρ' n' _ => ρ' = ρ /\ n' = n := fun A k hk => ⟨ρ,n,(),Nat.le_refl _,agree.refl _ _,⟨rfl,rfl⟩,hk h⟩
theorem slSub_snd {t : TypeId} {b sz : Nat} {o ro len cap p q : Lin} {lo hi : Option Operand} (hx : (A.sl b sz o ro len cap).ok n bl.length ρ) (ht : TRel n bl.length ρ m tm a.tmps) (hp : bndL tm (.const 0) lo = some p) (hq : bndL tm len hi = some q) :
 Snd S L (slSub P t b sz o ro len cap p q) n ρ (QV w0 m bl n ρ fun w => (Instr.sliceAt t ((A.sl b sz o ro len cap).den ρ m) (lo.map a.eval) (hi.map a.eval) none).run P w) := by
 unfold slSub
 cases h1 : slcOf P t with
 | none => exact Snd.fail
 | some e =>
  cases h2 : szB P e with
  | none => simp only [h2]; exact Snd.fail
  | some s =>
   simp only [h2]
   refine snd_guard fun hs => chkM_snd fun hk => ?_
   have hs := Nat.eq_of_beq_eq_true hs
   subst hs
   simp only [List.map_cons,List.map_nil,chkD] at hk
   obtain ⟨k1,k2,k3⟩ := hk
   have hx' := hx
   obtain ⟨x1,⟨x2,x3,x4,x5⟩,⟨x6,x7,x8,x9⟩,⟨x10,x13⟩,x11,x12⟩ := hx
   have hsp := bndL_spec hp ht
   have hsq := bndL_spec hq ht
   have scp : p.sc n := by rcases hsp with ⟨_,rfl⟩ | ⟨_,_,h⟩; exact Lin.sc_const _ _; exact h
   have scq : q.sc n := by rcases hsq with ⟨_,rfl⟩ | ⟨_,_,h⟩; exact x4; exact h
   obtain ⟨ptr,e1,e2,e3⟩ := sl_den (m := m) hx'
   have hbs : ∀ w,(Instr.sliceBounds true (len.den ρ).toNat (if cap.den ρ < 0 then 0 else (cap.den ρ).toNat) (lo.map a.eval) (hi.map a.eval) none).run P w = .ok ((p.den ρ).toNat,(q.den ρ).toNat,(if cap.den ρ < 0 then 0 else (cap.den ρ).toNat)) w := fun w => by
    have hle : (len.den ρ) <= ((if cap.den ρ < 0 then 0 else (cap.den ρ).toNat : Nat) : Int) := by
     split
     ·rename_i h; rw [x11 h]; simp
     ·rename_i h; have := x12 (by omega); omega
    generalize (if cap.den ρ < 0 then 0 else (cap.den ρ).toNat) = C at hle
    rcases hsp with ⟨rfl,rfl⟩ | ⟨kp,hp',_⟩ <;> rcases hsq with ⟨rfl,rfl⟩ | ⟨kq,hq',_⟩
    ·simp [Instr.sliceBounds,Lin.den_const]
    ·rw [hq']; simp [Instr.sliceBounds,Lin.den_const,sliceB_ok (P := P) (by omega : 0 <= q.den ρ) (by omega : q.den ρ <= (C : Int))]
    ·rw [hp']; simp [Instr.sliceBounds,sliceB_ok (P := P) (y := (q.den ρ).toNat) k1 (by omega)]
    ·rw [hp',hq']; simp [Instr.sliceBounds,sliceB_ok (P := P) (by omega : 0 <= q.den ρ) (by omega : q.den ρ <= (C : Int)),sliceB_ok (P := P) (y := (q.den ρ).toNat) k1 (by omega)]
   have hrun : ∀ (w : World) (r : Int),r = (if p.den ρ = cap.den ρ then ro.den ρ else ro.den ρ + p.den ρ) ->
    (Instr.sliceAt t ((A.sl b s o ro len cap).den ρ m) (lo.map a.eval) (hi.map a.eval) none).run P w = .ok (if cap.den ρ - p.den ρ < 0 then .slice none 0 0 else .slice (some ⟨m b,(o.den ρ).toNat + r.toNat * s,none⟩) (q.den ρ - p.den ρ).toNat (cap.den ρ - p.den ρ).toNat) w := fun w r hr => by
    rw [e1]
    have e4 : (q.den ρ).toNat - (p.den ρ).toNat = (q.den ρ - p.den ρ).toNat := by omega
    simp only [Instr.sliceAt,Sem.run_bind,run_underlying (slcOf_spec h1),Result.andThen_ok,Instr.slice,hbs w,run_szB h2,Sem.run_pure,e4]
    by_cases hc : cap.den ρ < 0
    ·have hl := x11 hc
     have hp0 : p.den ρ = 0 := by omega
     rw [if_pos hc,e2 hc,if_pos (by omega)]
     have : q.den ρ = 0 := by omega
     simp [hp0,this,hc]
    ·rw [if_neg hc,e3 (by omega)]
     have h12 := x12 (by omega)
     have hcp : ¬ (cap.den ρ - p.den ρ < 0) := by omega
     rw [if_neg hcp]
     have e5 : (cap.den ρ).toNat - (p.den ρ).toNat = (cap.den ρ - p.den ρ).toNat := by omega
     rw [e5]
     by_cases hpc : p.den ρ = cap.den ρ
     ·rw [if_pos hpc] at hr
      have h7 : (cap.den ρ).toNat = (p.den ρ).toNat := by omega
      rw [if_pos h7,hr]
     ·rw [if_neg hpc] at hr
      have h7 : ¬ (cap.den ρ).toNat = (p.den ρ).toNat := by omega
      rw [if_neg h7,hr]
      have e6 : (ro.den ρ + p.den ρ).toNat = (ro.den ρ).toNat + (p.den ρ).toNat := by omega
      rw [e6,Nat.add_mul,<- Nat.add_assoc]
      simp [addr_add]
   split
   ·rename_i h0
    have hp0 := Lin.den_isC h0 (ρ := ρ)
    refine Snd.pure ⟨⟨x1,⟨x2,x3,scq,x5⟩,⟨x6,x7,by omega,by omega⟩,⟨x10,x13⟩,fun h => ?_,fun h => ?_⟩,_,rfl,fun w _ => ?_⟩
    ·have := x11 h; omega
    ·have := x12 h; omega
    ·have hr := hrun w (ro.den ρ) (by rw [hp0]; split <;> omega)
     rw [hp0] at hr
     simp only [Int.sub_zero] at hr
     simp only [W.den,A.den] at hr ⊢
     exact hr
   ·have hb1 : (0 : Int) <= fnD 33 ([ro,p,cap].map (·.den ρ)) := by
     simp only [List.map_cons,List.map_nil,fnD]; split <;> omega
    have hb2 : fnD 33 ([ro,p,cap].map (·.den ρ)) <= 9223372036854775808 := by
     simp only [List.map_cons,List.map_nil,fnD]
     by_cases hc : cap.den ρ < 0
     ·have := x11 hc; split <;> omega
     ·have := x12 (by omega); split <;> omega
    refine (asmM_snd (op := 68) (ls := [len,cap]) (show len.den ρ <= cap.den ρ ∨ len.den ρ = 0 from by
     by_cases hc : cap.den ρ < 0
     ·exact .inr (x11 hc)
     ·exact .inl (x12 (by omega)))).bind fun ρ0 n0 _ _ _ ⟨hρ0,hn0⟩ => ?_
    have hρ0 := hρ0.symm; have hn0 := hn0.symm
    subst hρ0; subst hn0
    refine (fnM_snd hb1 hb2).bind fun ρ1 n1 r hn ha ⟨g1,g2⟩ => Snd.pure ?_
    simp only [List.map_cons,List.map_nil,fnD] at g2
    have a1 := Lin.den_agree ha x2; have a2 := Lin.den_agree ha scq; have a3 := Lin.den_agree ha scp; have a4 := Lin.den_agree ha x5
    refine ⟨⟨x1,⟨x2.mono hn,g1,Lin.sc_sub (scq.mono hn) (scp.mono hn),Lin.sc_sub (x5.mono hn) (scp.mono hn)⟩,?_⟩,_,rfl,fun w _ => ?_⟩
    ·rw [Lin.den_sub,Lin.den_sub,a1,a2,a3,a4,g2]
     refine ⟨⟨x6,?_,by omega,by omega⟩,⟨?_,?_⟩,fun h => ?_,fun h => ?_⟩
     ·split <;> omega
     ·by_cases hc : cap.den ρ < 0
      ·have := x11 hc; omega
      ·have := x12 (by omega); omega
     ·split <;> omega
     ·by_cases hc : cap.den ρ < 0
      ·have := x11 hc; omega
      ·have := x12 (by omega); omega
     ·by_cases hc : cap.den ρ < 0
      ·have := x11 hc; omega
      ·have := x12 (by omega); omega
    ·refine (hrun w (r.den ρ1) g2).trans ?_
     simp only [W.den,A.den,Lin.den_sub,a1,a2,a3,a4]
theorem slStr_snd (hb : BlOk n bl.length ρ bl) (hex : ∃ w,Mem w0 ρ m bl w) {src dst e : TypeId} (hs : P.underlying src = some (.slice e)) (he : P.underlying e = some (.int .u8)) (hd : P.underlying dst = some .string) {b sz : Nat} {o ro len cap : Lin} (hx : (A.sl b sz o ro len cap).ok n bl.length ρ) :
 Snd S L (slStr bl b sz o ro len) n ρ (QV w0 m bl n ρ fun w => (convert src dst ((A.sl b sz o ro len cap).den ρ m)).run P w) := by
 obtain ⟨wx,hwx⟩ := hex
 unfold slStr
 split
 ·rename_i sh off code cap' kind t' hbl
  refine snd_guard fun hc => chkM_snd fun hk => ?_
  simp only [Bool.and_eq_true] at hc
  obtain ⟨⟨⟨c1,c2⟩,c3⟩,c4⟩ := hc
  have c1 : 0 < kind := Nat.le_of_ble_eq_true c1
  have c2 := Nat.eq_of_beq_eq_true c2
  have c3 := Lin.beq_eq c3
  subst c3; subst c2
  simp only [List.map_cons,List.map_nil,chkD,Lin.den_add] at hk
  obtain ⟨ptr,e1,e2,e3⟩ := sl_den (m := m) hx
  obtain ⟨x1,⟨x2,x3,x4,x5⟩,⟨x6,x7,x8,x9⟩,⟨x10,x13⟩,x11,x12⟩ := hx
  generalize hR : rOf (code.den ρ) = rows at hk
  have hnil : cap'.den ρ < 0 -> rows = [] := fun h => by rw [<- hR]; exact (hwx.rws b sh o code cap' kind t' hbl (by omega)).1 h
  have hxs : (((rows.drop (ro.den ρ).toNat).take (len.den ρ).toNat).map fun row => row.getD 0 0).length = (len.den ρ).toNat := by
   simp; omega
  have hf : fnD 34 ([code,ro,ro.add len].map (·.den ρ)) = cOf ((((rows.drop (ro.den ρ).toNat).take (len.den ρ).toNat).map fun row => row.getD 0 0).map fun z => UInt8.ofNat z.toNat) := by
   simp only [List.map_cons,List.map_nil,fnD,Lin.den_add,hR]
   have : (ro.den ρ + len.den ρ).toNat - (ro.den ρ).toNat = (len.den ρ).toNat := by omega
   rw [this,List.map_map]; rfl
  generalize hX : (((rows.drop (ro.den ρ).toNat).take (len.den ρ).toNat).map fun row => row.getD 0 0) = xs at hxs hf
  have hl : (xs.map fun z => UInt8.ofNat z.toNat).length <= mxL := by
   have : (xs.map fun z => UInt8.ofNat z.toNat).length = (len.den ρ).toNat := by simp [hxs]
   unfold mxL; omega
  refine (fnM_snd (by rw [hf]; exact cOf_nonneg _) (by rw [hf]; exact HB_c hl)).bind fun ρ1 n1 l _ _ ⟨g1,g2⟩ => Snd.pure ⟨⟨g1,by rw [g2,hf]; exact cOf_nonneg _,by rw [g2,hf]; exact HB_c hl⟩,_,rfl,fun w hw => ?_⟩
  have hval : (W.one (A.str l)).den ρ1 m = .string (strOfNums xs) := by
   simp only [W.den,A.den,g2,hf,sOf_cOf]
   rfl
  rw [hval]
  show (convert src dst ((A.sl b 1 o ro len cap).den ρ m)).run P w = _
  rw [e1]
  by_cases hcap : cap.den ρ < 0
  ·have hl0 := x11 hcap
   rw [e2 hcap,if_pos hcap]
   have hxs0 : xs = [] := List.eq_nil_of_length_eq_zero (by rw [hxs,hl0]; rfl)
   rw [hxs0,run_convert_bytes_nil w src e hs he _ _ dst hd]
   rfl
  ·rw [e3 (by omega),if_neg hcap]
   by_cases hcap' : cap'.den ρ < 0
   ·have hr0 := hnil hcap'
    have hl0 : len.den ρ = 0 := by rw [hr0] at hk; simp at hk; omega
    have hxs0 : xs = [] := List.eq_nil_of_length_eq_zero (by rw [hxs,hl0]; rfl)
    exact run_convert_bytes_arg w src e hs he (m b) _ _ _ xs hxs (fun i hi => by rw [hl0] at hi; simp at hi) dst hd
   ·obtain ⟨_,cells,tq,fz,k1,⟨k2,k3⟩,_⟩ := (hw.rws b sh o code cap' kind t' hbl (by omega)).2 (by omega)
    refine run_convert_bytes_arg w src e hs he (m b) _ _ _ xs hxs (fun i hi => ?_) dst hd
    have hlt : (ro.den ρ).toNat + i < rows.length := by omega
    have hrow : (rOf (code.den ρ))[(ro.den ρ).toNat + i]? = some rows[(ro.den ρ).toNat + i] := by rw [hR]; exact List.getElem?_eq_getElem hlt
    have hsh : ∃ lo hi,sh = [.int .u8 lo hi] := by
     unfold byteSh at c4
     split at c4
     ·exact ⟨_,_,rfl⟩
     ·cases c4
    obtain ⟨lo,hi2,rfl⟩ := hsh
    have hrok := k3.1 _ (List.mem_of_getElem? hrow)
    obtain ⟨z,q1,_,_,q4⟩ := hrok.get (j := 0) (c := .int .u8 lo hi2) rfl
    have := k3.get hrow q4
    have hz : xs.getD i 0 = z := by
     rw [<- hX]
     have : i < (len.den ρ).toNat := hi
     simp [List.getD,List.getElem?_take,this,hlt,q1]
    simp only [World.cell?,k1,Option.isSome_none,Bool.false_eq_true,if_false,hz]
    simp only [List.length_cons,List.length_nil,Nat.add_zero,Nat.zero_add,Nat.mul_one] at this
    rw [show (o.den ρ).toNat + (ro.den ρ).toNat * 1 + i = (o.den ρ).toNat + ((ro.den ρ).toNat + i) by omega]
    exact this
 ·exact Snd.fail
theorem minM_snd {k : IntKind} {x y : IV} {t : TypeId} {ts : Array TypeId} (hx : x.ok n ρ) (hy : y.ok n ρ) : Snd S L (minM k x y) n ρ (QV w0 m bl n ρ fun w => (Builtin.min_ ts t #[.int k (x.l.den ρ),.int k (y.l.den ρ)]).run P w) := by
 have e := BE.den_mkLt hy hx
 have hr : ∀ w,(Builtin.min_ ts t #[.int k (x.l.den ρ),.int k (y.l.den ρ)]).run P w = .ok (.int k (if y.l.den ρ < x.l.den ρ then y.l.den ρ else x.l.den ρ)) w := fun w => by
  simp [Builtin.min_,Builtin.min2]
 refine brM_snd (fun hb => Snd.pure ⟨hy,_,rfl,fun w _ => ?_⟩) fun hb => Snd.pure ⟨hx,_,rfl,fun w _ => ?_⟩
 ·rw [e.1] at hb
  simp only [hr,if_pos (of_decide_eq_true hb)]; rfl
 ·rw [e.1] at hb
  simp only [hr,if_neg (of_decide_eq_false hb)]; rfl
theorem maxM_snd {k : IntKind} {x y : IV} {t : TypeId} {ts : Array TypeId} (hx : x.ok n ρ) (hy : y.ok n ρ) : Snd S L (maxM k x y) n ρ (QV w0 m bl n ρ fun w => (Builtin.max_ ts t #[.int k (x.l.den ρ),.int k (y.l.den ρ)]).run P w) := by
 have e := BE.den_mkLt hx hy
 have hr : ∀ w,(Builtin.max_ ts t #[.int k (x.l.den ρ),.int k (y.l.den ρ)]).run P w = .ok (.int k (if x.l.den ρ < y.l.den ρ then y.l.den ρ else x.l.den ρ)) w := fun w => by
  simp [Builtin.max_,Builtin.max2]
 refine brM_snd (fun hb => Snd.pure ⟨hy,_,rfl,fun w _ => ?_⟩) fun hb => Snd.pure ⟨hx,_,rfl,fun w _ => ?_⟩
 ·rw [e.1] at hb
  simp only [hr,if_pos (of_decide_eq_true hb)]; rfl
 ·rw [e.1] at hb
  simp only [hr,if_neg (of_decide_eq_false hb)]; rfl
theorem boolsOf_spec : ∀ {cs : List A} {l : List Bool},boolsOf cs = some l -> cs = l.map fun b => A.bool (.lit b)
 | [],l,h => by simp [boolsOf] at h; subst h; rfl
 | .bool (.lit b) :: r,l,h => by
  simp only [boolsOf] at h
  cases hr : boolsOf r with
  | none => simp [hr] at h
  | some l' =>
   simp only [hr,Option.some.injEq] at h
   subst h
   simp [boolsOf_spec hr]
 | .bool (.eq ..) :: _,_,h | .bool (.lt ..) :: _,_,h | .bool (.le ..) :: _,_,h | .bool (.not ..) :: _,_,h | .bool (.and ..) :: _,_,h | .bool (.iff ..) :: _,_,h => by simp [boolsOf] at h
 | .int .. :: _,_,h => by simp [boolsOf] at h
 | .ptr .. :: _,_,h => by simp [boolsOf] at h
 | .pix .. :: _,_,h => by simp [boolsOf] at h
 | .gptr .. :: _,_,h => by simp [boolsOf] at h
 | .slc .. :: _,_,h => by simp [boolsOf] at h
 | .con _ :: _,_,h => by simp [boolsOf] at h
 | .str _ :: _,_,h => by simp [boolsOf] at h
 | .rows .. :: _,_,h => by simp [boolsOf] at h
 | .sl .. :: _,_,h => by simp [boolsOf] at h
 | .ep .. :: _,_,h => by simp [boolsOf] at h
theorem idxB_mem : ∀ (l : List Bool) (s : Nat),s + l.length <= 256 -> ∀ i : Nat,i < 256 -> (UInt8.ofNat i ∈ idxB s l ↔ s <= i /\ l[i - s]? = some true)
 | [],s,_,i,_ => by simp [idxB]
 | b :: r,s,h,i,hi => by
  simp only [List.length_cons] at h
  have ih := idxB_mem r (s + 1) (by omega) i hi
  have hne : s ≠ i -> UInt8.ofNat i ≠ UInt8.ofNat s := fun hne he => by
   have := congrArg UInt8.toNat he
   simp at this; omega
  have key : (s + 1 <= i /\ r[i - (s + 1)]? = some true) ↔ (s < i /\ (b :: r)[i - s]? = some true) := by
   constructor
   ·rintro ⟨h1,h2⟩
    refine ⟨h1,?_⟩
    rw [show i - s = (i - (s + 1)) + 1 by omega]; simpa using h2
   ·rintro ⟨h1,h2⟩
    refine ⟨h1,?_⟩
    rw [show i - s = (i - (s + 1)) + 1 by omega] at h2; simpa using h2
  unfold idxB
  cases b with
  | true =>
   simp only [cond_true,List.mem_cons,ih,key]
   by_cases he : s = i
   ·subst he; simp
   ·constructor
    ·rintro (h1 | h1)
     ·exact absurd h1 (hne he)
     ·exact ⟨by omega,h1.2⟩
    ·rintro ⟨h1,h2⟩; exact .inr ⟨by omega,h2⟩
  | false =>
   simp only [cond_false,ih,key]
   by_cases he : s = i
   ·subst he; simp
   ·constructor
    ·rintro ⟨h1,h2⟩; exact ⟨by omega,h2⟩
    ·rintro ⟨h1,h2⟩; exact ⟨by omega,h2⟩
theorem selB_snd (hb : BlOk n bl.length ρ bl) {ty : TypeId} (hu : P.underlying ty = some .bool) (b off : Nat) {ix : IV} (hix : ix.ok n ρ) : Snd S L (selB bl b off ix) n ρ (QV w0 m bl n ρ fun w => (Instr.loadAt ty ((A.pix b off ix).den ρ m)).run P w) := by
 unfold selB
 cases hbl : bl[b]? with
 | none => exact Snd.fail
 | some q =>
  obtain ⟨cs,t⟩ := q
  simp only
  cases hi : boolsOf ((cs.drop off).take (ix.hi.toNat + 1)) with
  | none => exact Snd.fail
  | some l =>
   refine snd_guard fun hc => ?_
   simp only [Bool.and_eq_true,decide_eq_true_eq] at hc
   obtain ⟨⟨⟨hc1,hc2⟩,hc3⟩,hq⟩ := hc
   have hlen := Nat.eq_of_beq_eq_true hc1
   have h255 := Nat.le_of_ble_eq_true hc2
   have e := boolsOf_spec hi
   have bx := hix.2
   have hlt : (ix.l.den ρ).toNat < l.length := by omega
   have hcl : cOf (idxB 0 l) = (Lin.const (cOf (idxB 0 l))).den ρ := (Lin.den_const _ _).symm
   have hf : fnD 43 ([Lin.const (cOf (idxB 0 l)),ix.l].map (·.den ρ)) = if l[(ix.l.den ρ).toNat] = true then 1 else 0 := by
    simp only [List.map_cons,List.map_nil,fnD,Lin.den_const,sOf_cOf]
    have := idxB_mem l 0 (by omega) (ix.l.den ρ).toNat (by omega)
    simp only [Nat.sub_zero,Nat.zero_le,true_and,List.getElem?_eq_getElem hlt,Option.some.injEq] at this
    simp only [this]
   have b1 := bit01 (l[(ix.l.den ρ).toNat] = true)
   refine (fnM_snd (by rw [hf]; exact b1.1) (by rw [hf]; exact b1.2)).bind fun ρ1 n1 r hn ha ⟨g1,g2⟩ => ?_
   rw [hf] at g2
   have e2 := BE.den_mkEq (n := n1) (ρ := ρ1) (a := ⟨r,0,1⟩) (b := .const 1) ⟨g1,by simp only [g2]; exact b1.1,by simp only [g2]; exact b1.2⟩ (IV.const_ok _ _ _)
   refine Snd.pure ⟨e2.2,_,rfl,fun w hw => ?_⟩
   obtain ⟨_,_,rr,_,h2⟩ := hw.blk b cs t hbl hq
   have hcs : cs[off + (ix.l.den ρ).toNat]? = some (.bool (.lit l[(ix.l.den ρ).toNat])) := by
    have h1 : ((cs.drop off).take (ix.hi.toNat + 1))[(ix.l.den ρ).toNat]? = some (.bool (.lit l[(ix.l.den ρ).toNat])) := by rw [e]; simp [hlt]
    rw [List.getElem?_take] at h1
    split at h1
    ·rw [List.getElem?_drop] at h1; exact h1
    ·cases h1
   have hclt := (List.getElem?_eq_some_iff.1 hcs).1
   have hcell : w.cell? ⟨m b,off + (ix.l.den ρ).toNat,none⟩ = some (.bool l[(ix.l.den ρ).toNat]) := by
    simp only [World.cell?,h2,Option.isSome_none,Bool.false_eq_true,if_false,List.getElem?_toArray]
    rw [List.getElem?_append_left (by simpa using hclt),List.getElem?_map,hcs]; rfl
   have hagg : isAggB P ty = some false := by unfold isAggB; rw [hu]
   have hpd : (A.pix b off ix).den ρ m = .pointer (some ⟨m b,off + (ix.l.den ρ).toNat,none⟩) := rfl
   simp only [W.den,A.den]
   rw [e2.1]
   simp only [g2,IV.const,Lin.den_const]
   have hbit : decide ((if l[(ix.l.den ρ).toNat] = true then (1 : Int) else 0) = 1) = l[(ix.l.den ρ).toNat] := by
    cases l[(ix.l.den ρ).toNat] <;> rfl
   rw [hbit]
   have hpd2 := hpd
   simp only [A.den] at hpd2
   simp [Instr.loadAt,Instr.sureAddr,loadVar,run_isAggB hagg,hcell]
theorem run_eq_nil (w : World) {t e : TypeId} (hu : P.underlying t = some (.slice e)) (p : Option Addr) (l c : Nat) : (binOp .eql t (.slice p l c) (.slice none 0 0)).run P w = .ok (.bool p.isNone) w := by
 have h : binOp .eql t (.slice p l c) (.slice none 0 0) = (do pure (.bool (<- Op.equal t (.slice p l c) (.slice none 0 0)))) := rfl
 rw [h]
 simp only [Sem.run_bind,run_equal_slice_nil w t e p l c hu,Result.andThen_ok,Sem.run_pure]
theorem run_ne_nil (w : World) {t e : TypeId} (hu : P.underlying t = some (.slice e)) (p : Option Addr) (l c : Nat) : (binOp .neq t (.slice p l c) (.slice none 0 0)).run P w = .ok (.bool !p.isNone) w := by
 have h : binOp .neq t (.slice p l c) (.slice none 0 0) = (do pure (.bool (!(<- Op.equal t (.slice p l c) (.slice none 0 0))))) := rfl
 rw [h]
 simp only [Sem.run_bind,run_equal_slice_nil w t e p l c hu,Result.andThen_ok,Sem.run_pure]
theorem arrRows_spec {b off : Nat} {sh : List CK} {code : Lin} {c : Nat} (h : arrRows bl b off = some (sh,code,c)) : off = 0 /\ ∃ cap kind t,bl[b]? = some ([.rows sh (.const 0) code cap kind],t) /\ 0 < kind /\ ∀ ρ,cap.den ρ = (c : Int) := by
 unfold arrRows at h
 split at h
 ·rename_i sh' o code' cap kind t hbl
  split at h
  ·rename_i q hq
   cases hc : (Nat.beq off 0 && Nat.blt 0 kind && Lin.beq o (.const 0) && decide (0 <= q)) with
   | false => rw [hc] at h; cases h
   | true =>
    rw [hc] at h
    simp only [cond_true,Option.some.injEq,Prod.mk.injEq] at h
    obtain ⟨rfl,rfl,rfl⟩ := h
    simp only [Bool.and_eq_true,decide_eq_true_eq] at hc
    obtain ⟨⟨⟨c1,c2⟩,c3⟩,c4⟩ := hc
    have c3 := Lin.beq_eq c3
    subst c3
    exact ⟨Nat.eq_of_beq_eq_true c1,cap,kind,t,hbl,Nat.le_of_ble_eq_true c2,fun ρ => by rw [Lin.den_isC hq]; omega⟩
  ·cases h
 ·cases h
theorem allRowsM_snd {nb : Nat} {sh : List CK} : ∀ {k i : Nat} {n : Nat} {ρ : Env} {code : Lin},code.sc n -> (∀ row ∈ rOf (code.den ρ),RowOk sh row) -> (rOf (code.den ρ)).length = i + k ->
 Snd S L (allRowsM code sh i k) n ρ fun ρ' n' l => (∀ a ∈ l,A.ok n' nb ρ' a) /\ l.length = k * sh.length /\ ∀ (x : Nat) (a : A),l[x]? = some a -> (flatV sh (rOf (code.den ρ)))[i * sh.length + x]? = some (a.den ρ' m)
 | 0,i,n,ρ,code,_,_,_ => Snd.pure ⟨fun _ h => by simp at h,by simp,fun x a h => by simp at h⟩
 | k + 1,i,n,ρ,code,hs,hrk,hl => by
  unfold allRowsM
  have hlt : i < (rOf (code.den ρ)).length := by omega
  have hrow : (rOf (code.den ρ))[i]? = some (rOf (code.den ρ))[i] := List.getElem?_eq_getElem hlt
  generalize (rOf (code.den ρ))[i] = row at hrow
  refine (cellsM_snd (nb := nb) (m := m) (r := sh) (j := 0) (i := .const (i : Nat)) (code := code) (hrk row (List.mem_of_getElem? hrow)) hs (Lin.sc_const _ _) (by rw [Lin.den_const,Int.toNat_natCast]; exact hrow) (fun x c hx => by rw [Nat.zero_add]; exact hx)).bind fun ρ1 n1 l1 hn1 ha1 ⟨g1,g2,g3⟩ => ?_
  have e1 : code.den ρ1 = code.den ρ := Lin.den_agree ha1 hs
  refine (allRowsM_snd (nb := nb) (k := k) (i := i + 1) (code := code) (hs.mono hn1) (by rw [e1]; exact hrk) (by rw [e1]; omega)).bind fun ρ2 n2 l2 hn2 ha2 ⟨k1,k2,k3⟩ => Snd.pure ⟨fun a ha => ?_,by rw [List.length_append,g2,k2,Nat.succ_mul]; omega,fun x a hx => ?_⟩
  ·rcases List.mem_append.1 ha with ha | ha
   ·exact (g1 a ha).ext ha2 hn2 (Nat.le_refl _)
   ·exact k1 a ha
  ·rw [List.getElem?_append] at hx
   split at hx
   ·rename_i hlt
    have := g3 x a hx
    rw [Nat.zero_add] at this
    rw [A.den_ext (g1 a (List.mem_of_getElem? hx)) ha2 (fun _ _ => rfl)]
    exact flatV_get hrk hrow this
   ·rename_i hge
    have := k3 (x - l1.length) a hx
    rw [e1,g2] at this
    rw [g2] at hge
    rw [show i * sh.length + x = (i + 1) * sh.length + (x - sh.length) by rw [Nat.succ_mul]; omega]
    exact this
theorem slSub3_snd {t : TypeId} {b sz : Nat} {o ro len cap p q r : Lin} {lo : Option Operand} {hi mx : Operand} (hx : (A.sl b sz o ro len cap).ok n bl.length ρ) (ht : TRel n bl.length ρ m tm a.tmps) (hp : bndL tm (.const 0) lo = some p) (hq : intL (opV tm hi) = some q) (hr : intL (opV tm mx) = some r) :
 Snd S L (slSub3 P t b sz o ro len cap p q r) n ρ (QV w0 m bl n ρ fun w => (Instr.sliceAt t ((A.sl b sz o ro len cap).den ρ m) (lo.map a.eval) (some (a.eval hi)) (some (a.eval mx))).run P w) := by
 unfold slSub3
 cases h1 : slcOf P t with
 | none => exact Snd.fail
 | some e =>
  cases h2 : szB P e with
  | none => simp only [h2]; exact Snd.fail
  | some s =>
   simp only [h2]
   refine snd_guard fun hs => chkM_snd fun hk => ?_
   have hs := Nat.eq_of_beq_eq_true hs
   subst hs
   simp only [List.map_cons,List.map_nil,chkD] at hk
   obtain ⟨k1,k2,k3,k4,k5⟩ := hk
   have hx' := hx
   obtain ⟨x1,⟨x2,x3,x4,x5⟩,⟨x6,x7,x8,x9⟩,⟨x10,x13⟩,x11,x12⟩ := hx
   have hsp := bndL_spec hp ht
   have scp : p.sc n := by rcases hsp with ⟨_,rfl⟩ | ⟨_,_,h⟩; exact Lin.sc_const _ _; exact h
   obtain ⟨kq,hq',scq⟩ := intL_spec (m := m) (bl := bl) hq (opV_spec ht hi).2 (opV_spec ht hi).1
   obtain ⟨kr,hr',scr⟩ := intL_spec (m := m) (bl := bl) hr (opV_spec ht mx).2 (opV_spec ht mx).1
   obtain ⟨ptr,e1,e2,e3⟩ := sl_den (m := m) hx'
   have hc : ¬ (cap.den ρ < 0) := fun h => by have := x11 h; omega
   have h12 := x12 (by omega)
   have e1' := e1
   rw [if_neg hc,e3 (by omega)] at e1'
   have hf : fnD 33 ([ro,p,r].map (·.den ρ)) = (if p.den ρ = r.den ρ then ro.den ρ else ro.den ρ + p.den ρ) := rfl
   refine (fnM_snd (by rw [hf]; split <;> omega) (by rw [hf]; split <;> omega)).bind fun ρ1 n1 rr hn ha ⟨g1,g2⟩ => Snd.pure ?_
   rw [hf] at g2
   have a1 := Lin.den_agree ha x2; have a2 := Lin.den_agree ha scq; have a3 := Lin.den_agree ha scp; have a4 := Lin.den_agree ha scr
   refine ⟨⟨x1,⟨x2.mono hn,g1,Lin.sc_sub (scq.mono hn) (scp.mono hn),Lin.sc_sub (scr.mono hn) (scp.mono hn)⟩,?_⟩,_,rfl,fun w _ => ?_⟩
   ·rw [Lin.den_sub,Lin.den_sub,a1,a2,a3,a4,g2]
    refine ⟨⟨x6,?_,by omega,by omega⟩,⟨by omega,?_⟩,fun h => by omega,fun h => by omega⟩
    ·split <;> omega
    ·split <;> omega
   ·rw [e1']
    have hbs : (Instr.sliceBounds true (len.den ρ).toNat (cap.den ρ).toNat (lo.map a.eval) (some (a.eval hi)) (some (a.eval mx))).run P w = .ok ((p.den ρ).toNat,(q.den ρ).toNat,(r.den ρ).toNat) w := by
     rw [hq',hr']
     rcases hsp with ⟨rfl,rfl⟩ | ⟨kp,hp',_⟩
     ·simp [Instr.sliceBounds,Lin.den_const,sliceB_ok (P := P) (y := (cap.den ρ).toNat) (by omega : 0 <= r.den ρ) (by omega),sliceB_ok (P := P) (y := (r.den ρ).toNat) (by omega : 0 <= q.den ρ) (by omega)]
     ·rw [hp']
      simp [Instr.sliceBounds,sliceB_ok (P := P) (y := (cap.den ρ).toNat) (by omega : 0 <= r.den ρ) (by omega),sliceB_ok (P := P) (y := (r.den ρ).toNat) (by omega : 0 <= q.den ρ) (by omega),sliceB_ok (P := P) (y := (q.den ρ).toNat) k1 (by omega)]
    have e4 : (q.den ρ).toNat - (p.den ρ).toNat = (q.den ρ - p.den ρ).toNat := by omega
    have e5 : (r.den ρ).toNat - (p.den ρ).toNat = (r.den ρ - p.den ρ).toNat := by omega
    simp only [Instr.sliceAt,Sem.run_bind,run_underlying (slcOf_spec h1),Result.andThen_ok,Instr.slice,hbs,run_szB h2,Sem.run_pure,e4,e5,W.den,A.den,Lin.den_sub,a1,a2,a3,a4,g2]
    rw [if_neg (show ¬ (r.den ρ - p.den ρ < 0) by omega)]
    by_cases hpc : p.den ρ = r.den ρ
    ·rw [if_pos hpc,if_pos (by omega)]
    ·rw [if_neg hpc,if_neg (by omega)]
     have e6 : (ro.den ρ + p.den ρ).toNat = (ro.den ρ).toNat + (p.den ρ).toNat := by omega
     rw [e6,Nat.add_mul,<- Nat.add_assoc]
     simp [addr_add]
theorem rowsQ2_snd (hb : BlOk n bl.length ρ bl) (hex : ∃ w,Mem w0 ρ m bl w) (ht : TRel n bl.length ρ m tm a.tmps) (o : Oper) {q : M V} (hq : rowsQ2 P bl tm o = some q) : Snd S L q n ρ (QR w0 m bl n ρ P o a) := by
 obtain ⟨wx,hwx⟩ := hex
 unfold rowsQ2 at hq
 split at hq
 ·rename_i t x ix h
  have hx := opV_spec ht x
  have hi := opV_spec ht ix
  split at hq
  ·rename_i b off k i hv hvi
   rw [hv] at hx; rw [hvi] at hi
   split at hq
   ·rename_i sh code c len e har harr
    split at hq
    ·rename_i s hs
     cases hc : (Nat.beq s sh.length && Nat.beq len c) with
     | false => rw [hc] at hq; cases hq
     | true =>
      rw [hc] at hq
      simp only [cond_true,Option.some.injEq] at hq
      subst hq
      simp only [Bool.and_eq_true] at hc
      have c2 := Nat.eq_of_beq_eq_true hc.2
      subst c2
      obtain ⟨rfl,cap,kind,bt,hbl,hk,hcap⟩ := arrRows_spec har
      refine chkM_snd fun hk30 => Snd.pure ?_
      simp only [List.map_cons,List.map_nil,chkD,Lin.den_const] at hk30
      have hxr : a.eval x = .pointer (some ⟨m b,0,none⟩) := hx.2
      have hir : a.eval ix = .int k (i.l.den ρ) := hi.2
      have hisc : IV.ok n ρ i := hi.1
      have hxo : b < bl.length := hx.1
      refine ⟨⟨hxo,⟨Lin.sc_const _ _,hisc.1⟩,by rw [Lin.den_const]; omega,hk30.1⟩,_,rfl,fun w _ => .inl ?_⟩
      have c1 : i.l.den ρ < ((len : Nat) : Int) := hk30.2
      simp [execOp,h,hxr,hir,Instr.indexAt,asIntOf,run_underlying (arrOf_spec harr),Instr.sureAddr,hk30.1,c1,run_szB hs,addr_add,W.den,A.den,Lin.den_const]
    ·cases hq
   ·cases hq
  ·cases hq
 ·rename_i t x h
  have hx := opV_spec ht x
  split at hq
  ·rename_i b off hv
   rw [hv] at hx
   split at hq
   ·rename_i sh code c k har hagg hs
    cases hc : (Nat.beq k (c * sh.length)) with
    | false => rw [hc] at hq; cases hq
    | true =>
     rw [hc] at hq
     simp only [cond_true,Option.some.injEq] at hq
     subst hq
     have hc := Nat.eq_of_beq_eq_true hc
     subst hc
     obtain ⟨rfl,cap,kind,bt,hbl,hk,hcap⟩ := arrRows_spec har
     refine chkM_snd fun hk31 => ?_
     simp only [List.map_cons,List.map_nil,chkD,Lin.den_const] at hk31
     have hAok : (A.rows sh (.const 0) code cap kind).ok n bl.length ρ := hb _ (List.mem_of_getElem? hbl) _ (by simp)
     have hmem : ∀ w,Mem w0 ρ m bl w -> ∃ cells t' fz,w.heap[m b]? = some (.cells cells t' fz) /\ RowsAt cells 0 sh (rOf (code.den ρ)) := fun w hw => by
      obtain ⟨_,cells,tq,fz,g1,⟨g2,g3⟩,_⟩ := (hw.rws b sh (.const 0) code cap kind bt hbl (by omega)).2 (by rw [hcap]; omega)
      rw [Lin.den_const] at g3
      exact ⟨cells,tq,fz,g1,g3⟩
     obtain ⟨_,_,_,_,hrk0⟩ := hmem wx hwx
     refine (allRowsM_snd (nb := bl.length) (m := m) (k := c) (i := 0) hAok.1.2.1 hrk0.1 (by omega)).bind fun ρ1 n1 l hn ha ⟨g1,g2,g3⟩ => Snd.pure ⟨g1,_,rfl,fun w hw => .inl ?_⟩
     obtain ⟨cells,tq,fz,q1,q2⟩ := hmem w hw
     have hl := run_loadCells_list (P := P) w ⟨m b,0,none⟩ (l.map (A.den ρ1 m)) fun x v hj => by
      rw [addr_add]
      rw [List.getElem?_map] at hj
      cases hq : l[x]? with
      | none => simp [hq] at hj
      | some y =>
       simp only [hq,Option.map_some,Option.some.injEq] at hj
       subst hj
       have h3 := g3 x y hq
       rw [Nat.zero_mul,Nat.zero_add] at h3
       simp only [World.cell?,q1,Option.isSome_none,Bool.false_eq_true,if_false]
       obtain ⟨_,pre,post,p1,p2⟩ := q2
       have hpre : pre = [] := List.eq_nil_of_length_eq_zero p2
       subst hpre
       have hlt := (List.getElem?_eq_some_iff.1 h3).1
       rw [<- Array.getElem?_toList,p1,List.nil_append,List.getElem?_append_left (by omega),Nat.zero_add]
       exact h3
     simp only [List.length_map,g2] at hl
     have hxr : a.eval x = .pointer (some ⟨m b,0,none⟩) := hx.2
     simp [execOp,h,hxr,Instr.loadAt,Instr.sureAddr,loadVar,run_isAggB hagg,run_szB hs,hl,W.den]
   ·cases hq
  ·cases hq
 ·rename_i t x lo hi mx h
  have hx := opV_spec ht x
  split at hq
  ·rename_i b sz off ro len cap hv
   rw [hv] at hx
   have hxr : a.eval x = (A.sl b sz off ro len cap).den ρ m := hx.2
   have he : execOp a.eval o = (do pure (Next.value (<- Instr.sliceAt t ((A.sl b sz off ro len cap).den ρ m) (lo.map a.eval) (some (a.eval hi)) (some (a.eval mx))))) := by simp only [execOp,h,hxr]; rfl
   split at hq
   ·rename_i p q' r hp hq' hr
    cases hq
    exact (slSub3_snd hx.1 ht hp hq' hr).mono fun _ _ _ _ _ hq => QR.of_run he hq
   ·cases hq
  ·cases hq
 ·rename_i c h
  split at hq
  ·rename_i hc
   split at hq
   ·rename_i x t hxs hts
    have hx := opV_spec ht x
    split at hq
    ·rename_i e hv hs
     cases hq
     rw [hv] at hx
     have hxr : a.eval x = .slice none 0 0 := hx.2
     have a1 : c.args = #[x] := by rw [<- Array.toArray_toList (xs := c.args),hxs]
     have a2 : c.argTypes = #[t] := by rw [<- Array.toArray_toList (xs := c.argTypes),hts]
     refine Snd.pure ⟨IV.const_ok _ _ _,_,rfl,fun w _ => .inl ?_⟩
     simp [execOp,h,resolve,hc,a1,a2,hxr,invoke,builtin,Builtin.len_,run_underlying (slcOf_spec hs),goInt,W.den,A.den,IV.const,Lin.den_const]
    ·cases hq
   ·cases hq
  ·cases hq
 ·cases hq
theorem qop_snd {cal : Cal} (hcal : CalOk S P gl w0 cal) (hb : BlOk n bl.length ρ bl) (hg : GOk gl w0) (hex : ∃ w,Mem w0 ρ m bl w) (ht : TRel n bl.length ρ m tm a.tmps) (o : Oper) :
 Snd S L (qop P cal gl bl tm o) n ρ (QR w0 m bl n ρ P o a) := by
 unfold qop
 cases hq : rowsQ P bl tm o with
 | none =>
  simp only
  cases hq2 : rowsQ2 P bl tm o with
  | some q => exact rowsQ2_snd hb hex ht o hq2
  | none =>
  simp only
  cases hd : dynQ cal bl tm o with
  | none => exact qop0_snd hcal hb hg hex ht o
  | some q =>
   simp only
   unfold dynQ at hd
   split at hd
   ·rename_i c ho
    split at hd
    ·rename_i x hc
     split at hd
     ·rename_i f fa fb hv
      cases hz : (Nat.beq fa.size 0 && Nat.beq fb.size 0) with
      | false => rw [hz] at hd; cases hd
      | true =>
       rw [hz] at hd
       simp only [cond_true,Option.map_eq_some_iff] at hd
       obtain ⟨g,hgf,rfl⟩ := hd
       simp only [Bool.and_eq_true,Nat.beq_eq] at hz
       have e0 : fa = #[] := Array.eq_empty_of_size_eq_zero hz.1
       have e1 : fb = #[] := Array.eq_empty_of_size_eq_zero hz.2
       subst e0 e1
       have hx := opV_spec ht (.tmp x)
       rw [hv] at hx
       have hxr : a.eval (.tmp x) = .func (.func f) #[] #[] := hx.2
       have hargs : ∀ v ∈ c.args.toList.map (opV tm),V.ok n bl.length ρ v := fun v hv => by
        obtain ⟨x,_,rfl⟩ := List.mem_map.1 hv
        exact (opV_spec ht x).1
       have he : execOp a.eval o = callFunc f (c.args.map a.eval) := by
        simp only [execOp,ho,resolve,hc,hxr,Deferred.ofValue]
        simp [invoke,bind_pure_comp]
       refine (hcal f g hgf L n ρ m bl _ _ hb hex hargs (LRel_map (xs := c.args.toList) ht)).mono fun ρ1 n1 v _ _ ⟨q1,val,q2,q3⟩ => ⟨q1,val,q2,fun w hw => ?_⟩
       have ha : (c.args.toList.map a.eval).toArray = c.args.map a.eval := by
        rw [<- Array.toList_map]
       have q4 := q3 w hw
       rw [ha] at q4
       rcases q4 with q4 | ⟨q4,q5⟩
       ·exact .inl (by rw [he]; exact q4)
       ·exact .inr ⟨f,_,by rw [he]; exact q4,q5⟩
     ·cases hd
    ·cases hd
   ·cases hd
 | some q =>
  simp only
  unfold rowsQ at hq
  split at hq
  case h_1 t x h =>
   have hx := opV_spec ht x
   split at hq
   ·rename_i b sz off i j hv
    cases hq
    rw [hv] at hx
    have hxr : a.eval x = (A.ep b sz off i j).den ρ m := hx.2
    have he : execOp a.eval o = (do pure (Next.value (<- Instr.loadAt t ((A.ep b sz off i j).den ρ m)))) := by simp only [execOp,h,hxr]
    exact (epLoad_snd hb hex t hx.1).mono fun _ _ _ _ _ hq => QR.of_run he hq
   ·rename_i b off ix hv
    split at hq
    ·rename_i hu
     cases hq
     rw [hv] at hx
     have hxr : a.eval x = (A.pix b off ix).den ρ m := hx.2
     have he : execOp a.eval o = (do pure (Next.value (<- Instr.loadAt t ((A.pix b off ix).den ρ m)))) := by simp only [execOp,h,hxr]
     exact (selB_snd hb hu b off hx.1.2.1).mono fun _ _ _ _ _ hq => QR.of_run he hq
    ·cases hq
   ·cases hq
  case h_2 x h =>
   have hx := opV_spec ht x
   split at hq
   ·rename_i b sz off i j hv
    cases hq
    rw [hv] at hx
    refine Snd.pure ⟨hx.1,_,rfl,fun w _ => .inl ?_⟩
    have hxr := hx.2
    simp only [V.rel,W.den,A.den] at hxr
    simp [execOp,h,hxr,W.den,A.den]
   ·cases hq
  case h_3 t x ix h =>
   have hx := opV_spec ht x
   have hi := opV_spec ht ix
   split at hq
   ·rename_i b sz off ro len cap k i hv hvi
    cases hq
    rw [hv] at hx
    rw [hvi] at hi
    have hxr : a.eval x = (A.sl b sz off ro len cap).den ρ m := hx.2
    have hir : a.eval ix = .int k (i.l.den ρ) := hi.2
    have he : execOp a.eval o = (do pure (Next.value (<- Instr.indexAt t ((A.sl b sz off ro len cap).den ρ m) (.int k (i.l.den ρ))))) := by simp only [execOp,h,hxr,hir]
    have hisc : IV.ok n ρ i := hi.1
    exact (slIdx_snd hx.1 hisc.1).mono fun _ _ _ _ _ hq => QR.of_run he hq
   ·cases hq
  case h_4 s x f h =>
   have hx := opV_spec ht x
   split at hq
   ·rename_i b sz off i j fd hv hf
    rw [hv] at hx
    obtain ⟨fs,hu,hfd⟩ := fieldOf_spec hf
    split at hq
    ·rename_i k hs
     cases hq
     refine Snd.pure ⟨hx.1,_,rfl,fun w _ => .inl ?_⟩
     have hxr := hx.2
     simp only [V.rel,W.den,A.den] at hxr
     simp [execOp,h,hxr,Instr.fieldAt,run_underlying hu,hfd,Instr.sureAddr,fieldPlace,run_szB hs,addr_add,W.den,A.den,Nat.add_assoc]
    ·cases hq
   ·cases hq
  case h_5 t x lo hi h =>
   have hx := opV_spec ht x
   split at hq
   ·rename_i b sz off ro len cap hv
    rw [hv] at hx
    have hxr : a.eval x = (A.sl b sz off ro len cap).den ρ m := hx.2
    have he : execOp a.eval o = (do pure (Next.value (<- Instr.sliceAt t ((A.sl b sz off ro len cap).den ρ m) (lo.map a.eval) (hi.map a.eval) none))) := by simp only [execOp,h,hxr]; rfl
    split at hq
    ·rename_i p q' hp hq'
     cases hq
     exact (slSub_snd hx.1 ht hp hq').mono fun _ _ _ _ _ hq => QR.of_run he hq
    ·cases hq
   ·cases hq
  case h_6 s d x h =>
   have hx := opV_spec ht x
   split at hq
   ·rename_i b sz off ro len cap e hv hs hd
    split at hq
    ·rename_i he8
     cases hq
     rw [hv] at hx
     have hxr : a.eval x = (A.sl b sz off ro len cap).den ρ m := hx.2
     have he : execOp a.eval o = (do pure (Next.value (<- convert s d ((A.sl b sz off ro len cap).den ρ m)))) := by simp only [execOp,h,hxr]
     exact (slStr_snd hb hex (slcOf_spec hs) he8 hd hx.1).mono fun _ _ _ _ _ hq => QR.of_run he hq
    ·cases hq
   ·cases hq
  case h_7 c h =>
   split at hq
   ·rename_i hc
    split at hq
    ·rename_i x t hxs hts
     have hx := opV_spec ht x
     split at hq
     ·rename_i b sz off ro len cap e hv hs
      cases hq
      rw [hv] at hx
      have hxr : a.eval x = (A.sl b sz off ro len cap).den ρ m := hx.2
      have hxo : (A.sl b sz off ro len cap).ok n bl.length ρ := hx.1
      obtain ⟨ptr,e1,_,_⟩ := sl_den (m := m) hxo
      rw [e1] at hxr
      obtain ⟨x1,⟨x2,x3,x4,x5⟩,⟨x6,x7,x8,x9⟩,_⟩ := hxo
      have a1 : c.args = #[x] := by rw [<- Array.toArray_toList (xs := c.args),hxs]
      have a2 : c.argTypes = #[t] := by rw [<- Array.toArray_toList (xs := c.argTypes),hts]
      refine Snd.pure ⟨⟨x4,x8,x9⟩,_,rfl,fun w _ => .inl ?_⟩
      have e4 : ((len.den ρ).toNat : Int) = len.den ρ := by omega
      simp [-Int.ofNat_toNat,execOp,h,resolve,hc,a1,a2,hxr,invoke,builtin,Builtin.len_,run_underlying (slcOf_spec hs),goInt,W.den,A.den,e4]
     ·cases hq
    ·cases hq
   ·rename_i hc
    split at hq
    ·rename_i x y hxs
     have hx := opV_spec ht x
     have hy := opV_spec ht y
     split at hq
     ·rename_i k p k' q' hv1 hv2
      by_cases hkk : k = k'
      ·subst hkk
       simp only [decide_true,cond_true] at hq
       cases hq
       rw [hv1] at hx; rw [hv2] at hy
       have e1 : a.eval x = .int k (p.l.den ρ) := hx.2
       have e2 : a.eval y = .int k (q'.l.den ρ) := hy.2
       have a1 : c.args = #[x,y] := by rw [<- Array.toArray_toList (xs := c.args),hxs]
       have he : execOp a.eval o = (do pure (Next.value (<- Builtin.min_ c.argTypes o.type #[.int k (p.l.den ρ),.int k (q'.l.den ρ)]))) := by
        simp [execOp,h,resolve,hc,a1,e1,e2,invoke,builtin]
       exact (minM_snd hx.1 hy.1).mono fun _ _ _ _ _ hq => QR.of_run he hq
      ·simp [hkk] at hq
     ·cases hq
    ·cases hq
   ·rename_i hc
    split at hq
    ·rename_i x y hxs
     have hx := opV_spec ht x
     have hy := opV_spec ht y
     split at hq
     ·rename_i k p k' q' hv1 hv2
      by_cases hkk : k = k'
      ·subst hkk
       simp only [decide_true,cond_true] at hq
       cases hq
       rw [hv1] at hx; rw [hv2] at hy
       have e1 : a.eval x = .int k (p.l.den ρ) := hx.2
       have e2 : a.eval y = .int k (q'.l.den ρ) := hy.2
       have a1 : c.args = #[x,y] := by rw [<- Array.toArray_toList (xs := c.args),hxs]
       have he : execOp a.eval o = (do pure (Next.value (<- Builtin.max_ c.argTypes o.type #[.int k (p.l.den ρ),.int k (q'.l.den ρ)]))) := by
        simp [execOp,h,resolve,hc,a1,e1,e2,invoke,builtin]
       exact (maxM_snd hx.1 hy.1).mono fun _ _ _ _ _ hq => QR.of_run he hq
      ·simp [hkk] at hq
     ·cases hq
    ·cases hq
   ·cases hq
  case h_8 op t x y q0 h =>
   have hx := opV_spec ht x
   have hy := opV_spec ht y
   split at hq
   ·rename_i e b sz o' ro len cap hs hv1 hv2
    rw [hv1] at hx; rw [hv2] at hy
    have hxr : a.eval x = (A.sl b sz o' ro len cap).den ρ m := hx.2
    have hyr : a.eval y = .slice none 0 0 := hy.2
    have hxo : (A.sl b sz o' ro len cap).ok n bl.length ρ := hx.1
    obtain ⟨ptr,e1,e2,e3⟩ := sl_den (m := m) hxo
    rw [e1] at hxr
    obtain ⟨x1,⟨x2,x3,x4,x5⟩,_,_,x11,_⟩ := hxo
    have has : chkD 53 ([cap,len].map (·.den ρ)) := x11
    have hp : ptr.isNone = decide (cap.den ρ < 0) := by
     rcases Int.lt_or_le (cap.den ρ) 0 with h0 | h0
     ·rw [e2 h0,decide_eq_true h0]; rfl
     ·rw [e3 h0,decide_eq_false (by omega)]; rfl
    split at hq
    ·cases hq
     refine (asmM_snd has).bind fun ρ1 n1 _ _ _ ⟨hρ,hn⟩ => ?_
     have hρ := hρ.symm
     have hn := hn.symm
     subst hρ hn
     refine Snd.pure ⟨⟨x5,Lin.sc_const _ _⟩,_,rfl,fun w _ => .inl ?_⟩
     have hg0 : eqGuard .eql t x y (.slice ptr (len.den ρ).toNat (if cap.den ρ < 0 then 0 else (cap.den ρ).toNat)) (.slice none 0 0) = Pure.pure () := rfl
     have he : execOp a.eval o = (do pure (Next.value (<- binOp .eql t (.slice ptr (len.den ρ).toNat (if cap.den ρ < 0 then 0 else (cap.den ρ).toNat)) (.slice none 0 0)))) := by
      simp only [execOp,h,hxr,hyr,hg0,pure_bind]
     simp only [he,Sem.run_bind,run_eq_nil w (slcOf_spec hs),Result.andThen_ok,Sem.run_pure,hp]
     simp [W.den,A.den,BE.den,Lin.den_const]
    ·cases hq
     refine (asmM_snd has).bind fun ρ1 n1 _ _ _ ⟨hρ,hn⟩ => ?_
     have hρ := hρ.symm
     have hn := hn.symm
     subst hρ hn
     refine Snd.pure ⟨BE.sc_mkNot ⟨x5,Lin.sc_const _ _⟩,_,rfl,fun w _ => .inl ?_⟩
     have hg0 : eqGuard .neq t x y (.slice ptr (len.den ρ).toNat (if cap.den ρ < 0 then 0 else (cap.den ρ).toNat)) (.slice none 0 0) = Pure.pure () := rfl
     have he : execOp a.eval o = (do pure (Next.value (<- binOp .neq t (.slice ptr (len.den ρ).toNat (if cap.den ρ < 0 then 0 else (cap.den ρ).toNat)) (.slice none 0 0)))) := by
      simp only [execOp,h,hxr,hyr,hg0,pure_bind]
     simp only [he,Sem.run_bind,run_ne_nil w (slcOf_spec hs),Result.andThen_ok,Sem.run_pure,hp]
     simp [W.den,A.den,BE.den,BE.den_mkNot,Lin.den_const]
    ·cases hq
   ·cases hq
  case h_9 => cases hq
end
end Go.Rx
