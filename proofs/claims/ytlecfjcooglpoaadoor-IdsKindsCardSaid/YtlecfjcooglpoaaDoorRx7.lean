/- The evaluator: operations, regions, code, calls. -/
import Derived.Test.YtlecfjcooglpoaaDoorRx6
import Derived.Laws.CopyRow
import Derived.Deep.LoopGhost
set_option linter.unusedVariables false
set_option linter.unusedSimpArgs false
namespace Go.Rx
open M

inductive X where
  | normal
  | exit (id : Nat)
  | ret
def X.to : X → Exit
  | normal => .normal
  | exit id => .exit id
  | ret => .ret
abbrev SK := Nat → List V → List Blk → T
abbrev EK := X → SK
abbrev RK := Nat → V → List Blk → T
abbrev Inl := FuncId → Nat → List V → List Blk → RK → T

/-- What a loop leaves of the state: slots that stay, integers in slots, integers in cells. -/
structure LoopI where
  keep : List Nat
  ints : List (Nat × Int × Int)
  cells : List (Nat × Nat × Int × Int)
  bools : List Nat := []
  accs : List (Nat × List CK × TypeId) := []

def setB : List Blk → Nat → Blk → List Blk
  | [], _, _ => []
  | _ :: r, 0, b => b :: r
  | x :: r, i + 1, b => x :: setB r i b
theorem setB_eq : ∀ (l : List Blk) (i : Nat) (b : Blk), setB l i b = l.set i b
  | [], _, _ => rfl
  | _ :: _, 0, _ => rfl
  | _ :: r, i + 1, b => by simp [setB, setB_eq r i b]

def quietB (cal : Cal) (o : Oper) : Bool :=
  match o.op with
  | .alloc _ | .box _ _ | .store _ _ _ | .buildSlice _ _ _ | .makeSlice _ _ _ => false
  | .call c => match c.callee with
    | .value (.func f) => (cal f).isSome
    | .value (.tmp _) => false
    | .builtin .append => false
    | _ => true
  | _ => true

/-- The cells of so many zeros. -/
def repL (z : List A) (len : Nat) : List A := (List.range (len * z.length)).map fun i => (z[i % z.length]?).getD (.con undef)
/-- A slice out of its parts. -/
def bsL (P : Program) (t : TypeId) (len : Nat) (parts : List (Nat × V)) : Option (List A × TypeId) :=
  match slcOf P t with
  | some e => match szB P e, zeroL P e with
    | some s, some z => cond (Nat.beq z.length s && Nat.blt 0 s && Nat.ble (len * s) 16777216) (match fillL (fun i => some (i * s, s)) (repL z len) parts with | some cs => some (cs, e) | none => none) none
    | _, _ => none
  | none => none
/-- The first cells of what lies there. -/
def headC (bl : List Blk) (b off k : Nat) : Option (List A) :=
  match bl[b]? with
  | some (cs, _) => cond (Nat.ble (off + k) cs.length && isOrd cs) (some ((cs.drop off).take k)) none
  | none => none
/-- A row that has grown: its room is just what is needed, or there is more. -/
def growE (i : TypeInfo) (e : TypeId) (z : List A) (d : Option Tmp) (sLen sCap len : Nat) (olds news : List A) (n : Nat) (tm : List V) (bl : List Blk) (k : SK) : T :=
  cond (Nat.ble (sLen + len) 1000000 && Nat.ble (Builtin.nextslicecap (sLen + len) sCap * i.bytes) 281474976710656 && Nat.blt sCap (sLen + len) && Nat.blt 0 len && Nat.beq z.length i.size && Nat.blt 0 i.size && isOrd (olds ++ news) && isOrd (olds ++ news ++ z))
    (.both (k n (putV tm d (.w (.one (.slc bl.length 0 (sLen + len) (sLen + len))))) (bl ++ [(olds ++ news, (e, false))]))
      (k n (putV tm d (.osl bl.length (sLen + len) (sLen + len + 1))) (bl ++ [(olds ++ news ++ z, (e, true))]))) .stuck
def isNilB : V → Bool
  | .w (.one (.con (.slice none 0 0))) => true
  | _ => false
def appE (P : Program) (d : Option Tmp) (t t' : TypeId) (s x : V) (n : Nat) (tm : List V) (bl : List Blk) (k : SK) : T :=
  match x, slcOf P t with
  | .w (.one (.slc b' off' len' _)), some e => match P.info? e, zeroL P e with
    | some i, some z => match headC bl b' off' (len' * i.size) with
      | some news => cond (!(Nat.beq t t')) .stuck <| cond (isNilB s) (growE i e z d 0 0 len' [] news n tm bl k) <| match s with
        | .w (.one (.slc b off len cap)) => match headC bl b off (len * i.size) with
          | some olds => growE i e z d len cap len' olds news n tm bl k
          | none => .stuck
        | .osl b len lo => match bl[b]? with
          | some (cs, ty) => cond (Nat.ble (len + len') lo && Nat.ble ((len + len') * i.size) cs.length && Nat.blt 0 (len' * i.size) && isOrd cs && isOrd (cs.take (len * i.size) ++ news ++ cs.drop (len * i.size + news.length))) (k n (putV tm d (.osl b (len + len') lo)) (setB bl b (cs.take (len * i.size) ++ news ++ cs.drop (len * i.size + news.length), ty))) .stuck
          | none => .stuck
        | _ => .stuck
      | none => .stuck
    | _, _ => .stuck
  | _, _ => .stuck

/-! ### Rows that grow -/
def shOk (sh : List CK) : Bool := Nat.ble sh.length 100 && Nat.blt 0 sh.length && sh.all fun c => match c with
  | .int _ lo hi => decide (-18446744073709551616 ≤ lo) && decide (hi ≤ 18446744073709551616)
  | _ => true
def indM (e : BE) : M Lin := fun n k => .ind n e (k (.var n) (n + 1))
def cellLinM (c : CK) (a : A) : M Lin :=
  match c, a with
  | .int k lo hi, .int k' x => cond (decide (k = k') && decide (lo ≤ x.lo) && decide (x.hi ≤ hi)) (pure x.l) fail
  | .str, .str l => pure l
  | .bool, .bool e => match e with
    | .lit v => pure (.const (cond v 1 0))
    | e => indM e
  | _, _ => fail
def rowLinM : List CK → List A → M (List Lin)
  | [], [] => pure []
  | c :: sh, a :: r => bind (cellLinM c a) fun l => bind (rowLinM sh r) fun ls => pure (l :: ls)
  | _, _ => fail
noncomputable def appRowsM (sh : List CK) : List (List A) → Lin → M Lin
  | [], c => pure c
  | row :: rs, c => bind (rowLinM sh row) fun ls => bind (fnM 23 (c :: ls) 0 RB) fun c' => appRowsM sh rs c'
def chunkA (w : Nat) : Nat → List A → List (List A)
  | 0, _ => []
  | k + 1, l => l.take w :: chunkA w k (l.drop w)
/-- What is appended, behind what was there: the rows' number, and how many more. -/
noncomputable def srcM (P : Program) (tx : TypeId) (sh : List CK) (bl : List Blk) (x : V) (base : Lin) : M (Lin × Lin) :=
  match x with
  | .w (.one (.slc b off len _)) => match headC bl b off (len * sh.length), slcOf P tx with
    | some cs, some _ => bind (chkM 23 [base, .const len]) fun _ => bind (appRowsM sh (chunkA sh.length len cs) base) fun c => pure (c, .const len)
    | _, _ => fail
  | .w (.one (.sl b sz o ro len _)) => match bl[b]?, slcOf P tx with
    | some ([.rows sh' off code capb kind], _), some _ => cond (Nat.blt 0 kind && shBeq sh sh' && Lin.beq o off && Nat.beq sz sh.length) (bind (chkM 22 [code, ro, ro.add len]) fun _ => bind (chkM 23 [base, len]) fun _ => bind (fnM 22 [code, ro, ro.add len] 0 RB) fun s => bind (fnM 24 [base, s] 0 RB) fun c => pure (c, len)) fail
    | _, _ => fail
  | .w (.one (.str l)) => match P.underlying tx with
    | some .string => cond (byteSh sh) (bind (fnM 0 [l] 0 9223372036854775807) fun len => bind (chkM 23 [base, len]) fun _ => bind (fnM 27 [l] 0 RB) fun s => bind (fnM 24 [base, s] 0 RB) fun c => pure (c, len)) fail
    | _ => fail
  | .w (.one (.con (.slice none 0 0))) => match slcOf P tx with
    | some _ => bind (chkM 23 [base, .const 0]) fun _ => pure (base, .const 0)
    | none => fail
  | _ => fail
def shOfV (bl : List Blk) : V → Option (List CK)
  | .w (.one (.sl b _ _ _ _ _)) => match bl[b]? with
    | some ([.rows sh _ _ _ _], _) => some sh
    | _ => none
  | _ => none
/-- Nothing in it, and no room. -/
def zcap : V → Bool
  | .w (.one (.sl _ _ _ _ len cap)) => match len.isC, cap.isC with | some l, some c => decide (l = 0) && decide (c = 0) | _, _ => false
  | .w (.one (.slc _ _ len cap)) => Nat.beq len 0 && Nat.beq cap 0
  | .w (.one (.con (.slice none 0 0))) => true
  | _ => false
noncomputable def growK (kd : Nat) (e : TypeId) (d : Option Tmp) (sh : List CK) (code len : Lin) (n : Nat) (tm : List V) (bl : List Blk) (k : SK) : T :=
  .unk n (-1) 9223372036854775807 (k (n + 1) (putV tm d (.w (.one (.sl bl.length sh.length (.const 0) (.const 0) len (.var n))))) (bl ++ [([.rows sh (.const 0) code (.var n) kd], (e, false))]))
noncomputable def growR (e : TypeId) (d : Option Tmp) (sh : List CK) (code len : Lin) (n : Nat) (tm : List V) (bl : List Blk) (k : SK) : T :=
  .unk n (-1) 9223372036854775807 (k (n + 1) (putV tm d (.w (.one (.sl bl.length sh.length (.const 0) (.const 0) len (.var n))))) (bl ++ [([.rows sh (.const 0) code (.var n) 2], (e, false))]))
noncomputable def freshR (P : Program) (tx e : TypeId) (d : Option Tmp) (sh : List CK) (s x : V) (n : Nat) (tm : List V) (bl : List Blk) (k : SK) : T :=
  srcM P tx sh bl x (.const 0) n fun p n' => match p.2.isC with
    | some 0 => k n' (putV tm d s) bl
    | some _ => growR e d sh p.1 p.2 n' tm bl k
    | none => .br (.le p.2 (.const 0)) (k n' (putV tm d s) bl) (growR e d sh p.1 p.2 n' tm bl k)
def goodR (sh : List CK) (i : TypeInfo) (z : List A) : Bool := shOk sh && Nat.beq i.size sh.length && Nat.beq z.length sh.length && Nat.ble i.bytes 131072
noncomputable def appR (P : Program) (d : Option Tmp) (t t' : TypeId) (s x : V) (n : Nat) (tm : List V) (bl : List Blk) (k : SK) : Option T :=
  match slcOf P t with
  | none => none
  | some e => match P.info? e, zeroL P e with
    | some i, some z => match zcap s with
      | true => match shOfV bl x with
        | some sh => cond (goodR sh i z) (some (freshR P t' e d sh s x n tm bl k)) none
        | none => none
      | false => match s with
        | .w (.one (.sl b _ o ro len cap)) => match bl[b]? with
          | some ([.rows sh off code capb kind], bt) => cond (goodR sh i z && Nat.beq kind 2 && Lin.beq o (.const 0) && Lin.beq off (.const 0) && Lin.beq ro (.const 0) && Lin.beq cap capb && Nat.beq bt.1 e)
              (some (.chk 31 [code, len] (srcM P t' sh bl x code n fun p n' => growR e d sh p.1 (len.add p.2) n' tm (setB bl b ([.rows sh off code capb 0], bt)) k))) none
          | _ => none
        | _ => none
    | _, _ => none
/-- Operations on rows that change memory. -/
noncomputable def stepR (P : Program) (o : Oper) (n : Nat) (tm : List V) (bl : List Blk) (k : SK) : Option T :=
  match o.op with
  | .call c => match c.callee with
    | .builtin .append => match c.args.toList, c.argTypes.toList with
      | [s, x], [t, t'] => appR P o.dst t t' (opV tm s) (opV tm x) n tm bl k
      | _, _ => none
    | _ => none
  | _ => none
def byteShape : List CK := [.int .u8 0 255]
/-- Stores into rows, and bytes out of a text. -/
noncomputable def stepW (P : Program) (o : Oper) (n : Nat) (tm : List V) (bl : List Blk) (k : SK) : Option T :=
  match o.op with
  | .store t p x => match opV tm p, opV tm x with
    | .w (.one (.ep b sz o' i j)), .w u => match bl[b]?, szB P t with
      | some ([.rows sh off code cap kind], bt), some s => cond (Nat.ble 2 kind && Nat.beq sz sh.length && Lin.beq o' off && Nat.beq u.cells.length s && Nat.blt 0 s && Nat.ble (j + s) sh.length && shOk sh)
          (some (chkM 21 [code, i] n fun _ n => rowLinM ((sh.drop j).take s) u.cells n fun ls n => fnM 42 (code :: i :: .const j :: ls) 0 RB n fun code' n => k n (putV tm o.dst (.tup [])) (setB bl b ([.rows sh off code' cap kind], bt)))) none
      | _, _ => none
    | _, _ => none
  | .convert s d x => match opV tm x with
    | .w (.one (.str l)) => match P.underlying s, slcOf P d with
      | some .string, some e => match P.underlying e with
        | some (.int .u8) => some (fnM 27 [l] 0 RB n fun code n => fnM 0 [l] 0 9223372036854775807 n fun len n => growK 3 e o.dst byteShape code len n tm bl k)
        | _ => none
      | _, _ => none
    | _ => none
  | .makeSlice t x y => match slcOf P t, intL (opV tm x), intL (opV tm y) with
    | some e, some lx, some ly => match P.info? e with
      | some i => match i.zero with
        | some (.int .u8 z) => cond (Nat.beq i.size 1 && Nat.ble i.bytes 1024 && decide (z = 0)) (some (.chk 49 [lx, ly] (fnM 26 [lx, .const 0] 0 RB n fun code n => growK 2 e o.dst byteShape code lx n tm bl k))) none
        | _ => none
      | none => none
    | _, _, _ => none
  | _ => none
/-- A function value that is known: whose, and what it has captured. -/
def cloOf : V → Option (Nat × List A)
  | .clo f caps => some (f, caps)
  | .w (.one (.con (.func (.func f) a b))) => cond (Nat.beq a.size 0 && Nat.beq b.size 0) (some (f, [])) none
  | _ => none
/-- One operation. -/
noncomputable def stepE0 (P : Program) (gl : Glo) (cal : Cal) (inl : Inl) (o : Oper) (n : Nat) (tm : List V) (bl : List Blk) (k : SK) : T :=
  match o.op with
  | .alloc t => match zeroL P t with
    | some cs => cond (isOrd cs) (k n (putV tm o.dst (.w (.one (.ptr bl.length 0)))) (bl ++ [(cs, (t, false))])) .stuck
    | none => .stuck
  | .box t x => match opV tm x with
    | .w u => cond (isOrd u.cells) (k n (putV tm o.dst (.w (.one (.ptr bl.length 0)))) (bl ++ [(u.cells, (t, false))])) .stuck
    | _ => .stuck
  | .buildSlice t len parts => match bsL P t len (parts.toList.map fun p => (p.1, opV tm p.2)) with
    | some (cs, e) => cond (isOrd cs) (k n (putV tm o.dst (.w (.one (.slc bl.length 0 len len)))) (bl ++ [(cs, (e, false))])) .stuck
    | none => .stuck
  | .store t p x => match opV tm p, opV tm x with
    | .w (.one (.ptr b off)), .w u => match bl[b]?, szB P t with
      | some (cs, bt), some s => cond (Nat.beq u.cells.length s && Nat.ble (off + s) cs.length && Nat.blt 0 s && isOrd cs && isOrd (cs.take off ++ u.cells ++ cs.drop (off + s))) (k n (putV tm o.dst (.tup [])) (setB bl b (cs.take off ++ u.cells ++ cs.drop (off + s), bt))) .stuck
      | _, _ => .stuck
    | _, _ => .stuck
  | .call c => match c.callee with
    | .value (.func f) => match cal f with
      | some _ => qop P cal gl bl tm o n fun v n' => k n' (putV tm o.dst v) bl
      | none => inl f n (c.args.toList.map (opV tm)) bl fun n' v bl' => k n' (putV tm o.dst v) bl'
    | .value (.tmp x) => match cloOf (opV tm (.tmp x)) with
      | some (f, caps) => inl f n (c.args.toList.map (opV tm) ++ caps.map fun y => V.w (.one y)) bl fun n' v bl' => k n' (putV tm o.dst v) bl'
      | none => .stuck
    | .builtin .append => match c.args.toList, c.argTypes.toList with
      | [s, x], [t, t'] => appE P o.dst t t' (opV tm s) (opV tm x) n tm bl k
      | _, _ => .stuck
    | _ => qop P cal gl bl tm o n fun v n' => k n' (putV tm o.dst v) bl
  | _ => qop P cal gl bl tm o n fun v n' => k n' (putV tm o.dst v) bl

noncomputable def stepE (P : Program) (gl : Glo) (cal : Cal) (inl : Inl) (o : Oper) (n : Nat) (tm : List V) (bl : List Blk) (k : SK) : T :=
  match stepR P o n tm bl k with
  | some t => t
  | none => match stepW P o n tm bl k with
    | some t => t
    | none => stepE0 P gl cal inl o n tm bl k

/-- What a test's outcome says of a form. -/
def bndB : BE → Bool → Option (Lin × Option Int × Option Int)
  | .le p q, true => match p.isC, q.isC with | some c, none => some (q, some c, none) | none, some c => some (p, none, some c) | _, _ => none
  | .le p q, false => match p.isC, q.isC with | some c, none => some (q, none, some (c - 1)) | none, some c => some (p, some (c + 1), none) | _, _ => none
  | .lt p q, true => match p.isC, q.isC with | some c, none => some (q, some (c + 1), none) | none, some c => some (p, none, some (c - 1)) | _, _ => none
  | .lt p q, false => match p.isC, q.isC with | some c, none => some (q, none, some c) | none, some c => some (p, some c, none) | _, _ => none
  | .not b, v => bndB b (!v)
  | _, _ => none
def maxI (a : Int) : Option Int → Int
  | some b => cond (decide (a ≤ b)) b a
  | none => a
def minI (a : Int) : Option Int → Int
  | some b => cond (decide (b ≤ a)) b a
  | none => a
def cutV (b : BE) (v : Bool) (r : Option (Lin × Option Int × Option Int)) : V → V
  | .w (.one (.bool e)) => .w (.one (.bool (cond (BE.beq e b) (.lit v) e)))
  | .w (.one (.int k x)) => match r with
    | some (l, lo, hi) => .w (.one (.int k (cond (Lin.beq x.l l) (cond (decide (maxI x.lo lo = minI x.hi hi)) (.const (maxI x.lo lo)) ⟨x.l, maxI x.lo lo, minI x.hi hi⟩) x)))
    | none => .w (.one (.int k x))
  | u => u
/-- Where a test's outcome is known. -/
def subB (b : BE) (v : Bool) (l : List V) : List V := l.map (cutV b v (bndB b v))
/-- Whether an operation with a guard comes up. -/
def guardE (ops : Array Oper) (tm : List V) (o : Oper) (yes no : List V → T) : T :=
  match o.guard with
  | none => yes tm
  | some (g, want) => match (ops[g]?).bind (·.dst) with
    | none => .stuck
    | some d => match tm[d]? with
      | some (.w (.one (.bool b))) => match b with
        | .lit v => cond (v == want) (yes tm) (no tm)
        | b => .br b (cond want (yes (subB b true tm)) (no (subB b true tm))) (cond want (no (subB b false tm)) (yes (subB b false tm)))
      | some (.tup []) => no tm
      | _ => .stuck

noncomputable def opsE (P : Program) (gl : Glo) (cal : Cal) (inl : Inl) (ops : Array Oper) : List Oper → Nat → List V → List Blk → SK → T
  | [], n, tm, bl, k => k n tm bl
  | o :: r, n, tm, bl, k => guardE ops tm o (fun tm => stepE P gl cal inl o n tm bl fun n' tm' bl' => opsE P gl cal inl ops r n' tm' bl' k) (fun tm => opsE P gl cal inl ops r n (putV tm o.dst (.tup [])) bl k)
def allT (g : Nat → T) : List Nat → T
  | [] => .stuck
  | [i] => g i
  | i :: r => .both (g i) (allT g r)
/-- A short region in whatever order. -/
noncomputable def anyE (P : Program) (gl : Glo) (cal : Cal) (inl : Inl) (ops : Array Oper) : Nat → Array Bool → Nat → List V → List Blk → SK → T
  | 0, listed, n, tm, bl, k => match Region.ready .any ops listed with
    | [] => k n tm bl
    | _ => .stuck
  | f + 1, listed, n, tm, bl, k => match Region.ready .any ops listed with
    | [] => k n tm bl
    | l => allT (fun i => match ops[i]? with
      | none => .stuck
      | some o => guardE ops tm o (fun tm => stepE P gl cal inl o n tm bl fun n' tm' bl' => anyE P gl cal inl ops f (listed.setIfInBounds i true) n' tm' bl' k) (fun tm => anyE P gl cal inl ops f (listed.setIfInBounds i true) n (putV tm o.dst (.tup [])) bl k)) l
noncomputable def headE (P : Program) (gl : Glo) (cal : Cal) (ops : Array Oper) : List Oper → Nat → List V → List Blk → (Nat → List V → T) → T
  | [], n, tm, bl, k => k n tm
  | o :: r, n, tm, bl, k => cond (alO o) (headE P gl cal ops r n tm bl k) (guardE ops tm o (fun tm => qop P cal gl bl tm o n fun v n' => headE P gl cal ops r n' (putV tm o.dst v) bl k) (fun tm => headE P gl cal ops r n (putV tm o.dst (.tup [])) bl k))
/-- The head's new variables. -/
def allocsE (P : Program) : List Oper → Nat → List V → List Blk → SK → T
  | [], n, tm, bl, k => k n tm bl
  | o :: r, n, tm, bl, k => cond (alO o) (match o.op with
      | .alloc t => match zeroL P t with
        | some cs => cond (isOrd cs) (allocsE P r n (putV tm o.dst (.w (.one (.ptr bl.length 0)))) (bl ++ [(cs, (t, false))]) k) .stuck
        | none => .stuck
      | _ => .stuck) (allocsE P r n tm bl k)
def zeroOk (P : Program) (l : List Oper) : Bool := l.all fun o => !alO o || (match o.op with | .alloc t => (zeroL P t).isSome | _ => false)
def headLen (cal : Cal) (ops : Array Oper) : List Tmp → List Oper → Nat
  | _, [] => 0
  | ds, o :: r => cond ((o.looksAt ops).any ds.contains) 0 <| cond (alO o) (headLen cal ops (match o.dst with | some d => d :: ds | none => ds) r + 1) <| cond (quietB cal o) (headLen cal ops ds r + 1) 0

def firstR : Code → Option Nat
  | .region id _ _ => some id
  | .seq a b => match firstR a with | some i => some i | none => firstR b
  | .block _ c | .loop c | .scope c => firstR c
  | .cond _ a b => match firstR a with | some i => some i | none => firstR b
  | _ => none

/-- Known values, the same. -/
def conBeq : Value → Value → Bool
  | .pointer none, .pointer none => true
  | .slice none 0 0, .slice none 0 0 => true
  | .func (.func f) a b, .func (.func f') a' b' => Nat.beq f f' && Nat.beq a.size 0 && Nat.beq b.size 0 && Nat.beq a'.size 0 && Nat.beq b'.size 0
  | _, _ => false
def A.beq : A → A → Bool
  | .int k x, .int k' y => decide (k = k') && Lin.beq x.l y.l && x.lo == y.lo && x.hi == y.hi
  | .bool a, .bool b => BE.beq a b
  | .con a, .con b => conBeq a b
  | .ptr b o, .ptr b' o' => Nat.beq b b' && Nat.beq o o'
  | .gptr b o, .gptr b' o' => Nat.beq b b' && Nat.beq o o'
  | .slc b o l c, .slc b' o' l' c' => Nat.beq b b' && Nat.beq o o' && Nat.beq l l' && Nat.beq c c'
  | .str a, .str b => Lin.beq a b
  | .rows sh o c q k, .rows sh' o' c' q' k' => shBeq sh sh' && Lin.beq o o' && Lin.beq c c' && Lin.beq q q' && Nat.beq k k'
  | .sl b z o r l c, .sl b' z' o' r' l' c' => Nat.beq b b' && Nat.beq z z' && Lin.beq o o' && Lin.beq r r' && Lin.beq l l' && Lin.beq c c'
  | .ep b z o i j, .ep b' z' o' i' j' => Nat.beq b b' && Nat.beq z z' && Lin.beq o o' && Lin.beq i i' && Nat.beq j j'
  | _, _ => false
def beqL : List A → List A → Bool
  | [], [] => true
  | a :: r, b :: s => A.beq a b && beqL r s
  | _, _ => false
def V.beq : V → V → Bool
  | .w (.one a), .w (.one b) => A.beq a b
  | .w (.agg l), .w (.agg l') => beqL l l'
  | .tup [], .tup [] => true
  | _, _ => false

/-- The slots at a loop's head: what stays, integers at new unknowns, all else unknown. -/
def findI (i : Nat) : List (Nat × Int × Int) → Option (Int × Int)
  | [] => none
  | (j, lo, hi) :: r => cond (Nat.beq i j) (some (lo, hi)) (findI i r)
noncomputable def hs (keep : List Nat) (ints : List (Nat × Int × Int)) : Nat → Nat → List V → Option (List V × List Lin × List (Int × Int))
  | _, _, [] => some ([], [], [])
  | i, s, v :: r => cond (keep.any (Nat.beq i)) (match hs keep ints (i + 1) s r with | some (t, l, b) => some (v :: t, l, b) | none => none)
      (match findI i ints with
      | some (lo, hi) => match v with
        | .w (.one (.int k x)) => cond (decide (lo ≤ x.lo) && decide (x.hi ≤ hi)) (match hs keep ints (i + 1) (s + 1) r with | some (t, l, b) => some (.w (.one (.int k ⟨.var s, lo, hi⟩)) :: t, x.l :: l, (lo, hi) :: b) | none => none) none
        | .w (.one (.str x)) => (match hs keep ints (i + 1) (s + 1) r with | some (t, l, b) => some (.w (.one (.str (.var s))) :: t, x :: l, (0, HB) :: b) | none => none)
        | _ => none
      | none => match hs keep ints (i + 1) s r with | some (t, l, b) => some (.any :: t, l, b) | none => none)
/-- A cell at a loop's head. -/
noncomputable def cellH (lo hi : Int) (s : Nat) : A → Option (A × Lin × (Int × Int))
  | .int k x => cond (decide (lo ≤ x.lo) && decide (x.hi ≤ hi)) (some (.int k ⟨.var s, lo, hi⟩, x.l, (lo, hi))) none
  | .str x => some (.str (.var s), x, (0, HB))
  | .rows sh off code cap k => some (.rows sh off (.var s) cap k, code, (0, RB))
  | _ => none
noncomputable def ha (ints : List (Nat × Int × Int)) : Nat → Nat → List A → Option (List A × List Lin × List (Int × Int))
  | _, _, [] => some ([], [], [])
  | i, s, v :: r => match findI i ints with
      | some (lo, hi) => match cellH lo hi s v with
        | some (a, x, bd) => match ha ints (i + 1) (s + 1) r with | some (t, l, b) => some (a :: t, x :: l, bd :: b) | none => none
        | none => none
      | none => match ha ints (i + 1) s r with | some (t, l, b) => some (v :: t, l, b) | none => none
def cellsOf (b : Nat) : List (Nat × Nat × Int × Int) → List (Nat × Int × Int)
  | [] => []
  | (b', c, q) :: r => cond (Nat.beq b b') ((c, q) :: cellsOf b r) (cellsOf b r)
noncomputable def hb (cells : List (Nat × Nat × Int × Int)) : Nat → Nat → List Blk → Option (List Blk × List Lin × List (Int × Int))
  | _, _, [] => some ([], [], [])
  | i, s, (cs, ty) :: r => match ha (cellsOf i cells) 0 s cs with
    | some (c, l, b) => match hb cells (i + 1) (s + l.length) r with
      | some (t, l', b') => some ((c, ty) :: t, l ++ l', b ++ b')
      | none => none
    | none => none
/-- Does the state at a round's end fit the head's? 'any' fits all. -/
def fitV : List V → List V → Bool
  | [], [] => true
  | .any :: r, _ :: s => fitV r s
  | v :: r, u :: s => V.beq v u && fitV r s
  | _, _ => false
def fitB : List Blk → List Blk → Bool
  | [], [] => true
  | (c, t) :: r, (c', t') :: s => beqL c c' && Nat.beq t.1 t'.1 && (t.2 == t'.2) && fitB r s
  | _, _ => false

/-- A loop by rounds: as long as its tests are decided. -/
def roundsE (body : Nat → List V → List Blk → EK → T) : Nat → Nat → List V → List Blk → EK → T
  | 0, _, _, _, _ => .stuck
  | r + 1, n, tm, bl, k => body n tm bl fun x n' tm' bl' => match x with
    | .normal => roundsE body r n' tm' bl' k
    | x => k x n' tm' bl'
/-- Slices that a loop makes grow: their numbers, and their blocks. -/
def accE (lo : Nat) : List (Nat × List CK × TypeId) → List V → List Blk → List Nat → Option (List Lin × List Nat)
  | [], _, _, used => some ([], used)
  | (s, sh, e) :: r, tm, bl, used => match tm[s]? with
    | some (.w (.one (.con (.slice none 0 0)))) => match accE lo r tm bl used with
      | some (l, u) => some (.const 0 :: .const 0 :: .const (-1) :: l, u)
      | none => none
    | some (.w (.one (.sl b sz o ro len cap))) => match bl[b]? with
      | some ([.rows sh' off code capb kind], t) => cond (shBeq sh sh' && Nat.beq kind 2 && Lin.beq o (.const 0) && Lin.beq off (.const 0) && Lin.beq ro (.const 0) && Lin.beq cap capb && Nat.beq t.1 e && Nat.beq sz sh.length && Nat.ble lo b && !(used.any (Nat.beq b)))
          (match accE lo r tm bl (b :: used) with
          | some (l, u) => some (code :: len :: cap :: l, u)
          | none => none) none
      | _ => none
    | _ => none
def killL : List Nat → List Blk → List Blk
  | [], bl => bl
  | b :: r, bl => match bl[b]? with
    | some ([.rows sh off code cap _], t) => killL r (setB bl b ([.rows sh off code cap 0], t))
    | _ => killL r bl
/-- Integers within what a loop says of them: by interval, or as is to be shown. -/
def fitM : List (Nat × Int × Int) → List V → M (List V)
  | [], tm => pure tm
  | (s, lo, hi) :: r, tm => match tm[s]? with
    | some (.w (.one (.int k x))) => cond (decide (lo ≤ x.lo) && decide (x.hi ≤ hi)) (fitM r tm) (bind (chkM 39 [x.l, .const lo, .const hi]) fun _ => fitM r (setV tm s (.w (.one (.int k ⟨x.l, lo, hi⟩)))))
    | _ => fitM r tm
def boolsM (tm : List V) : List Nat → M (List Lin)
  | [] => pure []
  | s :: r => match tm[s]? with
    | some (.w (.one (.bool e))) => bind (match e with | .lit v => pure (.const (cond v 1 0)) | e => indM e) fun l => bind (boolsM tm r) fun ls => pure (l :: ls)
    | _ => fail
def headB : List Nat → Nat → List V → List V
  | [], _, tm => tm
  | s :: r, v, tm => headB r (v + 1) (setV tm s (.w (.one (.bool (.eq (.var v) (.const 1))))))
def headA : List (Nat × List CK × TypeId) → Nat → List V → List Blk → List V × List Blk
  | [], _, tm, bl => (tm, bl)
  | (s, sh, e) :: r, v, tm, bl => headA r (v + 3) (setV tm s (.w (.one (.sl bl.length sh.length (.const 0) (.const 0) (.var (v + 1)) (.var (v + 2)))))) (bl ++ [([.rows sh (.const 0) (.var v) (.var (v + 2)) 2], (e, false))])
def boolBds (l : List Nat) : List (Int × Int) := l.map fun _ => (0, 1)
noncomputable def accBds (l : List (Nat × List CK × TypeId)) : List (Int × Int) := l.flatMap fun _ => [(0, RB), (0, 9223372036854775807), (-1, 9223372036854775807)]
/-- A loop by what holds at its head. -/
noncomputable def loopE (li : LoopI) (body : Nat → List V → List Blk → EK → T) (n : Nat) (tm : List V) (bl : List Blk) (k : EK) : T :=
  fitM li.ints tm n fun tm n => boolsM tm li.bools n fun lb n => match hs li.keep li.ints 0 (n + 1) tm, accE 0 li.accs tm bl [] with
  | some (tmH, l1, b1), some (la, us) => match hb li.cells 0 (n + 1 + l1.length) (killL us bl) with
    | none => .stuck
    | some (blH, l2, b2) => cond (!(fitV tmH tmH && fitB blH blH)) .stuck <| .loop n (l1 ++ l2 ++ (lb ++ la)) (n + 1) (b1 ++ b2 ++ (boolBds li.bools ++ accBds li.accs))
        (body (n + 1 + l1.length + l2.length + (lb ++ la).length) (headA li.accs (n + 1 + l1.length + l2.length + lb.length) (headB li.bools (n + 1 + l1.length + l2.length) tmH) blH).1 (headA li.accs (n + 1 + l1.length + l2.length + lb.length) (headB li.bools (n + 1 + l1.length + l2.length) tmH) blH).2 fun x n' tm' bl' => match x with
      | .normal => fitM li.ints tm' n' fun tm' n' => boolsM tm' li.bools n' fun lb' n' => match hs li.keep li.ints 0 (n + 1) tm', accE bl.length li.accs tm' bl' [] with
        | some (tmE, v1, _), some (la', _) => match hb li.cells 0 (n + 1 + v1.length) (bl'.take bl.length) with
          | none => .stuck
          | some (blE, v2, _) => cond (fitV tmH tmE && fitB blH blE) (.again n (v1 ++ v2 ++ (lb' ++ la'))) .stuck
        | _, _ => .stuck
      | x => k x n' tm' bl')
  | _, _ => .stuck

noncomputable def codeE (P : Program) (gl : Glo) (cal : Cal) (inl : Inl) (li : Nat → Option LoopI) (rounds : Nat) : Code → Nat → List V → List Blk → EK → T
  | .skip, n, tm, bl, k => k .normal n tm bl
  | .region _ ops draw, n, tm, bl, k => cond draw
      (let h := headLen cal ops [] ops.toList
       cond (tailB ops h && zeroOk P (ops.toList.take h)) (headE P gl cal ops (ops.toList.take h) n tm bl fun n' tm' => allocsE P (ops.toList.take h) n' tm' bl fun n' tm' bl' => opsE P gl cal inl ops (ops.toList.drop h) n' tm' bl' (k .normal)) (cond (Nat.ble ops.size 6) (anyE P gl cal inl ops ops.size (Array.replicate ops.size false) n tm bl (k .normal)) .stuck))
      (opsE P gl cal inl ops ops.toList n tm bl (k .normal))
  | .seq a b, n, tm, bl, k => codeE P gl cal inl li rounds a n tm bl fun x n' tm' bl' => match x with
      | .normal => codeE P gl cal inl li rounds b n' tm' bl' k
      | x => k x n' tm' bl'
  | .cond c a b, n, tm, bl, k => match opV tm c with
      | .w (.one (.bool e)) => match e with
        | .lit v => cond v (codeE P gl cal inl li rounds a n tm bl k) (codeE P gl cal inl li rounds b n tm bl k)
        | e => .br e (codeE P gl cal inl li rounds a n (subB e true tm) bl k) (codeE P gl cal inl li rounds b n (subB e false tm) bl k)
      | _ => .stuck
  | .block id c, n, tm, bl, k => codeE P gl cal inl li rounds c n tm bl fun x n' tm' bl' => match x with
      | .exit id' => cond (Nat.beq id' id) (k .normal n' tm' bl') (k (.exit id') n' tm' bl')
      | x => k x n' tm' bl'
  | .loop c, n, tm, bl, k => match (firstR c).bind li with
      | some l => loopE l (fun n tm bl k => codeE P gl cal inl li rounds c n tm bl k) n tm bl k
      | none => roundsE (fun n tm bl k => codeE P gl cal inl li rounds c n tm bl k) rounds n tm bl k
  | .exit id, n, tm, bl, k => k (.exit id) n tm bl
  | .ret, n, tm, bl, k => k .ret n tm bl
  | _, _, _, _, _ => .stuck

/-- A result. -/
def resW (P : Program) (gl : Glo) (bl : List Blk) (tm : List V) : ResultVar → Option W
  | .tmp t => match tm[t]? with | some (.w u) => some u | _ => none
  | .cell a t => match tm[a]? with
    | some (.w (.one p)) => match cellsAt bl gl p, isAggB P t, szB P t with
      | some cs, some true, some k => cond (Nat.ble k cs.length) (some (.agg (cs.take k))) none
      | some (x :: _), some false, _ => some (.one x)
      | _, _, _ => none
    | _ => none
def resL (P : Program) (gl : Glo) (bl : List Blk) (tm : List V) : List ResultVar → Option (List W)
  | [] => some []
  | r :: s => match resW P gl bl tm r, resL P gl bl tm s with | some u, some l => some (u :: l) | _, _ => none
def resE (P : Program) (gl : Glo) (fn : Func) (n : Nat) (tm : List V) (bl : List Blk) (k : RK) : T :=
  match resL P gl bl tm fn.results.toList with
  | some [u] => k n (.w u) bl
  | some l => k n (.tup l) bl
  | none => .stuck

def replV : Nat → List V
  | 0 => []
  | n + 1 => .tup [] :: replV n
/-- One level of a call of a function with a body. -/
noncomputable def bodyE (P : Program) (gl : Glo) (cal : Cal) (inl : Inl) (li : FuncId → Nat → Option LoopI) (rounds : Nat) : Inl :=
  fun f n vs bl k => match P.funcs[f]? with
    | none => .stuck
    | some fn => match fn.body with
      | none => .stuck
      | some c => cond (!(fn.name == "runtime.NumGoroutine") && Nat.ble vs.length fn.ntmps) (codeE P gl cal inl (li f) rounds c n (vs ++ replV (fn.ntmps - vs.length)) bl fun x n' tm' bl' => match x with
          | .exit _ => .stuck
          | _ => resE P gl fn n' tm' bl' k) .stuck
/-- A call of a function with a body. -/
noncomputable def callE (P : Program) (gl : Glo) (cal : Cal) (li : FuncId → Nat → Option LoopI) (rounds : Nat) : Nat → Inl
  | 0 => fun _ _ _ _ _ => .stuck
  | d + 1 => bodyE P gl cal (callE P gl cal li rounds d) li rounds
/-- The same where some calls are answered by what is known of them. -/
abbrev BC := FuncId → Option (Nat → List V → List Blk → RK → T)
noncomputable def orB (bc : BC) (inl : Inl) : Inl := fun f n vs bl k => match bc f with
  | some g => g n vs bl k
  | none => inl f n vs bl k
noncomputable def callB (bc : BC) (P : Program) (gl : Glo) (cal : Cal) (li : FuncId → Nat → Option LoopI) (rounds : Nat) : Nat → Inl
  | 0 => fun _ _ _ _ _ => .stuck
  | d + 1 => bodyE P gl cal (orB bc (callB bc P gl cal li rounds d)) li rounds
end Go.Rx
