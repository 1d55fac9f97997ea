/- The evaluator: operations, regions, code, calls. -/
import Derived.Test.YtkedgkbkibncgaaDoorPac
import Derived.Laws.CopyRow
import Derived.Deep.LoopGhost
import Derived.Laws.Append
import Derived.Deep.AppendSrc
import Derived.Deep.Upon

set_option linter.unusedVariables false
set_option linter.unusedSimpArgs false
namespace Go.Rx
open M

inductive X where
  | normal
  | exit (id : Nat)
  | ret
def X.to : X → Exit
  | normal => .normal
  | exit id => .exit id
  | ret => .ret
abbrev SK := Nat → List V → List Blk → T
abbrev EK := X → SK
abbrev RK := Nat → V → List Blk → T
abbrev Inl := FuncId → Nat → List V → List Blk → RK → T

/-- What a loop leaves of the state: slots that stay, integers in slots, integers in cells. -/
structure LoopI where
  keep : List Nat
  ints : List (Nat × Int × Int)
  cells : List (Nat × Nat × Int × Int)
  bools : List Nat := []
  accs : List (Nat × List CK × TypeId) := []
  rowz : List (Nat × List CK × Nat) := []
  rds : List (Nat × List CK) := []

def setB : List Blk → Nat → Blk → List Blk
  | [], _, _ => []
  | _ :: r, 0, b => b :: r
  | x :: r, i + 1, b => x :: setB r i b
theorem setB_eq : ∀ (l : List Blk) (i : Nat) (b : Blk), setB l i b = l.set i b
  | [], _, _ => rfl
  | _ :: _, 0, _ => rfl
  | _ :: r, i + 1, b => by simp [setB, setB_eq r i b]

def quietB (cal : Cal) (dyn : Bool) (o : Oper) : Bool :=
  match o.op with
  | .alloc _ | .box _ _ | .store _ _ _ | .buildSlice _ _ _ | .makeSlice _ _ _ => false
  | .call c => match c.callee with
    | .value (.func f) => (cal f).isSome
    | .value (.tmp _) => dyn
    | .builtin .append => false
    | .builtin .clear => false
    | .builtin .copy => false
    | _ => true
  | _ => true

/-- The cells of so many zeros. -/
def repL (z : List A) (len : Nat) : List A := (List.range (len * z.length)).map fun i => (z[i % z.length]?).getD (.con undef)
/-- A slice out of its parts. -/
def bsL (P : Program) (t : TypeId) (len : Nat) (parts : List (Nat × V)) : Option (List A × TypeId) :=
  match slcOf P t with
  | some e => match szB P e, zeroL P e with
    | some s, some z => cond (Nat.beq z.length s && Nat.blt 0 s && Nat.ble (len * s) 16777216) (match fillL (fun i => some (i * s, s)) (repL z len) parts with | some cs => some (cs, e) | none => none) none
    | _, _ => none
  | none => none
/-- The first cells of what lies there. -/
def headC (bl : List Blk) (b off k : Nat) : Option (List A) :=
  match bl[b]? with
  | some (cs, _) => cond (Nat.ble (off + k) cs.length && isOrd cs) (some ((cs.drop off).take k)) none
  | none => none
/-- A row that has grown: its room is just what is needed, or there is more. -/
def growE (i : TypeInfo) (e : TypeId) (z : List A) (d : Option Tmp) (sLen sCap len : Nat) (olds news : List A) (n : Nat) (tm : List V) (bl : List Blk) (k : SK) : T :=
  cond (Nat.ble (sLen + len) 1000000 && Nat.ble (Builtin.nextslicecap (sLen + len) sCap * i.bytes) 281474976710656 && Nat.blt sCap (sLen + len) && Nat.blt 0 len && Nat.beq z.length i.size && Nat.blt 0 i.size && isOrd (olds ++ news) && isOrd (olds ++ news ++ z))
    (.both (k n (putV tm d (.w (.one (.slc bl.length 0 (sLen + len) (sLen + len))))) (bl ++ [(olds ++ news, (e, false))]))
      (k n (putV tm d (.osl bl.length (sLen + len) (sLen + len + 1))) (bl ++ [(olds ++ news ++ z, (e, true))]))) .stuck
def isNilB : V → Bool
  | .w (.one (.con (.slice none 0 0))) => true
  | _ => false
def appE (P : Program) (d : Option Tmp) (t t' : TypeId) (s x : V) (n : Nat) (tm : List V) (bl : List Blk) (k : SK) : T :=
  match x, slcOf P t with
  | .w (.one (.slc b' off' len' _)), some e => match P.info? e, zeroL P e with
    | some i, some z => match headC bl b' off' (len' * i.size) with
      | some news => cond (!(Nat.beq t t')) .stuck <| cond (isNilB s) (growE i e z d 0 0 len' [] news n tm bl k) <| match s with
        | .w (.one (.slc b off len cap)) => match headC bl b off (len * i.size) with
          | some olds => growE i e z d len cap len' olds news n tm bl k
          | none => .stuck
        | .osl b len lo => match bl[b]? with
          | some (cs, ty) => cond (Nat.ble (len + len') lo && Nat.ble ((len + len') * i.size) cs.length && Nat.blt 0 (len' * i.size) && isOrd cs && isOrd (cs.take (len * i.size) ++ news ++ cs.drop (len * i.size + news.length))) (k n (putV tm d (.osl b (len + len') lo)) (setB bl b (cs.take (len * i.size) ++ news ++ cs.drop (len * i.size + news.length), ty))) .stuck
          | none => .stuck
        | _ => .stuck
      | none => .stuck
    | _, _ => .stuck
  | _, _ => .stuck

/-! ### Rows that grow -/
def shOk (sh : List CK) : Bool := Nat.ble sh.length 100 && Nat.blt 0 sh.length && sh.all fun c => match c with
  | .int _ lo hi => decide (-18446744073709551616 ≤ lo) && decide (hi ≤ 18446744073709551616)
  | _ => true
def indM (e : BE) : M Lin := fun n k => .ind n e (k (.var n) (n + 1))
def cellLinM (c : CK) (a : A) : M Lin :=
  match c, a with
  | .int k lo hi, .int k' x => cond (decide (k = k') && decide (lo ≤ x.lo) && decide (x.hi ≤ hi)) (pure x.l) fail
  | .str, .str l => pure l
  | .bool, .bool e => match e with
    | .lit v => pure (.const (cond v 1 0))
    | e => indM e
  | _, _ => fail
def rowLinM : List CK → List A → M (List Lin)
  | [], [] => pure []
  | c :: sh, a :: r => bind (cellLinM c a) fun l => bind (rowLinM sh r) fun ls => pure (l :: ls)
  | _, _ => fail
noncomputable def appRowsM (sh : List CK) : List (List A) → Lin → M Lin
  | [], c => pure c
  | row :: rs, c => bind (rowLinM sh row) fun ls => bind (fnM 23 (c :: ls) 0 RB) fun c' => appRowsM sh rs c'
def chunkA (w : Nat) : Nat → List A → List (List A)
  | 0, _ => []
  | k + 1, l => l.take w :: chunkA w k (l.drop w)
/-- What is appended, behind what was there: the rows' number, and how many more. -/
noncomputable def srcM (P : Program) (tx : TypeId) (sh : List CK) (bl : List Blk) (x : V) (base : Lin) : M (Lin × Lin) :=
  match x with
  | .w (.one (.slc b off len _)) => match headC bl b off (len * sh.length), slcOf P tx with
    | some cs, some _ => bind (chkM 23 [base, .const len]) fun _ => bind (appRowsM sh (chunkA sh.length len cs) base) fun c => pure (c, .const len)
    | _, _ => fail
  | .w (.one (.sl b sz o ro len _)) => match bl[b]?, slcOf P tx with
    | some ([.rows sh' off code capb kind], _), some _ => cond (Nat.blt 0 kind && shBeq sh sh' && Lin.beq o off && Nat.beq sz sh.length) (bind (chkM 22 [code, ro, ro.add len]) fun _ => bind (chkM 23 [base, len]) fun _ => bind (fnM 22 [code, ro, ro.add len] 0 RB) fun s => bind (fnM 24 [base, s] 0 RB) fun c => pure (c, len)) fail
    | _, _ => fail
  | .w (.one (.str l)) => match P.underlying tx with
    | some .string => cond (byteSh sh) (bind (fnM 0 [l] 0 9223372036854775807) fun len => bind (chkM 23 [base, len]) fun _ => bind (fnM 27 [l] 0 RB) fun s => bind (fnM 24 [base, s] 0 RB) fun c => pure (c, len)) fail
    | _ => fail
  | .w (.one (.con (.slice none 0 0))) => match slcOf P tx with
    | some _ => bind (chkM 23 [base, .const 0]) fun _ => pure (base, .const 0)
    | none => fail
  | _ => fail
def shOfV (bl : List Blk) : V → Option (List CK)
  | .w (.one (.sl b _ _ _ _ _)) => match bl[b]? with
    | some ([.rows sh _ _ _ _], _) => some sh
    | _ => none
  | _ => none
def shOfZ : List A → Option (List CK)
  | [] => some []
  | .int k _ :: r => (shOfZ r).map (.int k k.min k.max :: ·)
  | .str _ :: r => (shOfZ r).map (.str :: ·)
  | .bool _ :: r => (shOfZ r).map (.bool :: ·)
  | _ => none
/-- The shape of what is appended: told by its block, or by the zero value where both are written out. -/
def shOfV2 (bl : List Blk) (s x : V) (z : List A) : Option (List CK) := match shOfV bl x with
  | some sh => some sh
  | none => match s, x with
    | .w (.one (.slc ..)), .w (.one (.slc ..)) => shOfZ z
    | _, _ => none
/-- Nothing in it, and no room. -/
def zcap : V → Bool
  | .w (.one (.sl _ _ _ _ len cap)) => match len.isC, cap.isC with | some l, some c => decide (l = 0) && decide (c = 0) | _, _ => false
  | .w (.one (.slc _ _ len cap)) => Nat.beq len 0 && Nat.beq cap 0
  | .w (.one (.con (.slice none 0 0))) => true
  | _ => false
noncomputable def growK (kd : Nat) (e : TypeId) (d : Option Tmp) (sh : List CK) (code len : Lin) (n : Nat) (tm : List V) (bl : List Blk) (k : SK) : T :=
  .unk n (-1) 9223372036854775807 (k (n + 1) (putV tm d (.w (.one (.sl bl.length sh.length (.const 0) (.const 0) len (.var n))))) (bl ++ [([.rows sh (.const 0) code (.var n) kd], (e, false))]))
noncomputable def growR (e : TypeId) (d : Option Tmp) (sh : List CK) (code len : Lin) (n : Nat) (tm : List V) (bl : List Blk) (k : SK) : T :=
  .unk n (-1) 9223372036854775807 (k (n + 1) (putV tm d (.w (.one (.sl bl.length sh.length (.const 0) (.const 0) len (.var n))))) (bl ++ [([.rows sh (.const 0) code (.var n) 2], (e, false))]))
noncomputable def freshR (P : Program) (tx e : TypeId) (d : Option Tmp) (sh : List CK) (s x : V) (n : Nat) (tm : List V) (bl : List Blk) (k : SK) : T :=
  srcM P tx sh bl x (.const 0) n fun p n' => match p.2.isC with
    | some 0 => k n' (putV tm d s) bl
    | some _ => growR e d sh p.1 p.2 n' tm bl k
    | none => .br (.le p.2 (.const 0)) (k n' (putV tm d s) bl) (growR e d sh p.1 p.2 n' tm bl k)
def goodR (sh : List CK) (i : TypeInfo) (z : List A) : Bool := shOk sh && Nat.beq i.size sh.length && Nat.beq z.length sh.length && Nat.ble i.bytes 131072
noncomputable def appR (P : Program) (d : Option Tmp) (t t' : TypeId) (s x : V) (n : Nat) (tm : List V) (bl : List Blk) (k : SK) : Option T :=
  match slcOf P t with
  | none => none
  | some e => match P.info? e, zeroL P e with
    | some i, some z => match zcap s with
      | true => match shOfV2 bl s x z with
        | some sh => cond (goodR sh i z) (some (freshR P t' e d sh s x n tm bl k)) none
        | none => none
      | false => match s with
        | .w (.one (.sl b _ o ro len cap)) => match bl[b]? with
          | some ([.rows sh off code capb kind], bt) => cond (goodR sh i z && Nat.beq kind 2 && Lin.beq o (.const 0) && Lin.beq off (.const 0) && Lin.beq ro (.const 0) && Lin.beq cap capb && Nat.beq bt.1 e)
              (some (.chk 31 [code, len] (srcM P t' sh bl x code n fun p n' => growR e d sh p.1 (len.add p.2) n' tm (setB bl b ([.rows sh off code capb 0], bt)) k))) none
          | _ => none
        | _ => none
    | _, _ => none
/-- Operations on rows that change memory. -/
noncomputable def stepR (P : Program) (o : Oper) (n : Nat) (tm : List V) (bl : List Blk) (k : SK) : Option T :=
  match o.op with
  | .call c => match c.callee with
    | .builtin .append => match c.args.toList, c.argTypes.toList with
      | [s, x], [t, t'] => appR P o.dst t t' (opV tm s) (opV tm x) n tm bl k
      | _, _ => none
    | _ => none
  | _ => none
def byteShape : List CK := [.int .u8 0 255]
/-- internal/bytealg.MakeNoZero? -/
def isMnz (fn : Func) : Bool := fn.name == "internal/bytealg.MakeNoZero" && fn.body.isNone && fn.origin == ""
/-- Stores into rows, and bytes out of a text. -/
noncomputable def stepW (P : Program) (o : Oper) (n : Nat) (tm : List V) (bl : List Blk) (k : SK) : Option T :=
  match o.op with
  | .store t p x => match opV tm p, opV tm x with
    | .w (.one (.ep b sz o' i j)), .w u => match bl[b]?, szB P t with
      | some ([.rows sh off code cap kind], bt), some s => cond (Nat.ble 2 kind && Nat.beq sz sh.length && Lin.beq o' off && Nat.beq u.cells.length s && Nat.blt 0 s && Nat.ble (j + s) sh.length && shOk sh)
          (some (chkM 21 [code, i] n fun _ n => asmM 67 [code, i, .const sh.length] n fun _ n => rowLinM ((sh.drop j).take s) u.cells n fun ls n => fnM 42 (code :: i :: .const j :: ls) 0 RB n fun code' n => k n (putV tm o.dst (.tup [])) (setB bl b ([.rows sh off code' cap kind], bt)))) none
      | _, _ => none
    | _, _ => none
  | .convert s d x => match opV tm x with
    | .w (.one (.str l)) => match P.underlying s, slcOf P d with
      | some .string, some e => match P.underlying e with
        | some (.int .u8) => some (fnM 27 [l] 0 RB n fun code n => fnM 0 [l] 0 9223372036854775807 n fun len n => growK 3 e o.dst byteShape code len n tm bl k)
        | _ => none
      | _, _ => none
    | .w (.one (.slc b 0 len cap)) => match bl[b]?, slcOf P d with
      | some (C, t), some e => match P.underlying e with
        | some (.int .u8) => cond (Nat.beq s d && isOrd C && !t.2 && Nat.beq C.length len && Nat.beq cap len && Nat.ble len 1000000)
          (some (appRowsM byteShape (chunkA 1 len C) (.const 0) n fun code n => k n (putV tm o.dst (.w (.one (.sl b 1 (.const 0) (.const 0) (.const len) (.const len))))) (setB bl b ([.rows byteShape (.const 0) code (.const len) 3], t)))) none
        | _ => none
      | _, _ => none
    | _ => none
  | .makeSlice t x y => match slcOf P t, intL (opV tm x), intL (opV tm y) with
    | some e, some lx, some ly => match P.info? e with
      | some i => match i.zero with
        | some (.int .u8 z) => cond (Nat.beq i.size 1 && Nat.ble i.bytes 1024 && decide (z = 0)) (some (.chk 49 [lx, ly] (fnM 26 [lx, .const 0] 0 RB n fun code n => growK 2 e o.dst byteShape code lx n tm bl k))) none
        | _ => none
      | none => none
    | _, _, _ => none
  | .call c => match c.callee with
    | .value (.func f) => match P.funcs[f]?, c.args.toList with
      | some fn, [x] => match opV tm x, fn.resultTypes.toList with
        | .w (.one (.int .i64 y)), [t] => match slcOf P t with
          | some e => match P.underlying e with
            | some (.int .u8) => cond (isMnz fn) (some (.chk 26 [y.l] (.unk n 0 RB (.asm 31 [.var n, y.l] (.unk (n + 1) 0 9223372036854775807 (.asm 79 [y.l, .var (n + 1)]
                (k (n + 2) (putV tm o.dst (.w (.one (.sl bl.length 1 (.const 0) (.const 0) y.l (.var (n + 1)))))) (bl ++ [([.rows byteShape (.const 0) (.var n) (.var (n + 1)) 2], (e, false))]))))))))
              none
            | _ => none
          | none => none
        | _, _ => none
      | _, _ => none
    | _ => none
  | _ => none
/-- clear, and copy, on rows. -/
noncomputable def stepX (P : Program) (o : Oper) (n : Nat) (tm : List V) (bl : List Blk) (k : SK) : Option T :=
  match o.op with
  | .call c => match c.callee with
    | .builtin .clear => match c.args.toList, c.argTypes.toList with
      | [x], [t] => match opV tm x, slcOf P t with
        | .w (.one (.sl b sz o' ro len cap)), some e => match bl[b]?, zeroL P e with
          | some ([.rows sh off code capb kind], bt), some z => cond (Nat.ble 2 kind && Lin.beq o' off && Nat.beq sz sh.length && shOk sh && Nat.beq z.length sh.length)
              (some (chkM 65 [code, ro, len] n fun _ n => rowLinM sh z n fun ls n => fnM 61 (code :: ro :: len :: ls) 0 RB n fun code' n => k n (putV tm o.dst (.tup [])) (setB bl b ([.rows sh off code' capb kind], bt)))) none
          | _, _ => none
        | _, _ => none
      | _, _ => none
    | .builtin .copy => match c.args.toList, c.argTypes.toList with
      | [x, y], [t, t'] => match opV tm x, opV tm y, slcOf P t with
        | .w (.one (.sl b sz o' ro len cap)), .w (.one (.sl b2 sz2 o2 ro2 len2 cap2)), some e => match bl[b]?, bl[b2]?, szB P e with
          | some ([.rows sh off code capb kind], bt), some ([.rows sh2 off2 code2 capb2 kind2], _), some s => cond (Nat.ble 2 kind && Nat.blt 0 kind2 && Lin.beq o' off && Lin.beq o2 off2 && shBeq sh sh2 && Nat.beq sz sh.length && Nat.beq sz2 sh.length && Nat.beq s sh.length && shOk sh)
              (some (chkM 80 [code, ro, len] n fun _ n => chkM 22 [code2, ro2, ro2.add len2] n fun _ n => fnM 62 [len2, len] 0 9223372036854775807 n fun q n => fnM 22 [code2, ro2, ro2.add q] 0 RB n fun src n => fnM 63 [code, ro, src] 0 RB n fun code' n => k n (putV tm o.dst (.w (.one (.int .i64 ⟨q, 0, 9223372036854775807⟩)))) (setB bl b ([.rows sh off code' capb kind], bt)))) none
          | _, _, _ => none
        | .w (.one (.sl ..)), .w (.one (.con (.slice none 0 0))), some e => match szB P e with
          | some _ => some (k n (putV tm o.dst (.w (.one (.int .i64 ⟨.const 0, 0, 0⟩)))) bl)
          | none => none
        | _, _, _ => none
      | _, _ => none
    | _ => none
  | _ => none
/-- A function value that is known: whose, and what it has captured. -/
def cloOf : V → Option (Nat × List A)
  | .clo f caps => some (f, caps)
  | .w (.one (.con (.func (.func f) a b))) => cond (Nat.beq a.size 0 && Nat.beq b.size 0) (some (f, [])) none
  | _ => none
/-- One operation. -/
noncomputable def stepE0 (P : Program) (gl : Glo) (cal : Cal) (inl : Inl) (o : Oper) (n : Nat) (tm : List V) (bl : List Blk) (k : SK) : T :=
  match o.op with
  | .alloc t => match zeroL P t with
    | some cs => cond (isOrd cs) (k n (putV tm o.dst (.w (.one (.ptr bl.length 0)))) (bl ++ [(cs, (t, false))])) .stuck
    | none => .stuck
  | .box t x => match opV tm x with
    | .w u => cond (isOrd u.cells) (k n (putV tm o.dst (.w (.one (.ptr bl.length 0)))) (bl ++ [(u.cells, (t, false))])) .stuck
    | _ => .stuck
  | .buildSlice t len parts => match bsL P t len (parts.toList.map fun p => (p.1, opV tm p.2)) with
    | some (cs, e) => cond (isOrd cs) (k n (putV tm o.dst (.w (.one (.slc bl.length 0 len len)))) (bl ++ [(cs, (e, false))])) .stuck
    | none => .stuck
  | .store t p x => match opV tm p, opV tm x with
    | .w (.one (.ptr b off)), .w u => match bl[b]?, szB P t with
      | some (cs, bt), some s => cond (Nat.beq u.cells.length s && Nat.ble (off + s) cs.length && Nat.blt 0 s && isOrd cs && isOrd (cs.take off ++ u.cells ++ cs.drop (off + s))) (k n (putV tm o.dst (.tup [])) (setB bl b (cs.take off ++ u.cells ++ cs.drop (off + s), bt))) .stuck
      | _, _ => .stuck
    | _, _ => .stuck
  | .call c => match c.callee with
    | .value (.func f) => match cal f with
      | some _ => qop P cal gl bl tm o n fun v n' => k n' (putV tm o.dst v) bl
      | none => inl f n (c.args.toList.map (opV tm)) bl fun n' v bl' => k n' (putV tm o.dst v) bl'
    | .value (.tmp x) => match dynQ cal bl tm o with
      | some _ => qop P cal gl bl tm o n fun v n' => k n' (putV tm o.dst v) bl
      | none => match cloOf (opV tm (.tmp x)) with
      | some (f, caps) => inl f n (c.args.toList.map (opV tm) ++ caps.map fun y => V.w (.one y)) bl fun n' v bl' => k n' (putV tm o.dst v) bl'
      | none => .stuck
    | .builtin .append => match c.args.toList, c.argTypes.toList with
      | [s, x], [t, t'] => appE P o.dst t t' (opV tm s) (opV tm x) n tm bl k
      | _, _ => .stuck
    | _ => qop P cal gl bl tm o n fun v n' => k n' (putV tm o.dst v) bl
  | _ => qop P cal gl bl tm o n fun v n' => k n' (putV tm o.dst v) bl

noncomputable def stepE (P : Program) (gl : Glo) (cal : Cal) (inl : Inl) (o : Oper) (n : Nat) (tm : List V) (bl : List Blk) (k : SK) : T :=
  match stepR P o n tm bl k with
  | some t => t
  | none => match stepW P o n tm bl k with
    | some t => t
    | none => match stepX P o n tm bl k with
      | some t => t
      | none => stepE0 P gl cal inl o n tm bl k

/-- What a test's outcome says of a form. -/
def bndB : BE → Bool → Option (Lin × Option Int × Option Int)
  | .le p q, true => match p.isC, q.isC with | some c, none => some (q, some c, none) | none, some c => some (p, none, some c) | _, _ => none
  | .le p q, false => match p.isC, q.isC with | some c, none => some (q, none, some (c - 1)) | none, some c => some (p, some (c + 1), none) | _, _ => none
  | .lt p q, true => match p.isC, q.isC with | some c, none => some (q, some (c + 1), none) | none, some c => some (p, none, some (c - 1)) | _, _ => none
  | .lt p q, false => match p.isC, q.isC with | some c, none => some (q, none, some c) | none, some c => some (p, some c, none) | _, _ => none
  | .not b, v => bndB b (!v)
  | _, _ => none
def maxI (a : Int) : Option Int → Int
  | some b => cond (decide (a ≤ b)) b a
  | none => a
def minI (a : Int) : Option Int → Int
  | some b => cond (decide (b ≤ a)) b a
  | none => a
def cutV (b : BE) (v : Bool) (r : Option (Lin × Option Int × Option Int)) : V → V
  | .w (.one (.bool e)) => .w (.one (.bool (cond (BE.beq e b) (.lit v) e)))
  | .w (.one (.int k x)) => match r with
    | some (l, lo, hi) => .w (.one (.int k (cond (Lin.beq x.l l) (cond (decide (maxI x.lo lo = minI x.hi hi)) (.const (maxI x.lo lo)) ⟨x.l, maxI x.lo lo, minI x.hi hi⟩) x)))
    | none => .w (.one (.int k x))
  | u => u
/-- Where a test's outcome is known. -/
def subB (b : BE) (v : Bool) (l : List V) : List V := l.map (cutV b v (bndB b v))
/-- Whether an operation with a guard comes up. -/
def guardE (ops : Array Oper) (tm : List V) (o : Oper) (yes no : List V → T) : T :=
  match o.guard with
  | none => yes tm
  | some (g, want) => match (ops[g]?).bind (·.dst) with
    | none => .stuck
    | some d => match tm[d]? with
      | some (.w (.one (.bool b))) => match b with
        | .lit v => cond (v == want) (yes tm) (no tm)
        | b => .br b (cond want (yes (subB b true tm)) (no (subB b true tm))) (cond want (no (subB b false tm)) (yes (subB b false tm)))
      | some (.tup []) => no tm
      | _ => .stuck

noncomputable def opsE (P : Program) (gl : Glo) (cal : Cal) (inl : Inl) (ops : Array Oper) : List Oper → Nat → List V → List Blk → SK → T
  | [], n, tm, bl, k => k n tm bl
  | o :: r, n, tm, bl, k => guardE ops tm o (fun tm => stepE P gl cal inl o n tm bl fun n' tm' bl' => opsE P gl cal inl ops r n' tm' bl' k) (fun tm => opsE P gl cal inl ops r n (putV tm o.dst (.tup [])) bl k)
def allT (g : Nat → T) : List Nat → T
  | [] => .stuck
  | [i] => g i
  | i :: r => .both (g i) (allT g r)
noncomputable def headE (P : Program) (gl : Glo) (cal : Cal) (ops : Array Oper) : List Oper → Nat → List V → List Blk → (Nat → List V → T) → T
  | [], n, tm, bl, k => k n tm
  | o :: r, n, tm, bl, k => cond (alO o) (headE P gl cal ops r n tm bl k) (guardE ops tm o (fun tm => qop P cal gl bl tm o n fun v n' => headE P gl cal ops r n' (putV tm o.dst v) bl k) (fun tm => headE P gl cal ops r n (putV tm o.dst (.tup [])) bl k))
/-- The head's new variables. -/
def allocsE (P : Program) : List Oper → Nat → List V → List Blk → SK → T
  | [], n, tm, bl, k => k n tm bl
  | o :: r, n, tm, bl, k => cond (alO o) (match o.op with
      | .alloc t => match zeroL P t with
        | some cs => cond (isOrd cs) (allocsE P r n (putV tm o.dst (.w (.one (.ptr bl.length 0)))) (bl ++ [(cs, (t, false))]) k) .stuck
        | none => .stuck
      | _ => .stuck) (allocsE P r n tm bl k)
def zeroOk (P : Program) (l : List Oper) : Bool := l.all fun o => !alO o || (match o.op with | .alloc t => (zeroL P t).isSome | _ => false)
def headLen (cal : Cal) (dyn : Bool) (ops : Array Oper) : List Tmp → List Oper → Nat
  | _, [] => 0
  | ds, o :: r => cond ((o.looksAt ops).any ds.contains) 0 <| cond (alO o) (headLen cal dyn ops (match o.dst with | some d => d :: ds | none => ds) r + 1) <| cond (quietB cal dyn o) (headLen cal dyn ops ds r + 1) 0
/-- How far a region's head goes: without calls of what lies in slots, else with them. -/
def headN (P : Program) (cal : Cal) (ops : Array Oper) : Nat :=
  cond (tailB ops (headLen cal false ops [] ops.toList) && zeroOk P (ops.toList.take (headLen cal false ops [] ops.toList))) (headLen cal false ops [] ops.toList) (headLen cal true ops [] ops.toList)

def firstR : Code → Option Nat
  | .region id _ _ => some id
  | .seq a b => match firstR a with | some i => some i | none => firstR b
  | .block _ c | .loop c | .scope c => firstR c
  | .cond _ a b => match firstR a with | some i => some i | none => firstR b
  | _ => none

/-- Known values, the same. -/
def conBeq : Value → Value → Bool
  | .pointer none, .pointer none => true
  | .slice none 0 0, .slice none 0 0 => true
  | .func (.func f) a b, .func (.func f') a' b' => Nat.beq f f' && Nat.beq a.size 0 && Nat.beq b.size 0 && Nat.beq a'.size 0 && Nat.beq b'.size 0
  | _, _ => false
def A.beq : A → A → Bool
  | .int k x, .int k' y => decide (k = k') && Lin.beq x.l y.l && x.lo == y.lo && x.hi == y.hi
  | .bool a, .bool b => BE.beq a b
  | .con a, .con b => conBeq a b
  | .ptr b o, .ptr b' o' => Nat.beq b b' && Nat.beq o o'
  | .gptr b o, .gptr b' o' => Nat.beq b b' && Nat.beq o o'
  | .slc b o l c, .slc b' o' l' c' => Nat.beq b b' && Nat.beq o o' && Nat.beq l l' && Nat.beq c c'
  | .str a, .str b => Lin.beq a b
  | .rows sh o c q k, .rows sh' o' c' q' k' => shBeq sh sh' && Lin.beq o o' && Lin.beq c c' && Lin.beq q q' && Nat.beq k k'
  | .sl b z o r l c, .sl b' z' o' r' l' c' => Nat.beq b b' && Nat.beq z z' && Lin.beq o o' && Lin.beq r r' && Lin.beq l l' && Lin.beq c c'
  | .ep b z o i j, .ep b' z' o' i' j' => Nat.beq b b' && Nat.beq z z' && Lin.beq o o' && Lin.beq i i' && Nat.beq j j'
  | _, _ => false
def beqL : List A → List A → Bool
  | [], [] => true
  | a :: r, b :: s => A.beq a b && beqL r s
  | _, _ => false
def V.beq : V → V → Bool
  | .w (.one a), .w (.one b) => A.beq a b
  | .w (.agg l), .w (.agg l') => beqL l l'
  | .tup [], .tup [] => true
  | .clo f l, .clo f' l' => Nat.beq f f' && beqL l l'
  | _, _ => false

/-- The slots at a loop's head: what stays, integers at new unknowns, all else unknown. -/
def findI (i : Nat) : List (Nat × Int × Int) → Option (Int × Int)
  | [] => none
  | (j, lo, hi) :: r => cond (Nat.beq i j) (some (lo, hi)) (findI i r)
noncomputable def hs (keep : List Nat) (ints : List (Nat × Int × Int)) : Nat → Nat → List V → Option (List V × List Lin × List (Int × Int))
  | _, _, [] => some ([], [], [])
  | i, s, v :: r => cond (keep.any (Nat.beq i)) (match hs keep ints (i + 1) s r with | some (t, l, b) => some (v :: t, l, b) | none => none)
      (match findI i ints with
      | some (lo, hi) => match v with
        | .w (.one (.int k x)) => cond (decide (lo ≤ x.lo) && decide (x.hi ≤ hi)) (match hs keep ints (i + 1) (s + 1) r with | some (t, l, b) => some (.w (.one (.int k ⟨.var s, lo, hi⟩)) :: t, x.l :: l, (lo, hi) :: b) | none => none) none
        | .w (.one (.str x)) => (match hs keep ints (i + 1) (s + 1) r with | some (t, l, b) => some (.w (.one (.str (.var s))) :: t, x :: l, (0, HB) :: b) | none => none)
        | _ => none
      | none => match hs keep ints (i + 1) s r with | some (t, l, b) => some (.any :: t, l, b) | none => none)
/-- A cell at a loop's head. -/
noncomputable def cellH (lo hi : Int) (s : Nat) : A → Option (A × Lin × (Int × Int))
  | .int k x => cond (decide (lo ≤ x.lo) && decide (x.hi ≤ hi)) (some (.int k ⟨.var s, lo, hi⟩, x.l, (lo, hi))) none
  | .str x => some (.str (.var s), x, (0, HB))
  | .rows sh off code cap k => some (.rows sh off (.var s) cap k, code, (0, RB))
  | _ => none
noncomputable def ha (ints : List (Nat × Int × Int)) : Nat → Nat → List A → Option (List A × List Lin × List (Int × Int))
  | _, _, [] => some ([], [], [])
  | i, s, v :: r => match findI i ints with
      | some (lo, hi) => match cellH lo hi s v with
        | some (a, x, bd) => match ha ints (i + 1) (s + 1) r with | some (t, l, b) => some (a :: t, x :: l, bd :: b) | none => none
        | none => none
      | none => match ha ints (i + 1) s r with | some (t, l, b) => some (v :: t, l, b) | none => none
def cellsOf (b : Nat) : List (Nat × Nat × Int × Int) → List (Nat × Int × Int)
  | [] => []
  | (b', c, q) :: r => cond (Nat.beq b b') ((c, q) :: cellsOf b r) (cellsOf b r)
noncomputable def hb (cells : List (Nat × Nat × Int × Int)) : Nat → Nat → List Blk → Option (List Blk × List Lin × List (Int × Int))
  | _, _, [] => some ([], [], [])
  | i, s, (cs, ty) :: r => match ha (cellsOf i cells) 0 s cs with
    | some (c, l, b) => match hb cells (i + 1) (s + l.length) r with
      | some (t, l', b') => some ((c, ty) :: t, l ++ l', b ++ b')
      | none => none
    | none => none
/-- Does the state at a round's end fit the head's? 'any' fits all. -/
def fitV : List V → List V → Bool
  | [], [] => true
  | .any :: r, _ :: s => fitV r s
  | v :: r, u :: s => V.beq v u && fitV r s
  | _, _ => false
def fitB : List Blk → List Blk → Bool
  | [], [] => true
  | (c, t) :: r, (c', t') :: s => beqL c c' && Nat.beq t.1 t'.1 && (t.2 == t'.2) && fitB r s
  | _, _ => false

/-- Of so many blocks only the ordinary ones. -/
def deadB : Blk := ([.rows [] (.const 0) (.const 0) (.const 0) 0], (0, false))
def frO (N : Nat) : Nat → List Blk → List Blk
  | _, [] => []
  | i, p :: r => cond (Nat.blt i N && isOrd p.1) p deadB :: frO N (i + 1) r
/-- What reads ordinary blocks, or none. -/
def heldO (N : Nat) (tm : List V) (bl : List Blk) (o : Oper) : Bool := match o.op with
  | .move _ | .assign _ | .extract _ _ | .fieldAddr .. => true
  | .load _ p => match opV tm p with
    | .w (.one (.ptr b _)) => Nat.blt b N && (match bl[b]? with | some p => isOrd p.1 | none => false)
    | _ => false
  | .slice _ x _ _ _ => match opV tm x with | .w (.one (.sl ..)) => true | _ => false
  | _ => false
def isStO (o : Oper) : Bool := match o.op with | .store .. => true | _ => false
/-- What may come up and reads nothing that the region writes, and is in nobody's way. -/
def held1 (N : Nat) (tm : List V) (bl : List Blk) (ops : Array Oper) (listed : Array Bool) : Option Nat :=
  cond (Region.noSelect ops) ((Region.ready .any ops listed).find? fun i => (match ops[i]? with | some o => heldO N tm bl o | none => false) && Region.free .any ops listed i) none
/-- What is left out, as its guard is decided. -/
def offO (ops : Array Oper) (tm : List V) (o : Oper) : Bool := match o.guard with
  | some (g, want) => match (ops[g]?).bind (·.dst) with
    | some d => match tm[d]? with
      | some (.w (.one (.bool (.lit v)))) => !(v == want)
      | some (.tup []) => true
      | _ => false
    | none => false
  | none => false
def off1 (tm : List V) (ops : Array Oper) (listed : Array Bool) : Option Nat :=
  cond (Region.noSelect ops) ((Region.ready .any ops listed).find? fun i => (match ops[i]? with | some o => offO ops tm o | none => false) && Region.free .any ops listed i) none
def preB : List Blk → List Blk → Bool
  | (c, t) :: r, (c', t') :: s => beqL c c' && Nat.beq t.1 t'.1 && (t.2 == t'.2) && preB r s
  | [], _ => true
  | _, _ => false
/-- A short region in whatever order. -/
noncomputable def anyE (P : Program) (gl : Glo) (cal : Cal) (inl : Inl) (ops : Array Oper) (N : Nat) (blF : List Blk) : Nat → Array Bool → Nat → List V → List Blk → SK → T
  | 0, listed, n, tm, bl, k => match Region.ready .any ops listed with
    | [] => k n tm bl
    | _ => .stuck
  | f + 1, listed, n, tm, bl, k => match Region.ready .any ops listed with
    | [] => k n tm bl
    | l => match held1 N tm bl ops listed with
     | some i => match ops[i]? with
       | none => .stuck
       | some o => guardE ops tm o (fun tm => qop P cal gl (frO N 0 bl) tm o n fun v n' => anyE P gl cal inl ops N blF f (listed.setIfInBounds i true) n' (putV tm o.dst v) bl k) (fun tm => anyE P gl cal inl ops N blF f (listed.setIfInBounds i true) n (putV tm o.dst (.tup [])) bl k)
     | none => match off1 tm ops listed with
      | some i => match ops[i]? with
        | none => .stuck
        | some o => guardE ops tm o (fun _ => .stuck) (fun tm => anyE P gl cal inl ops N blF f (listed.setIfInBounds i true) n (putV tm o.dst (.tup [])) bl k)
      | none => allT (fun i => match ops[i]? with
      | none => .stuck
      | some o => guardE ops tm o (fun tm => stepE P gl cal inl o n tm bl fun n' tm' bl' => cond (preB blF (frO N 0 bl')) (anyE P gl cal inl ops N blF f (listed.setIfInBounds i true) n' tm' bl' k) .stuck) (fun tm => anyE P gl cal inl ops N blF f (listed.setIfInBounds i true) n (putV tm o.dst (.tup [])) bl k)) l
def heldN (ops : Array Oper) (bl : List Blk) : Nat := cond (ops.toList.any isStO) 0 bl.length
def looseO (o : Oper) : Bool := match o.op with | .move _ | .assign _ | .extract _ _ | .fieldAddr .. | .load .. | .slice .. => true | _ => false
/-- A loop by rounds: as long as its tests are decided. -/
def roundsE (body : Nat → List V → List Blk → EK → T) : Nat → Nat → List V → List Blk → EK → T
  | 0, _, _, _, _ => .stuck
  | r + 1, n, tm, bl, k => body n tm bl fun x n' tm' bl' => match x with
    | .normal => roundsE body r n' tm' bl' k
    | x => k x n' tm' bl'
/-- Slices that a loop makes grow: their numbers, and their blocks. -/
def accE (lo : Nat) : List (Nat × List CK × TypeId) → List V → List Blk → List Nat → Option (List Lin × List Nat)
  | [], _, _, used => some ([], used)
  | (s, sh, e) :: r, tm, bl, used => match tm[s]? with
    | some (.w (.one (.con (.slice none 0 0)))) => match accE lo r tm bl used with
      | some (l, u) => some (.const 0 :: .const 0 :: .const (-1) :: l, u)
      | none => none
    | some (.w (.one (.sl b sz o ro len cap))) => match bl[b]? with
      | some ([.rows sh' off code capb kind], t) => cond (shBeq sh sh' && Nat.beq kind 2 && Lin.beq o (.const 0) && Lin.beq off (.const 0) && Lin.beq ro (.const 0) && Lin.beq cap capb && Nat.beq t.1 e && Nat.beq sz sh.length && Nat.ble lo b && !(used.any (Nat.beq b)))
          (match accE lo r tm bl (b :: used) with
          | some (l, u) => some (code :: len :: cap :: l, u)
          | none => none) none
      | _ => none
    | _ => none
def killL : List Nat → List Blk → List Blk
  | [], bl => bl
  | b :: r, bl => match bl[b]? with
    | some ([.rows sh off code cap _], t) => killL r (setB bl b ([.rows sh off code cap 0], t))
    | _ => killL r bl
/-- Integers within what a loop says of them: by interval, or as is to be shown. -/
def fitM : List (Nat × Int × Int) → List V → M (List V)
  | [], tm => pure tm
  | (s, lo, hi) :: r, tm => match tm[s]? with
    | some (.w (.one (.int k x))) => cond (decide (lo ≤ x.lo) && decide (x.hi ≤ hi)) (fitM r tm) (bind (chkM 39 [x.l, .const lo, .const hi]) fun _ => fitM r (setV tm s (.w (.one (.int k ⟨x.l, lo, hi⟩)))))
    | _ => fitM r tm
def boolsM (tm : List V) : List Nat → M (List Lin)
  | [] => pure []
  | s :: r => match tm[s]? with
    | some (.w (.one (.bool e))) => bind (match e with | .lit v => pure (.const (cond v 1 0)) | e => indM e) fun l => bind (boolsM tm r) fun ls => pure (l :: ls)
    | _ => fail
def headB : List Nat → Nat → List V → List V
  | [], _, tm => tm
  | s :: r, v, tm => headB r (v + 1) (setV tm s (.w (.one (.bool (.eq (.var v) (.const 1))))))
def headA : List (Nat × List CK × TypeId) → Nat → List V → List Blk → List V × List Blk
  | [], _, tm, bl => (tm, bl)
  | (s, sh, e) :: r, v, tm, bl => headA r (v + 3) (setV tm s (.w (.one (.sl bl.length sh.length (.const 0) (.const 0) (.var (v + 1)) (.var (v + 2)))))) (bl ++ [([.rows sh (.const 0) (.var v) (.var (v + 2)) 2], (e, false))])
def boolBds (l : List Nat) : List (Int × Int) := l.map fun _ => (0, 1)
noncomputable def accBds (l : List (Nat × List CK × TypeId)) : List (Int × Int) := l.flatMap fun _ => [(0, RB), (0, 9223372036854775807), (-1, 9223372036854775807)]
/-- Arrays that are told as rows from here on. -/
noncomputable def rowzM : List (Nat × List CK × Nat) → List Blk → M (List Blk)
  | [], bl => pure bl
  | (b, sh, c) :: r, bl => match bl[b]? with
    | some (C, t) => cond (isOrd C) (cond (!t.2 && Nat.beq C.length (c * sh.length) && shOk sh && Nat.ble c 1000000) (bind (appRowsM sh (chunkA sh.length c C) (.const 0)) fun code => rowzM r (setB bl b ([.rows sh (.const 0) code (.const c) 2], t))) fail) (rowzM r bl)
    | none => fail
/-- Slices for reading that a loop hands on. -/
def rdE : List (Nat × List CK) → List V → List Blk → Option (List Lin)
  | [], _, _ => some []
  | (s, sh) :: r, tm, bl => match tm[s]? with
    | some (.w (.one (.con (.slice none 0 0)))) => match rdE r tm bl with
      | some l => some (.const 0 :: .const 0 :: .const (-1) :: l)
      | none => none
    | some (.w (.one (.sl b sz o ro len cap))) => match bl[b]? with
      | some ([.rows sh' off code capb kind], t) => cond (shBeq sh sh' && Nat.beq kind 1 && Lin.beq o off && Lin.beq ro (.const 0) && Lin.beq cap capb && Nat.beq sz sh.length)
          (match rdE r tm bl with
          | some l => some (code :: len :: cap :: l)
          | none => none) none
      | _ => none
    | _ => none
def natsM : Nat → M Unit
  | 0 => pure ()
  | k + 1 => fun n κ => .nat n (natsM k (n + 1) κ)
def headD : List (Nat × List CK) → Nat → Nat → List V → List Blk → List V × List Blk
  | [], _, _, tm, bl => (tm, bl)
  | (s, sh) :: r, v, u, tm, bl => headD r (v + 3) (u + 1) (setV tm s (.w (.one (.sl bl.length sh.length (.var u) (.const 0) (.var (v + 1)) (.var (v + 2)))))) (bl ++ [([.rows sh (.var u) (.var v) (.var (v + 2)) 1], (0, false))])
noncomputable def rdBds (l : List (Nat × List CK)) : List (Int × Int) := l.flatMap fun _ => [(0, RB), (0, 9223372036854775807), (-1, 9223372036854775807)]
/-- A loop by what holds at its head. -/
noncomputable def loopE (li : LoopI) (body : Nat → List V → List Blk → EK → T) (n : Nat) (tm : List V) (bl : List Blk) (k : EK) : T :=
  rowzM li.rowz bl n fun bl n => fitM li.ints tm n fun tm n => boolsM tm li.bools n fun lb n => match hs li.keep li.ints 0 (n + 1) tm, accE 0 li.accs tm bl [], rdE li.rds tm bl with
  | some (tmH, l1, b1), some (la, us), some lr => match hb li.cells 0 (n + 1 + l1.length) (killL us bl) with
    | none => .stuck
    | some (blH, l2, b2) => cond (!(fitV tmH tmH && fitB blH blH)) .stuck <| .loop n (l1 ++ l2 ++ (lb ++ la ++ lr)) (n + 1) (b1 ++ b2 ++ (boolBds li.bools ++ accBds li.accs ++ rdBds li.rds))
        (natsM li.rds.length (n + 1 + l1.length + l2.length + (lb ++ la ++ lr).length) fun _ N =>
        let d := headD li.rds (n + 1 + l1.length + l2.length + (lb ++ la).length) (n + 1 + l1.length + l2.length + (lb ++ la ++ lr).length) (headB li.bools (n + 1 + l1.length + l2.length) tmH) blH
        let e := headA li.accs (n + 1 + l1.length + l2.length + lb.length) d.1 d.2
        body N e.1 e.2 fun x n' tm' bl' => match x with
      | .normal => fitM li.ints tm' n' fun tm' n' => boolsM tm' li.bools n' fun lb' n' => match hs li.keep li.ints 0 (n + 1) tm', accE bl.length li.accs tm' bl' [], rdE li.rds tm' bl' with
        | some (tmE, v1, _), some (la', _), some lr' => match hb li.cells 0 (n + 1 + v1.length) (bl'.take bl.length) with
          | none => .stuck
          | some (blE, v2, _) => cond (fitV tmH tmE && fitB blH blE) (.again n (v1 ++ v2 ++ (lb' ++ la' ++ lr'))) .stuck
        | _, _, _ => .stuck
      | x => k x n' tm' bl')
  | _, _, _ => .stuck

noncomputable def codeE (P : Program) (gl : Glo) (cal : Cal) (inl : Inl) (li : Nat → Option LoopI) (rounds : Nat) : Code → Nat → List V → List Blk → EK → T
  | .skip, n, tm, bl, k => k .normal n tm bl
  | .region _ ops draw, n, tm, bl, k => cond draw
      (let h := headN P cal ops
       cond (tailB ops h && zeroOk P (ops.toList.take h)) (headE P gl cal ops (ops.toList.take h) n tm bl fun n' tm' => allocsE P (ops.toList.take h) n' tm' bl fun n' tm' bl' => opsE P gl cal inl ops (ops.toList.drop h) n' tm' bl' (k .normal)) (cond (Nat.ble (ops.toList.filter fun o => !looseO o).length 12) (anyE P gl cal inl ops (heldN ops bl) (frO (heldN ops bl) 0 bl) ops.size (Array.replicate ops.size false) n tm bl (k .normal)) .stuck))
      (opsE P gl cal inl ops ops.toList n tm bl (k .normal))
  | .seq a b, n, tm, bl, k => codeE P gl cal inl li rounds a n tm bl fun x n' tm' bl' => match x with
      | .normal => codeE P gl cal inl li rounds b n' tm' bl' k
      | x => k x n' tm' bl'
  | .cond c a b, n, tm, bl, k => match opV tm c with
      | .w (.one (.bool e)) => match e with
        | .lit v => cond v (codeE P gl cal inl li rounds a n tm bl k) (codeE P gl cal inl li rounds b n tm bl k)
        | e => .br e (codeE P gl cal inl li rounds a n (subB e true tm) bl k) (codeE P gl cal inl li rounds b n (subB e false tm) bl k)
      | _ => .stuck
  | .block id c, n, tm, bl, k => codeE P gl cal inl li rounds c n tm bl fun x n' tm' bl' => match x with
      | .exit id' => cond (Nat.beq id' id) (k .normal n' tm' bl') (k (.exit id') n' tm' bl')
      | x => k x n' tm' bl'
  | .loop c, n, tm, bl, k => match (firstR c).bind li with
      | some l => loopE l (fun n tm bl k => codeE P gl cal inl li rounds c n tm bl k) n tm bl k
      | none => roundsE (fun n tm bl k => codeE P gl cal inl li rounds c n tm bl k) rounds n tm bl k
  | .exit id, n, tm, bl, k => k (.exit id) n tm bl
  | .ret, n, tm, bl, k => k .ret n tm bl
  | _, _, _, _, _ => .stuck

/-- A result. -/
def resW (P : Program) (gl : Glo) (bl : List Blk) (tm : List V) : ResultVar → Option W
  | .tmp t => match tm[t]? with | some (.w u) => some u | _ => none
  | .cell a t => match tm[a]? with
    | some (.w (.one p)) => match cellsAt bl gl p, isAggB P t, szB P t with
      | some cs, some true, some k => cond (Nat.ble k cs.length) (some (.agg (cs.take k))) none
      | some (x :: _), some false, _ => some (.one x)
      | _, _, _ => none
    | _ => none
def resL (P : Program) (gl : Glo) (bl : List Blk) (tm : List V) : List ResultVar → Option (List W)
  | [] => some []
  | r :: s => match resW P gl bl tm r, resL P gl bl tm s with | some u, some l => some (u :: l) | _, _ => none
/-- One result that is no word: a closure, a slice that grows. -/
def oneR (tm : List V) : List ResultVar → Option V
  | [.tmp t] => match tm[t]? with
    | some (.clo f c) => some (.clo f c)
    | some (.osl b l lo) => some (.osl b l lo)
    | _ => none
  | _ => none
def resE (P : Program) (gl : Glo) (fn : Func) (n : Nat) (tm : List V) (bl : List Blk) (k : RK) : T :=
  match resL P gl bl tm fn.results.toList with
  | some [u] => k n (.w u) bl
  | some l => k n (.tup l) bl
  | none => match oneR tm fn.results.toList with
    | some v => k n v bl
    | none => .stuck

def replV : Nat → List V
  | 0 => []
  | n + 1 => .tup [] :: replV n
/-- One level of a call of a function with a body. -/
noncomputable def bodyE (P : Program) (gl : Glo) (cal : Cal) (inl : Inl) (li : FuncId → Nat → Option LoopI) (rounds : Nat) : Inl :=
  fun f n vs bl k => match P.funcs[f]? with
    | none => .stuck
    | some fn => match fn.body with
      | none => .stuck
      | some c => cond (!(fn.name == "runtime.NumGoroutine") && Nat.ble vs.length fn.ntmps) (codeE P gl cal inl (li f) rounds c n (vs ++ replV (fn.ntmps - vs.length)) bl fun x n' tm' bl' => match x with
          | .exit _ => .stuck
          | _ => resE P gl fn n' tm' bl' k) .stuck
/-- A call of a function with a body. -/
noncomputable def callE (P : Program) (gl : Glo) (cal : Cal) (li : FuncId → Nat → Option LoopI) (rounds : Nat) : Nat → Inl
  | 0 => fun _ _ _ _ _ => .stuck
  | d + 1 => bodyE P gl cal (callE P gl cal li rounds d) li rounds
/-- The same where some calls are answered by what is known of them. -/
abbrev BC := FuncId → Option (Nat → List V → List Blk → RK → T)
noncomputable def orB (bc : BC) (inl : Inl) : Inl := fun f n vs bl k => match bc f with
  | some g => g n vs bl k
  | none => inl f n vs bl k
noncomputable def callB (bc : BC) (P : Program) (gl : Glo) (cal : Cal) (li : FuncId → Nat → Option LoopI) (rounds : Nat) : Nat → Inl
  | 0 => fun _ _ _ _ _ => .stuck
  | d + 1 => bodyE P gl cal (orB bc (callB bc P gl cal li rounds d)) li rounds
end Go.Rx

/- The evaluator's soundness: operations and regions. -/
set_option linter.unusedVariables false
set_option linter.unusedSimpArgs false
namespace Go.Rx
open M

structure Later (n nb : Nat) (ρ : Env) (m : Nat → Nat) (n' nb' : Nat) (ρ' : Env) (m' : Nat → Nat) : Prop where
  hn : n ≤ n'
  ha : agree n ρ ρ'
  hb : nb ≤ nb'
  hm : ∀ b, b < nb → m' b = m b
theorem Later.refl (n nb : Nat) (ρ : Env) (m : Nat → Nat) : Later n nb ρ m n nb ρ m := ⟨Nat.le_refl _, agree.refl _ _, Nat.le_refl _, fun _ _ => rfl⟩
theorem Later.trans {n nb n1 nb1 n2 nb2 : Nat} {ρ ρ1 ρ2 : Env} {m m1 m2 : Nat → Nat} (h : Later n nb ρ m n1 nb1 ρ1 m1) (h' : Later n1 nb1 ρ1 m1 n2 nb2 ρ2 m2) : Later n nb ρ m n2 nb2 ρ2 m2 :=
  ⟨Nat.le_trans h.hn h'.hn, h.ha.trans h'.ha h.hn, Nat.le_trans h.hb h'.hb, fun b hb => (h'.hm b (Nat.lt_of_lt_of_le hb h.hb)).trans (h.hm b hb)⟩
def AgA (n : Nat) (G G' : Again) : Prop := ∀ l, l < n → G' l = G l
theorem AgA.refl (n : Nat) (G : Again) : AgA n G G := fun _ _ => rfl
theorem AgA.trans {n n' : Nat} {G G' G'' : Again} (h : AgA n G G') (h' : AgA n' G' G'') (hn : n ≤ n') : AgA n G G'' := fun l hl => (h' l (by omega)).trans (h l hl)

structure R (w0 : Base) (n : Nat) (ρ : Env) (m : Nat → Nat) (tm : List V) (bl : List Blk) (a : Act) (w : World) : Prop where
  t : TRel n bl.length ρ m tm a.tmps
  d : a.defers = w0.ds
  b : BlOk n bl.length ρ bl
  mm : Mem w0 ρ m bl w

section
variable (S : Nat → List Int → List Int → Prop) (L : V → Env → Prop) (w0 : Base)
/-- A continuation on slots and blocks is good for K. -/
def SKok (k : SK) (n nb : Nat) (ρ : Env) (m : Nat → Nat) (G : Again) (K : Act → World → Prop) : Prop :=
  ∀ n' ρ' m' tm' bl' G' a' w', Later n nb ρ m n' (List.length bl') ρ' m' → AgA n G G' → R w0 n' ρ' m' tm' bl' a' w' → (k n' tm' bl').holds S L G' ρ' → K a' w'
def RKok (k : RK) (n nb : Nat) (ρ : Env) (m : Nat → Nat) (G : Again) (R' : Ending → World → Prop) : Prop :=
  ∀ n' v bl' G' ρ' m' w' val, Later n nb ρ m n' (List.length bl') ρ' m' → AgA n G G' → V.ok n' bl'.length ρ' v → v.rel ρ' m' val → BlOk n' bl'.length ρ' bl' → Mem w0 ρ' m' bl' w' → (k n' v bl').holds S L G' ρ' → R' (.returned val) w'
def InlOk (P : Program) (inl : Inl) : Prop :=
  ∀ f n vs bl k G ρ m w xs R', BlOk n (List.length bl) ρ bl → Mem w0 ρ m bl w → (∀ v ∈ vs, V.ok n bl.length ρ v) → LRel ρ m vs xs → (inl f n vs bl k).holds S L G ρ → RKok S L w0 k n bl.length ρ m G R' →
    (callFunc f xs.toArray).run P w = .ok (.enter f xs.toArray) w ∧ Calls P f xs.toArray w R'
end
section
variable {S : Nat → List Int → List Int → Prop} {L : V → Env → Prop} {w0 : Base} {P : Program} {gl : Glo} {cal : Cal} {inl : Inl}

theorem SKok.later {k : SK} {n nb n1 nb1 : Nat} {ρ ρ1 : Env} {m m1 : Nat → Nat} {G G1 : Again} {K : Act → World → Prop} (h : SKok S L w0 k n nb ρ m G K) (hl : Later n nb ρ m n1 nb1 ρ1 m1) (hA : AgA n G G1) : SKok S L w0 k n1 nb1 ρ1 m1 G1 K :=
  fun n' ρ' m' tm' bl' G' a' w' h1 h2 h3 h4 => h n' ρ' m' tm' bl' G' a' w' (hl.trans h1) (hA.trans h2 hl.hn) h3 h4
theorem RKok.later {k : RK} {n nb n1 nb1 : Nat} {ρ ρ1 : Env} {m m1 : Nat → Nat} {G G1 : Again} {K : Ending → World → Prop} (h : RKok S L w0 k n nb ρ m G K) (hl : Later n nb ρ m n1 nb1 ρ1 m1) (hA : AgA n G G1) : RKok S L w0 k n1 nb1 ρ1 m1 G1 K :=
  fun n' v bl' G' ρ' m' w' val h1 h2 h3 h4 h5 h6 h7 => h n' v bl' G' ρ' m' w' val (hl.trans h1) (hA.trans h2 hl.hn) h3 h4 h5 h6 h7

/-- A block more. -/
def updM (m : Nat → Nat) (nb g : Nat) : Nat → Nat := fun b => if b = nb then g else m b
theorem updM_lt {m : Nat → Nat} {nb g b : Nat} (h : b < nb) : updM m nb g b = m b := by simp [updM]; omega
theorem updM_same (m : Nat → Nat) (nb g : Nat) : updM m nb g nb = g := by simp [updM]

/-- A block more: a new one, or one that is there already. -/
theorem Mem.push {n : Nat} {ρ : Env} {m : Nat → Nat} {bl : List Blk} {w : World} {x : Blk} {g : Nat} (h : Mem w0 ρ m bl w) (hb : BlOk n bl.length ρ bl) (hx : ∀ a ∈ x.1, A.ok n bl.length ρ a)
    (h1 : isOrd x.1 = true → w0.b.heap.size ≤ g ∧ (w0.ex g ∨ w0.r.heap.size ≤ g) ∧ ∃ r : List Value, (x.2.2 = false → r = []) ∧ w.heap[g]? = some (.cells (x.1.map (A.den ρ m) ++ r).toArray x.2.1 (0, 0)))
    (h2 : ∀ sh off code cap kind, x.1 = [.rows sh off code cap kind] → RRel w0 ρ g sh off code cap kind x.2.1 w)
    (h3 : ∀ (i : Nat) (p : Blk), bl[i]? = some p → m i = g → (kindC ρ p.1 ≤ 1 ∧ kindC ρ x.1 ≤ 1) ∨ kindC ρ p.1 = 0 ∨ kindC ρ x.1 = 0) :
    Mem w0 ρ (updM m bl.length g) (bl ++ [x]) w := by
  have hold : ∀ (i : Nat) (p : Blk), (bl ++ [x])[i]? = some p → (i < bl.length ∧ bl[i]? = some p) ∨ (i = bl.length ∧ p = x) := fun i p hi => by
    rw [List.getElem?_append] at hi
    split at hi
    · rename_i hil; exact .inl ⟨hil, hi⟩
    · have : i = bl.length := by
        have := (List.getElem?_eq_some_iff.1 hi).1
        simp at this; omega
      subst this
      simp only [Nat.sub_self, List.getElem?_cons_zero, Option.some.injEq] at hi
      exact .inr ⟨rfl, hi.symm⟩
  refine ⟨h.ext, h.hos, h.htape, h.hout, h.hsize, h.frm, fun i cs' t' hi ho => ?_, fun i sh off code cap kind t' hi => ?_, fun i j p q hi hj he => ?_⟩
  · rcases hold i _ hi with ⟨hil, hi⟩ | ⟨rfl, hi2⟩
    · obtain ⟨g1, g1', r, hr, g2⟩ := h.blk i cs' t' hi ho
      rw [updM_lt hil]
      refine ⟨g1, g1', r, hr, ?_⟩
      rw [map_den_ext (hb _ (List.mem_of_getElem? hi)) (agree.refl n ρ) (fun b hb => updM_lt hb)]
      exact g2
    · subst hi2
      rw [updM_same]
      obtain ⟨g1, g1', r, hr, g2⟩ := h1 ho
      refine ⟨g1, g1', r, hr, ?_⟩
      rw [map_den_ext hx (agree.refl n ρ) (fun b hb => updM_lt hb)]
      exact g2
  · rcases hold i _ hi with ⟨hil, hi⟩ | ⟨rfl, hi2⟩
    · rw [updM_lt hil]
      exact h.rws i sh off code cap kind t' hi
    · subst hi2
      rw [updM_same]
      exact h2 sh off code cap kind rfl
  · rcases hold i p hi with ⟨hil, hi1⟩ | ⟨rfl, hi2⟩ <;> rcases hold j q hj with ⟨hjl, hj1⟩ | ⟨rfl, hj2⟩
    · rw [updM_lt hil, updM_lt hjl] at he
      exact h.inj i j p q hi1 hj1 he
    · rw [updM_lt hil, updM_same] at he
      subst hj2
      exact .inr (h3 i p hi1 he)
    · rw [updM_lt hjl, updM_same] at he
      subst hi2
      rcases h3 j q hj1 he.symm with h | h | h
      · exact .inr (.inl ⟨h.2, h.1⟩)
      · exact .inr (.inr (.inr h))
      · exact .inr (.inr (.inl h))
    · exact .inl rfl
theorem Mem.alloc {n : Nat} {ρ : Env} {m : Nat → Nat} {bl : List Blk} {w : World} {cs : List A} {t : TypeId} {ex : List Value} {open_ : Bool} (h : Mem w0 ρ m bl w) (hb : BlOk n bl.length ρ bl) (hc : ∀ a ∈ cs, A.ok n bl.length ρ a) (hop : open_ = false → ex = []) (hord : isOrd cs = true) :
    Mem w0 ρ (updM m bl.length w.heap.size) (bl ++ [(cs, (t, open_))]) (w.alloc (.cells (cs.map (A.den ρ m) ++ ex).toArray t)) := by
  refine (h.grow ((World.Extends.refl w).alloc _)).push hb hc (fun _ => ⟨h.ext.size, .inr h.hsize, ex, hop, heap_alloc_new w _⟩) (fun sh off code cap kind e => ?_) fun i p hi he => ?_
  · simp only at e
    subst e
    cases hord
  · by_cases hk : kindC ρ p.1 = 0
    · exact .inr (.inl hk)
    · have := h.lt hi hk; omega
/-- Rows that are replaced, in memory and in what is said of it. -/
theorem Mem.put {kd : Nat} {ρ : Env} {m : Nat → Nat} {bl : List Blk} {w : World} {b : Nat} {sh : List CK} {off code cap code' : Lin} {t : TypeId × Bool} {cells row : Array Value} {fz : Nat × Nat} (h : Mem w0 ρ m bl w) (hkd : 2 ≤ kd) (hbl : bl[b]? = some ([.rows sh off code cap kd], t)) (hcap : 0 ≤ cap.den ρ)
    (hr : RRel w0 ρ (m b) sh off code' cap kd t.1 (w.setRow (m b) row)) : Mem w0 ρ m (setB bl b ([.rows sh off code' cap kd], t)) (w.setRow (m b) row) := by
  have hblen : b < bl.length := (List.getElem?_eq_some_iff.1 hbl).1
  have hkb : ∀ c, kindC ρ [.rows sh off c cap kd] = kd := fun c => kindC_rows (by omega) hcap
  obtain ⟨_, hl⟩ := h.rws b sh off code cap kd t hbl (by omega)
  obtain ⟨_, cells, tq, fz, _, _, h5⟩ := hl hcap
  obtain ⟨_, _, _, _, h1, h1'⟩ := h5 hkd
  have hset : ∀ (i : Nat) (p : Blk), (setB bl b ([.rows sh off code' cap kd], t))[i]? = some p → (i = b ∧ p = ([.rows sh off code' cap kd], t)) ∨ (i ≠ b ∧ bl[i]? = some p) := fun i p hi => by
    rw [setB_eq, List.getElem?_set] at hi
    split at hi
    · rename_i hbi
      subst hbi
      simp only [hblen, if_true, Option.some.injEq] at hi
      exact .inl ⟨rfl, hi.symm⟩
    · rename_i hbi; exact .inr ⟨fun e => hbi e.symm, hi⟩
  refine ⟨h.ext.setRow (m b) _ h1, h.hos, h.htape, h.hout, by simp; exact h.hsize, fun i hi hx => ?_, fun i cs' t' hi ho => ?_, fun i sh' off' code' cap' kind' t' hi => ?_, fun i j p q hi hj he => ?_⟩
  · rw [setRow_other w (m b) i _ (fun e => by
      subst e
      rcases h1' with h3 | h3
      · exact hx h3
      · omega)]
    exact h.frm i hi hx
  · rcases hset i _ hi with ⟨rfl, hi2⟩ | ⟨hne, hi⟩
    · cases hi2; cases ho
    · obtain ⟨g1, g1', g2⟩ := h.blk i cs' t' hi ho
      exact ⟨g1, g1', by rw [setRow_other w (m b) (m i) _ (fun e => h.ne hbl hi (by rw [hkb]; exact hkd) (by rw [kind_ord ho]; decide) (fun e => hne e.symm) (by first | exact e | exact e.symm))]; exact g2⟩
  · rcases hset i _ hi with ⟨rfl, hi2⟩ | ⟨hne, hi⟩
    · cases hi2; exact hr
    · exact (h.rws i sh' off' _ cap' kind' t' hi).grow fun hk hc => setRow_other w (m b) (m i) _ (fun e => h.ne hbl hi (by rw [hkb]; exact hkd) (by simp only [kindC_rows hk hc]; exact hk) (fun e => hne e.symm) (by first | exact e | exact e.symm))
  · have hk : ∀ (i : Nat) (p : Blk), (setB bl b ([.rows sh off code' cap kd], t))[i]? = some p → ∃ p', bl[i]? = some p' ∧ kindC ρ p'.1 = kindC ρ p.1 := fun i p hi => by
      rcases hset i _ hi with ⟨rfl, hi2⟩ | ⟨hne, hi⟩
      · exact ⟨_, hbl, by rw [hi2]; simp only [hkb]⟩
      · exact ⟨p, hi, rfl⟩
    obtain ⟨p', hp, ep⟩ := hk i p hi
    obtain ⟨q', hq, eq⟩ := hk j q hj
    rw [← ep, ← eq]
    exact h.inj i j p' q' hp hq he
/-- What is not looked at any more. -/
theorem Mem.kill {ρ : Env} {m : Nat → Nat} {bl : List Blk} {w : World} {b k : Nat} {sh : List CK} {off code cap : Lin} {t : TypeId × Bool} (h : Mem w0 ρ m bl w) (hbl : bl[b]? = some ([.rows sh off code cap k], t)) : Mem w0 ρ m (setB bl b ([.rows sh off code cap 0], t)) w := by
  have hblen : b < bl.length := (List.getElem?_eq_some_iff.1 hbl).1
  have hset : ∀ (i : Nat) (p : Blk), (setB bl b ([.rows sh off code cap 0], t))[i]? = some p → (i = b ∧ p = ([.rows sh off code cap 0], t)) ∨ (i ≠ b ∧ bl[i]? = some p) := fun i p hi => by
    rw [setB_eq, List.getElem?_set] at hi
    split at hi
    · rename_i hbi
      subst hbi
      simp only [hblen, if_true, Option.some.injEq] at hi
      exact .inl ⟨rfl, hi.symm⟩
    · rename_i hbi; exact .inr ⟨fun e => hbi e.symm, hi⟩
  have hk0 : kindC ρ [.rows sh off code cap 0] = 0 := by simp [kindC]
  refine ⟨h.ext, h.hos, h.htape, h.hout, h.hsize, h.frm, fun i cs' t' hi ho => ?_, fun i sh' off' code' cap' kind' t' hi => ?_, fun i j p q hi hj he => ?_⟩
  · rcases hset i _ hi with ⟨rfl, hi2⟩ | ⟨hne, hi⟩
    · cases hi2; cases ho
    · exact h.blk i cs' t' hi ho
  · rcases hset i _ hi with ⟨rfl, hi2⟩ | ⟨hne, hi⟩
    · cases hi2; exact fun hk => absurd rfl hk
    · exact h.rws i sh' off' _ cap' kind' t' hi
  · rcases hset i _ hi with ⟨rfl, hi2⟩ | ⟨hne, hi⟩
    · exact .inr (.inr (.inl (by rw [hi2]; exact hk0)))
    · rcases hset j _ hj with ⟨rfl, hj2⟩ | ⟨hne, hj⟩
      · exact .inr (.inr (.inr (by rw [hj2]; exact hk0)))
      · exact h.inj i j p q hi hj he
theorem Later.alloc (n : Nat) (ρ : Env) (m : Nat → Nat) (bl : List Blk) (x : Blk) (g : Nat) : Later n bl.length ρ m n (bl ++ [x]).length ρ (updM m bl.length g) :=
  ⟨Nat.le_refl _, agree.refl _ _, by simp, fun b hb => updM_lt hb⟩
theorem BlOk.alloc {n : Nat} {ρ : Env} {bl : List Blk} {cs : List A} {t : TypeId × Bool} (hb : BlOk n bl.length ρ bl) (hc : ∀ a ∈ cs, A.ok n bl.length ρ a) : BlOk n (bl ++ [(cs, t)]).length ρ (bl ++ [(cs, t)]) := by
  intro p hp a ha
  rcases List.mem_append.1 hp with hp | hp
  · exact (hb p hp a ha).ext (agree.refl n ρ) (Nat.le_refl _) (by simp)
  · simp at hp; subst hp; exact (hc a ha).ext (agree.refl n ρ) (Nat.le_refl _) (by simp)
theorem R.alloc {n : Nat} {ρ : Env} {m : Nat → Nat} {tm : List V} {bl : List Blk} {a : Act} {w : World} {cs : List A} {t : TypeId} (h : R w0 n ρ m tm bl a w) (hc : ∀ x ∈ cs, A.ok n bl.length ρ x) (dst : Option Tmp) (hord : isOrd cs = true) :
    R w0 n ρ (updM m bl.length w.heap.size) (putV tm dst (.w (.one (.ptr bl.length 0)))) (bl ++ [(cs, (t, false))]) (a.put dst (.pointer (some ⟨w.heap.size, 0, none⟩))) (w.alloc (.cells (cs.map (A.den ρ m)).toArray t)) := by
  have hl := Later.alloc n ρ m bl (cs, (t, false)) w.heap.size
  have hmm := h.mm.alloc (t := t) (ex := []) (open_ := false) h.b hc (fun _ => rfl) hord
  rw [List.append_nil] at hmm
  exact ⟨TRel.put (h.t.ext hl.ha hl.hn hl.hb hl.hm) dst (by simp [V.ok, W.ok, A.ok]) (by simp [V.rel, W.den, A.den, updM_same]), by rw [put_defers]; exact h.d, h.b.alloc hc, hmm⟩
/-- A slice's row, newly laid. -/
theorem R.row {n : Nat} {ρ : Env} {m : Nat → Nat} {tm : List V} {bl : List Blk} {a : Act} {w : World} {cs : List A} {t : TypeId} {ex : List Value} {open_ : Bool} (h : R w0 n ρ m tm bl a w) (hc : ∀ x ∈ cs, A.ok n bl.length ρ x) (hop : open_ = false → ex = []) (hord : isOrd cs = true) (dst : Option Tmp) {v : V} {x : Value}
    (hv : v.ok n (bl.length + 1) ρ) (hx : v.rel ρ (updM m bl.length w.heap.size) x) :
    R w0 n ρ (updM m bl.length w.heap.size) (putV tm dst v) (bl ++ [(cs, (t, open_))]) (a.put dst x) (w.alloc (.cells (cs.map (A.den ρ m) ++ ex).toArray t)) := by
  have hl := Later.alloc n ρ m bl (cs, (t, open_)) w.heap.size
  exact ⟨TRel.put (h.t.ext hl.ha hl.hn hl.hb hl.hm) dst (by simpa using hv) hx, by rw [put_defers]; exact h.d, h.b.alloc hc, h.mm.alloc h.b hc hop hord⟩

/-- A store. -/
theorem Mem.storeCells {n : Nat} {ρ : Env} {m : Nat → Nat} {bl : List Blk} {w : World} {b off : Nat} {cs l : List A} {bt : TypeId × Bool} (h : Mem w0 ρ m bl w) (hb : BlOk n bl.length ρ bl) (hl : ∀ a ∈ l, A.ok n bl.length ρ a)
    (hbl : bl[b]? = some (cs, bt)) (hfit : off + l.length ≤ cs.length) (ho1 : isOrd cs = true) (ho2 : isOrd (cs.take off ++ l ++ cs.drop (off + l.length)) = true) :
    ∃ w', (Go.storeCells ⟨m b, off, none⟩ (l.map (A.den ρ m))).run P w = .ok () w' ∧ Mem w0 ρ m (setB bl b (cs.take off ++ l ++ cs.drop (off + l.length), bt)) w' := by
  obtain ⟨h1, h1', r, hr, h2⟩ := h.blk b cs bt hbl ho1
  have hst := run_storeCells_at P (m b) off bt.1 (l.map (A.den ρ m)) 0 (cs.map (A.den ρ m) ++ r).toArray w h2 (by simp; omega) (fun x hx => by
    obtain ⟨a, ha, rfl⟩ := List.mem_map.1 hx
    exact A.oneCell (hl a ha))
  have hsplit : ∀ k, k ≤ cs.length → (cs.map (A.den ρ m) ++ r).take k = (cs.take k).map (A.den ρ m) ∧ (cs.map (A.den ρ m) ++ r).drop k = (cs.drop k).map (A.den ρ m) ++ r := fun k hk => by
    refine ⟨?_, ?_⟩
    · rw [List.take_append_of_le_length (by simpa using hk), List.map_take]
    · rw [List.drop_append_of_le_length (by simpa using hk), List.map_drop]
  refine ⟨w.setRow (m b) ((cs.take off ++ l ++ cs.drop (off + l.length)).map (A.den ρ m) ++ r).toArray, ?_, ?_⟩
  · simp only [Nat.add_zero, List.length_map] at hst
    rw [hst]
    congr 3
    simp only [List.map_append, List.append_assoc]
    rw [(hsplit off (by omega)).1, (hsplit (off + l.length) (by omega)).2]
  · have hblen : b < bl.length := (List.getElem?_eq_some_iff.1 hbl).1
    have hset : ∀ (i : Nat) (p : Blk), (setB bl b (cs.take off ++ l ++ cs.drop (off + l.length), bt))[i]? = some p → (i = b ∧ p = (cs.take off ++ l ++ cs.drop (off + l.length), bt)) ∨ (i ≠ b ∧ bl[i]? = some p) := fun i p hi => by
      rw [setB_eq, List.getElem?_set] at hi
      split at hi
      · rename_i hbi
        subst hbi
        simp only [hblen, if_true, Option.some.injEq] at hi
        exact .inl ⟨rfl, hi.symm⟩
      · rename_i hbi; exact .inr ⟨fun e => hbi e.symm, hi⟩
    have hkb : kindC ρ cs = 2 := kind_ord ho1
    refine ⟨h.ext.setRow (m b) _ h1, h.hos, h.htape, h.hout, by simp; exact h.hsize, fun i hi hx => ?_, fun i cs' t' hi ho => ?_, fun i sh off' code cap kind t' hi => ?_, fun i j p q hi hj he => ?_⟩
    · rw [setRow_other w (m b) i _ (fun e => by
        subst e
        rcases h1' with h3 | h3
        · exact hx h3
        · omega)]
      exact h.frm i hi hx
    · rcases hset i _ hi with ⟨rfl, hi2⟩ | ⟨hne, hi⟩
      · cases hi2
        exact ⟨h1, h1', r, hr, setRow_heap w (m i) _ _ _ _ h2⟩
      · obtain ⟨g1, g1', g2⟩ := h.blk i cs' t' hi ho
        exact ⟨g1, g1', by rw [setRow_other w (m b) (m i) _ (fun e => h.ne hbl hi (by rw [hkb]; exact Nat.le_refl 2) (by rw [kind_ord ho]; decide) (fun e => hne e.symm) (by first | exact e | exact e.symm))]; exact g2⟩
    · rcases hset i _ hi with ⟨rfl, hi2⟩ | ⟨hne, hi⟩
      · have hi := (Prod.mk.inj hi2).1
        rw [← hi] at ho2
        cases ho2
      · exact (h.rws i sh off' code cap kind t' hi).grow fun hk hc => setRow_other w (m b) (m i) _ (fun e => h.ne hbl hi (by rw [hkb]; exact Nat.le_refl 2) (by simp only [kindC_rows hk hc]; exact hk) (fun e => hne e.symm) (by first | exact e | exact e.symm))
    · have hk : ∀ (i : Nat) (p : Blk), (setB bl b (cs.take off ++ l ++ cs.drop (off + l.length), bt))[i]? = some p → ∃ p', bl[i]? = some p' ∧ kindC ρ p'.1 = kindC ρ p.1 := fun i p hi => by
        rcases hset i _ hi with ⟨rfl, hi2⟩ | ⟨hne, hi⟩
        · exact ⟨_, hbl, by rw [hi2]; exact hkb.trans (kind_ord ho2).symm⟩
        · exact ⟨p, hi, rfl⟩
      obtain ⟨p', hp, ep⟩ := hk i p hi
      obtain ⟨q', hq, eq⟩ := hk j q hj
      rw [← ep, ← eq]
      exact h.inj i j p' q' hp hq he
theorem Mem.store {n : Nat} {ρ : Env} {m : Nat → Nat} {bl : List Blk} {w : World} {b off : Nat} {cs l : List A} {bt : TypeId × Bool} (h : Mem w0 ρ m bl w) (hb : BlOk n bl.length ρ bl) (hl : ∀ a ∈ l, A.ok n bl.length ρ a)
    (hbl : bl[b]? = some (cs, bt)) (hfit : off + l.length ≤ cs.length) (hpos : 0 < l.length) (ho1 : isOrd cs = true) (ho2 : isOrd (cs.take off ++ l ++ cs.drop (off + l.length)) = true) (ty : TypeId) (hs : szB P ty = some l.length) (v : Value) (hv : v.cells = (l.map (A.den ρ m)).toArray) :
    ∃ w', (Instr.storeAt ty (.pointer (some ⟨m b, off, none⟩)) v).run P w = .ok () w' ∧ Mem w0 ρ m (setB bl b (cs.take off ++ l ++ cs.drop (off + l.length), bt)) w' := by
  obtain ⟨w', hrun, hm'⟩ := h.storeCells (P := P) hb hl hbl hfit ho1 ho2
  refine ⟨w', ?_, hm'⟩
  simp only [Instr.storeAt, Instr.sureAddr, Sem.run_bind, Sem.run_pure, Result.andThen_ok, storeVar, run_szB hs, hv]
  simp only [List.size_toArray, List.length_map, ne_eq, not_true_eq_false, if_false, Sem.run_pure, Result.andThen_ok]
  simp only [Sem.run_pure, Result.andThen_ok, hrun]

theorem setB_length (bl : List Blk) (b : Nat) (x : Blk) : (setB bl b x).length = bl.length := by rw [setB_eq]; simp
theorem BlOk.set {n : Nat} {ρ : Env} {bl : List Blk} {b : Nat} {cs : List A} {t : TypeId × Bool} (hb : BlOk n bl.length ρ bl) (hc : ∀ a ∈ cs, A.ok n bl.length ρ a) : BlOk n (setB bl b (cs, t)).length ρ (setB bl b (cs, t)) := by
  intro p hp a ha
  rw [setB_length]
  rw [setB_eq] at hp
  rcases List.mem_or_eq_of_mem_set hp with h | h
  · exact hb p h a ha
  · subst h; exact hc a ha
theorem zeroL_spec {t : TypeId} {cs : List A} (h : zeroL P t = some cs) : ∃ i z, P.info? t = some i ∧ i.zero = some z ∧ constL z.cells.toList = some cs := by
  unfold zeroL at h
  cases hi : P.info? t with
  | none => simp [hi] at h
  | some i =>
    cases hz : i.zero with
    | none => simp [hi, hz] at h
    | some z => simp only [hi, hz] at h; exact ⟨i, z, rfl, hz, h⟩
theorem getB_eq {Z : Array Value} {i : Nat} (h : i < Z.size) : Z[i]! = Z[i] := by simp [h]
theorem repL_spec {z : List A} {Z : Array Value} {n nb : Nat} {ρ : Env} {m : Nat → Nat} (hz : z.map (A.den ρ m) = Z.toList) (hok : ∀ a ∈ z, A.ok n nb ρ a) (h0 : 0 < z.length) (len : Nat) :
    (∀ a ∈ repL z len, A.ok n nb ρ a) ∧ ((repL z len).map (A.den ρ m)).toArray = (Array.range (len * Z.size)).map fun i => Z[i % Z.size]! := by
  have hl : Z.size = z.length := by have := congrArg List.length hz; simpa using this.symm
  have hi : ∀ i, i % z.length < z.length := fun i => Nat.mod_lt _ h0
  refine ⟨fun a ha => ?_, ?_⟩
  · obtain ⟨i, _, rfl⟩ := List.mem_map.1 ha
    rw [List.getElem?_eq_getElem (hi i)]
    exact hok _ (List.getElem_mem _)
  · apply Array.ext'
    rw [Array.toList_map, Array.toList_range]
    simp only [repL, List.map_map, hl]
    refine List.map_congr_left fun i _ => ?_
    simp only [Function.comp]
    have h1 : i % z.length < Z.size := by rw [hl]; exact hi i
    rw [getB_eq h1, List.getElem?_eq_getElem (hi i)]
    simp only [Option.getD_some]
    have h2 := congrArg (fun l => l[i % z.length]?) hz
    simp only [List.getElem?_map, List.getElem?_eq_getElem (hi i), Option.map_some] at h2
    rw [Array.getElem?_toList, Array.getElem?_eq_getElem h1] at h2
    simpa using h2
theorem bsL_spec {t : TypeId} {len n : Nat} {ρ : Env} {m : Nat → Nat} {bl : List Blk} {parts : List (Nat × V)} {vals : Array (Nat × Value)} {cs : List A} {e : TypeId} (h : bsL P t len parts = some (cs, e)) (hr : PRel n bl.length ρ m parts vals.toList) :
    (∀ a ∈ cs, A.ok n bl.length ρ a) ∧ ∀ w, (Instr.buildSlice t len vals).run P w = .ok (.slice (some ⟨w.heap.size, 0, none⟩) len len) (w.alloc (.cells (cs.map (A.den ρ m)).toArray e)) := by
  unfold bsL at h
  cases h1 : slcOf P t with
  | none => simp [h1] at h
  | some e' =>
    simp only [h1] at h
    cases h2 : szB P e' with
    | none => simp [h2] at h
    | some s =>
      cases h3 : zeroL P e' with
      | none => simp [h2, h3] at h
      | some z =>
        simp only [h2, h3] at h
        cases hc : (Nat.beq z.length s && Nat.blt 0 s && Nat.ble (len * s) 16777216) with
        | false => simp [hc] at h
        | true =>
          simp only [hc, cond_true] at h
          simp only [Bool.and_eq_true] at hc
          have c1 := Nat.eq_of_beq_eq_true hc.1.1
          have c2 := blt_lt hc.1.2
          have c3 := Nat.le_of_ble_eq_true hc.2
          cases h4 : fillL (fun i => some (i * s, s)) (repL z len) parts with
          | none => simp [h4] at h
          | some l =>
            simp only [h4, Option.some.injEq, Prod.mk.injEq] at h
            obtain ⟨rfl, rfl⟩ := h
            obtain ⟨inf, zv, hi, hzz, hcl⟩ := zeroL_spec h3
            have hcz := constL_spec hcl n bl.length ρ m
            have hrep := repL_spec (Z := zv.cells) hcz.2 hcz.1 (by omega) len
            have hZ : zv.cells.size = s := by have := congrArg List.length hcz.2; simp at this; omega
            obtain ⟨g1, g2⟩ := fillL_spec (m := m) h4 hrep.1 hr
            refine ⟨g1, fun w => ?_⟩
            rw [hrep.2, hZ] at g2
            have hn : ¬ (16777216 < len * s) := by omega
            by_cases hl0 : len = 0
            · subst hl0
              have g3 : Instr.fill (fun i => some (i * s, s)) ((Array.range (0 * s)).map fun i => (#[] : Array Value)[i % (#[] : Array Value).size]!) vals.toList = some (l.map (A.den ρ m)).toArray := by
                rw [← g2]; congr 1; simp
              simp [Instr.buildSlice, run_underlying (slcOf_spec h1), run_szB h2] at g3 ⊢
              simp [g3, newRow]
            · have hne : ¬ (len * s = 0) := by
                intro h0
                rcases Nat.mul_eq_zero.1 h0 with h0 | h0 <;> omega
              have hlen0 : ¬ (s = 0) := by omega
              simp [Instr.buildSlice, run_underlying (slcOf_spec h1), run_szB h2, hn, hne, hl0, hlen0, zeroValue, typeInfo, hi, hzz, hZ, g2, newRow]

theorem zeroCells_succ {Z : Array Value} {k : Nat} (h : 0 < Z.size) : ∃ r : List Value, Builtin.zeroCells Z (k + 1) = (Z.toList ++ r).toArray := by
  refine ⟨(Builtin.zeroCells Z (k + 1)).toList.drop Z.size, ?_⟩
  apply Array.ext'
  have : (Builtin.zeroCells Z (k + 1)).toList.take Z.size = Z.toList := by
    apply List.ext_getElem?
    intro i
    rw [List.getElem?_take]
    by_cases hi : i < Z.size
    · have h1 : i < (k + 1) * Z.size := Nat.lt_of_lt_of_le hi (by rw [Nat.succ_mul]; omega)
      rw [if_pos hi]
      simp only [Builtin.zeroCells, Array.toList_map, Array.toList_range, List.getElem?_map, List.getElem?_range h1, Option.map_some, Nat.mod_eq_of_lt hi]
      rw [getB_eq hi, Array.getElem?_toList, Array.getElem?_eq_getElem hi]
    · rw [if_neg hi, List.getElem?_eq_none (by simpa using hi)]
  conv => lhs; rw [← List.take_append_drop Z.size (Builtin.zeroCells Z (k + 1)).toList, this]

theorem headC_spec {w : World} {n : Nat} {ρ : Env} {m : Nat → Nat} {bl : List Blk} {b off k : Nat} {cs : List A} (hm : Mem w0 ρ m bl w) (hb : BlOk n bl.length ρ bl) (h : headC bl b off k = some cs) :
    cs.length = k ∧ (∀ a ∈ cs, A.ok n bl.length ρ a) ∧ ∀ j v, (cs.map (A.den ρ m))[j]? = some v → w.cell? ((⟨m b, off, none⟩ : Addr).add j) = some v := by
  unfold headC at h
  cases hbl : bl[b]? with
  | none => simp [hbl] at h
  | some q =>
    obtain ⟨C, t⟩ := q
    simp only [hbl] at h
    cases hc : (Nat.ble (off + k) C.length && isOrd C) with
    | false => simp [hc] at h
    | true =>
      simp only [hc, cond_true, Option.some.injEq] at h
      simp only [Bool.and_eq_true] at hc
      have hle := Nat.le_of_ble_eq_true hc.1
      subst h
      obtain ⟨_, _, r, _, h2⟩ := hm.blk b C t hbl hc.2
      refine ⟨by simp; omega, fun a ha => hb _ (List.mem_of_getElem? hbl) a (List.mem_of_mem_drop (List.mem_of_mem_take ha)), fun j v hj => ?_⟩
      rw [addr_add]
      rw [List.getElem?_map, List.getElem?_take] at hj
      split at hj
      · rename_i hjk
        rw [List.getElem?_drop] at hj
        cases hq : C[off + j]? with
        | none => simp [hq] at hj
        | some y =>
          simp only [hq, Option.map_some, Option.some.injEq] at hj
          have hlt : off + j < C.length := (List.getElem?_eq_some_iff.1 hq).1
          simp only [World.cell?, h2, Option.isSome_none, Bool.false_eq_true, if_false, List.getElem?_toArray]
          rw [List.getElem?_append_left (by simpa using hlt), List.getElem?_map, hq]
          simp [hj]
      · simp at hj

theorem growE_wp {n : Nat} {ρ : Env} {m : Nat → Nat} {tm : List V} {bl : List Blk} {a : Act} {w : World} {G : Again} {K : Act → World → Prop} {k : SK} {i : TypeInfo} {e : TypeId} {z : List A} {d : Option Tmp} {sLen sCap len : Nat} {olds news : List A} {Z : Array Value}
    (h : R w0 n ρ m tm bl a w) (ho : ∀ a ∈ olds, A.ok n bl.length ρ a) (hn : ∀ a ∈ news, A.ok n bl.length ρ a) (hz : ∀ a ∈ z, A.ok n bl.length ρ a) (hZ : z.map (A.den ρ m) = Z.toList) (hh : (growE i e z d sLen sCap len olds news n tm bl k).holds S L G ρ) (hk : SKok S L w0 k n bl.length ρ m G K) :
    (sLen + len ≤ 1000000 ∧ Builtin.nextslicecap (sLen + len) sCap * i.bytes ≤ 281474976710656 ∧ sCap < sLen + len ∧ 0 < len) ∧
    K (a.put d (.slice (some ⟨w.heap.size, 0, none⟩) (sLen + len) (grownCap w (sLen + len) sCap e))) (w.drew.alloc (.cells ((olds.map (A.den ρ m)).toArray ++ (news.map (A.den ρ m)).toArray ++ Builtin.zeroCells Z (grownCap w (sLen + len) sCap e - (sLen + len))) e)) := by
  unfold growE at hh
  cases hc : (Nat.ble (sLen + len) 1000000 && Nat.ble (Builtin.nextslicecap (sLen + len) sCap * i.bytes) 281474976710656 && Nat.blt sCap (sLen + len) && Nat.blt 0 len && Nat.beq z.length i.size && Nat.blt 0 i.size && isOrd (olds ++ news) && isOrd (olds ++ news ++ z)) with
  | false => rw [hc] at hh; exact hh.elim
  | true =>
    simp only [hc, cond_true, T.holds] at hh
    simp only [Bool.and_eq_true] at hc
    obtain ⟨⟨hc, ho1⟩, ho2⟩ := hc
    have c1 := Nat.le_of_ble_eq_true hc.1.1.1.1.1
    have c2 := Nat.le_of_ble_eq_true hc.1.1.1.1.2
    have c3 := blt_lt hc.1.1.1.2
    have c4 := blt_lt hc.1.1.2
    have c5 := Nat.eq_of_beq_eq_true hc.1.2
    have c6 := blt_lt hc.2
    refine ⟨⟨c1, c2, c3, c4⟩, ?_⟩
    have hsz : Z.size = z.length := by have := congrArg List.length hZ; simpa using this.symm
    have hge : sLen + len ≤ grownCap w (sLen + len) sCap e := by unfold grownCap Question.cut; exact Nat.le_add_right _ _
    generalize grownCap w (sLen + len) sCap e = c at hge ⊢
    have hdrew : R w0 n ρ m tm bl a w.drew := ⟨h.t, h.d, h.b, h.mm.grow (World.Extends.drew (World.Extends.refl w))⟩
    by_cases hce : c = sLen + len
    · subst hce
      have hzc : Builtin.zeroCells Z (sLen + len - (sLen + len)) = #[] := by simp [Builtin.zeroCells]
      rw [hzc]
      have hR := R.row (t := e) (cs := olds ++ news) (ex := []) (open_ := false) hdrew (fun x hx => (List.mem_append.1 hx).elim (ho x) (hn x)) (fun _ => rfl) ho1 d (v := .w (.one (.slc bl.length 0 (sLen + len) (sLen + len)))) (x := .slice (some ⟨w.heap.size, 0, none⟩) (sLen + len) (sLen + len)) (by simp [V.ok, W.ok, A.ok]) (by
        show Value.slice (some ⟨w.heap.size, 0, none⟩) _ _ = _
        simp [W.den, A.den, updM_same])
      have := hk n ρ _ _ _ G _ _ (Later.alloc n ρ m bl (olds ++ news, (e, false)) w.heap.size) (AgA.refl _ _) hR hh.1
      simpa [List.map_append] using this
    · obtain ⟨q, hq⟩ : ∃ q, c - (sLen + len) = q + 1 := ⟨c - (sLen + len) - 1, by omega⟩
      rw [hq]
      obtain ⟨r, hr⟩ := zeroCells_succ (Z := Z) (k := q) (by omega)
      rw [hr, ← hZ]
      have hR := R.row (t := e) (cs := olds ++ news ++ z) (ex := r) (open_ := true) hdrew (fun x hx => (List.mem_append.1 hx).elim (fun hx => (List.mem_append.1 hx).elim (ho x) (hn x)) (hz x)) (fun h => by cases h) ho2 d (v := .osl bl.length (sLen + len) (sLen + len + 1)) (x := .slice (some ⟨w.heap.size, 0, none⟩) (sLen + len) c) (by simp [V.ok]) ⟨c, by omega, by
        rw [updM_same]; rfl⟩
      have := hk n ρ _ _ _ G _ _ (Later.alloc n ρ m bl (olds ++ news ++ z, (e, true)) w.heap.size) (AgA.refl _ _) hR hh.2
      simpa [List.map_append] using this

theorem appE_wp {n : Nat} {ρ : Env} {m : Nat → Nat} {tm : List V} {bl : List Blk} {a : Act} {w : World} {G : Again} {o : Oper} {K : Act → World → Prop} {Q : Exit → Act → World → Prop} {k : SK} {c : Call} {s x : Operand} {t t' : TypeId}
    (h : R w0 n ρ m tm bl a w) (hop : o.op = .call c) (hcl : c.callee = .builtin .append) (hxs : c.args.toList = [s, x]) (hts : c.argTypes.toList = [t, t'])
    (hh : (appE P o.dst t t' (opV tm s) (opV tm x) n tm bl k).holds S L G ρ) (hk : SKok S L w0 k n bl.length ρ m G K) : o.wp P a w K Q := by
  have a1 : c.args = #[s, x] := by rw [← Array.toArray_toList (xs := c.args), hxs]
  have a2 : c.argTypes = #[t, t'] := by rw [← Array.toArray_toList (xs := c.argTypes), hts]
  have hex : execOp a.eval o = (do pure (Next.value (← Builtin.append_ #[t, t'] o.type #[a.eval s, a.eval x]))) := by
    simp [execOp, hop, resolve, hcl, a1, a2, invoke, builtin]
  have hwp : ∀ v w', (Builtin.append_ #[t, t'] o.type #[a.eval s, a.eval x]).run P w = .ok v w' → K (a.put o.dst v) w' → o.wp P a w K Q := fun v w' h1 h2 => by
    unfold Oper.wp
    simp only [hex, Sem.run_bind, h1, Result.andThen_ok, Sem.run_pure]
    exact h2
  have hs := opV_spec h.t s
  have hx := opV_spec h.t x
  unfold appE at hh
  split at hh
  · rename_i b' off' len' cap' e hxv hse
    rw [hxv] at hx
    have hxr : a.eval x = .slice (some ⟨m b', off', none⟩) len' cap' := hx.2
    split at hh
    · rename_i i z hi hz
      split at hh
      · rename_i news hnews
        obtain ⟨n1, n2, n3⟩ := headC_spec h.mm h.b hnews
        cases htt : Nat.beq t t' with
        | false => simp [htt, T.holds] at hh
        | true =>
          have htt := Nat.eq_of_beq_eq_true htt
          subst htt
          simp only [Nat.beq_refl, Bool.not_true, cond_false] at hh
          obtain ⟨inf, zv, hi', hzz, hcz⟩ := zeroL_spec hz
          rw [hi] at hi'
          simp only [Option.some.injEq] at hi'
          subst hi'
          have hcz := constL_spec hcz n bl.length ρ m
          cases hnil : isNilB (opV tm s) with
          | true =>
            simp only [hnil, cond_true] at hh
            have hsr : a.eval s = .slice none 0 0 := by
              unfold isNilB at hnil
              split at hnil
              · rename_i hv
                rw [hv] at hs
                exact hs.2
              · cases hnil
            obtain ⟨⟨c1, c2, c3, c4⟩, c5⟩ := growE_wp (Z := zv.cells) h (fun _ h => by simp at h) n2 hcz.1 hcz.2 hh hk
            simp only [Nat.zero_add] at c1 c2 c3 c4 c5
            refine hwp _ _ ?_ c5
            rw [hsr, hxr, run_append_nil w t _ e i zv (slcOf_spec hse) hi hzz ⟨m b', off', none⟩ len' cap' (news.map (A.den ρ m)) (by simpa using n1) n3 c4 (by omega) (by rw [nextslicecap_zero c4] at c2; exact c2)]
            simp
          | false =>
            simp only [hnil, cond_false] at hh
            split at hh
            · rename_i b off len cap hsv
              rw [hsv] at hs
              have hsr : a.eval s = .slice (some ⟨m b, off, none⟩) len cap := hs.2
              split at hh
              · rename_i olds hold
                obtain ⟨o1, o2, o3⟩ := headC_spec h.mm h.b hold
                obtain ⟨⟨c1, c2, c3, c4⟩, c5⟩ := growE_wp (Z := zv.cells) h o2 n2 hcz.1 hcz.2 hh hk
                refine hwp _ _ ?_ c5
                rw [hsr, hxr, run_append_grow w t _ e i zv (slcOf_spec hse) hi hzz ⟨m b, off, none⟩ len cap (olds.map (A.den ρ m)) (by simpa using o1) o3 ⟨m b', off', none⟩ len' cap' (news.map (A.den ρ m)) (by simpa using n1) n3 c3 (by omega) c2]
              · exact hh.elim
            · rename_i b len lo hsv
              rw [hsv] at hs
              obtain ⟨cp, hcp, hsr⟩ := hs.2
              split at hh
              · rename_i cs ty hbl
                cases hc : (Nat.ble (len + len') lo && Nat.ble ((len + len') * i.size) cs.length && Nat.blt 0 (len' * i.size) && isOrd cs && isOrd (cs.take (len * i.size) ++ news ++ cs.drop (len * i.size + news.length))) with
                | false => rw [hc] at hh; exact hh.elim
                | true =>
                  simp only [hc, cond_true] at hh
                  simp only [Bool.and_eq_true] at hc
                  obtain ⟨⟨hc, ho1⟩, ho2⟩ := hc
                  have c1 := Nat.le_of_ble_eq_true hc.1.1
                  have c2 := Nat.le_of_ble_eq_true hc.1.2
                  have c3 := blt_lt hc.2
                  obtain ⟨w', hrun, hm'⟩ := h.mm.storeCells (P := P) (off := len * i.size) (l := news) h.b n2 hbl (by rw [n1, ← Nat.add_mul]; exact c2) ho1 ho2
                  have hok : ∀ a ∈ cs.take (len * i.size) ++ news ++ cs.drop (len * i.size + news.length), A.ok n bl.length ρ a := fun a ha => by
                    have hcs := h.b _ (List.mem_of_getElem? hbl)
                    rcases List.mem_append.1 ha with ha | ha
                    · rcases List.mem_append.1 ha with ha | ha
                      · exact hcs a (List.mem_of_mem_take ha)
                      · exact n2 a ha
                    · exact hcs a (List.mem_of_mem_drop ha)
                  have hblt : b < bl.length := (List.getElem?_eq_some_iff.1 hbl).1
                  refine hwp (.slice (some ⟨m b, 0, none⟩) (len + len') cp) w' ?_ (hk n ρ m _ _ G _ w' ⟨Nat.le_refl _, agree.refl _ _, by rw [setB_length]; exact Nat.le_refl _, fun _ _ => rfl⟩ (AgA.refl _ _) ⟨?_, by rw [put_defers]; exact h.d, h.b.set hok, hm'⟩ hh)
                  · have hfn := run_firstCells_some (P := P) w i.size len' ⟨m b', off', none⟩ len' cap' (news.map (A.den ρ m)) (by simpa using n1) n3
                    have hle : len + len' ≤ cp := by omega
                    rw [hsr, hxr]
                    simp [Builtin.append_, run_underlying (slcOf_spec hse), sizeOf, typeInfo, hi, Builtin.lenOf, hle, hfn, addr_add, hrun]
                  · rw [setB_length]
                    exact TRel.put h.t o.dst hblt ⟨cp, by omega, rfl⟩
              · exact hh.elim
            · exact hh.elim
      · exact hh.elim
    · exact hh.elim
  · exact hh.elim

/-- A quiet operation, walked. -/
theorem quiet_wp {n : Nat} {ρ : Env} {m : Nat → Nat} {tm : List V} {bl : List Blk} {a : Act} {w : World} {G : Again} {o : Oper} {K : Act → World → Prop} {Q : Exit → Act → World → Prop} {k : SK}
    (hcal : CalOk S P gl w0 cal) (hg : GOk gl w0) (h : R w0 n ρ m tm bl a w) (hh : (qop P cal gl bl tm o n fun v n' => k n' (putV tm o.dst v) bl).holds S L G ρ) (hk : SKok S L w0 k n bl.length ρ m G K) : o.wp P a w K Q := by
  obtain ⟨ρ', n', v, hn, ha, ⟨hv, val, hr, hq⟩, hh'⟩ := qop_snd (L := L) hcal h.b hg ⟨w, h.mm⟩ h.t o G _ hh
  have hl : Later n bl.length ρ m n' bl.length ρ' m := ⟨hn, ha, Nat.le_refl _, fun _ _ => rfl⟩
  have hR : ∀ w', w.Extends w' → R w0 n' ρ' m (putV tm o.dst v) bl (a.put o.dst val) w' := fun w' he =>
    ⟨TRel.put (h.t.ext ha hn (Nat.le_refl _) (fun _ _ => rfl)) o.dst hv hr, by rw [put_defers]; exact h.d, h.b.ext ha hn (Nat.le_refl _), (h.mm.grow he).rho h.b ha⟩
  unfold Oper.wp
  rcases hq w h.mm with hq | ⟨f, args, hq, hc⟩
  · rw [hq]
    exact hk n' ρ' m _ bl G _ w hl (AgA.refl _ _) (hR w (World.Extends.refl w)) hh'
  · rw [hq]
    refine hc.mono fun e w'' ⟨he, hx⟩ => ?_
    subst he
    exact hk n' ρ' m _ bl G _ w'' hl (AgA.refl _ _) (hR w'' hx) hh'

theorem cloOf_spec {n nb : Nat} {ρ : Env} {m : Nat → Nat} {v : V} {f : Nat} {caps : List A} {x : Value} (h : cloOf v = some (f, caps)) (hv : v.ok n nb ρ) (hr : v.rel ρ m x) :
    (∀ y ∈ caps, A.ok n nb ρ y) ∧ x = .func (.func f) #[] (caps.map (A.den ρ m)).toArray := by
  unfold cloOf at h
  split at h
  · simp only [Option.some.injEq, Prod.mk.injEq] at h
    obtain ⟨rfl, rfl⟩ := h
    exact ⟨hv, hr⟩
  · rename_i f' a b
    cases hc : (Nat.beq a.size 0 && Nat.beq b.size 0) with
    | false => simp [hc] at h
    | true =>
      simp only [hc, cond_true, Option.some.injEq, Prod.mk.injEq] at h
      obtain ⟨rfl, rfl⟩ := h
      simp only [Bool.and_eq_true] at hc
      have e1 := Array.eq_empty_of_size_eq_zero (Nat.eq_of_beq_eq_true hc.1)
      have e2 := Array.eq_empty_of_size_eq_zero (Nat.eq_of_beq_eq_true hc.2)
      subst e1; subst e2
      have hr : x = .func (.func f') #[] #[] := hr
      exact ⟨fun y hy => by simp at hy, by rw [hr]; rfl⟩
  · cases h
end
end Go.Rx

/- Rows that grow: soundness. -/
set_option linter.unusedVariables false
set_option linter.unusedSimpArgs false
namespace Go.Rx
open M

theorem RowOk.row {sh : List CK} {row : List Int} (hs : shOk sh = true) (h : RowOk sh row) : rowOk row := by
  unfold shOk at hs
  simp only [Bool.and_eq_true] at hs
  obtain ⟨⟨h0, h00⟩, h2⟩ := hs
  refine ⟨by rw [h.len]; exact Nat.le_of_ble_eq_true h0, ?_⟩
  have hp := HB_pos
  clear h0 h00
  induction sh generalizing row with
  | nil =>
    cases row with
    | nil => intro z hz; simp at hz
    | cons _ _ => exact h.elim
  | cons c sh ih =>
    cases row with
    | nil => exact h.elim
    | cons x r =>
      simp only [List.all_cons, Bool.and_eq_true] at h2
      intro z hz
      rcases List.mem_cons.1 hz with rfl | hz
      · have h3 := h.1
        cases c with
        | int k lo hi =>
          have h4 := h2.1
          simp only [Bool.and_eq_true, decide_eq_true_eq] at h4
          simp only [CK.bd] at h3
          omega
        | str => simp only [CK.bd] at h3; omega
        | bool => simp only [CK.bd] at h3; omega
      · exact ih h.2 h2.2 z hz
theorem RB_rows {sh : List CK} {rows : List (List Int)} (hs : shOk sh = true) (hl : rows.length ≤ 1073741824) (h : ∀ row ∈ rows, RowOk sh row) : rc rows ≤ RB :=
  RB_c (by unfold maxLen; omega) fun row hr => (h row hr).row hs
theorem CK.val_one (c : CK) (z : Int) : (c.val z).oneCell' = true := by cases c <;> rfl
theorem rowV_one : ∀ {sh : List CK} {row : List Int}, ∀ u ∈ rowV sh row, u.oneCell' = true
  | [], _, u, h => by simp [rowV] at h
  | _ :: _, [], u, h => by simp [rowV] at h
  | c :: sh, z :: r, u, h => by
    simp only [rowV, List.mem_cons] at h
    rcases h with rfl | h
    · exact CK.val_one c z
    · exact rowV_one u h
theorem flatV_one {sh : List CK} {rows : List (List Int)} : ∀ u ∈ flatV sh rows, u.oneCell' = true := fun u h => by
  obtain ⟨row, _, h⟩ := List.mem_flatMap.1 h
  exact rowV_one u h
theorem RowsAt.flat {cells : Array Value} {off : Nat} {sh : List CK} {rows : List (List Int)} (h : RowsAt cells off sh rows) {j : Nat} {v : Value} (hj : (flatV sh rows)[j]? = some v) : cells[off + j]? = some v := by
  obtain ⟨h1, pre, post, h2, h3⟩ := h
  have hlt := (List.getElem?_eq_some_iff.1 hj).1
  rw [← Array.getElem?_toList, h2, List.append_assoc, List.getElem?_append_right (by omega), List.getElem?_append_left (by omega)]
  rw [show off + j - pre.length = j by omega]; exact hj
theorem RowsAt.sub {cells : Array Value} {off : Nat} {sh : List CK} {rows : List (List Int)} (h : RowsAt cells off sh rows) (a k : Nat) (ha : a ≤ rows.length) : RowsAt cells (off + a * sh.length) sh ((rows.drop a).take k) := by
  obtain ⟨h1, pre, post, h2, h3⟩ := h
  refine ⟨fun row hr => h1 row (List.mem_of_mem_drop (List.mem_of_mem_take hr)), pre ++ flatV sh (rows.take a), flatV sh ((rows.drop a).drop k) ++ post, ?_, ?_⟩
  · rw [h2]
    have : rows = rows.take a ++ ((rows.drop a).take k ++ (rows.drop a).drop k) := by rw [List.take_append_drop, List.take_append_drop]
    conv => lhs; rw [this]
    simp only [flatV_append, List.append_assoc]
  · rw [List.length_append, h3, flatV_len fun row hr => h1 row (List.mem_of_mem_take hr), List.length_take, Nat.min_eq_left ha]

section
variable {S : Nat → List Int → List Int → Prop} {L : V → Env → Prop} {n : Nat} {ρ : Env} {m : Nat → Nat} {bl : List Blk} {gl : Glo} {w0 : Base} {P : Program}

theorem indM_snd {e : BE} : Snd S L (indM e) n ρ fun ρ' n' l => l.sc n' ∧ (0 ≤ l.den ρ' ∧ l.den ρ' ≤ 1) ∧ e.den ρ = decide (l.den ρ' = 1) := by
  intro A k hk
  cases h : e.den ρ with
  | true => exact ⟨_, n + 1, _, Nat.le_succ _, agree.upd _ _ _, ⟨Lin.sc_var (Nat.lt_succ_self n), by simp [Lin.den_var, upd_same], by simp [Lin.den_var, upd_same]⟩, hk 1 (by decide) (by decide) (by simp [h])⟩
  | false => exact ⟨_, n + 1, _, Nat.le_succ _, agree.upd _ _ _, ⟨Lin.sc_var (Nat.lt_succ_self n), by simp [Lin.den_var, upd_same], by simp [Lin.den_var, upd_same]⟩, hk 0 (by decide) (by decide) (by simp [h])⟩
theorem cellLinM_snd {nb : Nat} {c : CK} {a : A} (ha : a.ok n nb ρ) : Snd S L (cellLinM c a) n ρ fun ρ' n' l => l.sc n' ∧ (c.bd.1 ≤ l.den ρ' ∧ l.den ρ' ≤ c.bd.2) ∧ c.val (l.den ρ') = a.den ρ m := by
  unfold cellLinM
  split
  · refine snd_guard fun hc => Snd.pure ?_
    simp only [Bool.and_eq_true, decide_eq_true_eq] at hc
    obtain ⟨⟨h1, h2⟩, h3⟩ := hc
    have h4 := ha.2
    refine ⟨ha.1, ⟨?_, ?_⟩, ?_⟩
    · simp only [CK.bd]; omega
    · simp only [CK.bd]; omega
    · simp only [CK.val, A.den, h1]
  · exact Snd.pure ⟨ha.1, ha.2, rfl⟩
  · split
    · rename_i v
      refine Snd.pure ⟨Lin.sc_const _ _, ?_, ?_⟩
      · simp only [CK.bd, Lin.den_const]; cases v <;> decide
      · simp only [CK.val, A.den, BE.den, Lin.den_const]; cases v <;> rfl
    · rename_i e _
      exact indM_snd.mono fun ρ' n' l _ _ ⟨h1, h2, h3⟩ => ⟨h1, h2, by simp only [CK.val, A.den, h3]⟩
  · exact Snd.fail
theorem rowLinM_snd {nb : Nat} : ∀ {sh : List CK} {l : List A} {n : Nat} {ρ : Env}, (∀ a ∈ l, A.ok n nb ρ a) → Snd S L (rowLinM sh l) n ρ fun ρ' n' ls => (∀ x ∈ ls, Lin.sc n' x) ∧ RowOk sh (ls.map (·.den ρ')) ∧ rowV sh (ls.map (·.den ρ')) = l.map (A.den ρ m)
  | [], [], n, ρ, _ => Snd.pure ⟨fun _ h => by simp at h, trivial, rfl⟩
  | c :: sh, a :: r, n, ρ, h => by
    have h0 := h a (by simp)
    refine (cellLinM_snd (m := m) h0).bind fun ρ1 n1 x hn ha ⟨g1, g2, g3⟩ => (rowLinM_snd (nb := nb) (sh := sh) (l := r) fun b hb => (h b (List.mem_cons_of_mem _ hb)).ext ha hn (Nat.le_refl _)).bind fun ρ2 n2 ls hn2 ha2 ⟨k1, k2, k3⟩ => Snd.pure ⟨fun y hy => ?_, ?_, ?_⟩
    · rcases List.mem_cons.1 hy with rfl | hy
      · exact g1.mono hn2
      · exact k1 y hy
    · simp only [List.map_cons]
      exact ⟨by rw [Lin.den_agree ha2 g1]; exact g2, k2⟩
    · simp only [List.map_cons, rowV, Lin.den_agree ha2 g1, g3, k3]
      rw [map_den_ext (fun b hb => h b (List.mem_cons_of_mem _ hb)) ha (fun _ _ => rfl)]
  | [], _ :: _, _, _, _ => Snd.fail
  | _ :: _, [], _, _, _ => Snd.fail
theorem chunkA_flat {w : Nat} : ∀ {k : Nat} {l : List A}, l.length = k * w → (chunkA w k l).length = k ∧ (chunkA w k l).flatten = l
  | 0, l, h => by
    have : l = [] := List.eq_nil_of_length_eq_zero (by omega)
    subst this; exact ⟨rfl, rfl⟩
  | k + 1, l, h => by
    rw [Nat.succ_mul] at h
    have ih := chunkA_flat (w := w) (k := k) (l := l.drop w) (by simp; omega)
    exact ⟨by simp [chunkA, ih.1], by simp [chunkA, ih.2]⟩
theorem chunkA_mem {w : Nat} : ∀ {k : Nat} {l : List A}, ∀ row ∈ chunkA w k l, ∀ a ∈ row, a ∈ l
  | 0, l, row, h, a, ha => by simp [chunkA] at h
  | k + 1, l, row, h, a, ha => by
    simp only [chunkA, List.mem_cons] at h
    rcases h with rfl | h
    · exact List.mem_of_mem_take ha
    · exact List.mem_of_mem_drop (chunkA_mem row h a ha)
theorem appRowsM_snd {nb : Nat} {sh : List CK} (hsh : shOk sh = true) : ∀ {rs : List (List A)} {n : Nat} {ρ : Env} {c : Lin}, (∀ row ∈ rs, ∀ a ∈ row, A.ok n nb ρ a) → c.sc n → (0 ≤ c.den ρ ∧ c.den ρ ≤ RB) → (∀ row ∈ rOf (c.den ρ), RowOk sh row) → (rOf (c.den ρ)).length + rs.length ≤ 1073741824 →
    Snd S L (appRowsM sh rs c) n ρ fun ρ' n' c' => c'.sc n' ∧ (0 ≤ c'.den ρ' ∧ c'.den ρ' ≤ RB) ∧ ∃ rows', rOf (c'.den ρ') = rOf (c.den ρ) ++ rows' ∧ rows'.length = rs.length ∧ (∀ row ∈ rows', RowOk sh row) ∧ flatV sh rows' = rs.flatten.map (A.den ρ m)
  | [], n, ρ, c, _, h1, h2, _, _ => Snd.pure ⟨h1, h2, [], by simp, rfl, fun _ h => by simp at h, rfl⟩
  | row :: rs, n, ρ, c, h0, h1, h2, h3, h4 => by
    refine (rowLinM_snd (nb := nb) (m := m) (sh := sh) (l := row) (h0 row (by simp))).bind fun ρ1 n1 ls hn ha ⟨g1, g2, g3⟩ => ?_
    have e1 : c.den ρ1 = c.den ρ := Lin.den_agree ha h1
    have hf : fnD 23 ((c :: ls).map (·.den ρ1)) = rc (rOf (c.den ρ) ++ [ls.map (·.den ρ1)]) := by
      simp only [List.map_cons, fnD, e1]
    simp only [List.length_cons] at h4
    have hrows : ∀ r ∈ rOf (c.den ρ) ++ [ls.map (·.den ρ1)], RowOk sh r := fun r hr => by
      rcases List.mem_append.1 hr with hr | hr
      · exact h3 r hr
      · simp at hr; subst hr; exact g2
    have hb : rc (rOf (c.den ρ) ++ [ls.map (·.den ρ1)]) ≤ RB := RB_rows hsh (by simp; omega) hrows
    refine (fnM_snd (by rw [hf]; exact rc_nonneg _) (by rw [hf]; exact hb)).bind fun ρ2 n2 c' hn2 ha2 ⟨k1, k2⟩ => ?_
    rw [hf] at k2
    have e2 : rOf (c'.den ρ2) = rOf (c.den ρ) ++ [ls.map (·.den ρ1)] := by rw [k2, rOf_rc]
    have hA := ha.trans ha2 hn
    refine (appRowsM_snd (nb := nb) (rs := rs) (c := c') hsh (fun r hr a har => (h0 r (List.mem_cons_of_mem _ hr) a har).ext hA (Nat.le_trans hn hn2) (Nat.le_refl _)) k1 (by rw [k2]; exact ⟨rc_nonneg _, hb⟩) (by rw [e2]; exact hrows) (by rw [e2]; simp; omega)).mono fun ρ3 n3 c3 hn3 ha3 ⟨p1, p2, rows', p3, p4, p5, p6⟩ => ⟨p1, p2, ls.map (·.den ρ1) :: rows', ?_, by simp [p4], fun r hr => ?_, ?_⟩
    · rw [p3, e2]; simp
    · rcases List.mem_cons.1 hr with rfl | hr
      · exact g2
      · exact p5 r hr
    · show rowV sh (ls.map (·.den ρ1)) ++ flatV sh rows' = _
      rw [p6, g3, List.flatten_cons, List.map_append]
      congr 1
      refine List.map_congr_left fun a haf => A.den_ext (n := n) (nb := nb) ?_ hA (fun _ _ => rfl)
      obtain ⟨r, hr, har⟩ := List.mem_flatten.1 haf
      exact h0 r (List.mem_cons_of_mem _ hr) a har

/-- What is appended. -/
def SrcR (P : Program) (tx : TypeId) (sh : List CK) (X : Value) (w : World) (old : List (List Int)) (ρ' : Env) (n' : Nat) (p : Lin × Lin) : Prop :=
  p.1.sc n' ∧ p.2.sc n' ∧ (0 ≤ p.1.den ρ' ∧ p.1.den ρ' ≤ RB) ∧ ∃ rows', rOf (p.1.den ρ') = old ++ rows' ∧ p.2.den ρ' = rows'.length ∧ (∀ row ∈ rows', RowOk sh row) ∧ old.length + rows'.length ≤ 1073741824 ∧ Src P sh.length tx X rows'.length (flatV sh rows') w
theorem srcM_snd {sh : List CK} (hsh : shOk sh = true) {w : World} (hb : BlOk n bl.length ρ bl) (hw : Mem w0 ρ m bl w) {tx : TypeId} {x : V} {X : Value} (hx : x.ok n bl.length ρ) (hX : x.rel ρ m X) {base : Lin} (hbs : base.sc n)
    (hbb : 0 ≤ base.den ρ ∧ base.den ρ ≤ RB) (hbr : ∀ row ∈ rOf (base.den ρ), RowOk sh row) : Snd S L (srcM P tx sh bl x base) n ρ (SrcR P tx sh X w (rOf (base.den ρ))) := by
  unfold srcM
  split
  · rename_i b off len cap
    split
    · rename_i cs e' hcs htx
      obtain ⟨c1, c2, c3⟩ := headC_spec hw hb hcs
      refine chkM_snd fun hk => ?_
      simp only [List.map_cons, List.map_nil, chkD, Lin.den_const] at hk
      have hch := chunkA_flat (w := sh.length) (k := len) c1
      refine (appRowsM_snd (nb := bl.length) (m := m) hsh (rs := chunkA sh.length len cs) (c := base) (fun row hr a ha => c2 a (chunkA_mem row hr a ha)) hbs hbb hbr (by rw [hch.1]; omega)).bind fun ρ1 n1 c' hn ha ⟨p1, p2, rows', p3, p4, p5, p6⟩ => Snd.pure ⟨p1, Lin.sc_const _ _, p2, rows', p3, ?_, p5, by rw [p4, hch.1]; omega, ?_⟩
      · rw [Lin.den_const, p4, hch.1]
      · have hX : X = .slice (some ⟨m b, off, none⟩) len cap := hX
        rw [hch.2] at p6
        rw [hX, p6, p4, hch.1]
        exact Src.ofSlice w (slcOf_spec htx) _ _ _ _ (by simpa using c1) c3 (fun u hu => by
          obtain ⟨a, ha, rfl⟩ := List.mem_map.1 hu
          exact A.oneCell (c2 a ha))
    · exact Snd.fail
  · rename_i b sz o ro len cap
    split
    · rename_i sh' off code capb kind bt e' hbl htx
      refine snd_guard fun hc => chkM_snd fun hk1 => chkM_snd fun hk2 => ?_
      simp only [Bool.and_eq_true] at hc
      obtain ⟨⟨⟨c1, c2⟩, c3⟩, c4⟩ := hc
      have c1 : 0 < kind := Nat.le_of_ble_eq_true c1
      have c2 := shBeq_eq c2
      have c3 := Lin.beq_eq c3
      have c4 := Nat.eq_of_beq_eq_true c4
      subst c2; subst c3; subst c4
      simp only [List.map_cons, List.map_nil, chkD, Lin.den_add] at hk1 hk2
      have hxo : (A.sl b sh.length o ro len cap).ok n bl.length ρ := hx
      obtain ⟨ptr, e1, e2, e3⟩ := sl_den (m := m) hxo
      have hX : X = (A.sl b sh.length o ro len cap).den ρ m := hX
      rw [e1] at hX
      obtain ⟨x1, ⟨x2, x3, x4, x5⟩, ⟨x6, x7, x8, x9⟩, ⟨x10, x13⟩, x11, x12⟩ := hxo
      have hrr := hw.rws b sh o code capb kind bt hbl (by omega)
      have hrk : ∀ row ∈ rOf (code.den ρ), RowOk sh row := fun row hr => by
        rcases Int.lt_or_le (capb.den ρ) 0 with h | h
        · rw [hrr.1 h] at hr; simp at hr
        · obtain ⟨_, cells, tq, fz, _, ⟨_, g3⟩, _⟩ := hrr.2 h
          exact g3.1 row hr
      have hsub : ∀ row ∈ (((rOf (code.den ρ)).drop (ro.den ρ).toNat).take (len.den ρ).toNat), RowOk sh row := fun row hr => hrk row (List.mem_of_mem_drop (List.mem_of_mem_take hr))
      have hlen : (((rOf (code.den ρ)).drop (ro.den ρ).toNat).take (len.den ρ).toNat).length = (len.den ρ).toNat := by simp; omega
      have hf1 : fnD 22 ([code, ro, ro.add len].map (·.den ρ)) = rc (((rOf (code.den ρ)).drop (ro.den ρ).toNat).take (len.den ρ).toNat) := by
        simp only [List.map_cons, List.map_nil, fnD, Lin.den_add]
        have : (ro.den ρ + len.den ρ).toNat - (ro.den ρ).toNat = (len.den ρ).toNat := by omega
        rw [this]
      have hSrc : Src P sh.length tx X (((rOf (code.den ρ)).drop (ro.den ρ).toNat).take (len.den ρ).toNat).length (flatV sh (((rOf (code.den ρ)).drop (ro.den ρ).toNat).take (len.den ρ).toNat)) w := by
        rw [hX]
        by_cases hcap : cap.den ρ < 0
        · have h0 := x11 hcap
          rw [e2 hcap, if_pos hcap, h0]
          simp only [Int.toNat_zero, List.take_zero]
          exact Src.ofNil w (slcOf_spec htx) 0
        · rw [e3 (by omega), if_neg hcap, hlen]
          refine Src.ofSlice w (slcOf_spec htx) _ _ _ _ (by rw [flatV_len hsub, hlen]) (fun j u hu => ?_) flatV_one
          rw [addr_add]
          rcases Int.lt_or_le (capb.den ρ) 0 with h | h
          · rw [hrr.1 h] at hu; simp [flatV] at hu
          · obtain ⟨_, cells, tq, fz, g1, ⟨_, g3⟩, _⟩ := hrr.2 h
            have := (g3.sub (ro.den ρ).toNat (len.den ρ).toNat (by omega)).flat hu
            simp only [World.cell?, g1, Option.isSome_none, Bool.false_eq_true, if_false]
            exact this
      generalize hmid : (((rOf (code.den ρ)).drop (ro.den ρ).toNat).take (len.den ρ).toNat) = mid at hsub hlen hf1 hSrc
      have hb1 : rc mid ≤ RB := RB_rows hsh (by omega) hsub
      refine (fnM_snd (by rw [hf1]; exact rc_nonneg _) (by rw [hf1]; exact hb1)).bind fun ρ1 n1 s hn1 ha1 ⟨g1, g2⟩ => ?_
      rw [hf1] at g2
      have eb : base.den ρ1 = base.den ρ := Lin.den_agree ha1 hbs
      have hf2 : fnD 24 ([base, s].map (·.den ρ1)) = rc (rOf (base.den ρ) ++ mid) := by
        simp only [List.map_cons, List.map_nil, fnD, eb, g2, rOf_rc]
      have hall : ∀ row ∈ rOf (base.den ρ) ++ mid, RowOk sh row := fun row hr => (List.mem_append.1 hr).elim (hbr row) (hsub row)
      have hb2 : rc (rOf (base.den ρ) ++ mid) ≤ RB := RB_rows hsh (by simp; omega) hall
      refine (fnM_snd (by rw [hf2]; exact rc_nonneg _) (by rw [hf2]; exact hb2)).bind fun ρ2 n2 c hn2 ha2 ⟨k1, k2⟩ => Snd.pure ⟨k1, x4.mono (Nat.le_trans hn1 hn2), ?_, mid, ?_, ?_, hsub, by omega, hSrc⟩
      · rw [k2, hf2]; exact ⟨rc_nonneg _, hb2⟩
      · rw [k2, hf2, rOf_rc]
      · rw [Lin.den_agree (ha1.trans ha2 hn1) x4, hlen]; omega
    · exact Snd.fail
  · rename_i l
    split
    · rename_i hu
      refine snd_guard fun hbs1 => ?_
      have hshape : ∃ lo hi, sh = [.int .u8 lo hi] ∧ lo = 0 ∧ hi = 255 := by
        unfold byteSh at hbs1
        split at hbs1
        · simp only [Bool.and_eq_true, decide_eq_true_eq] at hbs1
          exact ⟨_, _, rfl, hbs1.1, hbs1.2⟩
        · cases hbs1
      obtain ⟨lo, hi, rfl, rfl, rfl⟩ := hshape
      have hl : (A.str l).ok n bl.length ρ := hx
      have hX : X = .string (bA (sOf (l.den ρ))) := hX
      have hlm := HB_s hl.2.2
      unfold mxL at hlm
      refine (fnM_snd (op := 0) (args := [l]) (Int.natCast_nonneg _) (by show ((sOf (l.den ρ)).length : Int) ≤ _; omega)).bind fun ρ1 n1 len hn1 ha1 ⟨g1, g2⟩ => chkM_snd fun hk => ?_
      have g2 : len.den ρ1 = (sOf (l.den ρ)).length := g2
      have eb : base.den ρ1 = base.den ρ := Lin.den_agree ha1 hbs
      have el : l.den ρ1 = l.den ρ := Lin.den_agree ha1 hl.1
      simp only [List.map_cons, List.map_nil, chkD, eb, g2] at hk
      have hf1 : fnD 27 ([l].map (·.den ρ1)) = rc ((sOf (l.den ρ)).map fun b => [(b.toNat : Int)]) := by
        simp only [List.map_cons, List.map_nil, fnD, el]
      have hmid : ∀ row ∈ ((sOf (l.den ρ)).map fun b => [(b.toNat : Int)]), RowOk [.int .u8 0 255] row := fun row hr => by
        obtain ⟨b, _, rfl⟩ := List.mem_map.1 hr
        have := b.toNat_lt
        refine ⟨⟨?_, ?_⟩, trivial⟩
        · simp only [CK.bd]; omega
        · simp only [CK.bd]; omega
      have hml : ((sOf (l.den ρ)).map fun b => [(b.toNat : Int)]).length = (sOf (l.den ρ)).length := by simp
      have hfl : flatV [.int .u8 0 255] ((sOf (l.den ρ)).map fun b => [(b.toNat : Int)]) = byteCells (bA (sOf (l.den ρ))) := by
        unfold byteCells flatV bA
        simp only [List.flatMap_map]
        generalize sOf (l.den ρ) = q
        induction q with
        | nil => rfl
        | cons y r ih => rw [List.flatMap_cons, List.map_cons, ih]; rfl
      have hSrc := Src.ofString (P := P) w hu (bA (sOf (l.den ρ)))
      rw [← hfl, bA_size, ← hX] at hSrc
      generalize hmm : ((sOf (l.den ρ)).map fun b => [(b.toNat : Int)]) = mid at hmid hml hf1 hSrc
      have hb1 : rc mid ≤ RB := RB_rows hsh (by omega) hmid
      refine (fnM_snd (by rw [hf1]; exact rc_nonneg _) (by rw [hf1]; exact hb1)).bind fun ρ2 n2 s hn2 ha2 ⟨h1, h2⟩ => ?_
      rw [hf1] at h2
      have eb2 : base.den ρ2 = base.den ρ := (Lin.den_agree ha2 (hbs.mono hn1)).trans eb
      have hf2 : fnD 24 ([base, s].map (·.den ρ2)) = rc (rOf (base.den ρ) ++ mid) := by
        simp only [List.map_cons, List.map_nil, fnD, eb2, h2, rOf_rc]
      have hall : ∀ row ∈ rOf (base.den ρ) ++ mid, RowOk [.int .u8 0 255] row := fun row hr => (List.mem_append.1 hr).elim (hbr row) (hmid row)
      have hb2 : rc (rOf (base.den ρ) ++ mid) ≤ RB := RB_rows hsh (by simp; omega) hall
      refine (fnM_snd (by rw [hf2]; exact rc_nonneg _) (by rw [hf2]; exact hb2)).bind fun ρ3 n3 c hn3 ha3 ⟨k1, k2⟩ => Snd.pure ⟨k1, g1.mono (Nat.le_trans hn2 hn3), ?_, mid, ?_, ?_, hmid, by omega, ?_⟩
      · rw [k2, hf2]; exact ⟨rc_nonneg _, hb2⟩
      · rw [k2, hf2, rOf_rc]
      · rw [Lin.den_agree (ha2.trans ha3 hn2) g1, g2, hml]
      · rw [hml]; exact hSrc
    · exact Snd.fail
  · split
    · rename_i e' htx
      refine chkM_snd fun hk => Snd.pure ⟨hbs, Lin.sc_const _ _, hbb, [], by simp, by simp [Lin.den_const], fun _ h => by simp at h, ?_, ?_⟩
      · simp only [List.map_cons, List.map_nil, chkD, Lin.den_const] at hk
        simp only [List.length_nil]; omega
      · have hX : X = .slice none 0 0 := hX
        rw [hX]
        exact Src.ofNil w (slcOf_spec htx) 0
    · exact Snd.fail
  · exact Snd.fail

theorem toNat_add {x : Int} {k : Nat} (h : 0 ≤ x) : (x + (k : Int)).toNat = x.toNat + k := by omega
theorem run_append_room_row (w : World) (t tx ty e : TypeId) (i : TypeInfo) (ht : P.underlying t = some (.slice e)) (hi : P.info? e = some i) (g sLen sCap : Nat) (cur : Array Value) (et : TypeId) (hg : w.heap[g]? = some (.cells cur et (0, 0))) (x : Value) (k : Nat) (news : List Value) (hs : Src P i.size tx x k news w)
    (hroom : sLen + k ≤ sCap) (hfit : sLen * i.size + news.length ≤ cur.size) :
    (Builtin.append_ #[t, tx] ty #[.slice (some ⟨g, 0, none⟩) sLen sCap, x]).run P w = .ok (.slice (some ⟨g, 0, none⟩) (sLen + k) sCap) (w.setRow g (cur.toList.take (sLen * i.size) ++ news ++ cur.toList.drop (sLen * i.size + news.length)).toArray) := by
  have hst := run_storeCells_at P g (sLen * i.size) et news 0 cur w hg (by simpa using hfit) hs.one
  simp only [Nat.add_zero] at hst
  rcases hs.kind with ⟨e', hk⟩ | hk <;> simp [Builtin.append_, run_underlying ht, run_underlying hk, sizeOf, typeInfo, hi, hs.len, hroom, hs.cells, Addr.add_lit, hst]
theorem zeroCells_size (Z : Array Value) (k : Nat) : (Builtin.zeroCells Z k).size = k * Z.size := by simp [Builtin.zeroCells]
theorem grown_le (w : World) (need old : Nat) (e : TypeId) (h : need ≤ 1073741824) : need ≤ grownCap w need old e ∧ grownCap w need old e ≤ 9223372036854775807 := by
  have hlt := Nat.mod_lt (w.tape w.drawn (.appendCap need old e)) (show 0 < 2 ^ 63 - need by omega)
  simp only [grownCap, Question.cut]
  omega
/-- A slice of one's own, told anew: at its room. -/
theorem pushC_wp {kd : Nat} {tm : List V} {a : Act} {w : World} {G : Again} {K : Act → World → Prop} {k : SK} {e : TypeId} {d : Option Tmp} {sh : List CK} {code len : Lin} {c : Int} {g : Nat}
    (hkd : 2 ≤ kd) (h : R w0 n ρ m tm bl a w) (hcs : code.sc n) (hls : len.sc n) (hc1 : 0 ≤ code.den ρ ∧ code.den ρ ≤ RB) (hc : -1 ≤ c ∧ c ≤ 9223372036854775807) (hsl : slOk 0 0 (len.den ρ) c)
    (hnil : c < 0 → rOf (code.den ρ) = [])
    (hlive : 0 ≤ c → ∃ (cells : Array Value) (fz : Nat × Nat), (w.heap[g]? = some (.cells cells e fz) ∧ FzOk kd fz cells.size) ∧ RowsAt cells 0 sh (rOf (code.den ρ)) ∧ cells.size = c.toNat * sh.length ∧ w0.b.heap.size ≤ g ∧ (w0.ex g ∨ w0.r.heap.size ≤ g))
    (hinj : ∀ (i : Nat) (p : Blk), bl[i]? = some p → m i = g → kindC ρ p.1 = 0 ∨ c < 0)
    (hh : (k (n + 1) (putV tm d (.w (.one (.sl bl.length sh.length (.const 0) (.const 0) len (.var n))))) (bl ++ [([.rows sh (.const 0) code (.var n) kd], (e, false))])).holds S L G (upd ρ n c)) (hk : SKok S L w0 k n bl.length ρ m G K) :
    K (a.put d (if c < 0 then .slice none 0 0 else .slice (some ⟨g, 0, none⟩) (len.den ρ).toNat c.toNat)) w := by
  have ha : agree n ρ (upd ρ n c) := agree.upd _ _ _
  have hb1 : BlOk (n + 1) bl.length (upd ρ n c) bl := h.b.ext ha (Nat.le_succ _) (Nat.le_refl _)
  have hm1 : Mem w0 (upd ρ n c) m bl w := h.mm.rho h.b ha
  have e1 : code.den (upd ρ n c) = code.den ρ := Lin.den_agree ha hcs
  have e2 : len.den (upd ρ n c) = len.den ρ := Lin.den_agree ha hls
  have e3 : (Lin.var n).den (upd ρ n c) = c := by simp [Lin.den_var, upd_same]
  have hA : (A.rows sh (.const 0) code (.var n) kd).ok (n + 1) bl.length (upd ρ n c) := ⟨⟨Lin.sc_const _ _, hcs.mono (Nat.le_succ _), Lin.sc_var (Nat.lt_succ_self n)⟩, by rw [e1]; exact hc1, by rw [e3]; omega⟩
  have hM := hm1.push (x := ([.rows sh (.const 0) code (.var n) kd], (e, false))) (g := g) hb1 (fun y hy => by simp at hy; subst hy; exact hA) (fun ho => by cases ho) (fun sh' off' code' cap' kind' he => by
      cases he
      intro _
      refine ⟨fun h => by rw [e3] at h; rw [e1]; exact hnil h, fun h => ?_⟩
      rw [e3] at h
      obtain ⟨cells, fz, ⟨g1, g1'⟩, g2, g3, g4, g5⟩ := hlive h
      exact ⟨g5.elim .inl fun h => .inr (.inr h), cells, e, fz, g1, ⟨by rw [Lin.den_const]; exact Int.le_refl _, by rw [e1, Lin.den_const]; exact g2⟩, fun _ => ⟨rfl, Lin.den_const _ _, g1', by rw [e3]; exact g3, g4, g5⟩⟩) (fun i p hi he => by
      rcases hinj i p hi he with h9 | h9
      · exact .inr (.inl (by rw [kindC_agree (h.b _ (List.mem_of_getElem? hi)) ha]; exact h9))
      · refine .inr (.inr ?_)
        simp only [kindC, e3]
        rw [if_pos h9])
  have hL : Later n bl.length ρ m (n + 1) (bl ++ [([A.rows sh (.const 0) code (.var n) kd], (e, false))]).length (upd ρ n c) (updM m bl.length g) := ⟨Nat.le_succ _, ha, by simp, fun b hb => updM_lt hb⟩
  refine hk _ _ _ _ _ G _ _ hL (AgA.refl _ _) ⟨TRel.put (h.t.ext hL.ha hL.hn hL.hb hL.hm) d ?_ ?_, by rw [put_defers]; exact h.d, hb1.alloc (fun y hy => by simp at hy; subst hy; exact hA), hM⟩ hh
  · refine ⟨by simp, ⟨Lin.sc_const _ _, Lin.sc_const _ _, hls.mono (Nat.le_succ _), Lin.sc_var (Nat.lt_succ_self n)⟩, ?_⟩
    rw [Lin.den_const, e2, e3]
    exact hsl
  · simp only [V.rel, W.den, A.den, e2, e3, Lin.den_const, updM_same]
    split <;> simp
/-- A slice of one's own, told anew. -/
theorem pushK_wp {kd : Nat} {tm : List V} {a : Act} {w : World} {G : Again} {K : Act → World → Prop} {k : SK} {e : TypeId} {d : Option Tmp} {sh : List CK} {code len : Lin} {c : Int} {g : Nat}
    (hkd : 2 ≤ kd) (h : R w0 n ρ m tm bl a w) (hcs : code.sc n) (hls : len.sc n) (hc1 : 0 ≤ code.den ρ ∧ code.den ρ ≤ RB) (hc : -1 ≤ c ∧ c ≤ 9223372036854775807) (hsl : slOk 0 0 (len.den ρ) c)
    (hnil : c < 0 → rOf (code.den ρ) = [])
    (hlive : 0 ≤ c → ∃ (cells : Array Value) (fz : Nat × Nat), (w.heap[g]? = some (.cells cells e fz) ∧ FzOk kd fz cells.size) ∧ RowsAt cells 0 sh (rOf (code.den ρ)) ∧ cells.size = c.toNat * sh.length ∧ w0.b.heap.size ≤ g ∧ (w0.ex g ∨ w0.r.heap.size ≤ g))
    (hinj : ∀ (i : Nat) (p : Blk), bl[i]? = some p → m i = g → kindC ρ p.1 = 0 ∨ c < 0)
    (hh : (growK kd e d sh code len n tm bl k).holds S L G ρ) (hk : SKok S L w0 k n bl.length ρ m G K) :
    K (a.put d (if c < 0 then .slice none 0 0 else .slice (some ⟨g, 0, none⟩) (len.den ρ).toNat c.toNat)) w := by
  unfold growK at hh
  exact pushC_wp hkd h hcs hls hc1 hc hsl hnil hlive hinj (hh c (by omega) (by omega)) hk
/-- The same where nothing is marked. -/
theorem pushR_wp {tm : List V} {a : Act} {w : World} {G : Again} {K : Act → World → Prop} {k : SK} {e : TypeId} {d : Option Tmp} {sh : List CK} {code len : Lin} {c : Int} {g : Nat}
    (h : R w0 n ρ m tm bl a w) (hcs : code.sc n) (hls : len.sc n) (hc1 : 0 ≤ code.den ρ ∧ code.den ρ ≤ RB) (hc : -1 ≤ c ∧ c ≤ 9223372036854775807) (hsl : slOk 0 0 (len.den ρ) c)
    (hnil : c < 0 → rOf (code.den ρ) = [])
    (hlive : 0 ≤ c → ∃ cells : Array Value, w.heap[g]? = some (.cells cells e (0, 0)) ∧ RowsAt cells 0 sh (rOf (code.den ρ)) ∧ cells.size = c.toNat * sh.length ∧ w0.b.heap.size ≤ g ∧ (w0.ex g ∨ w0.r.heap.size ≤ g))
    (hinj : ∀ (i : Nat) (p : Blk), bl[i]? = some p → m i = g → kindC ρ p.1 = 0 ∨ c < 0)
    (hh : (growR e d sh code len n tm bl k).holds S L G ρ) (hk : SKok S L w0 k n bl.length ρ m G K) :
    K (a.put d (if c < 0 then .slice none 0 0 else .slice (some ⟨g, 0, none⟩) (len.den ρ).toNat c.toNat)) w :=
  pushK_wp (kd := 2) (Nat.le_refl 2) h hcs hls hc1 hc hsl hnil (fun h0 => by
    obtain ⟨cells, g1, g2⟩ := hlive h0
    exact ⟨cells, (0, 0), ⟨g1, .mk2⟩, g2⟩) hinj hh hk
/-- A new row that has grown. -/
theorem growR_wp {tm : List V} {a : Act} {w : World} {G : Again} {K : Act → World → Prop} {k : SK} {e : TypeId} {d : Option Tmp} {sh : List CK} {code len : Lin} {rows : List (List Int)} {c : Nat} {cells : Array Value}
    (h : R w0 n ρ m tm bl a w) (hcs : code.sc n) (hls : len.sc n) (hc1 : 0 ≤ code.den ρ ∧ code.den ρ ≤ RB) (hrows : rOf (code.den ρ) = rows) (hok : ∀ row ∈ rows, RowOk sh row) (hlen : len.den ρ = rows.length)
    (hcap : rows.length ≤ c) (hcap2 : c ≤ 9223372036854775807) (hcells : cells.size = c * sh.length) (hflat : ∃ post, cells.toList = flatV sh rows ++ post)
    (hh : (growR e d sh code len n tm bl k).holds S L G ρ) (hk : SKok S L w0 k n bl.length ρ m G K) :
    K (a.put d (.slice (some ⟨w.heap.size, 0, none⟩) rows.length c)) (w.drew.alloc (.cells cells e)) := by
  have hdrew : R w0 n ρ m tm bl a w.drew := ⟨h.t, h.d, h.b, h.mm.grow (World.Extends.drew (World.Extends.refl w))⟩
  have hR : R w0 n ρ m tm bl a (w.drew.alloc (.cells cells e)) := ⟨h.t, h.d, h.b, hdrew.mm.grow ((World.Extends.refl w.drew).alloc _)⟩
  have key := pushR_wp (c := (c : Int)) (g := w.heap.size) hR hcs hls hc1 ⟨by omega, by omega⟩ (by rw [hlen]; exact ⟨⟨by omega, by omega, by omega, by omega⟩, ⟨by omega, by omega⟩, fun h => by omega, fun _ => by omega⟩) (fun h => by omega)
    (fun _ => ⟨cells, heap_alloc_new w.drew _, by
      obtain ⟨post, hp⟩ := hflat
      rw [hrows]
      exact ⟨hok, [], post, by simpa using hp, rfl⟩, by simpa using hcells, h.mm.ext.size, .inr h.mm.hsize⟩) (fun i p hi he => by
      by_cases hk0 : kindC ρ p.1 = 0
      · exact .inl hk0
      · have := hdrew.mm.lt hi hk0
        have h9 : w.drew.heap.size = w.heap.size := rfl
        omega) hh hk
  rw [if_neg (by omega), hlen] at key
  simpa using key
theorem zcap_spec {nb : Nat} {v : V} {X : Value} (h : zcap v = true) (hv : v.ok n nb ρ) (hr : v.rel ρ m X) : ∃ base, X = .slice base 0 0 := by
  unfold zcap at h
  split at h
  · rename_i b sz o ro len cap
    split at h
    · rename_i l c hl hc
      simp only [Bool.and_eq_true, decide_eq_true_eq] at h
      have e1 := Lin.den_isC hl (ρ := ρ)
      have e2 := Lin.den_isC hc (ρ := ρ)
      have hr : X = (A.sl b sz o ro len cap).den ρ m := hr
      simp only [A.den, e1, e2, h.1, h.2] at hr
      exact ⟨_, hr⟩
    · cases h
  · rename_i b off len cap
    simp only [Bool.and_eq_true] at h
    have e1 := Nat.eq_of_beq_eq_true h.1
    have e2 := Nat.eq_of_beq_eq_true h.2
    subst e1; subst e2
    exact ⟨_, hr⟩
  · exact ⟨none, hr⟩
  · cases h
theorem firstCells_zero (w : World) (size : Nat) (base : Option Addr) (c : Nat) : (Builtin.firstCells size 0 (.slice base 0 c)).run P w = .ok #[] w := by
  cases base with
  | none => exact run_firstCells_none w size 0 0 c
  | some b => exact run_firstCells_some w size 0 b 0 c [] (by simp) (fun j v h => by simp at h)
theorem R.later {n' : Nat} {ρ' : Env} {tm : List V} {a : Act} {w : World} (h : R w0 n ρ m tm bl a w) (hn : n ≤ n') (ha : agree n ρ ρ') : R w0 n' ρ' m tm bl a w :=
  ⟨h.t.ext ha hn (Nat.le_refl _) (fun _ _ => rfl), h.d, h.b.ext ha hn (Nat.le_refl _), h.mm.rho h.b ha⟩
theorem rOf_zero : rOf 0 = [] := rOf_rc []
theorem setB_setB (bl : List Blk) (b : Nat) (x y : Blk) : setB (setB bl b x) b y = setB bl b y := by rw [setB_eq, setB_eq, setB_eq]; simp
theorem R.kill {tm : List V} {a : Act} {w : World} {b k : Nat} {sh : List CK} {off code cap : Lin} {t : TypeId × Bool} (h : R w0 n ρ m tm bl a w) (hbl : bl[b]? = some ([.rows sh off code cap k], t)) : R w0 n ρ m tm (setB bl b ([.rows sh off code cap 0], t)) a w :=
  ⟨by rw [setB_length]; exact h.t, h.d, h.b.set (fun y hy => by
    simp at hy; subst hy
    exact h.b _ (List.mem_of_getElem? hbl) (.rows sh off code cap k) (by simp)), h.mm.kill hbl⟩
theorem appR_wp {tm : List V} {a : Act} {w : World} {G : Again} {o : Oper} {K : Act → World → Prop} {Q : Exit → Act → World → Prop} {k : SK} {c : Call} {s x : Operand} {t t' : TypeId} {T0 : T}
    (h : R w0 n ρ m tm bl a w) (hop : o.op = .call c) (hcl : c.callee = .builtin .append) (hxs : c.args.toList = [s, x]) (hts : c.argTypes.toList = [t, t'])
    (hT : appR P o.dst t t' (opV tm s) (opV tm x) n tm bl k = some T0) (hh : T0.holds S L G ρ) (hk : SKok S L w0 k n bl.length ρ m G K) : o.wp P a w K Q := by
  have a1 : c.args = #[s, x] := by rw [← Array.toArray_toList (xs := c.args), hxs]
  have a2 : c.argTypes = #[t, t'] := by rw [← Array.toArray_toList (xs := c.argTypes), hts]
  have hex : execOp a.eval o = (do pure (Next.value (← Builtin.append_ #[t, t'] o.type #[a.eval s, a.eval x]))) := by
    simp [execOp, hop, resolve, hcl, a1, a2, invoke, builtin]
  have hwp : ∀ v w', (Builtin.append_ #[t, t'] o.type #[a.eval s, a.eval x]).run P w = .ok v w' → K (a.put o.dst v) w' → o.wp P a w K Q := fun v w' h1 h2 => by
    unfold Oper.wp
    simp only [hex, Sem.run_bind, h1, Result.andThen_ok, Sem.run_pure]
    exact h2
  have hs := opV_spec h.t s
  have hx := opV_spec h.t x
  unfold appR at hT
  split at hT
  · cases hT
  rename_i e hse
  split at hT
  rotate_left
  · cases hT
  rename_i i z hi hz
  obtain ⟨inf, zv, hi', hzz, hcz⟩ := zeroL_spec hz
  rw [hi] at hi'
  simp only [Option.some.injEq] at hi'
  subst hi'
  have hzl : zv.cells.size = z.length := by
    have := (constL_spec hcz n bl.length ρ m).2
    have := congrArg List.length this
    simpa using this.symm
  split at hT
  · -- nothing there
    rename_i hzc
    obtain ⟨base, hsr⟩ := zcap_spec hzc hs.1 hs.2
    split at hT
    rotate_left
    · cases hT
    rename_i sh _
    cases hgd : goodR sh i z with
    | false => simp [hgd] at hT
    | true =>
    simp only [hgd, cond_true, Option.some.injEq] at hT
    subst hT
    unfold goodR at hgd
    simp only [Bool.and_eq_true] at hgd
    obtain ⟨⟨⟨d1, d2⟩, d3⟩, d4⟩ := hgd
    have d2 := Nat.eq_of_beq_eq_true d2
    have d3 := Nat.eq_of_beq_eq_true d3
    have d4 := Nat.le_of_ble_eq_true d4
    unfold freshR at hh
    have e0 : (Lin.const 0).den ρ = 0 := Lin.den_const _ _
    obtain ⟨ρ', n', p, hn, ha, ⟨q1, q2, q3, rows', q4, q5, q6, q7, q8⟩, hh⟩ := (srcM_snd (P := P) d1 h.b h.mm hx.1 hx.2 (Lin.sc_const _ _) (by rw [e0]; exact ⟨Int.le_refl _, by have := RB_c (l := []) (by simp) (by simp); exact Int.le_trans (rc_nonneg []) this⟩) (by rw [e0, rOf_zero]; simp)) G _ hh
    rw [e0, rOf_zero, List.nil_append] at q4
    rw [e0, rOf_zero] at q7
    simp only [List.length_nil, Nat.zero_add] at q7
    have hR' := h.later hn ha
    have hk' := hk.later (G1 := G) (⟨hn, ha, Nat.le_refl _, fun _ _ => rfl⟩ : Later n bl.length ρ m n' bl.length ρ' m) (AgA.refl _ _)
    rw [← d2] at q8
    have hnone : rows'.length = 0 → (k n' (putV tm o.dst (opV tm s)) bl).holds S L G ρ' → o.wp P a w K Q := fun h0 hh0 => by
      have hr0 : rows' = [] := List.eq_nil_of_length_eq_zero h0
      subst hr0
      refine hwp _ _ (by rw [hsr]; exact run_append_nothing w t t' o.type e i (slcOf_spec hse) hi base 0 0 (Nat.le_refl _) _ q8) ?_
      refine hk' n' ρ' m _ bl G _ w (Later.refl _ _ _ _) (AgA.refl _ _) ⟨TRel.put hR'.t o.dst (opV_spec hR'.t s).1 ?_, by rw [put_defers]; exact h.d, hR'.b, hR'.mm⟩ hh0
      rw [← hsr]; exact (opV_spec hR'.t s).2
    have hgrow : 0 < rows'.length → (growR e o.dst sh p.1 p.2 n' tm bl k).holds S L G ρ' → o.wp P a w K Q := fun h0 hh0 => by
      have hcapl := grown_le w (0 + rows'.length) 0 e (by omega)
      refine hwp _ _ (by rw [hsr]; exact run_append_grow_src w t t' o.type e i zv (slcOf_spec hse) hi hzz base 0 0 [] (firstCells_zero _ _ _ _) _ _ _ q8 (by omega) (by omega) (growslice_fits (by omega) (by
        have := Nat.mul_le_mul (show 0 + rows'.length ≤ 1073741824 by omega) d4
        omega))) ?_
      have key := growR_wp (c := grownCap w (0 + rows'.length) 0 e) (cells := ([] ++ flatV sh rows').toArray ++ Builtin.zeroCells zv.cells (grownCap w (0 + rows'.length) 0 e - (0 + rows'.length))) hR' q1 q2 q3 q4 q6 q5 (by omega) hcapl.2 (by
        have := q8.newsLen
        rw [Array.size_append, zeroCells_size, hzl, d3, List.size_toArray, List.nil_append, this, d2, ← Nat.add_mul]
        congr 1; omega) ⟨(Builtin.zeroCells zv.cells (grownCap w (0 + rows'.length) 0 e - (0 + rows'.length))).toList, by simp⟩ hh0 hk'
      simpa using key
    split at hh
    · rename_i hc0
      have := Lin.den_isC hc0 (ρ := ρ')
      exact hnone (by omega) hh
    · rename_i cc hc0 hne
      have := Lin.den_isC hne (ρ := ρ')
      exact hgrow (by
        have : cc ≠ 0 := fun e => hc0 e
        omega) hh
    · simp only [T.holds, BE.den, Lin.den_const, decide_eq_true_eq, decide_eq_false_iff_not] at hh
      by_cases h0 : rows'.length = 0
      · exact hnone h0 (hh.1 (by omega))
      · exact hgrow (by omega) (hh.2 (by omega))
  · split at hT
    rotate_left
    · cases hT
    rename_i b sz off ro len cap hsv
    split at hT
    rotate_left
    · cases hT
    rename_i sh off' code capb kind bt hbl
    cases hgd : (goodR sh i z && Nat.beq kind 2 && Lin.beq off (.const 0) && Lin.beq off' (.const 0) && Lin.beq ro (.const 0) && Lin.beq cap capb && Nat.beq bt.1 e) with
    | false => rw [hgd] at hT; cases hT
    | true =>
    rw [hgd] at hT
    simp only [cond_true, Option.some.injEq] at hT
    subst hT
    simp only [Bool.and_eq_true] at hgd
    obtain ⟨⟨⟨⟨⟨⟨hgd, k2⟩, b1⟩, b2⟩, b3⟩, b4⟩, b5⟩ := hgd
    have b5 := Nat.eq_of_beq_eq_true b5
    have k2 := Nat.eq_of_beq_eq_true k2
    have b1 := Lin.beq_eq b1
    have b2 := Lin.beq_eq b2
    have b3 := Lin.beq_eq b3
    have b4 := Lin.beq_eq b4
    subst k2; subst b1; subst b2; subst b3; subst b4
    unfold goodR at hgd
    simp only [Bool.and_eq_true] at hgd
    obtain ⟨⟨⟨d1, d2⟩, d3⟩, d4⟩ := hgd
    have d2 := Nat.eq_of_beq_eq_true d2
    have d3 := Nat.eq_of_beq_eq_true d3
    have d4 := Nat.le_of_ble_eq_true d4
    obtain ⟨hk31, hh⟩ := hh
    simp only [List.map_cons, List.map_nil, chkD] at hk31
    rw [hsv] at hs
    have hsok : (A.sl b sz (.const 0) (.const 0) len cap).ok n bl.length ρ := hs.1
    obtain ⟨ptr, e1, e2, e3⟩ := sl_den (m := m) hsok
    have hsr : a.eval s = (A.sl b sz (.const 0) (.const 0) len cap).den ρ m := hs.2
    rw [e1] at hsr
    obtain ⟨x1, ⟨x2, x3, x4, x5⟩, ⟨x6, x7, x8, x9⟩, ⟨x10, x13⟩, x11, x12⟩ := hsok
    rw [Lin.den_const] at x13
    have hrr := h.mm.rws b sh (.const 0) code cap 2 bt hbl (by decide)
    have hAok : (A.rows sh (.const 0) code cap 2).ok n bl.length ρ := h.b _ (List.mem_of_getElem? hbl) _ (by simp)
    obtain ⟨⟨r1, r2, r3⟩, r4, r5⟩ := hAok
    have hrk : ∀ row ∈ rOf (code.den ρ), RowOk sh row := fun row hr => by
      rcases Int.lt_or_le (cap.den ρ) 0 with h | h
      · rw [hrr.1 h] at hr; simp at hr
      · obtain ⟨_, cells, tq, fz, _, ⟨_, g3⟩, _⟩ := hrr.2 h
        exact g3.1 row hr
    obtain ⟨ρ', n', p, hn, ha, ⟨q1, q2, q3, rows', q4, q5, q6, q7, q8⟩, hh⟩ := (srcM_snd (P := P) d1 h.b h.mm hx.1 hx.2 r2 r4 hrk) G _ hh
    rw [← d2] at q8
    generalize hrows : rOf (code.den ρ) = rows at *
    have hkl := h.kill hbl
    have hR' := hkl.later hn ha
    have hb1 := setB_length bl b ([.rows sh (.const 0) code cap 0], bt)
    have hk' : SKok S L w0 k n' (setB bl b ([.rows sh (.const 0) code cap 0], bt)).length ρ' m G K := by
      rw [hb1]
      exact hk.later (⟨hn, ha, Nat.le_refl _, fun _ _ => rfl⟩ : Later n bl.length ρ m n' bl.length ρ' m) (AgA.refl _ _)
    have hlenL : (len.add p.2).den ρ' = (rows ++ rows').length := by
      rw [Lin.den_add, Lin.den_agree ha x4, q5, hk31]; simp
    have hall : ∀ row ∈ rows ++ rows', RowOk sh row := fun row hr => (List.mem_append.1 hr).elim (hrk row) (q6 row)
    have hnl := q8.newsLen
    have hln : (len.den ρ).toNat = rows.length := by omega
    have hcd : cap.den ρ' = cap.den ρ := Lin.den_agree ha x5
    have hlsc : (len.add p.2).sc n' := Lin.sc_add (x4.mono hn) q2
    have hlL2 : (rows ++ rows').length = rows.length + rows'.length := List.length_append
    have hfl : (flatV sh rows).length = rows.length * i.size := by rw [flatV_len hrk, d2]
    by_cases hroom : ((rows.length + rows'.length : Nat) : Int) ≤ cap.den ρ ∨ (cap.den ρ < 0 ∧ rows'.length = 0)
    · by_cases hc0 : cap.den ρ < 0
      · -- nil, and nothing more
        have hr0 : rows'.length = 0 := by rcases hroom with h | h <;> omega
        have hr0 : rows' = [] := List.eq_nil_of_length_eq_zero hr0
        subst hr0
        have hrows0 : rows = [] := hrr.1 hc0
        subst hrows0
        have hl0 := x11 hc0
        refine hwp _ _ (by rw [hsr, e2 hc0, if_pos hc0, hl0]; exact run_append_nothing w t t' o.type e i (slcOf_spec hse) hi none 0 0 (Nat.le_refl _) _ q8) ?_
        have key := pushR_wp (c := -1) (g := w.heap.size) hR' q1 hlsc q3 ⟨by omega, by omega⟩ (by rw [hlenL]; exact ⟨⟨by omega, by omega, by omega, by omega⟩, ⟨by omega, by omega⟩, fun h => by simp, fun h => by omega⟩) (fun _ => by rw [q4]; rfl) (fun h => by omega) (fun _ _ _ _ => .inr (by omega)) hh hk'
        rw [if_pos (by omega)] at key
        exact key
      · -- room
        obtain ⟨_, cells, tq, fz, g1, ⟨g2, g3⟩, g4⟩ := hrr.2 (by omega)
        obtain ⟨g0, g5, g6, g7, g8, g9⟩ := g4 (by decide)
        subst g0
        have g6 := g6.two
        subst g6
        rw [Lin.den_const] at g3
        obtain ⟨_, pre, post, g10, g11⟩ := g3
        have hpre : pre = [] := List.eq_nil_of_length_eq_zero (by simpa using g11)
        subst hpre
        simp only [List.nil_append] at g10
        have hsz : cells.size = (flatV sh rows).length + post.length := by rw [← Array.length_toList, g10, List.length_append]
        have hroom' : rows.length + rows'.length ≤ (cap.den ρ).toNat := by rcases hroom with h | h <;> omega
        have hfit : rows.length * i.size + (flatV sh rows').length ≤ cells.size := by
          rw [hnl, g7, ← Nat.add_mul, d2]
          exact Nat.mul_le_mul_right _ hroom'
        have hrun := run_append_room_row w t t' o.type e i (slcOf_spec hse) hi (m b) rows.length (cap.den ρ).toNat cells bt.1 g1 _ _ _ q8 hroom' hfit
        have hsr' : a.eval s = .slice (some ⟨m b, 0, none⟩) rows.length (cap.den ρ).toNat := by
          rw [hsr, e3 (by omega), if_neg hc0, hln, Lin.den_const]; simp
        refine hwp _ _ (by rw [hsr']; exact hrun) ?_
        have hnew : (cells.toList.take (rows.length * i.size) ++ flatV sh rows' ++ cells.toList.drop (rows.length * i.size + (flatV sh rows').length)) = flatV sh (rows ++ rows') ++ cells.toList.drop (rows.length * i.size + (flatV sh rows').length) := by
          rw [flatV_append, g10, List.take_append_of_le_length (by omega), ← hfl, List.take_length]
        rw [hnew]
        have hmput := h.mm.put (kd := 2) (cells := cells) (fz := (0, 0)) (code' := code) (by decide) hbl (by omega) (row := (flatV sh (rows ++ rows') ++ cells.toList.drop (rows.length * i.size + (flatV sh rows').length)).toArray) (fun _ => ⟨fun h => by omega, fun _ => ⟨g9.elim .inl fun h => .inr (.inr h), _, _, (0, 0), setRow_heap w (m b) _ _ _ _ g1, ⟨g2, by
          rw [hrows, Lin.den_const]
          exact ⟨hrk, [], flatV sh rows' ++ cells.toList.drop (rows.length * i.size + (flatV sh rows').length), by simp [flatV_append], rfl⟩⟩, fun _ => ⟨rfl, g5, .mk2, by
          rw [← g7]; simp only [List.size_toArray, List.length_append, List.length_drop, Array.length_toList, flatV_append]; omega, g8, g9⟩⟩⟩)
        have hself : setB bl b ([.rows sh (.const 0) code cap 2], bt) = bl := by
          rw [setB_eq]
          exact List.ext_getElem? fun j => by
            rw [List.getElem?_set]
            split
            · rename_i hj
              subst hj
              first | exact hbl.symm | (rw [if_pos (List.getElem?_eq_some_iff.1 hbl).1]; exact hbl.symm)
            · rfl
        rw [hself] at hmput
        have hR2 : R w0 n ρ m tm bl a (w.setRow (m b) (flatV sh (rows ++ rows') ++ cells.toList.drop (rows.length * i.size + (flatV sh rows').length)).toArray) := ⟨h.t, h.d, h.b, hmput⟩
        have hR3 := (hR2.kill hbl).later hn ha
        have key := pushR_wp (e := e) (d := o.dst) (c := cap.den ρ) (g := m b) hR3 q1 hlsc q3 ⟨by omega, by omega⟩ (by rw [hlenL, hlL2]; exact ⟨⟨by omega, by omega, by omega, by omega⟩, ⟨by omega, by omega⟩, fun h => by omega, fun h => by omega⟩) (fun h => by omega)
          (fun _ => ⟨_, by rw [← b5]; exact setRow_heap w (m b) _ _ _ _ g1, by
            rw [q4]
            exact ⟨hall, [], cells.toList.drop (rows.length * i.size + (flatV sh rows').length), by simp, rfl⟩, by
            rw [← g7]; simp only [List.size_toArray, List.length_append, List.length_drop, Array.length_toList, flatV_append]; omega, g8, g9⟩) (fun j q hj he => by
            by_cases hjb : j = b
            · subst hjb
              rw [setB_eq, List.getElem?_set_self (List.getElem?_eq_some_iff.1 hbl).1] at hj
              simp only [Option.some.injEq] at hj
              subst hj
              exact .inl (by simp [kindC])
            · rw [setB_eq, List.getElem?_set_ne (fun e => hjb e.symm)] at hj
              have hkb : kindC ρ [A.rows sh (.const 0) code cap 2] = 2 := kindC_rows (by decide) (by omega)
              have hkq : kindC ρ q.1 = 0 := by
                rcases h.mm.inj j b q _ hj hbl he with h9 | h9 | h9 | h9
                · exact absurd h9 hjb
                · have := h9.2; simp only [hkb] at this; omega
                · exact h9
                · simp only [hkb] at h9; omega
              exact .inl (by rw [kindC_agree (h.b _ (List.mem_of_getElem? hj)) ha]; exact hkq)) hh hk'
        rw [if_neg hc0, hlenL, hlL2, Int.toNat_natCast] at key
        exact key
    · -- a new row
      have hgt : (if cap.den ρ < 0 then 0 else (cap.den ρ).toNat) < rows.length + rows'.length := by
        split
        · rename_i hc
          have : ¬ rows'.length = 0 := fun e => hroom (.inr ⟨hc, e⟩)
          omega
        · omega
      have hold : (Builtin.firstCells i.size rows.length (.slice ptr rows.length (if cap.den ρ < 0 then 0 else (cap.den ρ).toNat))).run P w.drew = .ok (flatV sh rows).toArray w.drew := by
        by_cases hc : cap.den ρ < 0
        · have hrows0 : rows = [] := hrr.1 hc
          subst hrows0
          exact firstCells_zero _ _ _ _
        · obtain ⟨_, cells, tq, fz, g1, ⟨g2, g3⟩, g4⟩ := hrr.2 (by omega)
          rw [e3 (by omega)]
          refine run_firstCells_some w.drew i.size rows.length _ rows.length _ (flatV sh rows) hfl fun j v hv => ?_
          rw [addr_add, Lin.den_const]
          have := g3.flat hv
          rw [Lin.den_const] at this
          have g1' : w.drew.heap[m b]? = some (.cells cells tq fz) := g1
          simp only [World.cell?, g1', Option.isSome_none, Bool.false_eq_true, if_false]
          simpa using this
      have hcapl := grown_le w (rows.length + rows'.length) (if cap.den ρ < 0 then 0 else (cap.den ρ).toNat) e q7
      refine hwp _ _ (by rw [hsr, hln]; exact run_append_grow_src w t t' o.type e i zv (slcOf_spec hse) hi hzz ptr rows.length _ (flatV sh rows) hold _ _ _ q8 hgt (by omega) (growslice_fits hgt (by
        have := Nat.mul_le_mul q7 d4
        omega))) ?_
      have key := growR_wp (e := e) (d := o.dst) (c := grownCap w (rows.length + rows'.length) (if cap.den ρ < 0 then 0 else (cap.den ρ).toNat) e) (cells := (flatV sh rows ++ flatV sh rows').toArray ++ Builtin.zeroCells zv.cells (grownCap w (rows.length + rows'.length) (if cap.den ρ < 0 then 0 else (cap.den ρ).toNat) e - (rows.length + rows'.length))) hR' q1 hlsc q3 q4 hall hlenL (by rw [hlL2]; exact hcapl.1) hcapl.2 (by
        rw [Array.size_append, zeroCells_size, hzl, d3, List.size_toArray, List.length_append, hfl, hnl, ← Nat.add_mul, d2, ← Nat.add_mul]
        congr 1; omega) ⟨(Builtin.zeroCells zv.cells (grownCap w (rows.length + rows'.length) (if cap.den ρ < 0 then 0 else (cap.den ρ).toNat) e - (rows.length + rows'.length))).toList, by rw [flatV_append]; simp⟩ hh hk'
      rw [hlL2] at key
      exact key

theorem stepR_wp {tm : List V} {a : Act} {w : World} {G : Again} {o : Oper} {K : Act → World → Prop} {Q : Exit → Act → World → Prop} {k : SK} {T0 : T}
    (h : R w0 n ρ m tm bl a w) (hT : stepR P o n tm bl k = some T0) (hh : T0.holds S L G ρ) (hk : SKok S L w0 k n bl.length ρ m G K) : o.wp P a w K Q := by
  unfold stepR at hT
  split at hT
  · rename_i c ho
    split at hT
    · rename_i hc
      split at hT
      · rename_i s x t t' hxs hts
        exact appR_wp h ho hc hxs hts hT hh hk
      · cases hT
    · cases hT
  · cases hT
end
end Go.Rx
