/- The address seat: what each function says,on texts. -/
import Derived.Test.YtejjagiggkgdmaaDoorPac
import Derived.Test.YtejjagiggkgdmaaDoorProg
import Derived.KernelRfl
import Derived.Shelf.Lay
import Derived.Shelf.LaySoft
import Derived.Shelf.Strings.Search1
import Derived.Shelf.Strings.Search3
import Derived.Shelf.Small.Strs
import Derived.BigCall
import Derived.Lib.IndexMore
import Derived.WalkKit
import Derived.OwnWalk
import Derived.Deep.RegionLaw
import Derived.Laws.CopyOwn
import Derived.Lib.Builder
import Derived.Lib.Overlaps
import Derived.Lib.AppendZerosOnto
import Derived.Shelf.Slices.In.CompactS
import Derived.Shelf.Slices.In.SortAlone
import Derived.Shelf.Slices.In.SortNone
import Derived.Sort.OwnSorted
import Derived.Sort.EveryDepth
import Derived.Lib.SlicesCompact
import Derived.Sort.Walk0
import Derived.Shelf.Vars
import Derived.Test.YtejjagiggkgdmaaDoorRows
import Derived.Test.YtejjagiggkgdmaaDoorTie
import Derived.Test.YtejjagiggkgdmaaDoorCards
import Derived.SevenTiedAt
import Derived.Lay

set_option linter.unusedVariables false
set_option linter.unusedSimpArgs false
namespace Go.bD
open Go Go.aZ
abbrev ak:=List UInt8
def u8 (z:Int):UInt8:=UInt8.ofNat z.toNat
def aT (b:Bool):Int:=cond b 1 0
def iB (p:UInt8->Bool) (l:ak):ak:=l.dropWhile p
def gh (p:UInt8->Bool) (l:ak):ak:=(l.reverse.dropWhile p).reverse
def gE (p:UInt8->Bool) (l:ak):ak:=iB p (gh p l)
def dd (l:ak):Bool:=(List.range l.length).any λi=>l.getD i 0==46&&l.getD (i+1) 0==46
def uV (c:UInt8):Bool:=Nat.ble 97 c.toNat&&Nat.ble c.toNat 122
def uU (c:UInt8):Bool:=Nat.ble 65 c.toNat&&Nat.ble c.toNat 90
def gf (c:UInt8):Bool:=Nat.ble 48 c.toNat&&Nat.ble c.toNat 57
def SH:ak:=[33,35,36,37,38,39,42,43,47,61,63,94,95,96,123,124,125,126,45]
def OV (c:UInt8):Bool:=uV c||uU c||gf c||SH.contains c||c==46
def tH (c:UInt8):Bool:=c==46||c==45
def qq (c:UInt8):Bool:=uV c||uU c||gf c||tH c
def va (inn ot:UInt8->Bool) (s:ak):Bool:=(List.range s.length).all λi=>
 inn (s.getD i 0)&&(!ot (s.getD i 0)||(Nat.blt 0 i&&Nat.blt (i+1) s.length))&& !(s.getD i 0==46&&Nat.blt 0 i&&s.getD (i-1) 0==46)
def Bx (s:ak):Bool:=Nat.blt 0 s.length&&Nat.ble s.length 64&&va OV (·==46) s
def jV (s:ak):Bool:=Nat.blt 0 s.length&&Nat.ble s.length 230&&va qq tH s
def sM (s:ak):Bool:=Nat.blt 0 s.length&&Nat.ble s.length 5&&s.all gf
def kS (c:Int) (s:ak):ak×ak×Int:=cond (decide (0<=idx c s)) (s.take (idx c s).toNat,s.drop ((idx c s).toNat+1),1) (s,[],0)
def lj (s:ak):Bool:=jV (kS 58 s).1&&(decide ((kS 58 s).2.2=0)||sM (kS 58 s).2.1)
def lo (c:UInt8):UInt8:=cond (uU c) (UInt8.ofNat (c.toNat+32)) c
def lower (s:ak):ak:=s.map lo
def LD (t:ak):ak×Int:=
 cond (decide (0<=idx 64 t)&&Nat.ble t.length 254&&Bx (t.take (idx 64 t).toNat)&&jV (t.drop ((idx 64 t).toNat+1))&&(t.drop ((idx 64 t).toNat+1)).contains 46) (lower t,0) ([],2)
def zy (s:ak):ak×Int:=LD (gE (·==32) s)
def SA:ak:=[32,45,46,40,41]
def tu:ak->ak->Bool->Option (ak×Bool)
 |[],d,p=>some (d,p)
 |c::r,d,p=>cond (gf c) (tu r (d++[c]) p) (cond (c==43&&d.isEmpty&& !p) (tu r d true) (cond (SA.contains c) (tu r d p) none))
def zq (w:ak):Option (ak×ak):=
 cond (w==[]) (some ([],[])) (cond (w==[71,66]) (some ([52,52],[48])) (cond (w==[85,83]) (some ([49],[])) (cond (w==[68,69]) (some ([52,57],[48])) (cond (w==[70,82]) (some ([51,51],[48])) (cond (w==[67,72]) (some ([52,49],[48])) none)))))
def RJ (w code o6 d:ak) (p:Bool):ak:=cond (!p&& !(w==[])) (code++cond (o6.isPrefixOf d) (d.drop o6.length) d) d
def RI (n:ak):ak×Int:=cond (Nat.blt n.length 6||Nat.blt 15 n.length||n.getD 0 0==48) ([],2) (n,0)
def BY (w s:ak):ak×Int:=match zq w with
 |none=>([],7)
 |some (code,o6)=>match tu s [] false with
  |none=>([],2)
  |some (d,p)=>RI (RJ w code o6 d p)
def Bu (a b c d:ak):Bool:=cond (a==c) (Op.bytesLess b d) (Op.bytesLess a c)
def LC:ak:=[101,109,97,105,108]
def Ql:ak:=[109,115,105,115,100,110]
def HJ (m:ak) (p:ak×Int):ak×ak×Int:=cond (decide (p.2=0)) (m,p.1,0) ([],[],p.2)
def u2 (m w:ak):ak×ak×Int:=cond (m==LC) (HJ m (zy w)) (cond (m==Ql) (HJ m (BY [] w)) ([],[],1))
def vl (m w:ak):Bool:=decide ((u2 m w).2.2=0)&&(m==(u2 m w).1)&&(w==(u2 m w).2.1)
def xt (c:UInt8):Bool:=uV c||gf c||([46,95,61,47,43,45]:ak).contains c
def G6 (c:UInt8):Bool:=uV c||uU c||gf c
def kA (k:UInt8) (s:ak):ak×ak×Int:=
 cond (Nat.blt 0 s.length&&Nat.ble s.length 255&&s.getD 0 0==k&&decide (0<=idx 58 s)&&lj (s.drop ((idx 58 s).toNat+1))) ((s.take (idx 58 s).toNat).drop 1,s.drop ((idx 58 s).toNat+1),1) ([],[],0)
def oQ (k:UInt8) (inn:UInt8->Bool) (most:Nat) (s:ak):Bool:=
 decide ((kA k s).2.2=1)&&Nat.blt 0 (kA k s).1.length&&Nat.ble (kA k s).1.length most&&(kA k s).1.all inn
def ig (s:ak):Bool:=oQ 64 xt 200 s
def yb (s:ak):Bool:=oQ 33 G6 64 s
def I8 (s:ak):ak×ak×Int:=cond (ig s||yb s) ((s.take (idx 58 s).toNat).drop 1,s.drop ((idx 58 s).toNat+1),0) ([],[],2)
def yV:ak:=[65,66,67,68,69,70,71,72,73,74,75,76,77,78,79,80,81,82,83,84,85,86,87,88,89,90,97,98,99,100,101,102,103,104,105,106,107,108,109,110,111,112,113,114,115,116,117,118,119,120,121,122,48,49,50,51,52,53,54,55,56,57,45,95]
def dE (c:UInt8):Int:=idx (c.toNat:Int) yV
def nU (n:Nat):UInt8:=yV.getD n 0
def BX:ak->ak
 |[]=>[]
 |[a]=>[nU (a.toNat/4),nU (a.toNat% 4*16)]
 |[a,b]=>[nU (a.toNat/4),nU (a.toNat% 4*16+b.toNat/16),nU (b.toNat% 16*4)]
 |a::b::c::r=>nU (a.toNat/4)::nU (a.toNat% 4*16+b.toNat/16)::nU (b.toNat% 16*4+c.toNat/64)::nU (c.toNat% 64)::BX r
def oo (a b c d:Int):Int:=262144*a+(4096*b+(64*c+d))
def xZ:ak->ak->Option ak
 |out,[]=>some out
 |_,[_]=>none
 |out,[a,b]=>cond (decide (0<=dE a)&&decide (0<=dE b)&&decide (oo (dE a) (dE b) 0 0% 65536=0)) (some (out++[u8 (oo (dE a) (dE b) 0 0/65536)])) none
 |out,[a,b,c]=>cond (decide (0<=dE a)&&decide (0<=dE b)&&decide (0<=dE c)&&decide (oo (dE a) (dE b) (dE c) 0% 256=0)) (some (out++[u8 (oo (dE a) (dE b) (dE c) 0/65536)]++[u8 (oo (dE a) (dE b) (dE c) 0/256% 256)])) none
 |out,a::b::c::d::r=>cond (decide (0<=dE a)&&decide (0<=dE b)&&decide (0<=dE c)&&decide (0<=dE d)) (xZ (out++[u8 (oo (dE a) (dE b) (dE c) (dE d)/65536)]++[u8 (oo (dE a) (dE b) (dE c) (dE d)/256% 256)]++[u8 (oo (dE a) (dE b) (dE c) (dE d)% 256)]) r) none
def pB (r:Int):ak:=(ab r).map λrow=>UInt8.ofNat (row.getD 0 0).toNat
def EY (s:ak):Bool:=decide (s.length=44)&&s.getD 0 0==36&&(xZ [] (s.drop 1)).isSome
abbrev iL:=(ak×ak)×ak×Int
def tv:iL:=(([],[]),[],0)
def ln (r:List Int):ak×ak:=(J (r.getD 0 0),J (r.getD 1 0))
def lE (r:List Int):iL:=(ln r,J (r.getD 2 0),r.getD 3 0)
def bds (z:Int):List iL:=(ab z).map lE
def yx (z:Int):List (ak×ak):=(ab z).map ln
def we (b:iL):Bool:=decide (0<=b.2.2)&&(decide (b.2.2<=1099511627776)&&(vl b.1.1 b.1.2&&ig b.2.1))
def xA (a b:ak×ak):Bool:=Bu a.1 a.2 b.1 b.2
def wB (a b:ak×ak):Int:=cond (a==b) 0 (cond (xA a b) (-1) 1)
def I7:List iL->Bool
 |[]=>true
 |[_]=>true
 |a::b::r=>xA a.1 b.1&&I7 (b::r)
def qQ (l:List iL):Bool:=Nat.ble l.length 64&&l.all we&&I7 l
def E1 (l:List iL) (w:ak×ak):Option iL:=cond (qQ l) (l.find? (λb=>b.1==w)) none
def HS (l:List iL) (x:ak):List (ak×ak):=cond (qQ l) ((l.filter (·.2.1==x)).map (·.1)) []
def D5 (l:List iL) (w:iL):List iL×Int:=cond (we w&&qQ l) (cond (l.any (·.1==w.1)) (l.map (λb=>cond (b.1==w.1) w b),0) (cond (decide (l.length=64)) (l,10) (l.filter (λb=>xA b.1 w.1)++w::l.filter (λb=>xA w.1 b.1),0))) (l,1)
def Jv (l:List iL) (w:iL):List iL×Int:=cond (qQ l) (match l.find? (·.1==w.1)with|none=>(l,7)|some b=>cond (b.2.1==w.2.1) (l.filter (λb=> !(b.1==w.1)),0) (l,14)) (l,1)
def J3 (l:List iL) (w:ak×ak) (i f:Int):Prop:=(0<=i/\i<=l.length)/\(f=1->i<l.length)/\(qQ l=true->(∀j:Nat,(j:Int)<i->wB (l.getD j tv).1 w<0)/\(∀j:Nat,i<=j->j<l.length->0<=wB (l.getD j tv).1 w)/\(f=1↔i<l.length/\wB (l.getD i.toNat tv).1 w=0))
structure dy where
 id:Int
 sec:ak
 jb:ak×ak
 tok:ak
 px:Int
 since:Int
 s8:Int
 shown:Int
 Cx:Int
deriving DecidableEq
def l7:dy:=⟨0,[],([],[]),[],0,0,0,0,0⟩
def iY (r:List Int):dy:=⟨r.getD 0 0,J (r.getD 1 0),(J (r.getD 2 0),J (r.getD 3 0)),J (r.getD 4 0),r.getD 5 0,r.getD 6 0,r.getD 7 0,r.getD 8 0,r.getD 9 0⟩
def eA (z:Int):List dy:=(ab z).map iY
def nY (t:ak):Bool:=t.all λc=>Nat.ble 32 c.toNat&&Nat.ble c.toNat 126
def b8 (t:ak):Bool:= !t.isEmpty&&(Nat.ble t.length 64&&(nY t&& !t.contains 32))
def vB (n:Int):Bool:=decide (0<=n)&&decide (n<=1099511627776)
def yn (s:dy):Bool:=(decide (1<=s.id)&&decide (s.id<=1099511627776))&&(vB s.since&&vB s.Cx)&&(decide (1<=s.px)&&decide (s.px<=1000)&&(decide (0<=s.s8)&&decide (s.s8<=3)))&&(decide (s.shown=1)||decide (s.Cx=0))&&(b8 s.sec&&(b8 s.tok&&vl s.jb.1 s.jb.2))
def DT (a b:dy):Bool:=decide (a.sec=b.sec)&&decide (a.jb=b.jb)
def K1 (x s:dy):Bool:=DT x s||(decide (x.tok=s.tok)||decide (s.id<=x.id))
def oW (l:List dy):Bool:=Nat.ble l.length 16&&(List.range l.length).all λi=>yn (l.getD i l7)&&(l.take i).all λx=> !K1 x (l.getD i l7)
def T5 (x:Int):Int:=(x+9223372036854775808)% 18446744073709551616-9223372036854775808
def xR (s:dy) (now:Int):Bool:=decide (86400<T5 (now-s.since))
def qI (l:List dy) (now:Int):List dy:=l.filter λs=> !xR s now
def E3 (l:List dy) (id:Int):Option dy:=cond (oW l) (l.find? λs=>decide (s.id=id)) none
def mO (l:List dy) (now:Int) (w:dy):Nat×Int:=cond (vB now&&oW l) (match l.findIdx? (λs=>decide (s.id=w.id))with
 |some i=>cond (decide ((l.getD i l7).sec=w.sec)&& !xR (l.getD i l7) now) (i,0) (0,11)
 |none=>(0,11)) (0,1)
def I1 (l:List dy) (now:Int) (w:dy):(ak×ak)×Int:=cond (decide ((mO l now w).2=0)) (cond (decide ((l.getD (mO l now w).1 l7).shown=1)) ((l.getD (mO l now w).1 l7).jb,0) (([],[]),14)) (([],[]),(mO l now w).2)
def Ta (l:List dy) (now:Int) (w:dy) (i:Nat) (s:dy):List dy×Int:=cond (decide (s.s8=3)) (l,16) (cond (decide (s.tok=w.tok)) (cond (decide (s.shown=1)) (l,0) (l.set i {s with shown:=1,Cx:=now},0)) (l.set i {s with s8:=s.s8+1},12))
def Jh (l:List dy) (now:Int) (w:dy):List dy×Int:=cond (decide ((mO l now w).2=0)) (Ta l now w (mO l now w).1 (l.getD (mO l now w).1 l7)) (l,(mO l now w).2)
def R3 (live:List dy) (w:dy) (i:Nat) (s:dy):List dy×Int×Int×Int:=(live.set i {s with px:=max s.px w.px},s.id,aT (decide (s.px<w.px)),0)
def R4 (l live:List dy) (w:dy):List dy×Int×Int×Int:=cond (live.any (λs=>decide (s.id=w.id))||live.any (λs=>decide (s.tok=w.tok))) (l,0,0,6) (cond (decide (live.length=16)) (l,0,0,10) (live.filter (λs=>decide (s.id<w.id))++w::live.filter (λs=>decide (w.id<s.id)),w.id,1,0))
def Iv (l:List dy) (w:dy):List dy×Int×Int×Int:=cond (yn w&&(decide (w.s8<=0)&&(!decide (w.shown=1)&&oW l))) (match(qI l w.since).findIdx? (λs=>DT s w)with
 |some i=>R3 (qI l w.since) w i ((qI l w.since).getD i l7)
 |none=>R4 l (qI l w.since) w) (l,0,0,1)
def J1 (l:List dy) (n i f:Int):Prop:=(0<=i/\i<=l.length)/\(f=1->i<l.length)/\(oW l=true->(∀j:Nat,(j:Int)<i->(l.getD j l7).id<n)/\(∀j:Nat,i<=j->j<l.length->n<=(l.getD j l7).id)/\(f=1↔i<l.length/\(l.getD i.toNat l7).id=n))
def KF:List Int:=[5,116,477315081741,437051401625,117,1,100,0,0,0]
structure cd where
 tok:ak
 dt:ak
 cV:List ak
deriving DecidableEq
def b9:cd:=⟨[],[],[]⟩
def aK (z:Int):List ak:=(ab z).map λr=>J (r.getD 0 0)
def s5 (r:List Int):cd:=⟨J (r.getD 0 0),J (r.getD 1 0),aK (r.getD 2 0)⟩
def au (z:Int):List cd:=(ab z).map s5
def vC (l:List cd):Nat:=l.length+(l.map λu=>u.cV.length).sum
def fk (l:List ak):Bool:=(List.range l.length).all λi=>b8 (l.getD i [])&&(decide (i=0)||Op.bytesLess (l.getD (i-1) []) (l.getD i []))
def cz (l:List cd):Bool:=Nat.ble l.length 16&&(l.all (λu=>ig u.dt&&(Nat.ble u.cV.length 4&&fk u.cV))&&fk (l.map (·.tok)))
def q9 (l:List cd) (t:ak) (i f:Int):Prop:=(0<=i/\i<=l.length)/\(f=1->i<l.length)/\(fk (l.map (·.tok))=true->(∀j:Nat,(j:Int)<i->Op.bytesLess (l.getD j b9).tok t=true)/\(∀j:Nat,i<=j->j<l.length->Op.bytesLess (l.getD j b9).tok t=false)/\(f=1↔i<l.length/\(l.getD i.toNat b9).tok=t))
def bN (l:List cd) (t:ak):Int×Int:=cond (cz l) (match l.findIdx? (λu=>decide (u.tok=t))with|some k=>((k:Int),0)|none=>(0,14)) (0,1)
def hh (l:List cd) (t:ak):ak×Int:=cond (decide ((bN l t).2=0)) ((l.getD (bN l t).1.toNat b9).dt,0) ([],(bN l t).2)
def gp (l:List cd) (t:ak) (d:List ak):Int:=cond (decide ((bN l t).2=0)) (cond (d.all λs=>(l.getD (bN l t).1.toNat b9).cV.contains s) 0 13) (bN l t).2
def kx (l:List cd) (t:ak):List cd×Int:=cond (decide ((bN l t).2=0)) (l.take (bN l t).1.toNat++l.drop ((bN l t).1.toNat+1),0) (l,(bN l t).2)
def jB (l:List cd) (t m:ak):List cd×Int:=cond (cz l&&(b8 t&&ig m)) (cond (l.findIdx? (λu=>decide (u.tok=t))).isSome (l,6) (cond (decide (l.length=16)) (l,10) (l.takeWhile (λu=>Op.bytesLess u.tok t)++⟨t,m,[]⟩::l.dropWhile (λu=>Op.bytesLess u.tok t),0))) (l,1)
def gS (s:ak):List ak->List ak
 |[]=>[s]
 |x::r=>cond (decide (x=s)) (x::r) (cond (Op.bytesLess s x) (s::x::r) (x::gS s r))
def n6 (a d:List ak):List ak:=d.foldl (λl s=>gS s l) a
def je (l:List cd) (t:ak) (d:List ak):List cd×Int:=cond (decide ((bN l t).2=0)) (cond (d.all b8) (cond (Nat.ble (n6 (l.getD (bN l t).1.toNat b9).cV d).length 4) (l.set (bN l t).1.toNat ⟨(l.getD (bN l t).1.toNat b9).tok,(l.getD (bN l t).1.toNat b9).dt,n6 (l.getD (bN l t).1.toNat b9).cV d⟩,0) (l,10)) (l,1)) (l,(bN l t).2)
structure iM where
 tok:ak
 jb:ak×ak
 room:ak
 Sz:ak
 Sv:ak
 rp:ak
deriving DecidableEq
def ve:iM:=⟨[],([],[]),[],[],[],[]⟩
def qH (r:List Int):iM:=⟨J (r.getD 0 0),(J (r.getD 1 0),J (r.getD 2 0)),J (r.getD 3 0),J (r.getD 4 0),J (r.getD 5 0),J (r.getD 6 0)⟩
def iE (z:Int):List iM:=(ab z).map qH
def x2 (p:iM):Bool:=b8 p.tok&&(b8 p.Sv&&(vl p.jb.1 p.jb.2&&(yb p.room&&(ig p.Sz&&(p.rp.isEmpty||ig p.rp)))))
def IA (l:List iM):Bool:=(List.range l.length).all λi=>decide (i=0)||Op.bytesLess (l.getD (i-1) ve).tok (l.getD i ve).tok
def vm (l:List iM):Bool:=Nat.ble l.length 32&&(l.all x2&&IA l)
def J2 (l:List iM) (t:ak) (i f:Int):Prop:=(0<=i/\i<=l.length)/\(f=1->i<l.length)/\(IA l=true->(∀j:Nat,(j:Int)<i->Op.bytesLess (l.getD j ve).tok t=true)/\(∀j:Nat,i<=j->j<l.length->Op.bytesLess (l.getD j ve).tok t=false)/\(f=1↔i<l.length/\(l.getD i.toNat ve).tok=t))
def E2 (l:List iM) (t:ak):Option iM:=cond (vm l) (l.find? λp=>decide (p.tok=t)) none
def Jc (l:List iM) (w:iM):List iM×Int:=cond (x2 w&&(w.rp.isEmpty&&vm l)) (cond (l.any λp=>decide (p.tok=w.tok)) (l,6) (cond (decide (l.length=32)) (l,10) (l.filter (λp=>Op.bytesLess p.tok w.tok)++w::l.filter (λp=>Op.bytesLess w.tok p.tok),0))) (l,1)
def JB (jb:ak×ak) (p:iM):Bool:=decide (p.jb=jb)&&p.rp.isEmpty
def IZ (l:List iM) (jb:ak×ak) (dt:ak):List iM×List iM×Int:=cond (ig dt&&vm l) (l.map (λp=>cond (JB jb p) {p with rp:=dt} p),(l.filter (JB jb)).map (λp=>{p with rp:=dt}),0) (l,[],1)
def Ks:ak:=[65,66,67,68,69,70,71,72,73,74,75,76,77,78,79,80,81,82,83,84,85,86,87,88,89,90,97,98,99,100,101,102,103,104,105,106,107,108,109,110,111,112,113,114,115,116,117,118,119,120,121,122,48,49,50,51,52,53,54,55,56,57,43,47]
def nV (n:Nat):UInt8:=Ks.getD n 0
def Ig:ak->ak
 |[]=>[]
 |[a]=>[nV (a.toNat/4),nV (a.toNat% 4*16)]
 |[a,b]=>[nV (a.toNat/4),nV (a.toNat% 4*16+b.toNat/16),nV (b.toNat% 16*4)]
 |a::b::c::r=>nV (a.toNat/4)::nV (a.toNat% 4*16+b.toNat/16)::nV (b.toNat% 16*4+c.toNat/64)::nV (c.toNat% 64)::Ig r
def Q2:List Int:=[117,477315081741,437051401625,1786258745,1786259033,1721197221,0]
def Kc:Nat->List (List Int)->List (List Int)->Prop
 |600,[[z]],[[r]]=>r=aT (b8 (J z))
 |601,[r],[[z]]=>z=aT (x2 (qH r))
 |602,[[z]],[[r]]=>r=aT (vm (iE z))
 |603,[[z],[t]],[[i],[f]]=>J2 (iE z) (J t) i f
 |604,[[z],[t]],[r,[f]]=>match E2 (iE z) (J t)with
  |some b=>qH r=b/\f=1
  |none=>r=[0,0,0,0,0,0,0]/\f=0
 |605,[[c],[i],[r]],[[y]]=>ab y=(ab c).take i.toNat++ab r++(ab c).drop i.toNat
 |606,[[z],r],[[y],[e]]=>(iE y,e)=Jc (iE z) (qH r)
 |607,[[z],a,[m]],[[y],[d],[e]]=>(iE y,iE d,e)=IZ (iE z) (ln a) (J m)
 |608,[],[r]=>r=Q2
 |612,[r],[[z]]=>z=aT (x2 (qH r))
 |613,[[z]],[[r]]=>r=aT (vm (iE z))
 |614,[[z],[t]],[r,[f]]=>match E2 (iE z) (J t)with
  |some b=>qH r=b/\f=1
  |none=>r=[0,0,0,0,0,0,0]/\f=0
 |615,[[z],r],[[y],[e]]=>(iE y,e)=Jc (iE z) (qH r)
 |616,[[z],a,[m]],[[y],[d],[e]]=>(iE y,iE d,e)=IZ (iE z) (ln a) (J m)
 |617,[[a],[b]],[[r]]=>r=aT (decide (iE a=iE b))
 |618,[[r]],[[z]]=>J z=Ig (pB r)
 |619,[[z]],[[r]]=>ab r=ab z
 |_,_,_=>False
def Kd:Nat->List (List Int)->List (List Int)->Prop
 |500,[[z]],[[r]]=>r=aT (decide (200<vC (au z)))
 |501,[[z]],[[r]]=>r=aT ((J z).contains 32)
 |502,[[z]],[[r]]=>r=aT (b8 (J z))
 |503,[[z]],[[r]]=>r=aT (fk (aK z))
 |504,[[z]],[[r]]=>r=aT (cz (au z))
 |505,[[z],[t]],[[i],[f]]=>q9 (au z) (J t) i f
 |506,[[z],[t]],[[i],[e]]=>(i,e)=bN (au z) (J t)
 |507,[[z],[t]],[[s],[e]]=>(J s,e)=hh (au z) (J t)
 |508,[[z],[t]],[[y],[e]]=>(au y,e)=kx (au z) (J t)
 |509,[[z],[t],[m]],[[y],[e]]=>(au y,e)=jB (au z) (J t) (J m)
 |511,[[z],[t],[d]],[[e]]=>e=gp (au z) (J t) (aK d)
 |513,[[z],[t],[d]],[[y],[e]]=>(au y,e)=je (au z) (J t) (aK d)
 |520,[],[[r]]=>r=1
 |521,[_,_],[[r]]=>r=1
 |522,[_,_,_],[[r]]=>r=1
 |512,[[z],[t]],[[r]]=>r=aT ((aK z).contains (J t))
 |510,[[a],[b]],[[r]]=>r=cond (Op.bytesLess (J a) (J b)) (-1) (cond (decide (J a=J b)) 0 1)
 |n,a,b=>Kc n a b
def Kb:Nat->List (List Int)->List (List Int)->Prop
 |400,[[z]],[[r]]=>r=aT (nY (J z))
 |401,[[z]],[[r]]=>r=aT (b8 (J z))
 |402,[r],[[z]]=>z=aT (yn (iY r))
 |403,[[z]],[[r]]=>r=aT (oW (eA z))
 |404,[[z],[n]],[[i],[f]]=>J1 (eA z) n i f
 |417,[r,[n]],[[z]]=>z=aT (xR (iY r) n)
 |405,[[z],[n]],[r,[f]]=>match E3 (eA z) n with
  |some b=>iY r=b/\f=1
  |none=>r=[0,0,0,0,0,0,0,0,0,0]/\f=0
 |406,[[z],[n],r],[[i],[e]]=>(i,e)=(((mO (eA z) n (iY r)).1:Int),(mO (eA z) n (iY r)).2)
 |407,[[z],[n],r],[a,[e]]=>(ln a,e)=I1 (eA z) n (iY r)
 |408,[[z],[n],r],[[y],[e]]=>(eA y,e)=Jh (eA z) n (iY r)
 |409,[[z],[n]],[[y]]=>eA y=qI (eA z) n
 |410,[[z],[n]],[[y]]=>eA y=cond (vB n&&oW (eA z)) (qI (eA z) n) []
 |411,[[c],[i],[r]],[[y]]=>ab y=(ab c).take i.toNat++ab r++(ab c).drop i.toNat
 |412,[[z],r],[[y],[i],[s],[e]]=>(eA y,i,s,e)=Iv (eA z) (iY r)
 |416,[[a],[b]],[[r]]=>r=aT (decide (eA a=eA b))
 |418,[],[r]=>r=KF
 |413,[],[[r]]=>r=1
 |414,[_],[[r]]=>r=1
 |415,[_,_],[[r]]=>r=1
 |420,[[z]],[[r]]=>r=aT (b8 (J z))
 |422,[r],[[z]]=>z=aT (yn (iY r))
 |423,[[z]],[[r]]=>r=aT (oW (eA z))
 |424,[[z],[n]],[[y]]=>eA y=cond (vB n&&oW (eA z)) (qI (eA z) n) []
 |425,[[z],[n]],[r,[f]]=>match E3 (eA z) n with
  |some b=>iY r=b/\f=1
  |none=>r=[0,0,0,0,0,0,0,0,0,0]/\f=0
 |426,[[z],[n],r],[[i]]=>i=match(eA z).findIdx? (λs=>decide (s.id=(iY r).id)&&(decide (s.sec=(iY r).sec)&& !xR s n))with
  |some k=>(k:Int)
  |none=>-1
 |427,[[z],[n],r],[[y],[e]]=>(eA y,e)=Jh (eA z) n (iY r)
 |428,[[z],[n],r],[a,[e]]=>(ln a,e)=I1 (eA z) n (iY r)
 |429,[[z],r],[[y],[i],[s],[e]]=>(eA y,i,s,e)=Iv (eA z) (iY r)
 |430,[_,_],[[r]]=>r=1
 |431,[_,_,_],[[r]]=>r=1
 |n,a,b=>Kd n a b
def Ka:Nat->List (List Int)->List (List Int)->Prop
 |300,[r],[[z]]=>z=aT (we (lE r))
 |301,[r,a],[[z]]=>z=wB (ln r) (ln a)
 |302,[[z],a],[[i],[f]]=>J3 (bds z) (ln a) i f
 |303,[[z]],[[r]]=>r=aT (qQ (bds z))
 |304,[[z],a],[r,[f]]=>match E1 (bds z) (ln a)with
  |some b=>lE r=b/\f=1
  |none=>lE r=tv/\f=0
 |305,[[z],[x]],[[y]]=>yx y=HS (bds z) (J x)
 |306,[[c],[i],[r]],[[y]]=>ab y=(ab c).take i.toNat++ab r++(ab c).drop i.toNat
 |307,[[c],[i],[j]],[[y]]=>ab y=(ab c).take i.toNat++(ab c).drop j.toNat
 |308,[[z],r],[[y],[e]]=>(bds y,e)=D5 (bds z) (lE r)
 |309,[[z],r],[[y],[e]]=>(bds y,e)=Jv (bds z) (lE r)
 |310,[],[[r]]=>r=1
 |311,[_,_],[[r]]=>r=1
 |312,[_],[[r]]=>r=1
 |320,[r],[[z]]=>z=aT (we (lE r))
 |321,[[z]],[[r]]=>r=aT (qQ (bds z))
 |322,[[z],a],[r,[f]]=>match E1 (bds z) (ln a)with
  |some b=>lE r=b/\f=1
  |none=>lE r=tv/\f=0
 |323,[[z],a],[[y]]=>bds y=(bds z).filter (λb=> !(b.1==ln a))
 |324,[[z],r],[[y],[e]]=>(bds y,e)=D5 (bds z) (lE r)
 |325,[[z],r],[[y],[e]]=>(bds y,e)=Jv (bds z) (lE r)
 |326,[[z],[x]],[[y]]=>yx y=HS (bds z) (J x)
 |327,[[a],[b]],[[r]]=>r=aT (decide (bds a=bds b))
 |328,[[a],[b]],[[r]]=>r=aT (decide (yx a=yx b))
 |329,[_,_,_],[[r]]=>r=1
 |n,a,b=>Kb n a b
def SB:Nat->List (List Int)->List (List Int)->Prop
 |73,[[z],[b]],[[r]]=>r=idx b (J z)
 |36,[[z],[b]],[[r]]=>J r=iB (·==u8 b) (J z)
 |37,[[z],[b]],[[r]]=>J r=gh (·==u8 b) (J z)
 |120,[[z]],[[r]]=>J r=gE (·==32) (J z)
 |121,[[z]],[[r]]=>J r=gE (·==46) (J z)
 |122,[[z]],[[r]]=>J r=gE tH (J z)
 |123,[[z]],[[r]]=>J r=gE qq (J z)
 |124,[[z]],[[r]]=>J r=gE gf (J z)
 |125,[[z]],[[a],[b],[c]]=>(J a,J b,c)=kS 64 (J z)
 |126,[[z]],[[a],[b],[c]]=>(J a,J b,c)=kS 58 (J z)
 |127,[[z]],[[r]]=>r=aT ((J z).contains 46)
 |128,[[z]],[[r]]=>r=aT (dd (J z))
 |44,[[s],[b]],[[r]]=>r=aT ((J s).all λc=>(J b).contains c)
 |65,[[s],[b]],[[r]]=>r=aT ((J s).all λc=>(J b).contains c)
 |28,[[z]],[[r]]=>J r=lower (J z)
 |17,[[z]],[[r]]=>J r=lower (J z)
 |31,[[z],[c]],[[r]]=>r=aT ((J z).contains (u8 c))
 |47,[[z]],[[r]]=>r=aT (jV (J z))
 |30,[[z]],[[r]]=>r=aT (jV (J z))
 |27,[[z]],[[r]]=>r=aT (lj (J z))
 |24,[[z]],[[r]]=>r=aT (Bx (J z))
 |29,[[z]],[[r]]=>r=aT (Bx (J z))
 |50,[[c]],[[r]]=>r=aT (uV (u8 c))
 |51,[[c]],[[r]]=>r=aT (uU (u8 c))
 |52,[[c]],[[r]]=>r=aT (gf (u8 c))
 |10,[[z]],[[a],[e]]=>(J a,e)=zy (J z)
 |11,[[z]],[[a],[e]]=>(J a,e)=zy (J z)
 |35,[[w]],[[c],[t],[o]]=>match zq (J w)with
  |some (code,o6)=>J c=code/\t=aT (!o6.isEmpty)/\o=1
  |none=>J c=[]/\t=0/\o=0
 |32,[[w]],[[c,t],[o]]=>match zq (J w)with
  |some (code,o6)=>J c=code/\J t=o6/\o=1
  |none=>o=0/\J c=[]/\J t=[]
 |33,[[s]],[[d],[p],[o]]=>match tu (J s) [] false with
  |some (zr,bo)=>J d=zr/\p=aT bo/\o=1
  |none=>J d=[]/\p=0/\o=0
 |34,[[s],[t]],[[r]]=>J r=cond ((J t).isPrefixOf (J s)) ((J s).drop (J t).length) (J s)
 |12,[[w],[s]],[[a],[e]]=>(J a,e)=BY (J w) (J s)
 |13,[[w],[s]],[[a],[e]]=>(J a,e)=BY (J w) (J s)
 |14,[[a,b],[c,d]],[[r]]=>r=aT (Bu (J a) (J b) (J c) (J d))
 |21,[[a,b],[c,d]],[[r]]=>r=aT (Bu (J a) (J b) (J c) (J d))
 |15,[[m],[w]],[[a,b],[e]]=>(J a,J b,e)=u2 (J m) (J w)
 |18,[[m],[w]],[[a,b],[e]]=>(J a,J b,e)=u2 (J m) (J w)
 |16,[[m,w]],[[r]]=>r=aT (vl (J m) (J w))
 |19,[[m,w]],[[r]]=>r=aT (vl (J m) (J w))
 |20,[[m,w]],[[r]]=>J r=J m++[32]++J w
 |202,[[z]],[[r]]=>J r=gE xt (J z)
 |203,[[z]],[[r]]=>J r=gE G6 (J z)
 |200,[[z]],[[r]]=>r=aT (ig (J z))
 |207,[[z]],[[r]]=>r=aT (ig (J z))
 |201,[[z]],[[r]]=>r=aT (yb (J z))
 |208,[[z]],[[r]]=>r=aT (yb (J z))
 |204,[[z]],[[r]]=>r=idx 58 (J z)
 |205,[[z]],[[r]]=>r=aT (lj (J z))
 |206,[[z],[k]],[[a],[b],[c]]=>(J a,J b,c)=kA (u8 k) (J z)
 |211,[[z],[k]],[[a],[b],[c]]=>(J a,J b,c)=kA (u8 k) (J z)
 |209,[[z]],[[a],[b],[e]]=>(J a,J b,e)=I8 (J z)
 |210,[[z]],[[a],[b],[e]]=>(J a,J b,e)=I8 (J z)
 |220,[[z]],[[r],[e]]=>match xZ [] (J z)with
  |some l=>pB r=l/\e=0
  |none=>pB r=[]/\e=2
 |221,[[z]],[[r],[e]]=>match xZ [] (J z)with
  |some l=>pB r=l/\e=0
  |none=>pB r=[]/\e=2
 |222,[[r]],[[z]]=>J z=BX (pB r)
 |225,[[r]],[[z]]=>J z=BX (pB r)
 |223,[[z]],[[r]]=>r=aT (EY (J z))
 |224,[[z]],[[r]]=>r=aT (EY (J z))
 |230,[[c]],[[r]]=>r=idx c yV
 |226,[],[[r]]=>r=1
 |227,[_],[[r]]=>r=1
 |228,[_],[[r]]=>r=1
 |229,[_,_],[[r]]=>r=1
 |9,[],[[r]]=>r=1
 |3,[_],[[r]]=>r=1
 |4,[_,_],[[r]]=>r=1
 |5,[_],[[r]]=>r=1
 |6,[_,_,_],[[r]]=>r=1
 |7,[_,_],[[r]]=>r=1
 |8,[_,_],[[r]]=>r=1
 |n,a,b=>Ka n a b
theorem CU (b:UInt8):u8 (b.toNat:Int)=b:=by simp[u8]
theorem Tp {b:UInt8} {z:Int} (h0:0<=z) (h1:z<=255):((b.toNat:Int)=z)↔(b==u8 z)=true:=by
 rw[beq_iff_eq,<-UInt8.toNat_inj]
 unfold u8
 simp
 omega
theorem GV {c:Int} (h0:0<=c) (h1:c<=255):∀l:ak,(idx c l=-1/\u8 c∉l)∨(0<=idx c l/\(idx c l).toNat<l.length/\l.getD (idx c l).toNat 0=u8 c/\u8 c∈l/\∀j,j<(idx c l).toNat->l.getD j 0≠u8 c)
 |[]=> .inl ⟨rfl,by simp⟩
 |b::r=>by
  have hb:=Tp (b:=b) h0 h1
  have ih:=GV h0 h1 r
  by_cases he:(b.toNat:Int)=c
  ·have hb':b=u8 c:=by simpa using hb.1 he
   right
   have:idx c (b::r)=0:=by simp[idx,he]
   rw[this]
   refine⟨Int.le_refl _,by simp,by simp[hb'],by simp[hb'],λj hj=>by simp at hj⟩
  ·have hb':¬b=u8 c:=λe=>he (hb.2 (by simpa using e))
   rcases ih with⟨h2,h3⟩|⟨h2,h3,h4,h5,h6⟩
   ·left
    exact⟨by simp[idx,he,h2],by simp[h3];exactλe=>hb' e.symm⟩
   ·right
    have e:idx c (b::r)=idx c r+1:=by
     show(if(b.toNat:Int)=c then 0 else if idx c r<0 then-1 else idx c r+1)=_
     rw[if_neg he,if_neg (by omega)]
    have pJ:(idx c (b::r)).toNat=(idx c r).toNat+1:=by omega
    rw[pJ]
    refine⟨by omega,by simp;omega,by simpa using h4,by simp[h5],λj hj=>?_⟩
    cases j with
    |zero=>simpa using hb'
    |succ j=>simpa using h6 j (by omega)
theorem GX {c:Int} (h0:0<=c) (h1:c<=255) (l:ak):decide (0<=idx c l)=l.contains (u8 c):=by
 rcases GV h0 h1 l with⟨h2,h3⟩|⟨h2,_,_,h3,_⟩
 ·rw[h2];simp[h3]
 ·simp[h2,h3]
theorem iN (b:Bool):0<=aT b/\aT b<=1:=by cases b<;>decide
theorem tr (b:Bool):decide (aT b=1)=b:=by cases b<;>rfl
theorem Tq {z:Int} (h0:0<=z) (h1:z<=255):((u8 z).toNat:Int)=z:=by unfold u8;simp;omega
theorem Jk (l:ak) (i:Nat) (h:i<l.length):l.take (i+1)=l.take i++[l.getD i 0]:=by
 rw[List.take_add_one];simp[List.getD,h]
theorem Px {z:Int} (h:z<=aO):((J z).length:Int)<=9223372036854775807:=by
 have:=pg h;unfold ez at this;omega
theorem yh (p:UInt8->Bool) (l:ak) (x:UInt8):gh p (l++[x])=cond (p x) (gh p l) (l++[x]):=by
 unfold gh
 simp only[List.reverse_append,List.reverse_cons,List.reverse_nil,List.nil_append,List.singleton_append,List.dropWhile_cons]
 cases p x<;>simp
end Go.bD
set_option maxRecDepth 100000
namespace Go.bD
open Go Go.aZ
def nS:FuncId->Nat->Option di:=λ_ _=>none
def nT:Nat->List Nat:=λ_=>[]
def Ls:D:= .int .u8 0 255
def Lp:D:= .int .i64 (-1) 9223372036854775807
def rD:D:= .int .i64 0 21
def Pj:D:= .ic [32]
def Pc:D:= .ic [46,46]
def Pe:D:= .ic [46,45]
def Pb:D:= .ic [58]
def Pg:D:= .ic [97,98,99,100,101,102,103,104,105,106,107,108,109,110,111,112,113,114,115,116,117,118,119,120,121,122,65,66,67,68,69,70,71,72,73,74,75,76,77,78,79,80,81,82,83,84,85,86,87,88,89,90,48,49,50,51,52,53,54,55,56,57,46,45]
def Pd:D:= .ic [48,49,50,51,52,53,54,55,56,57]
def Pk:D:= .ic [97,98,99,100,101,102,103,104,105,106,107,108,109,110,111,112,113,114,115,116,117,118,119,120,121,122,48,49,50,51,52,53,54,55,56,57,46,95,61,47,43,45]
def Ll:D:= .int .i64 (-1) 1
def EK:D:= .int .i64 0 9223372036854775807
def ky:bj:= .rd [.str,.str,.sub 1]
def xG:bj:= .rd [.str]
def two:D:= .mix [.str,.str]
def oM:cn:=⟨87,73,[.str,Ls],[Lp]⟩
def oL:cn:=⟨54,126,[.str,Pb],[.str,.str,.bool]⟩
def mK:cn:=⟨70,65,[.str,.str],[.bool]⟩
def PE:FuncId->Nat->Option di:=λf r=>match f,r with
 |70,2=>some ⟨[0,1,7],[(8,0,9223372036854775807)],[],[],[],[],[]⟩
 |_,_=>none
def P2:Nat->List Nat:=λn=>[1]
def Pa:cn:=⟨29,128,[.str,Pc],[.bool]⟩
def x4:kM:=⟨Pa,41⟩
def sz:cn:=⟨69,122,[.str,Pe],[.str]⟩
def PJ:FuncId->Nat->Option di:=λf r=>match f,r with
 |82,1=>some ⟨[1],[(0,0,0)],[],[],[],[],[]⟩
 |83,1=>some ⟨[1],[(0,0,0)],[],[],[],[],[]⟩
 |_,_=>none
def P7:Nat->List Nat:=λn=>[1]
def sA:cn:=⟨69,123,[.str,Pg],[.str]⟩
def PK:FuncId->Nat->Option di:=λf r=>match f,r with
 |82,1=>some ⟨[1],[(0,0,0)],[],[],[],[],[]⟩
 |83,1=>some ⟨[1],[(0,0,0)],[],[],[],[],[]⟩
 |_,_=>none
def P8:Nat->List Nat:=λn=>[1]
def sy:cn:=⟨69,124,[.str,Pd],[.str]⟩
def PI:FuncId->Nat->Option di:=λf r=>match f,r with
 |82,1=>some ⟨[1],[(0,0,0)],[],[],[],[],[]⟩
 |83,1=>some ⟨[1],[(0,0,0)],[],[],[],[],[]⟩
 |_,_=>none
def P6:Nat->List Nat:=λn=>[1]
def su:cn:=⟨71,47,[.str],[.bool]⟩
def sx:cn:=⟨57,27,[.str],[.bool]⟩
def sB:cn:=⟨69,202,[.str,Pk],[.str]⟩
def PL:FuncId->Nat->Option di:=λf r=>match f,r with
 |82,1=>some ⟨[1],[(0,0,0)],[],[],[],[],[]⟩
 |83,1=>some ⟨[1],[(0,0,0)],[],[],[],[],[]⟩
 |_,_=>none
def P9:Nat->List Nat:=λn=>[1]
def oN:cn:=⟨22,200,[.str],[.bool]⟩
def sv:cn:=⟨28,400,[.str],[.bool]⟩
def PG:FuncId->Nat->Option di:=λf r=>match f,r with
 |28,2=>some ⟨[0,5],[(6,0,9223372036854775807)],[],[],[],[],[]⟩
 |_,_=>none
def P4:Nat->List Nat:=λn=>[1]
def xy:cn:=⟨72,510,[.str,.str],[Ll]⟩
def qx:cH:=⟨6,500,[ky],[.d .bool],0⟩
def PD:FuncId->Nat->Option di:=λf r=>match f,r with
 |6,3=>some ⟨[0],[(3,0,9223372036854775807),(4,0,9223372036854775807)],[],[],[],[],[]⟩
 |_,_=>none
def P1:Nat->List Nat:=λn=>[1,1]
def ss:cn:=⟨29,501,[.str,Pj],[.bool]⟩
def nP:cn:=⟨15,502,[.str],[.bool]⟩
def sr:cH:=⟨33,503,[xG],[.d .bool],0⟩
def PC:FuncId->Nat->Option di:=λf r=>match f,r with
 |33,2=>some ⟨[0,5,6],[(7,0,9223372036854775807)],[],[],[],[],[]⟩
 |_,_=>none
def P0:Nat->List Nat:=λn=>[1]
def qv:cH:=⟨21,504,[ky],[.d .bool],0⟩
def PA:FuncId->Nat->Option di:=λf r=>match f,r with
 |21,5=>some ⟨[0,9,10],[(11,0,9223372036854775807)],[],[],[(3,[.str],9)],[],[]⟩
 |_,_=>none
def PY:Nat->List Nat:=λn=>[1,1,1,1]
def qw:cH:=⟨23,505,[ky,.d .str],[.d EK,.d .bool],0⟩
def PB:FuncId->Nat->Option di:=λf r=>match f,r with
 |35,3=>some ⟨[0,1,2,8],[(9,0,9223372036854775807),(10,0,9223372036854775807)],[],[],[],[],[]⟩
 |_,_=>none
def PZ:Nat->List Nat:=λn=>[1,1]
def mJ:cH:=⟨12,506,[ky,.d .str],[.d EK,.d rD],0⟩
def nO:cH:=⟨10,507,[ky,.d .str],[.d .str,.d rD],0⟩
def uX:cH:=⟨8,508,[ky,.d .str],[ky,.d rD],0⟩
def mI:cH:=⟨9,509,[ky,.d .str,.d .str],[ky,.d rD],0⟩
def sw:cH:=⟨26,512,[xG,.d .str],[.d .bool],0⟩
def PH:FuncId->Nat->Option di:=λf r=>match f,r with
 |40,2=>some ⟨[0,1,7],[(8,0,9223372036854775807)],[],[],[],[],[]⟩
 |_,_=>none
def P5:Nat->List Nat:=λn=>[1]
def nN:cH:=⟨11,511,[ky,.d .str,xG],[.d rD],0⟩
def Pz:FuncId->Nat->Option di:=λf r=>match f,r with
 |27,2=>some ⟨[0,1,7],[(8,0,9223372036854775807)],[],[],[],[],[]⟩
 |_,_=>none
def PX:Nat->List Nat:=λn=>[1]
def mH:cH:=⟨7,513,[ky,.d .str,xG],[ky,.d rD],84⟩
def qy:cH:=⟨5,520,[],[.d .bool],0⟩
def uY:cH:=⟨3,522,[ky,.d two,.d .str],[.d .bool],0⟩
def PF:FuncId->Nat->Option di:=λf r=>match f,r with
 |3,9=>some ⟨[0,2,4,7,9,11],[(13,0,3)],[],[],[],[],[]⟩
 |_,_=>none
def P3:Nat->List Nat:=λn=>[1]
def sh:Nat->List Nat×List Nat
 |73=>([1,1],[1])
 |126=>([1],[1,1,1])
 |65=>([1,1],[1])
 |128=>([1],[1])
 |122=>([1],[1])
 |123=>([1],[1])
 |124=>([1],[1])
 |47=>([1],[1])
 |27=>([1],[1])
 |202=>([1],[1])
 |200=>([1],[1])
 |400=>([1],[1])
 |510=>([1,1],[1])
 |500=>([1],[1])
 |501=>([1],[1])
 |502=>([1],[1])
 |503=>([1],[1])
 |504=>([1],[1])
 |505=>([1,1],[1,1])
 |506=>([1,1],[1,1])
 |507=>([1,1],[1,1])
 |508=>([1,1],[1,1])
 |509=>([1,1,1],[1,1])
 |512=>([1,1],[1])
 |511=>([1,1,1],[1])
 |513=>([1,1,1],[1,1])
 |520=>([],[1])
 |521=>([1,1],[1])
 |522=>([1,2,1],[1])
 |_=>([],[])
abbrev kK (P:Program) (gl:cN) (c:cn) (aN:dx) (li:FuncId->Nat->Option di) (cS:Nat->List Nat) (lens:List Nat) (B:(Nat->List (List Int)->List (List Int)->Prop)->(List (List Int)->List (List Int)->Prop)->Prop):Prop:=∀S K,tl sh cS S K lens (cW c.args) c.res (c.tree P gl aN li 600 6)=B S K
end Go.bD
namespace Go.bD
open Go Go.aZ
theorem CD {l:ak} (h:l≠[]):∃r x,l=r++[x]:=⟨_,_,(List.dropLast_concat_getLast h).symm⟩
theorem Ss:J 0=[]:=rfl
theorem eq_nil {z ao:Int} (h:ao=af 4 [z,0]):decide (ao=1)=(J z==[]):=by
 rw[h];simp only[af,Ss]
 cases hz:J z with
 |nil=>rfl
 |cons x r=>simp
def Dh (S:Nat->List (List Int)->List (List Int)->Prop) (K:List (List Int)->List (List Int)->Prop):Prop:=
 ∀z0:Int,0<=z0->z0<=aO->
 ∀ao:Int,0<=ao->ao<=1->ao=af 4 [59,z0]->
 (((decide (ao=1))=true->
  az 2 [z0,0,0]/\
  ∀z2:Int,0<=z2->z2<=aO->z2=af 2 [z0,0,0]->
  ∀z3:Int,0<=z3->z3<=9223372036854775807->z3=af 0 [z0]->
  az 2 [z0,1,z3]/\
  ∀z4:Int,0<=z4->z4<=aO->z4=af 2 [z0,1,z3]->
  K [[z0]] [[z2],[z4],[(cond (true) 1 0)]]
 )/\((decide (ao=1))=false->
  ∀z2:Int,(-1)<=z2->z2<=9223372036854775807->S 73 [[z0],[58]] [[z2]]->
  (((decide (0<=z2))=true->
   az 2 [z0,0,z2]/\
   ∀z3:Int,0<=z3->z3<=aO->z3=af 2 [z0,0,z2]->
   ∀z4:Int,0<=z4->z4<=1->0<=(z2+9223372036854775809)-18446744073709551616*z4->(z2+9223372036854775809)-18446744073709551616*z4<18446744073709551616->
   ∀z5:Int,0<=z5->z5<=9223372036854775807->z5=af 0 [z0]->
   az 2 [z0,((z2+((-18446744073709551616)*z4))+1),z5]/\
   ∀ai:Int,0<=ai->ai<=aO->ai=af 2 [z0,((z2+((-18446744073709551616)*z4))+1),z5]->
   K [[z0]] [[z3],[ai],[(cond (true) 1 0)]]
  )/\((decide (0<=z2))=false->
   K [[z0]] [[z0],[0],[(cond (false) 1 0)]]
  ))
 ))
def Dk (S:Nat->List (List Int)->List (List Int)->Prop) (K:List (List Int)->List (List Int)->Prop):Prop:=
 ∀z0:Int,0<=z0->z0<=aO->∀ao:Int,0<=ao->ao<=aO->
 ∀z2:Int,0<=z2->z2<=9223372036854775807->z2=af 0 [z0]->
 ∃(ph:List (List Int)->Prop) (vI:List (List Int)->Nat),ph [[0]]/\(∀z4:Int,0<=z4->z4<=9223372036854775807->ph [[z4]]->
  (((decide (z4<z2))=true->
   az 1 [z0,z4]/\
   ∀z5:Int,0<=z5->z5<=255->z5=af 1 [z0,z4]->
   ∀ai:Int,(-1)<=ai->ai<=9223372036854775807->S 73 [[ao],[z5]] [[ai]]->
   (((decide (ai<0))=true->
    K [[z0],[ao]] [[(cond (false) 1 0)]]
   )/\((decide (ai<0))=false->
    ∀al:Int,0<=al->al<=1->0<=(z4+9223372036854775809)-18446744073709551616*al->(z4+9223372036854775809)-18446744073709551616*al<18446744073709551616->
    az 39 [((z4+((-18446744073709551616)*al))+1),0,9223372036854775807]/\
    (ph [[((z4+((-18446744073709551616)*al))+1)]]/\vI [[((z4+((-18446744073709551616)*al))+1)]]<vI [[z4]])
   ))
  )/\((decide (z4<z2))=false->
   K [[z0],[ao]] [[(cond (true) 1 0)]]
  ))
 )
theorem Rn {c n:Int} (h0:0<=c) (h1:c<=255) (hn:J n=[u8 c]) {id:Nat} (hid:∀z a b r,SB id [[z]] [[a],[b],[r]]=((J a,J b,r)=kS c (J z))):
 (∀z0:Int,0<=z0->z0<=aO->
 ∀ao:Int,0<=ao->ao<=1->ao=af 4 [n,z0]->
 (((decide (ao=1))=true->
  az 2 [z0,0,0]/\
  ∀z2:Int,0<=z2->z2<=aO->z2=af 2 [z0,0,0]->
  ∀z3:Int,0<=z3->z3<=9223372036854775807->z3=af 0 [z0]->
  az 2 [z0,1,z3]/\
  ∀z4:Int,0<=z4->z4<=aO->z4=af 2 [z0,1,z3]->
  cI SB [.str,.str,.bool] id [[z0]] [[z2],[z4],[(cond (true) 1 0)]]
 )/\((decide (ao=1))=false->
  ∀z2:Int,(-1)<=z2->z2<=9223372036854775807->SB 73 [[z0],[c]] [[z2]]->
  (((decide (0<=z2))=true->
   az 2 [z0,0,z2]/\
   ∀z3:Int,0<=z3->z3<=aO->z3=af 2 [z0,0,z2]->
   ∀z4:Int,0<=z4->z4<=1->0<=(z2+9223372036854775809)-18446744073709551616*z4->(z2+9223372036854775809)-18446744073709551616*z4<18446744073709551616->
   ∀z5:Int,0<=z5->z5<=9223372036854775807->z5=af 0 [z0]->
   az 2 [z0,((z2+((-18446744073709551616)*z4))+1),z5]/\
   ∀ai:Int,0<=ai->ai<=aO->ai=af 2 [z0,((z2+((-18446744073709551616)*z4))+1),z5]->
   cI SB [.str,.str,.bool] id [[z0]] [[z3],[ai],[(cond (true) 1 0)]]
  )/\((decide (0<=z2))=false->
   cI SB [.str,.str,.bool] id [[z0]] [[z0],[0],[(cond (false) 1 0)]]
  ))
 ))):=by
  intro z0 a0 a1 ao b0 b1 hz1
  simp only[af,hn]at hz1
  refine⟨λh=>?_,λh z2 bK c1 h2=>?_⟩
  ·have hs:J z0=[u8 c]:=by
    by_cases h':[u8 c]=J z0
    ·exact h'.symm
    ·rw[if_neg h']at hz1;subst hz1;simp at h
   refine⟨⟨by omega,by omega,by omega⟩,λz2 bK c1 h2 z3 d0 d1 h3=>?_⟩
   simp only[af,hs,List.length_singleton]at h3
   refine⟨⟨by omega,by omega,by rw[hs];simp only[List.length_singleton];omega⟩,λz4 cg e1 h4=>⟨⟨bK,c1,cg,e1,by decide,by decide,trivial⟩,?_⟩⟩
   rw[hid]
   have e2:J z2=[]:=by rw[h2];simp[af,gD]
   have dL:J z4=[]:=by rw[h4];simp[af,gD,hs]
   have LB:idx c [u8 c]=0:=by simp[idx,Tq h0 h1]
   rw[e2,dL,hs]
   simp[kS,LB]
  ·have h2:z2=idx c (J z0):=h2
   refine⟨λhp=>?_,λhp=>⟨⟨a0,a1,Int.le_refl _,pf,by decide,by decide,trivial⟩,?_⟩⟩
   ·have hp:0<=z2:=by simpa using hp
    have hr:=uT c (J z0)
    have hL:=Px a1
    refine⟨⟨by omega,by omega,by omega⟩,λz3 d0 d1 h3 z4 cg e1 e2 e3 z5 f0 f1 h5=>?_⟩
    simp only[af]at h5
    have LK:z2+-18446744073709551616*z4+1=z2+1:=by omega
    rw[LK]
    refine⟨⟨by omega,by omega,by omega⟩,λai g0 g1 h6=>⟨⟨d0,d1,g0,g1,by decide,by decide,trivial⟩,?_⟩⟩
    rw[hid]
    have e3:J z3=(J z0).take z2.toNat:=by rw[h3];simp[af,gD]
    have nm:J ai=(J z0).drop (z2.toNat+1):=by
     rw[h6];simp only[af,gD]
     rw[show(z2+1).toNat=z2.toNat+1 by omega]
     exact List.take_of_length_le (by simp;omega)
    rw[e3,nm]
    unfold kS
    rw[<-h2,show decide (0<=z2)=true by simpa using hp]
    rfl
   ·rw[hid]
    unfold kS
    rw[<-h2,hp]
    rfl
theorem Ro:Dh SB (cI SB [.str,.str,.bool] 126):=Rn (c:=58) (n:=59) (by decide) (by decide) (by decide) λ_ _ _ _=>rfl
theorem Kw (p:UInt8->Bool) (l:ak) (i:Nat) (h:i<l.length):(l.take (i+1)).all p=((l.take i).all p&&p (l.getD i 0)):=by
 rw[Jk l i h];simp
theorem Kt (p:UInt8->Bool) (l:ak) (i:Nat) (h:i<l.length) (hp:p (l.getD i 0)=false):l.all p=false:=by
 rw[List.all_eq_false]
 refine⟨l.getD i 0,?_,λe=>by rw[hp]at e;cases e⟩
 simp[List.getD,h]
theorem Ua {z q L:Int} (h:z<L) (hL:L<=9223372036854775807) (h0:0<=z) (q0:0<=q) (e2:0<=(z+9223372036854775809)-18446744073709551616*q):z+-18446744073709551616*q+1=z+1:=by omega
theorem Ru {id:Nat} (hid:∀s b r,SB id [[s],[b]] [[r]]=(r=aT ((J s).all λc=>(J b).contains c))):
 (∀z0:Int,0<=z0->z0<=aO->∀ao:Int,0<=ao->ao<=aO->
 ∀z2:Int,0<=z2->z2<=9223372036854775807->z2=af 0 [z0]->
 ∃(ph:List (List Int)->Prop) (vI:List (List Int)->Nat),ph [[0]]/\(∀z4:Int,0<=z4->z4<=9223372036854775807->ph [[z4]]->
  (((decide (z4<z2))=true->
   az 1 [z0,z4]/\
   ∀z5:Int,0<=z5->z5<=255->z5=af 1 [z0,z4]->
   ∀ai:Int,(-1)<=ai->ai<=9223372036854775807->SB 73 [[ao],[z5]] [[ai]]->
   (((decide (ai<0))=true->
    cI SB [.bool] id [[z0],[ao]] [[(cond (false) 1 0)]]
   )/\((decide (ai<0))=false->
    ∀al:Int,0<=al->al<=1->0<=(z4+9223372036854775809)-18446744073709551616*al->(z4+9223372036854775809)-18446744073709551616*al<18446744073709551616->
    az 39 [((z4+((-18446744073709551616)*al))+1),0,9223372036854775807]/\
    (ph [[((z4+((-18446744073709551616)*al))+1)]]/\vI [[((z4+((-18446744073709551616)*al))+1)]]<vI [[z4]])
   ))
  )/\((decide (z4<z2))=false->
   cI SB [.bool] id [[z0],[ao]] [[(cond (true) 1 0)]]
  ))
 )):=by
  intro z0 a0 a1 ao b0 b1 z2 bK c1 h2
  simp only[af]at h2
  refine⟨λbl=>∃i:Nat,bl=[[(i:Int)]]/\i<=(J z0).length/\((J z0).take i).all (λc=>(J ao).contains c)=true,λbl=>(J z0).length-((bl.getD 0 []).getD 0 0).toNat,⟨0,rfl,Nat.zero_le _,rfl⟩,?_⟩
  rintro z4 d0 d1 ⟨i,e,hi,hall⟩
  obtain rfl:z4=i:=by simpa using e
  refine⟨λhp=>?_,λhp=>⟨⟨by decide,by decide,trivial⟩,?_⟩⟩
  ·have hp:(i:Int)<z2:=by simpa using hp
   refine⟨⟨d0,by omega⟩,λz5 cg e1 h5 ai f0 f1 h6=>?_⟩
   have h6:ai=idx z5 (J ao):=h6
   simp only[af,Int.toNat_natCast]at h5
   have hu:u8 z5=(J z0).getD i 0:=by rw[h5,CU]
   have hm:=GX cg e1 (J ao)
   rw[hu,<-h6]at hm
   refine⟨λhq=>⟨⟨by decide,by decide,trivial⟩,?_⟩,λhq al g0 g1 g2 g3=>?_⟩
   ·rw[hid,Kt _ _ i (by omega) (by rw[<-hm];simpa using hq)];rfl
   ·have hq:0<=ai:=by simpa using hq
    rw[Ua (L:=z2) hp c1 d0 g0 g2]
    refine⟨⟨by omega,by omega⟩,⟨i+1,by simp,by omega,?_⟩,?_⟩
    ·rw[Kw _ _ _ (by omega),hall,<-hm];simpa using hq
    ·show(J z0).length-((i:Int)+1).toNat<(J z0).length-(i:Int).toNat
     omega
  ·have hp:¬(i:Int)<z2:=by simpa using hp
   rw[List.take_of_length_le (by omega)]at hall
   rw[hid,hall];rfl
theorem Rr:Dk SB (cI SB [.bool] 65):=Ru λ_ _ _=>rfl
def Ds (S:Nat->List (List Int)->List (List Int)->Prop) (K:List (List Int)->List (List Int)->Prop):Prop:=
 ∀z0:Int,0<=z0->z0<=aO->
 ∀ao:Int,0<=ao->ao<=1->ao=af 4 [z0,0]->
 (((decide (ao=1))=true->
  K [[z0]] [[z0]]
 )/\((decide (ao=1))=false->
  ∃(fm:List (List Int)->Prop) (iJ:List (List Int)->Nat),fm [[z0]]/\(∀z3:Int,0<=z3->z3<=aO->fm [[z3]]->
   ∀z4:Int,0<=z4->z4<=9223372036854775807->z4=af 0 [z3]->
   (((decide (0<z4))=true->
    ∀z5:Int,0<=z5->z5<=9223372036854775807->z5=af 0 [z3]->
    az 1 [z3,(z5+(-1))]/\
    ∀ai:Int,0<=ai->ai<=255->ai=af 1 [z3,(z5+(-1))]->
    ∀al:Int,0<=al->al<=1->al=af 43 [12125,ai]->
    ((((!(decide (al=1))))=true->
     ∃(fo:List (List Int)->Prop) (iK:List (List Int)->Nat),fo [[z3]]/\(∀z9:Int,0<=z9->z9<=aO->fo [[z9]]->
      ∀av:Int,0<=av->av<=9223372036854775807->av=af 0 [z9]->
      (((decide (0<av))=true->
       az 1 [z9,0]/\
       ∀aI:Int,0<=aI->aI<=255->aI=af 1 [z9,0]->
       ∀z12:Int,0<=z12->z12<=1->z12=af 43 [12125,aI]->
       ((((!(decide (z12=1))))=true->
        K [[z0]] [[z9]]
       )/\(((!(decide (z12=1))))=false->
        ∀ba:Int,0<=ba->ba<=9223372036854775807->ba=af 0 [z9]->
        az 2 [z9,1,ba]/\
        ∀a8:Int,0<=a8->a8<=aO->a8=af 2 [z9,1,ba]->
        (fo [[a8]]/\iK [[a8]]<iK [[z9]])
       ))
      )/\((decide (0<av))=false->
       K [[z0]] [[z9]]
      ))
     )
    )/\(((!(decide (al=1))))=false->
     ∀aw:Int,0<=aw->aw<=9223372036854775807->aw=af 0 [z3]->
     az 2 [z3,0,(aw+(-1))]/\
     ∀z9:Int,0<=z9->z9<=aO->z9=af 2 [z3,0,(aw+(-1))]->
     (fm [[z9]]/\iJ [[z9]]<iJ [[z3]])
    ))
   )/\((decide (0<z4))=false->
    ∃(en:List (List Int)->Prop) (fT:List (List Int)->Nat),en [[z3]]/\(∀ai:Int,0<=ai->ai<=aO->en [[ai]]->
     ∀al:Int,0<=al->al<=9223372036854775807->al=af 0 [ai]->
     (((decide (0<al))=true->
      az 1 [ai,0]/\
      ∀aw:Int,0<=aw->aw<=255->aw=af 1 [ai,0]->
      ∀z9:Int,0<=z9->z9<=1->z9=af 43 [12125,aw]->
      ((((!(decide (z9=1))))=true->
       K [[z0]] [[ai]]
      )/\(((!(decide (z9=1))))=false->
       ∀av:Int,0<=av->av<=9223372036854775807->av=af 0 [ai]->
       az 2 [ai,1,av]/\
       ∀aI:Int,0<=aI->aI<=aO->aI=af 2 [ai,1,av]->
       (en [[aI]]/\fT [[aI]]<fT [[ai]])
      ))
     )/\((decide (0<al))=false->
      K [[z0]] [[ai]]
     ))
    )
   ))
  )
 ))
def Dt (S:Nat->List (List Int)->List (List Int)->Prop) (K:List (List Int)->List (List Int)->Prop):Prop:=
 ∀z0:Int,0<=z0->z0<=aO->
 ∀ao:Int,0<=ao->ao<=1->ao=af 4 [z0,0]->
 (((decide (ao=1))=true->
  K [[z0]] [[z0]]
 )/\((decide (ao=1))=false->
  ∃(fm:List (List Int)->Prop) (iJ:List (List Int)->Nat),fm [[z0]]/\(∀z3:Int,0<=z3->z3<=aO->fm [[z3]]->
   ∀z4:Int,0<=z4->z4<=9223372036854775807->z4=af 0 [z3]->
   (((decide (0<z4))=true->
    ∀z5:Int,0<=z5->z5<=9223372036854775807->z5=af 0 [z3]->
    az 1 [z3,(z5+(-1))]/\
    ∀ai:Int,0<=ai->ai<=255->ai=af 1 [z3,(z5+(-1))]->
    ∀al:Int,0<=al->al<=1->al=af 43 [8267443711659794979134808499087199072256874527605039863196959864303977456569186565734100443375465041388132907546406408792979960403300126342849461211344038,ai]->
    ((((!(decide (al=1))))=true->
     ∃(fo:List (List Int)->Prop) (iK:List (List Int)->Nat),fo [[z3]]/\(∀z9:Int,0<=z9->z9<=aO->fo [[z9]]->
      ∀av:Int,0<=av->av<=9223372036854775807->av=af 0 [z9]->
      (((decide (0<av))=true->
       az 1 [z9,0]/\
       ∀aI:Int,0<=aI->aI<=255->aI=af 1 [z9,0]->
       ∀z12:Int,0<=z12->z12<=1->z12=af 43 [8267443711659794979134808499087199072256874527605039863196959864303977456569186565734100443375465041388132907546406408792979960403300126342849461211344038,aI]->
       ((((!(decide (z12=1))))=true->
        K [[z0]] [[z9]]
       )/\(((!(decide (z12=1))))=false->
        ∀ba:Int,0<=ba->ba<=9223372036854775807->ba=af 0 [z9]->
        az 2 [z9,1,ba]/\
        ∀a8:Int,0<=a8->a8<=aO->a8=af 2 [z9,1,ba]->
        (fo [[a8]]/\iK [[a8]]<iK [[z9]])
       ))
      )/\((decide (0<av))=false->
       K [[z0]] [[z9]]
      ))
     )
    )/\(((!(decide (al=1))))=false->
     ∀aw:Int,0<=aw->aw<=9223372036854775807->aw=af 0 [z3]->
     az 2 [z3,0,(aw+(-1))]/\
     ∀z9:Int,0<=z9->z9<=aO->z9=af 2 [z3,0,(aw+(-1))]->
     (fm [[z9]]/\iJ [[z9]]<iJ [[z3]])
    ))
   )/\((decide (0<z4))=false->
    ∃(en:List (List Int)->Prop) (fT:List (List Int)->Nat),en [[z3]]/\(∀ai:Int,0<=ai->ai<=aO->en [[ai]]->
     ∀al:Int,0<=al->al<=9223372036854775807->al=af 0 [ai]->
     (((decide (0<al))=true->
      az 1 [ai,0]/\
      ∀aw:Int,0<=aw->aw<=255->aw=af 1 [ai,0]->
      ∀z9:Int,0<=z9->z9<=1->z9=af 43 [8267443711659794979134808499087199072256874527605039863196959864303977456569186565734100443375465041388132907546406408792979960403300126342849461211344038,aw]->
      ((((!(decide (z9=1))))=true->
       K [[z0]] [[ai]]
      )/\(((!(decide (z9=1))))=false->
       ∀av:Int,0<=av->av<=9223372036854775807->av=af 0 [ai]->
       az 2 [ai,1,av]/\
       ∀aI:Int,0<=aI->aI<=aO->aI=af 2 [ai,1,av]->
       (en [[aI]]/\fT [[aI]]<fT [[ai]])
      ))
     )/\((decide (0<al))=false->
      K [[z0]] [[ai]]
     ))
    )
   ))
  )
 ))
def Dr (S:Nat->List (List Int)->List (List Int)->Prop) (K:List (List Int)->List (List Int)->Prop):Prop:=
 ∀z0:Int,0<=z0->z0<=aO->
 ∀ao:Int,0<=ao->ao<=1->ao=af 4 [z0,0]->
 (((decide (ao=1))=true->
  K [[z0]] [[z0]]
 )/\((decide (ao=1))=false->
  ∃(fm:List (List Int)->Prop) (iJ:List (List Int)->Nat),fm [[z0]]/\(∀z3:Int,0<=z3->z3<=aO->fm [[z3]]->
   ∀z4:Int,0<=z4->z4<=9223372036854775807->z4=af 0 [z3]->
   (((decide (0<z4))=true->
    ∀z5:Int,0<=z5->z5<=9223372036854775807->z5=af 0 [z3]->
    az 1 [z3,(z5+(-1))]/\
    ∀ai:Int,0<=ai->ai<=255->ai=af 1 [z3,(z5+(-1))]->
    ∀al:Int,0<=al->al<=1->al=af 43 [284767230291263911083031,ai]->
    ((((!(decide (al=1))))=true->
     ∃(fo:List (List Int)->Prop) (iK:List (List Int)->Nat),fo [[z3]]/\(∀z9:Int,0<=z9->z9<=aO->fo [[z9]]->
      ∀av:Int,0<=av->av<=9223372036854775807->av=af 0 [z9]->
      (((decide (0<av))=true->
       az 1 [z9,0]/\
       ∀aI:Int,0<=aI->aI<=255->aI=af 1 [z9,0]->
       ∀z12:Int,0<=z12->z12<=1->z12=af 43 [284767230291263911083031,aI]->
       ((((!(decide (z12=1))))=true->
        K [[z0]] [[z9]]
       )/\(((!(decide (z12=1))))=false->
        ∀ba:Int,0<=ba->ba<=9223372036854775807->ba=af 0 [z9]->
        az 2 [z9,1,ba]/\
        ∀a8:Int,0<=a8->a8<=aO->a8=af 2 [z9,1,ba]->
        (fo [[a8]]/\iK [[a8]]<iK [[z9]])
       ))
      )/\((decide (0<av))=false->
       K [[z0]] [[z9]]
      ))
     )
    )/\(((!(decide (al=1))))=false->
     ∀aw:Int,0<=aw->aw<=9223372036854775807->aw=af 0 [z3]->
     az 2 [z3,0,(aw+(-1))]/\
     ∀z9:Int,0<=z9->z9<=aO->z9=af 2 [z3,0,(aw+(-1))]->
     (fm [[z9]]/\iJ [[z9]]<iJ [[z3]])
    ))
   )/\((decide (0<z4))=false->
    ∃(en:List (List Int)->Prop) (fT:List (List Int)->Nat),en [[z3]]/\(∀ai:Int,0<=ai->ai<=aO->en [[ai]]->
     ∀al:Int,0<=al->al<=9223372036854775807->al=af 0 [ai]->
     (((decide (0<al))=true->
      az 1 [ai,0]/\
      ∀aw:Int,0<=aw->aw<=255->aw=af 1 [ai,0]->
      ∀z9:Int,0<=z9->z9<=1->z9=af 43 [284767230291263911083031,aw]->
      ((((!(decide (z9=1))))=true->
       K [[z0]] [[ai]]
      )/\(((!(decide (z9=1))))=false->
       ∀av:Int,0<=av->av<=9223372036854775807->av=af 0 [ai]->
       az 2 [ai,1,av]/\
       ∀aI:Int,0<=aI->aI<=aO->aI=af 2 [ai,1,av]->
       (en [[aI]]/\fT [[aI]]<fT [[ai]])
      ))
     )/\((decide (0<al))=false->
      K [[z0]] [[ai]]
     ))
    )
   ))
  )
 ))
theorem Ff {n z q:Int} {p:UInt8->Bool} (hn:∀c,(J n).contains c=p c) (h:q=af 43 [n,z]):decide (q=1)=p (u8 z):=by
 rw[h];simp only[af]
 have:=hn (u8 z)
 unfold u8 at this⊢
 rw[<-this]
 by_cases hm:UInt8.ofNat z.toNat∈J n
 ·simp[hm]
 ·simp[hm]
theorem xY {n:Int} {p:UInt8->Bool} (hn:∀c,(J n).contains c=p c) {id:Nat} (hid:∀z r,SB id [[z]] [[r]]=(J r=gE p (J z))):
 (∀z0:Int,0<=z0->z0<=aO->
 ∀ao:Int,0<=ao->ao<=1->ao=af 4 [z0,0]->
 (((decide (ao=1))=true->
   cI SB [.str] id [[z0]] [[z0]]
 )/\((decide (ao=1))=false->
  ∃(fm:List (List Int)->Prop) (iJ:List (List Int)->Nat),fm [[z0]]/\(∀z3:Int,0<=z3->z3<=aO->fm [[z3]]->
   ∀z4:Int,0<=z4->z4<=9223372036854775807->z4=af 0 [z3]->
   (((decide (0<z4))=true->
    ∀z5:Int,0<=z5->z5<=9223372036854775807->z5=af 0 [z3]->
    az 1 [z3,(z5+(-1))]/\
    ∀ai:Int,0<=ai->ai<=255->ai=af 1 [z3,(z5+(-1))]->
    ∀al:Int,0<=al->al<=1->al=af 43 [n,ai]->
    ((((!(decide (al=1))))=true->
     ∃(fo:List (List Int)->Prop) (iK:List (List Int)->Nat),fo [[z3]]/\(∀z9:Int,0<=z9->z9<=aO->fo [[z9]]->
      ∀av:Int,0<=av->av<=9223372036854775807->av=af 0 [z9]->
      (((decide (0<av))=true->
       az 1 [z9,0]/\
       ∀aI:Int,0<=aI->aI<=255->aI=af 1 [z9,0]->
       ∀z12:Int,0<=z12->z12<=1->z12=af 43 [n,aI]->
       ((((!(decide (z12=1))))=true->
         cI SB [.str] id [[z0]] [[z9]]
       )/\(((!(decide (z12=1))))=false->
        ∀ba:Int,0<=ba->ba<=9223372036854775807->ba=af 0 [z9]->
        az 2 [z9,1,ba]/\
        ∀a8:Int,0<=a8->a8<=aO->a8=af 2 [z9,1,ba]->
        (fo [[a8]]/\iK [[a8]]<iK [[z9]])
       ))
      )/\((decide (0<av))=false->
       cI SB [.str] id [[z0]] [[z9]]
      ))
     )
    )/\(((!(decide (al=1))))=false->
     ∀aw:Int,0<=aw->aw<=9223372036854775807->aw=af 0 [z3]->
     az 2 [z3,0,(aw+(-1))]/\
     ∀z9:Int,0<=z9->z9<=aO->z9=af 2 [z3,0,(aw+(-1))]->
     (fm [[z9]]/\iJ [[z9]]<iJ [[z3]])
    ))
   )/\((decide (0<z4))=false->
    ∃(en:List (List Int)->Prop) (fT:List (List Int)->Nat),en [[z3]]/\(∀ai:Int,0<=ai->ai<=aO->en [[ai]]->
     ∀al:Int,0<=al->al<=9223372036854775807->al=af 0 [ai]->
     (((decide (0<al))=true->
      az 1 [ai,0]/\
      ∀aw:Int,0<=aw->aw<=255->aw=af 1 [ai,0]->
      ∀z9:Int,0<=z9->z9<=1->z9=af 43 [n,aw]->
      ((((!(decide (z9=1))))=true->
        cI SB [.str] id [[z0]] [[ai]]
      )/\(((!(decide (z9=1))))=false->
       ∀av:Int,0<=av->av<=9223372036854775807->av=af 0 [ai]->
       az 2 [ai,1,av]/\
       ∀aI:Int,0<=aI->aI<=aO->aI=af 2 [ai,1,av]->
       (en [[aI]]/\fT [[aI]]<fT [[ai]])
      ))
     )/\((decide (0<al))=false->
      cI SB [.str] id [[z0]] [[ai]]
     ))
    )
   ))
  )
 ))):=by
  intro z0 a0 a1 ao b0 b1 hz1
  rw[eq_nil hz1]
  have inner:∀z3:Int,0<=z3->z3<=aO->J z3=gh p (J z0)->∃(fo:List (List Int)->Prop) (iK:List (List Int)->Nat),fo [[z3]]/\(∀z9:Int,0<=z9->z9<=aO->fo [[z9]]->
   ∀av:Int,0<=av->av<=9223372036854775807->av=af 0 [z9]->
   (((decide (0<av))=true->
    az 1 [z9,0]/\
    ∀aI:Int,0<=aI->aI<=255->aI=af 1 [z9,0]->
    ∀z12:Int,0<=z12->z12<=1->z12=af 43 [n,aI]->
    ((((!(decide (z12=1))))=true->
     cI SB [.str] id [[z0]] [[z9]]
    )/\(((!(decide (z12=1))))=false->
     ∀ba:Int,0<=ba->ba<=9223372036854775807->ba=af 0 [z9]->
     az 2 [z9,1,ba]/\
     ∀a8:Int,0<=a8->a8<=aO->a8=af 2 [z9,1,ba]->
     (fo [[a8]]/\iK [[a8]]<iK [[z9]])
    ))
   )/\((decide (0<av))=false->
    cI SB [.str] id [[z0]] [[z9]]
   ))):=by
   intro z3 a0 a1 h3
   refine⟨λbl=>∃z,bl=[[z]]/\iB p (J z)=iB p (gh p (J z0)),λbl=>(J ((bl.getD 0 []).getD 0 0)).length,⟨z3,rfl,by rw[h3]⟩,?_⟩
   rintro z9 bK c1 ⟨z,e,hz⟩
   obtain rfl:z9=z:=by simpa using e
   intro z4 d0 d1 gy
   simp only[af]at gy
   cases hl:J z9 with
   |nil=>
    rw[hl]at gy hz
    simp only[List.length_nil]at gy
    subst gy
    refine⟨λhp=>by simp at hp,λ_=>⟨⟨bK,c1,trivial⟩,?_⟩⟩
    rw[hid,hl];exact hz
   |cons x r=>
    rw[hl]at gy hz
    simp only[List.length_cons]at gy
    refine⟨λ_=>⟨⟨Int.le_refl _,by rw[hl];simp only[List.length_cons];omega⟩,?_⟩,λhp=>by simp at hp;omega⟩
    intro z5 cg e1 sn
    simp only[af,hl,Int.toNat_zero,List.getD_cons_zero]at sn
    intro ai f0 f1 nJ
    rw[Ff hn nJ,sn,CU]
    refine⟨λhe=>⟨⟨bK,c1,trivial⟩,?_⟩,λhe=>?_⟩
    ·rw[hid,hl]
     have he:p x=false:=by simpa using he
     show x::r=iB p (gh p (J z0))
     rw[<-hz]
     simp[iB,List.dropWhile_cons,he]
    ·have he:p x=true:=by simpa using he
     intro ba f0 f1 nJ
     simp only[af,hl,List.length_cons]at nJ
     refine⟨⟨by omega,by omega,by rw[hl];simp only[List.length_cons];omega⟩,?_⟩
     intro al g0 g1 uR
     have hr:J al=r:=by
      rw[uR];simp only[af,gD,hl]
      rw[show(1:Int).toNat=1 from rfl,List.drop_one,List.tail_cons]
      exact List.take_of_length_le (by omega)
     refine⟨⟨al,rfl,?_⟩,?_⟩
     ·rw[hr,<-hz];simp only[iB,List.dropWhile_cons,he,if_true]
     ·show(J al).length<(J z9).length
      rw[hr,hl];simp
  refine⟨λh=>⟨⟨a0,a1,trivial⟩,?_⟩,λh=>?_⟩
  ·rw[hid]
   have:J z0=[]:=by simpa using h
   rw[this];rfl
  ·refine⟨λbl=>∃z,bl=[[z]]/\gh p (J z)=gh p (J z0),λbl=>(J ((bl.getD 0 []).getD 0 0)).length,⟨z0,rfl,rfl⟩,?_⟩
   rintro z3 bK c1 ⟨z,e,hz⟩
   obtain rfl:z3=z:=by simpa using e
   intro z4 d0 d1 gy
   simp only[af]at gy
   by_cases hl:J z3=[]
   ·have U7:=gy
    rw[hl]at gy
    simp only[List.length_nil]at gy
    subst gy
    refine⟨λhp=>by simp at hp,λ_=>inner z3 bK c1 ?_⟩
    rw[hl]at hz⊢
    exact hz
   ·obtain⟨r,x,hl⟩:=CD hl
    rw[hl]at gy hz
    simp only[List.length_append,List.length_cons,List.length_nil]at gy
    refine⟨λ_=>?_,λhp=>by simp at hp;omega⟩
    intro z5 d0 d1 sn
    simp only[af,hl,List.length_append,List.length_cons,List.length_nil]at sn
    refine⟨⟨by omega,by rw[hl];simp only[List.length_append,List.length_cons,List.length_nil];omega⟩,?_⟩
    intro ai f0 f1 nJ
    have ht:(z5+-1).toNat=r.length:=by omega
    simp only[af,hl,ht]at nJ
    rw[show((r++[x]).getD r.length 0)=x by simp[List.getD]]at nJ
    intro al g0 g1 uR
    rw[Ff hn uR,nJ,CU]
    refine⟨λhe=>inner z3 bK c1 ?_,λhe=>?_⟩
    ·have he:p x=false:=by simpa using he
     rw[hl,<-hz,yh,he,cond_false]
    ·have he:p x=true:=by simpa using he
     intro al f0 f1 uR
     simp only[af,hl,List.length_append,List.length_cons,List.length_nil]at uR
     have Ou:(al+-1).toNat=r.length:=by omega
     refine⟨⟨by omega,by omega,by rw[hl];simp only[List.length_append,List.length_cons,List.length_nil];omega⟩,?_⟩
     intro aw g0 g1 OK
     have hr:J aw=r:=by
      rw[OK];simp only[af,gD,hl,Ou]
      simp
     refine⟨⟨aw,rfl,?_⟩,?_⟩
     ·rw[hr,<-hz,yh,he,cond_true]
     ·show(J aw).length<(J z3).length
      rw[hr,hl];simp
theorem ps {q p:UInt8->Bool} (h:((List.range 256).all λi=>q (UInt8.ofNat i)==p (UInt8.ofNat i))=true) (c:UInt8):q c=p c:=by
 have:=List.all_eq_true.1 h c.toNat (List.mem_range.2 c.toNat_lt)
 simpa using this
theorem RA:Ds SB (cI SB [.str] 122):=xY (n:=12125) (p:=tH) (ps (by decide+kernel)) λ_ _=>rfl
theorem RB:Dt SB (cI SB [.str] 123):=xY (n:=8267443711659794979134808499087199072256874527605039863196959864303977456569186565734100443375465041388132907546406408792979960403300126342849461211344038) (p:=qq) (ps (by decide+kernel)) λ_ _=>rfl
theorem Rz:Dr SB (cI SB [.str] 124):=xY (n:=284767230291263911083031) (p:=gf) (ps (by decide+kernel)) λ_ _=>rfl
end Go.bD
namespace Go.bD
open Go Go.aZ
def Dj (S:Nat->List (List Int)->List (List Int)->Prop) (K:List (List Int)->List (List Int)->Prop):Prop:=
 ∀z0:Int,0<=z0->z0<=aO->
 ∀ao:Int,0<=ao->ao<=1->ao=af 4 [z0,0]->
 ((((!(decide (ao=1))))=true->
  ∀z2:Int,0<=z2->z2<=9223372036854775807->z2=af 0 [z0]->
  (((decide (z2<=230))=true->
   ∀z3:Int,0<=z3->z3<=aO->S 123 [[z0]] [[z3]]->
   ∀z4:Int,0<=z4->z4<=1->z4=af 4 [z3,0]->
   (((decide (z4=1))=true->
    ∀z5:Int,0<=z5->z5<=1->S 65 [[z0],[3092260449727753699381237987134896180985020549865866695797500355328521677512090486983914513878993150076419119825652852662229468458769751959831595687466918]] [[z5]]->
    (((decide (z5=1))=true->
     ∀ai:Int,0<=ai->ai<=aO->S 122 [[z0]] [[ai]]->
     ∀al:Int,0<=al->al<=1->al=af 4 [ai,z0]->
     (((decide (al=1))=true->
      az 41 [z0]/\
      ∀aw:Int,0<=aw->aw<=1->S 128 [[z0]] [[aw]]->
      K [[z0]] [[(cond ((!(decide (aw=1)))) 1 0)]]
     )/\((decide (al=1))=false->
      K [[z0]] [[(cond (false) 1 0)]]
     ))
    )/\((decide (z5=1))=false->
     K [[z0]] [[(cond (false) 1 0)]]
    ))
   )/\((decide (z4=1))=false->
    K [[z0]] [[(cond (false) 1 0)]]
   ))
  )/\((decide (z2<=230))=false->
   K [[z0]] [[(cond (false) 1 0)]]
  ))
 )/\(((!(decide (ao=1))))=false->
  K [[z0]] [[(cond (false) 1 0)]]
 ))
theorem xH (p:UInt8->Bool) (l:ak):(iB p l).length<=l.length:=(List.dropWhile_sublist p).length_le
theorem Sg (p:UInt8->Bool) (l:ak):(gh p l).length<=l.length:=by
 unfold gh;rw[List.length_reverse]
 have:=xH p l.reverse
 rwa [List.length_reverse]at this
theorem Qc {p:UInt8->Bool} {l:ak} (h:l.length<=(iB p l).length):iB p l=l:=(List.dropWhile_suffix p).eq_of_length (Nat.le_antisymm (xH p l) h)
theorem Sf {p:UInt8->Bool} {l:ak} (h:l.length<=(gh p l).length):gh p l=l:=by
 have:iB p l.reverse=l.reverse:=Qc (by unfold gh at h;rw[List.length_reverse]at h;rw[List.length_reverse];exact h)
 unfold gh;unfold iB at this;rw[this,List.reverse_reverse]
theorem Fo (r:ak) (x:UInt8):(r++[x]).getD r.length 0=x:=by simp[List.getD]
theorem Tg (p:UInt8->Bool) (s:ak):gE p s=s↔∀i,i<s.length->p (s.getD i 0)=true->0<i/\i+1<s.length:=by
 by_cases hs:s=[]
 ·subst hs;exact⟨λ_ i h=>by simp at h,λ_=>rfl⟩
 ·constructor
  ·intro h i hi hp
   have hl:s.length<=(gE p s).length:=by rw[h];exact Nat.le_refl _
   have h1:=xH p (gh p s)
   have hr:gh p s=s:=Sf (Nat.le_trans hl h1)
   have ht:iB p s=s:=by unfold gE at h;rwa [hr]at h
   refine⟨Nat.pos_of_ne_zero λh0=>?_,Nat.lt_of_le_of_ne hi λh0=>?_⟩
   ·subst h0
    cases s with
    |nil=>exact hs rfl
    |cons x r=>
     have hp:p x=true:=hp
     have h2:iB p (x::r)=iB p r:=by simp[iB,List.dropWhile_cons,hp]
     have:=xH p r
     rw[h2]at ht
     rw[ht]at this
     simp at this
     omega
   ·obtain⟨r,x,rfl⟩:=CD hs
    have:i=r.length:=by simp at h0;omega
    subst this
    rw[Fo]at hp
    rw[yh,hp,cond_true]at hr
    have:=Sg p r
    rw[hr]at this
    simp at this
    omega
  ·intro h
   have hr:gh p s=s:=by
    obtain⟨r,x,rfl⟩:=CD hs
    rw[yh]
    cases hx:p x with
    |false=>rfl
    |true=>have:=(h r.length (by simp) (by rw[Fo];exact hx)).2;simp at this
   unfold gE;rw[hr]
   cases s with
   |nil=>rfl
   |cons x r=>
    cases hx:p x with
    |false=>simp[iB,List.dropWhile_cons,hx]
    |true=>have:=(h 0 (by simp) hx).1;omega
theorem Ku (p:UInt8->Bool) (s:ak):s.all p=true↔∀i,i<s.length->p (s.getD i 0)=true:=by
 rw[List.all_eq_true]
 constructor
 ·intro h i hi
  refine h _ ?_
  simp[List.getD,hi]
 ·intro h x hx
  obtain⟨i,hi,rfl⟩:=List.getElem_of_mem hx
  have:=h i hi
  simpa [List.getD,hi]using this
theorem Ln (s:ak):dd s=false↔∀i,i<s.length->¬(s.getD i 0=46/\s.getD (i+1) 0=46):=by
 unfold dd
 rw[List.any_eq_false]
 constructor
 ·intro h i hi ad
  exact h i (List.mem_range.2 hi) (by rw[ad.1,ad.2];rfl)
 ·intro h i hi ad
  rw[Bool.and_eq_true,beq_iff_eq,beq_iff_eq]at ad
  exact h i (List.mem_range.1 hi) ad
theorem Qy (inn ot:UInt8->Bool) (s:ak):va inn ot s=true↔∀i,i<s.length->inn (s.getD i 0)=true/\(ot (s.getD i 0)=true->0<i/\i+1<s.length)/\¬(s.getD i 0=46/\0<i/\s.getD (i-1) 0=46):=by
 unfold va
 rw[List.all_eq_true]
 constructor
 ·intro h i hi
  have:=h i (List.mem_range.2 hi)
  simp only[Bool.and_eq_true,Bool.or_eq_true,Bool.not_eq_true',Nat.blt_eq,Bool.and_eq_false_iff,beq_eq_false_iff_ne]at this
  refine⟨this.1.1,λhe=>?_,λad=>?_⟩
  ·rcases this.1.2 with h1|h1
   ·rw[h1]at he;cases he
   ·exact h1
  ·have h3:Nat.blt 0 i=true:=by rw[Nat.blt_eq];exact ad.2.1
   rcases this.2 with(h1|h1)|h1
   ·exact h1 ad.1
   ·rw[h3]at h1;cases h1
   ·exact h1 ad.2.2
 ·intro h i hi
  obtain⟨h1,h2,h3⟩:=h i (List.mem_range.1 hi)
  simp only[Bool.and_eq_true,Bool.or_eq_true,Bool.not_eq_true',Nat.blt_eq,Bool.and_eq_false_iff,beq_eq_false_iff_ne]
  refine⟨⟨h1,?_⟩,?_⟩
  ·cases he:ot (s.getD i 0)with
   |false=>exact .inl rfl
   |true=>exact .inr (h2 he)
  ·by_cases e1:s.getD i 0=46
   ·by_cases e2:s.getD (i-1) 0=46
    ·left;right
     cases hb:Nat.blt 0 i with
     |false=>rfl
     |true=>rw[Nat.blt_eq]at hb;exact absurd ⟨e1,hb,e2⟩ h3
    ·exact .inr e2
   ·exact .inl (.inl e1)
theorem xQ (inn ot:UInt8->Bool) (s:ak):va inn ot s=(s.all inn&&decide (gE ot s=s)&& !dd s):=by
 rw[Bool.eq_iff_iff,Qy,Bool.and_eq_true,Bool.and_eq_true,Ku,decide_eq_true_eq,Tg,Bool.not_eq_true',Ln]
 constructor
 ·intro h
  refine⟨⟨λi hi=>(h i hi).1,λi hi=>(h i hi).2.1⟩,λi hi ad=>?_⟩
  by_cases hj:i+1<s.length
  ·exact(h (i+1) hj).2.2 ⟨ad.2,by omega,by simpa using ad.1⟩
  ·have:s.getD (i+1) 0=0:=by simp[List.getD,show s.length<=i+1 by omega]
   rw[this]at ad;exact absurd ad.2 (by decide)
 ·rintro⟨⟨h1,h2⟩,h3⟩ i hi
  refine⟨h1 i hi,h2 i hi,λad=>?_⟩
  exact h3 (i-1) (by omega) ⟨ad.2.2,by rw[show i-1+1=i by omega];exact ad.1⟩
theorem EL {p:UInt8->Bool}:∀{l:ak},l.all p=true->l.dropWhile p=[]
 |[],_=>rfl
 |x::r,h=>by
  simp only[List.all_cons,Bool.and_eq_true]at h
  rw[List.dropWhile_cons,if_pos h.1]
  exact EL h.2
theorem CS {p:UInt8->Bool} {s:ak} (h:s.all p=true):gE p s=[]:=by
 have:gh p s=[]:=by
  unfold gh
  have:s.reverse.all p=true:=by rw[List.all_reverse];exact h
  rw[EL this];rfl
 unfold gE;rw[this];rfl
theorem nn {z a b:Int} (h:z=af 4 [a,b]):decide (z=1)=decide (J a=J b):=by
 rw[h];simp only[af]
 by_cases e:J a=J b<;>simp[e]
theorem xN {z a:Int} (h:z=af 4 [a,0]):(!decide (z=1))=Nat.blt 0 (J a).length:=by
 rw[eq_nil h]
 cases J a with
 |nil=>rfl
 |cons x r=>simp
theorem u1 {z a n:Int} (m:Nat) (hm:n=(m:Int)) (h:z=af 0 [a]):decide (z<=n)=Nat.ble (J a).length m:=by
 rw[h,hm];simp only[af]
 rw[Bool.eq_iff_iff,decide_eq_true_eq,Nat.ble_eq];omega
theorem Pw {z a n:Int} (m:Nat) (hm:n=(m:Int)) (h:z=af 0 [a]):decide (n<z)= !Nat.ble (J a).length m:=by
 rw[h,hm];simp only[af]
 rw[Bool.eq_iff_iff,decide_eq_true_eq,Bool.not_eq_true',<-Bool.not_eq_true,Nat.ble_eq];omega
theorem jI {z:Int} {b:Bool} (h:z=aT b):decide (z=1)=b:=by rw[h,tr]
theorem uZ {id:Nat} {zs:List (List Int)} {b:Bool} (h:SB id zs [[aT b]]):cI SB [.bool] id zs [[aT b]]:=⟨⟨(iN b).1,(iN b).2,trivial⟩,h⟩
theorem Q5 (s:ak) {n:Int} (hn:∀c,(J n).contains c=qq c):(s.all λc=>(J n).contains c)=s.all qq:=by
 congr 1;funext c;exact hn c
theorem Rq:Dj SB (cI SB [.bool] 47):=by
 intro z0 a0 a1 ao b0 b1 h1
 have bB:∀b:Bool,jV (J z0)=b->cI SB [.bool] 47 [[z0]] [[aT b]]:=λb h=>uZ (by show aT b=aT (jV (J z0));rw[h])
 refine⟨λhp z2 bK c1 h2=>⟨λhq z3 d0 d1 h3 z4 cg e1 h4=>⟨λhr z5 f0 f1 h5=>?_,λhr=>bB false ?_⟩,λhq=>bB false ?_⟩,λhp=>bB false ?_⟩
 ·rw[xN h1]at hp
  rw[u1 (n:=230) 230 rfl h2]at hq
  have h5:z5=aT ((J z0).all λc=>(J _).contains c):=h5
  rw[Q5 (J z0) (ps (by decide+kernel))]at h5
  rw[jI h5]
  refine⟨λhs ai g0 g1 h6 al i0 i1 h7=>?_,λhs=>bB false ?_⟩
  ·have h6:J ai=gE tH (J z0):=h6
   rw[nn h7,h6]
   refine⟨λht=>⟨?_,λaw Hc iV cJ=>?_⟩,λht=>bB false ?_⟩
   ·show(J z0).length<=4294967280
    rw[Nat.ble_eq]at hq;omega
   ·have cJ:aw=aT (dd (J z0)):=cJ
    rw[jI cJ]
    refine bB _ ?_
    unfold jV;rw[hp,hq,xQ,hs,ht];rfl
   ·unfold jV;rw[xQ,ht];simp
  ·unfold jV;rw[xQ,hs];simp
 ·have h3:J z3=gE qq (J z0):=h3
  rw[eq_nil h4,h3]at hr
  unfold jV;rw[xQ]
  cases ha:(J z0).all qq with
  |false=>simp
  |true=>rw[CS ha]at hr;simp at hr
 ·rw[u1 (n:=230) 230 rfl h2]at hq
  unfold jV;rw[hq];simp
 ·rw[xN h1]at hp
  unfold jV;rw[hp];rfl
def Dq (S:Nat->List (List Int)->List (List Int)->Prop) (K:List (List Int)->List (List Int)->Prop):Prop:=
 ∀z0:Int,0<=z0->z0<=aO->
 ∀ao:Int,0<=ao->ao<=aO->∀z2:Int,0<=z2->z2<=aO->∀z3:Int,0<=z3->z3<=1->S 126 [[z0]] [[ao],[z2],[z3]]->
 ∀z4:Int,0<=z4->z4<=1->S 47 [[ao]] [[z4]]->
 (((decide (z4=1))=true->
  ((((!(decide (z3=1))))=true->
   K [[z0]] [[(cond (true) 1 0)]]
  )/\(((!(decide (z3=1))))=false->
   ∀z5:Int,0<=z5->z5<=1->z5=af 4 [z2,0]->
   ((((!(decide (z5=1))))=true->
    ∀ai:Int,0<=ai->ai<=9223372036854775807->ai=af 0 [z2]->
    (((decide (ai<=5))=true->
     ∀al:Int,0<=al->al<=aO->S 124 [[z2]] [[al]]->
     ∀aw:Int,0<=aw->aw<=1->aw=af 4 [al,0]->
     (((decide (aw=1))=true->
      ∀z9:Int,0<=z9->z9<=1->S 65 [[z2],[284767230291263911083031]] [[z9]]->
      K [[z0]] [[(cond (decide (z9=1)) 1 0)]]
     )/\((decide (aw=1))=false->
      K [[z0]] [[(cond (false) 1 0)]]
     ))
    )/\((decide (ai<=5))=false->
     K [[z0]] [[(cond (false) 1 0)]]
    ))
   )/\(((!(decide (z5=1))))=false->
    K [[z0]] [[(cond (false) 1 0)]]
   ))
  ))
 )/\((decide (z4=1))=false->
  K [[z0]] [[(cond (false) 1 0)]]
 ))
theorem Ry:Dq SB (cI SB [.bool] 27):=by
 intro z0 a0 a1 ao b0 b1 z2 bK c1 z3 d0 d1 fs z4 cg e1 h4
 have fs:(J ao,J z2,z3)=kS 58 (J z0):=fs
 have h4:z4=aT (jV (J ao)):=h4
 have hv:lj (J z0)=(jV (J ao)&&(decide (z3=0)||sM (J z2))):=by unfold lj;rw[<-fs]
 have bB:∀b:Bool,lj (J z0)=b->cI SB [.bool] 27 [[z0]] [[aT b]]:=λb h=>uZ (by show aT b=aT (lj (J z0));rw[h])
 have h3:(!decide (z3=1))=decide (z3=0):=by
  rcases(show z3=0∨z3=1 by omega)with rfl|rfl<;>rfl
 rw[jI h4,h3]
 refine⟨λhp=>⟨λhq=>bB true ?_,λhq z5 f0 f1 h5=>?_⟩,λhp=>bB false ?_⟩
 ·rw[hv,hp,hq];rfl
 ·have hn:=xN h5
  refine⟨λhr ai g0 g1 h6=>⟨λhs al i0 i1 h7 aw Hc iV cJ=>?_,λhs=>bB false ?_⟩,λhr=>bB false ?_⟩
  ·rw[hr]at hn
   rw[u1 (n:=5) 5 rfl h6]at hs
   have h7:J al=gE gf (J z2):=h7
   rw[eq_nil cJ,h7]
   refine⟨λht z9 gT k1 br=>?_,λht=>bB false ?_⟩
   ·have br:z9=aT ((J z2).all λc=>(J 284767230291263911083031).contains c):=br
    have e:((J z2).all λc=>(J 284767230291263911083031).contains c)=(J z2).all gf:=congrArg (List.all (J z2)) (funext (ps (p:=gf) (by decide+kernel)))
    rw[e]at br
    rw[jI br]
    refine bB _ ?_
    rw[hv,hp,hq];unfold sM;rw[<-hn,hs];simp
   ·rw[hv,hp,hq];unfold sM
    cases ha:(J z2).all gf with
    |false=>simp
    |true=>rw[CS ha]at ht;simp at ht
  ·rw[u1 (n:=5) 5 rfl h6]at hs
   rw[hv,hp,hq];unfold sM;rw[hs];simp
  ·rw[hr]at hn
   rw[hv,hp,hq];unfold sM;rw[<-hn];rfl
 ·rw[hv,hp];rfl
theorem sC:∀l:ak,Op.bytesLess l l=false
 |[]=>rfl
 |x::r=>by
  have:=sC r
  simp[Op.bytesLess,this]
end Go.bD
namespace Go.bD
open Go Go.aZ
def Du (S:Nat->List (List Int)->List (List Int)->Prop) (K:List (List Int)->List (List Int)->Prop):Prop:=
 ∀z0:Int,0<=z0->z0<=aO->
 ∀ao:Int,0<=ao->ao<=1->ao=af 4 [z0,0]->
 (((decide (ao=1))=true->
  K [[z0]] [[z0]]
 )/\((decide (ao=1))=false->
  ∃(fm:List (List Int)->Prop) (iJ:List (List Int)->Nat),fm [[z0]]/\(∀z3:Int,0<=z3->z3<=aO->fm [[z3]]->
   ∀z4:Int,0<=z4->z4<=9223372036854775807->z4=af 0 [z3]->
   (((decide (0<z4))=true->
    ∀z5:Int,0<=z5->z5<=9223372036854775807->z5=af 0 [z3]->
    az 1 [z3,(z5+(-1))]/\
    ∀ai:Int,0<=ai->ai<=255->ai=af 1 [z3,(z5+(-1))]->
    ∀al:Int,0<=al->al<=1->al=af 43 [79221403731691789204265450354666987086070872538664503581038852739373042335165977954796146613462291367,ai]->
    ((((!(decide (al=1))))=true->
     ∃(fo:List (List Int)->Prop) (iK:List (List Int)->Nat),fo [[z3]]/\(∀z9:Int,0<=z9->z9<=aO->fo [[z9]]->
      ∀av:Int,0<=av->av<=9223372036854775807->av=af 0 [z9]->
      (((decide (0<av))=true->
       az 1 [z9,0]/\
       ∀aI:Int,0<=aI->aI<=255->aI=af 1 [z9,0]->
       ∀z12:Int,0<=z12->z12<=1->z12=af 43 [79221403731691789204265450354666987086070872538664503581038852739373042335165977954796146613462291367,aI]->
       ((((!(decide (z12=1))))=true->
        K [[z0]] [[z9]]
       )/\(((!(decide (z12=1))))=false->
        ∀ba:Int,0<=ba->ba<=9223372036854775807->ba=af 0 [z9]->
        az 2 [z9,1,ba]/\
        ∀a8:Int,0<=a8->a8<=aO->a8=af 2 [z9,1,ba]->
        (fo [[a8]]/\iK [[a8]]<iK [[z9]])
       ))
      )/\((decide (0<av))=false->
       K [[z0]] [[z9]]
      ))
     )
    )/\(((!(decide (al=1))))=false->
     ∀aw:Int,0<=aw->aw<=9223372036854775807->aw=af 0 [z3]->
     az 2 [z3,0,(aw+(-1))]/\
     ∀z9:Int,0<=z9->z9<=aO->z9=af 2 [z3,0,(aw+(-1))]->
     (fm [[z9]]/\iJ [[z9]]<iJ [[z3]])
    ))
   )/\((decide (0<z4))=false->
    ∃(en:List (List Int)->Prop) (fT:List (List Int)->Nat),en [[z3]]/\(∀ai:Int,0<=ai->ai<=aO->en [[ai]]->
     ∀al:Int,0<=al->al<=9223372036854775807->al=af 0 [ai]->
     (((decide (0<al))=true->
      az 1 [ai,0]/\
      ∀aw:Int,0<=aw->aw<=255->aw=af 1 [ai,0]->
      ∀z9:Int,0<=z9->z9<=1->z9=af 43 [79221403731691789204265450354666987086070872538664503581038852739373042335165977954796146613462291367,aw]->
      ((((!(decide (z9=1))))=true->
       K [[z0]] [[ai]]
      )/\(((!(decide (z9=1))))=false->
       ∀av:Int,0<=av->av<=9223372036854775807->av=af 0 [ai]->
       az 2 [ai,1,av]/\
       ∀aI:Int,0<=aI->aI<=aO->aI=af 2 [ai,1,av]->
       (en [[aI]]/\fT [[aI]]<fT [[ai]])
      ))
     )/\((decide (0<al))=false->
      K [[z0]] [[ai]]
     ))
    )
   ))
  )
 ))
theorem RC:Du SB (cI SB [.str] 202):=xY (n:=79221403731691789204265450354666987086070872538664503581038852739373042335165977954796146613462291367) (p:=xt) (ps (by decide+kernel)) λ_ _=>rfl
theorem S9 {s z L:Int} {n:Nat} (hz:z=(n:Int)) (h:n<=(J s).length) (hL:L=af 0 [s]):(0<=z/\z<=L/\L<=((J s).length:Int))/\∀y,y=af 2 [s,z,L]->J y=(J s).drop n:=by
 subst hz
 simp only[af]at hL
 refine⟨⟨by omega,by omega,by omega⟩,λy hy=>?_⟩
 rw[hy];simp only[af,gD]
 rw[show((n:Int)).toNat=n by omega]
 exact List.take_of_length_le (by simp;omega)
theorem Hj {id:Nat} {zs:List (List Int)} {a b:Int} {c:Bool} (a0:0<=a) (a1:a<=aO) (b0:0<=b) (b1:b<=aO) (h:SB id zs [[a],[b],[aT c]]):cI SB [.str,.str,.bool] id zs [[a],[b],[aT c]]:=⟨⟨a0,a1,b0,b1,(iN c).1,(iN c).2,trivial⟩,h⟩
theorem Ie {k:UInt8} {s:ak} (h:(Nat.blt 0 s.length&&Nat.ble s.length 255&&s.getD 0 0==k&&decide (0<=idx 58 s)&&lj (s.drop ((idx 58 s).toNat+1)))=false):kA k s=([],[],0):=by unfold kA;rw[h];rfl
end Go.bD
namespace Go.bD
open Go Go.aZ
def Dw (S:Nat->List (List Int)->List (List Int)->Prop) (K:List (List Int)->List (List Int)->Prop):Prop:=
 ∀z0:Int,0<=z0->z0<=aO->
 ∀ao:Int,0<=ao->ao<=9223372036854775807->ao=af 0 [z0]->
 (((decide (255<ao))=true->
  K [[z0]] [[(cond (false) 1 0)]]
 )/\((decide (255<ao))=false->
  ∀z2:Int,0<=z2->z2<=9223372036854775807->z2=af 0 [z0]->
  (((decide (1<=z2))=true->
   az 2 [z0,0,1]/\
   ∀z3:Int,0<=z3->z3<=aO->z3=af 2 [z0,0,1]->
   ∀z4:Int,0<=z4->z4<=1->z4=af 4 [z3,65]->
   ((((!(decide (z4=1))))=true->
    K [[z0]] [[(cond (false) 1 0)]]
   )/\(((!(decide (z4=1))))=false->
    ∀z5:Int,0<=z5->z5<=9223372036854775807->z5=af 0 [z0]->
    az 2 [z0,1,z5]/\
    ∀ai:Int,0<=ai->ai<=aO->ai=af 2 [z0,1,z5]->
    ∀al:Int,0<=al->al<=aO->∀aw:Int,0<=aw->aw<=aO->∀z9:Int,0<=z9->z9<=1->S 126 [[ai]] [[al],[aw],[z9]]->
    (((decide (z9=1))=true->
     ∀av:Int,0<=av->av<=1->av=af 4 [al,0]->
     ((((!(decide (av=1))))=true->
      ∀aI:Int,0<=aI->aI<=9223372036854775807->aI=af 0 [al]->
      (((decide (aI<=200))=true->
       ∀z12:Int,0<=z12->z12<=aO->S 202 [[al]] [[z12]]->
       ∀ba:Int,0<=ba->ba<=1->ba=af 4 [z12,0]->
       (((decide (ba=1))=true->
        ∀a8:Int,0<=a8->a8<=1->S 65 [[al],[29623484903295033747957742255491238963424329677582429956179748554116486405127370353604394274421496743]] [[a8]]->
        (((decide (a8=1))=true->
         ∀cr:Int,0<=cr->cr<=1->S 27 [[aw]] [[cr]]->
         K [[z0]] [[(cond (decide (cr=1)) 1 0)]]
        )/\((decide (a8=1))=false->
         K [[z0]] [[(cond (false) 1 0)]]
        ))
       )/\((decide (ba=1))=false->
        K [[z0]] [[(cond (false) 1 0)]]
       ))
      )/\((decide (aI<=200))=false->
       K [[z0]] [[(cond (false) 1 0)]]
      ))
     )/\(((!(decide (av=1))))=false->
      K [[z0]] [[(cond (false) 1 0)]]
     ))
    )/\((decide (z9=1))=false->
     K [[z0]] [[(cond (false) 1 0)]]
    ))
   ))
  )/\((decide (1<=z2))=false->
   K [[z0]] [[(cond (false) 1 0)]]
  ))
 ))
theorem OT {c:UInt8} {t:ak} (h:c≠58):idx 58 (c::t)=if idx 58 t<0 then-1 else idx 58 t+1:=by
 have:¬(c.toNat:Int)=58:=λe=>h (by rw[<-UInt8.toNat_inj];show c.toNat=58;omega)
 show(if(c.toNat:Int)=58 then 0 else if idx 58 t<0 then-1 else idx 58 t+1)=_
 rw[if_neg this]
theorem RG {k:UInt8} (hk:k≠58) {t:ak} (hl:t.length+1<=255):kA k (k::t)=cond (decide (0<=idx 58 t)&&lj (t.drop ((idx 58 t).toNat+1))) (t.take (idx 58 t).toNat,t.drop ((idx 58 t).toNat+1),1) ([],[],0):=by
 unfold kA
 rw[OT hk,show Nat.blt 0 (k::t).length=true by rw[Nat.blt_eq];simp,show Nat.ble (k::t).length 255=true by rw[Nat.ble_eq];simpa using hl]
 have hr:=uT 58 t
 have hb:((k::t).getD 0 0==k)=true:=by show(k==k)=true;simp
 rw[hb]
 by_cases hn:idx 58 t<0
 ·rw[if_pos hn,show decide (0<=idx 58 t)=false from decide_eq_false (by omega)]
  simp
 ·rw[if_neg hn,show decide (0<=idx 58 t)=true from decide_eq_true (by omega),show decide (0<=idx 58 t+1)=true from decide_eq_true (by omega),show(idx 58 t+1).toNat=(idx 58 t).toNat+1 by omega]
  simp
theorem Ic {k:UInt8} {s:ak} (h:s.getD 0 0≠k∨s=[]):(kA k s).2.2=0:=by
 rw[Ie]
 rcases h with h|h
 ·rw[show(s.getD 0 0==k)=false by simpa using h];simp
 ·rw[h];rfl
theorem RH {k:UInt8} {s:ak} (h:Nat.ble s.length 255=false):(kA k s).2.2=0:=by
 rw[Ie]
 rw[h];simp
theorem xL {k:UInt8} {inn:UInt8->Bool} {most:Nat} {s:ak} (h:(kA k s).2.2=0):oQ k inn most s=false:=by unfold oQ;rw[h];rfl
theorem Q6 (inn:UInt8->Bool) (s:ak) {n:Int} (hn:∀c,(J n).contains c=inn c):(s.all λc=>(J n).contains c)=s.all inn:=by
 congr 1;funext c;exact hn c
theorem Rt {k:UInt8} {He zo BI:Int} {inn:UInt8->Bool} {most tid:Nat} (hk:k≠58) (Nx:J He=[k]) (c9:∀c,(J zo).contains c=inn c) (hm:BI=(most:Int)) (ht:∀z r,SB tid [[z]] [[r]]=(J r=gE inn (J z))) {id:Nat} (hid:∀z r,SB id [[z]] [[r]]=(r=aT (oQ k inn most (J z)))):
(∀z0:Int,0<=z0->z0<=aO->
 ∀ao:Int,0<=ao->ao<=9223372036854775807->ao=af 0 [z0]->
 (((decide (255<ao))=true->
  cI SB [.bool] id [[z0]] [[(cond (false) 1 0)]]
 )/\((decide (255<ao))=false->
  ∀z2:Int,0<=z2->z2<=9223372036854775807->z2=af 0 [z0]->
  (((decide (1<=z2))=true->
   az 2 [z0,0,1]/\
   ∀z3:Int,0<=z3->z3<=aO->z3=af 2 [z0,0,1]->
   ∀z4:Int,0<=z4->z4<=1->z4=af 4 [z3,He]->
   ((((!(decide (z4=1))))=true->
    cI SB [.bool] id [[z0]] [[(cond (false) 1 0)]]
   )/\(((!(decide (z4=1))))=false->
    ∀z5:Int,0<=z5->z5<=9223372036854775807->z5=af 0 [z0]->
    az 2 [z0,1,z5]/\
    ∀ai:Int,0<=ai->ai<=aO->ai=af 2 [z0,1,z5]->
    ∀al:Int,0<=al->al<=aO->∀aw:Int,0<=aw->aw<=aO->∀z9:Int,0<=z9->z9<=1->SB 126 [[ai]] [[al],[aw],[z9]]->
    (((decide (z9=1))=true->
     ∀av:Int,0<=av->av<=1->av=af 4 [al,0]->
     ((((!(decide (av=1))))=true->
      ∀aI:Int,0<=aI->aI<=9223372036854775807->aI=af 0 [al]->
      (((decide (aI<=BI))=true->
       ∀z12:Int,0<=z12->z12<=aO->SB tid [[al]] [[z12]]->
       ∀ba:Int,0<=ba->ba<=1->ba=af 4 [z12,0]->
       (((decide (ba=1))=true->
        ∀a8:Int,0<=a8->a8<=1->SB 65 [[al],[zo]] [[a8]]->
        (((decide (a8=1))=true->
         ∀cr:Int,0<=cr->cr<=1->SB 27 [[aw]] [[cr]]->
         cI SB [.bool] id [[z0]] [[(cond (decide (cr=1)) 1 0)]]
        )/\((decide (a8=1))=false->
         cI SB [.bool] id [[z0]] [[(cond (false) 1 0)]]
        ))
       )/\((decide (ba=1))=false->
        cI SB [.bool] id [[z0]] [[(cond (false) 1 0)]]
       ))
      )/\((decide (aI<=BI))=false->
       cI SB [.bool] id [[z0]] [[(cond (false) 1 0)]]
      ))
     )/\(((!(decide (av=1))))=false->
      cI SB [.bool] id [[z0]] [[(cond (false) 1 0)]]
     ))
    )/\((decide (z9=1))=false->
     cI SB [.bool] id [[z0]] [[(cond (false) 1 0)]]
    ))
   ))
  )/\((decide (1<=z2))=false->
   cI SB [.bool] id [[z0]] [[(cond (false) 1 0)]]
  ))
 ))):=by
  intro z0 a0 a1 ao b0 b1 h1
  have bB:∀b:Bool,oQ k inn most (J z0)=b->cI SB [.bool] id [[z0]] [[aT b]]:=λb h=>uZ (by rw[hid,h])
  have tR:=Pw (n:=255) 255 rfl h1
  refine⟨λhb=>bB false (xL (RH (by rw[hb]at tR;simpa using tR.symm))),λhb z2 bK c1 h2=>?_⟩
  rw[hb]at tR
  have hlen:(J z0).length<=255:=by
   have:Nat.ble (J z0).length 255=true:=by simpa using tR.symm
   exact Nat.le_of_ble_eq_true this
  simp only[af]at h2
  refine⟨λhp=>⟨⟨Int.le_refl _,by decide,by have:=of_decide_eq_true hp;omega⟩,λz3 d0 d1 h3 z4 cg e1 h4=>?_⟩,λhp=>bB false (xL (Ic (.inr ?_)))⟩
  ·cases hs:J z0 with
   |nil=>rw[hs]at h2;have:=of_decide_eq_true hp;simp at h2;omega
   |cons c t=>
    have e3:J z3=[c]:=by rw[h3];simp only[af,gD,hs];rfl
    rw[nn h4,e3,Nx]
    refine⟨λhne=>bB false (xL (Ic (.inl ?_))),λheq z5 f0 f1 h5=>?_⟩
    ·rw[hs];intro h
     have h:c=k:=h
     rw[h]at hne;simp at hne
    ·have MV:c=k:=by simpa using heq
     subst MV
     have nB:t.length+1<=255:=by rw[hs]at hlen;simpa using hlen
     obtain⟨s1,s2⟩:=S9 (s:=z0) (z:=1) (L:=z5) (n:=1) rfl (by rw[hs];simp) h5
     refine⟨s1,λai g0 g1 h6 al i0 i1 aw Hc iV z9 gT k1 hC=>?_⟩
     have nm:J ai=t:=by rw[s2 ai h6,hs];rfl
     have hC:(J al,J aw,z9)=kS 58 (J ai):=hC
     rw[nm]at hC
     have jQ:=RG hk nB
     unfold kS at hC
     cases hi:decide (0<=idx 58 t)with
     |false=>
      rw[hi]at hC jQ
      simp only[cond_false,Prod.mk.injEq]at hC
      obtain⟨_,_,rfl⟩:=hC
      exact⟨λh=>by simp at h,λ_=>bB false (xL (by rw[hs,jQ];rfl))⟩
     |true=>
      rw[hi]at hC jQ
      simp only[cond_true,Prod.mk.injEq]at hC
      obtain⟨Lv,Lw,rfl⟩:=hC
      rw[Bool.true_and]at jQ
      have hv:oQ c inn most (J z0)=(lj (J aw)&&Nat.blt 0 (J al).length&&Nat.ble (J al).length most&&(J al).all inn):=by
       unfold oQ
       rw[hs,jQ,<-Lv,<-Lw]
       cases lj (J aw)<;>rfl
      refine⟨λ_ av l0 l1 gN=>?_,λh=>by simp at h⟩
      have hn:=xN gN
      refine⟨λhq aI m0 kz fW=>?_,λhq=>bB false (by rw[hq]at hn;rw[hv,<-hn];simp)⟩
      rw[hq]at hn
      rw[u1 most hm fW]
      refine⟨λhr z12 n0 n1 jl ba Vi o1 zM=>?_,λhr=>bB false (by rw[hv,hr];simp)⟩
      rw[ht]at jl
      rw[eq_nil zM,jl]
      refine⟨λhs a8 p0 p1 fX=>?_,λhs=>bB false ?_⟩
      ·have fX:a8=aT ((J al).all λc=>(J zo).contains c):=fX
       rw[Q6 inn _ c9]at fX
       rw[jI fX]
       refine⟨λha cr q0 q1 fH=>?_,λha=>bB false (by rw[hv,ha];simp)⟩
       have fH:cr=aT (lj (J aw)):=fH
       rw[jI fH]
       refine bB _ ?_
       rw[hv,<-hn,hr,ha];simp
      ·rw[hv]
       cases ha:(J al).all inn with
       |false=>simp
       |true=>rw[CS ha]at hs;simp at hs
  ·have hp:¬1<=z2:=of_decide_eq_false hp
   exact List.length_eq_zero_iff.1 (by omega)
theorem RE:Dw SB (cI SB [.bool] 200):=Rt (k:=64) (inn:=xt) (most:=200) (tid:=202) (by decide) (by decide) (ps (by decide+kernel)) rfl (λ_ _=>rfl) (λ_ _=>rfl)
end Go.bD
namespace Go.bD
open Go Go.aZ
def Dn (S:Nat->List (List Int)->List (List Int)->Prop) (K:List (List Int)->List (List Int)->Prop):Prop:=
 ∀z0:Int,0<=z0->z0<=aO->
 ∀ao:Int,0<=ao->ao<=9223372036854775807->ao=af 0 [z0]->
 ∃(fm:List (List Int)->Prop) (iJ:List (List Int)->Nat),fm [[0]]/\(∀z3:Int,0<=z3->z3<=9223372036854775807->fm [[z3]]->
  (((decide (z3<ao))=true->
   az 1 [z0,z3]/\
   ∀z4:Int,0<=z4->z4<=255->z4=af 1 [z0,z3]->
   (((decide (z4<32))=true->
    K [[z0]] [[(cond (false) 1 0)]]
   )/\((decide (z4<32))=false->
    az 1 [z0,z3]/\
    ∀z5:Int,0<=z5->z5<=255->z5=af 1 [z0,z3]->
    (((decide (126<z5))=true->
     K [[z0]] [[(cond (false) 1 0)]]
    )/\((decide (126<z5))=false->
     ∀ai:Int,0<=ai->ai<=1->0<=(z3+9223372036854775809)-18446744073709551616*ai->(z3+9223372036854775809)-18446744073709551616*ai<18446744073709551616->
     az 39 [((z3+((-18446744073709551616)*ai))+1),0,9223372036854775807]/\
     (fm [[((z3+((-18446744073709551616)*ai))+1)]]/\iJ [[((z3+((-18446744073709551616)*ai))+1)]]<iJ [[z3]])
    ))
   ))
  )/\((decide (z3<ao))=false->
   K [[z0]] [[(cond (true) 1 0)]]
  ))
 )
theorem mn {b:Bool} (h:(!b)=true):b=false:=by cases b<;>first|rfl|cases h
theorem lF {b:Bool} (h:(!b)=false):b=true:=by cases b<;>first|rfl|cases h
def J4 (z0:Int) (bl:List (List Int)):Prop:=∃i:Nat,bl=[[(i:Int)]]/\i<=(J z0).length/\nY ((J z0).take i)=true
def J5 (z0:Int) (bl:List (List Int)):Nat:=(J z0).length-((bl.getD 0 []).getD 0 0).toNat
theorem RN {t:ak} {i:Nat} (h:i<t.length):t.getD i 0∈t:=by simp[List.getD,h]
theorem Rw:Dn SB (cI SB [.bool] 400):=by
 intro z0 a0 a1 ao _ c1 h1
 have h1:ao=((J z0).length:Int):=h1
 have bB:∀b:Bool,nY (J z0)=b->cI SB [.bool] 400 [[z0]] [[aT b]]:=λb h=>uZ (by show aT b=aT (nY (J z0));rw[h])
 have k9:∀i,i<(J z0).length->(((J z0).getD i 0).toNat<32∨126<((J z0).getD i 0).toNat)->cI SB [.bool] 400 [[z0]] [[cond false 1 0]]:=λi hi h=>bB false (by
  cases hp:nY (J z0)with
  |false=>rfl
  |true=>
   have:=List.all_eq_true.1 hp _ (RN hi)
   simp only[Bool.and_eq_true,Nat.ble_eq]at this
   omega)
 refine⟨J4 z0,J5 z0,⟨0,rfl,Nat.zero_le _,rfl⟩,?_⟩
 rintro z3 d0 d1 ⟨i,e,hi,hI⟩
 obtain rfl:z3=i:=by simpa using e
 refine⟨λhlt=>?_,λdN=>bB true ?_⟩
 ·have hlt:=of_decide_eq_true hlt
  have bY:i<(J z0).length:=by omega
  have hg:∀z:Int,z=af 1 [z0,(i:Int)]->z=(((J z0).getD i 0).toNat:Int):=λz h=>by
   rw[h];simp only[af,Int.toNat_natCast]
  refine⟨⟨by omega,by omega⟩,λz4 _ _ h4=>⟨λhc=>k9 i bY (.inl ?_),λhc=>⟨⟨by omega,by omega⟩,λz5 _ _ h5=>⟨λhd=>k9 i bY (.inr ?_),λhd ai x0 x1 dV e0=>?_⟩⟩⟩⟩
  ·have:=hg z4 h4;have:=of_decide_eq_true hc;omega
  ·have:=hg z5 h5;have:=of_decide_eq_true hd;omega
  ·have dL:=hg z4 h4;have mv:=hg z5 h5
   have hc:=of_decide_eq_false hc;have hd:=of_decide_eq_false hd
   refine⟨⟨by omega,by omega⟩,⟨i+1,by rw[show((i:Int)+(-18446744073709551616)*ai)+1=((i+1:Nat):Int) by omega],by omega,?_⟩,?_⟩
   ·unfold nY at hI⊢
    rw[Jk _ _ bY,List.all_append,hI]
    simp only[List.all_cons,List.all_nil,Bool.and_true,Bool.true_and,Bool.and_eq_true,Nat.ble_eq]
    omega
   ·show(J z0).length-(((i:Int)+(-18446744073709551616)*ai)+1).toNat<(J z0).length-((i:Int)).toNat;omega
 ·have:=of_decide_eq_false dN
  rwa [List.take_of_length_le (by omega)]at hI
end Go.bD
namespace Go.bD
open Go Go.aZ
def Dg (S:Nat->List (List Int)->List (List Int)->Prop) (K:List (List Int)->List (List Int)->Prop):Prop:=
 ∀z0:Int,0<=z0->z0<=aO->
 ∀ao:Int,0<=ao->ao<=1->ao=af 4 [33,z0]->
 (((decide (ao=1))=true->
  K [[z0]] [[(cond (true) 1 0)]]
 )/\((decide (ao=1))=false->
  ∀z2:Int,(-1)<=z2->z2<=9223372036854775807->S 73 [[z0],[32]] [[z2]]->
  K [[z0]] [[(cond (decide (0<=z2)) 1 0)]]
 ))
def Dm (S:Nat->List (List Int)->List (List Int)->Prop) (K:List (List Int)->List (List Int)->Prop):Prop:=
 ∀z0:Int,0<=z0->z0<=aO->
 ∀ao:Int,0<=ao->ao<=1->ao=af 4 [z0,0]->
 ((((!(decide (ao=1))))=true->
  ∀z2:Int,0<=z2->z2<=9223372036854775807->z2=af 0 [z0]->
  (((decide (z2<=64))=true->
   ∀z3:Int,0<=z3->z3<=1->S 400 [[z0]] [[z3]]->
   (((decide (z3=1))=true->
    ∀z4:Int,0<=z4->z4<=1->S 501 [[z0]] [[z4]]->
    K [[z0]] [[(cond ((!(decide (z4=1)))) 1 0)]]
   )/\((decide (z3=1))=false->
    K [[z0]] [[(cond (false) 1 0)]]
   ))
  )/\((decide (z2<=64))=false->
   K [[z0]] [[(cond (false) 1 0)]]
  ))
 )/\(((!(decide (ao=1))))=false->
  K [[z0]] [[(cond (false) 1 0)]]
 ))
def Di (S:Nat->List (List Int)->List (List Int)->Prop) (K:List (List Int)->List (List Int)->Prop):Prop:=
 ∀z0:Int,0<=z0->z0<=aF->
 ∀ao:Int,0<=ao->
 ∀z2:Int,(-2)<=z2->z2<=9223372036854775807->
 ∀z3:Int,0<=z3->z3<=9223372036854775807->z3=af 20 [z0]->
 ∃(kL:List (List Int)->Prop) (m5:List (List Int)->Nat),kL [[z3],[0]]/\(∀z5:Int,0<=z5->z5<=9223372036854775807->∀ai:Int,0<=ai->ai<=9223372036854775807->kL [[z5],[ai]]->
  (((decide (ai<z3))=true->
   (((decide (z5<=200))=true->
    az 30 [ai,z3]/\
    az 21 [z0,ai]/\
    ∀al:Int,0<=al->al<=gL->al=af 21 [z0,ai,2]->
    ∀aw:Int,0<=aw->
    ∀z9:Int,(-2)<=z9->z9<=9223372036854775807->
    ∀av:Int,0<=av->av<=140737488351232->av=af 20 [al]->
    ∀aI:Int,0<=aI->aI<=1->0<=((z5+av)+9223372036854775808)-18446744073709551616*aI->((z5+av)+9223372036854775808)-18446744073709551616*aI<18446744073709551616->
    ∀z12:Int,0<=z12->z12<=1->0<=(ai+9223372036854775809)-18446744073709551616*z12->(ai+9223372036854775809)-18446744073709551616*z12<18446744073709551616->
    az 39 [(z5+(av+((-18446744073709551616)*aI))),0,9223372036854775807]/\
    az 39 [((ai+((-18446744073709551616)*z12))+1),0,9223372036854775807]/\
    (kL [[(z5+(av+((-18446744073709551616)*aI)))],[((ai+((-18446744073709551616)*z12))+1)]]/\m5 [[(z5+(av+((-18446744073709551616)*aI)))],[((ai+((-18446744073709551616)*z12))+1)]]<m5 [[z5],[ai]])
   )/\((decide (z5<=200))=false->
    K [[z0]] [[(cond (true) 1 0)]]
   ))
  )/\((decide (ai<z3))=false->
   K [[z0]] [[(cond (decide (200<z5)) 1 0)]]
  ))
 )
def Df (S:Nat->List (List Int)->List (List Int)->Prop) (K:List (List Int)->List (List Int)->Prop):Prop:=
 ∀z0:Int,0<=z0->z0<=aF->
 ∀ao:Int,0<=ao->
 ∀z2:Int,(-2)<=z2->z2<=9223372036854775807->
 ∀z3:Int,0<=z3->z3<=9223372036854775807->z3=af 20 [z0]->
 ∃(kL:List (List Int)->Prop) (m5:List (List Int)->Nat),kL [[0]]/\(∀z5:Int,0<=z5->z5<=9223372036854775807->kL [[z5]]->
  (((decide (z5<z3))=true->
   az 30 [z5,z3]/\
   az 21 [z0,z5]/\
   ∀ai:Int,0<=ai->ai<=aO->ai=af 21 [z0,z5,0]->
   ∀al:Int,0<=al->al<=1->S 502 [[ai]] [[al]]->
   ((((!(decide (al=1))))=true->
    K [[z0]] [[(cond (false) 1 0)]]
   )/\(((!(decide (al=1))))=false->
    (((decide (0<z5))=true->
     az 30 [(z5+(-1)),z3]/\
     az 21 [z0,(z5+(-1))]/\
     ∀aw:Int,0<=aw->aw<=aO->aw=af 21 [z0,(z5+(-1)),0]->
     ∀z9:Int,0<=z9->z9<=1->z9=af 5 [aw,ai]->
     ((((!(decide (z9=1))))=true->
      K [[z0]] [[(cond (false) 1 0)]]
     )/\(((!(decide (z9=1))))=false->
      ∀av:Int,0<=av->av<=1->0<=(z5+9223372036854775809)-18446744073709551616*av->(z5+9223372036854775809)-18446744073709551616*av<18446744073709551616->
      az 39 [((z5+((-18446744073709551616)*av))+1),0,9223372036854775807]/\
      (kL [[((z5+((-18446744073709551616)*av))+1)]]/\m5 [[((z5+((-18446744073709551616)*av))+1)]]<m5 [[z5]])
     ))
    )/\((decide (0<z5))=false->
     (kL [[1]]/\m5 [[1]]<m5 [[z5]])
    ))
   ))
  )/\((decide (z5<z3))=false->
   K [[z0]] [[(cond (true) 1 0)]]
  ))
 )
theorem Rm:Dg SB (cI SB [.bool] 501):=by
 intro z0 a0 a1 ao b0 b1 hz1
 simp only[af]at hz1
 refine⟨λh=>⟨⟨by decide,by decide,trivial⟩,?_⟩,λh z2 bK c1 h2=>⟨⟨(iN _).1,(iN _).2,trivial⟩,?_⟩⟩
 ·have:J z0=[32]:=by
   have e:J 33=[32]:=by decide
   rw[e]at hz1
   by_cases h':[32]=J z0
   ·exact h'.symm
   ·rw[if_neg h']at hz1;subst hz1;simp at h
  show(1:Int)=aT ((J z0).contains 32)
  rw[this];rfl
 ·have h2:z2=idx 32 (J z0):=h2
  show(cond (decide (0<=z2)) 1 0:Int)=aT ((J z0).contains 32)
  rw[h2,GX (by decide) (by decide)];rfl
theorem Rv:Dm SB (cI SB [.bool] 502):=by
 intro z0 a0 a1 ao _ _ h1
 have h1:=nn h1
 have AU:J (0:Int)=[]:=by decide
 rw[AU]at h1
 have bB:∀b:Bool,b8 (J z0)=b->cI SB [.bool] 502 [[z0]] [[aT b]]:=λb h=>uZ (by show aT b=aT (b8 (J z0));rw[h])
 refine⟨λhn z2 _ _ h2=>?_,λhn=>bB false ?_⟩
 rotate_left
 ·have:=lF hn
  rw[h1]at this
  rw[of_decide_eq_true this];rfl
 have hne:(J z0).isEmpty=false:=by
  have:=mn hn
  rw[h1]at this
  have:=of_decide_eq_false this
  cases h:J z0 with
  |nil=>exact absurd h this
  |cons _ _=>rfl
 have h2:z2=((J z0).length:Int):=h2
 have cg:b8 (J z0)=(Nat.ble (J z0).length 64&&(nY (J z0)&& !(J z0).contains 32)):=by unfold b8;rw[hne];rfl
 refine⟨λtZ z3 _ _ h3=>?_,λtZ=>bB false ?_⟩
 rotate_left
 ·have:=of_decide_eq_false tZ
  rw[cg,show Nat.ble (J z0).length 64=false from by
   cases h:Nat.ble (J z0).length 64 with
   |false=>rfl
   |true=>have:=Nat.le_of_ble_eq_true h;omega];rfl
 have hb:Nat.ble (J z0).length 64=true:=Nat.ble_eq_true_of_le (by have:=of_decide_eq_true tZ;omega)
 rw[hb,Bool.true_and]at cg
 have h3:z3=aT (nY (J z0)):=h3
 have F1:=jI h3
 refine⟨λhp z4 _ _ h4=>?_,λhp=>bB false (by rw[cg,<-F1,hp];rfl)⟩
 have h4:z4=aT ((J z0).contains 32):=h4
 have M0:=jI h4
 have:=bB (!decide (z4=1)) (by rw[cg,<-F1,hp,M0];rfl)
 exact this
theorem kH (z:Int):(au z).length=(ab z).length:=by simp[au]
theorem s6 {z:Int} {i:Nat} (h:i<(ab z).length):(au z).getD i b9=s5 ((ab z).getD i []):=by simp[au,List.getD,h]
theorem mc (z:Int):(aK z).length=(ab z).length:=by simp[aK]
theorem vE {z:Int} {i:Nat} (h:i<(ab z).length):(aK z).getD i []=J (((ab z).getD i []).getD 0 0):=by simp[aK,List.getD,h]
def mP (l:List cd) (i:Nat):Nat:=l.length+((l.take i).map λu=>u.cV.length).sum
theorem Ia {l:List cd} {i:Nat} (h:i<l.length):mP l (i+1)=mP l i+(l.getD i b9).cV.length:=by
 unfold mP
 rw[List.take_add_one]
 simp only[List.getElem?_eq_getElem h,Option.toList_some,List.map_append,List.map_cons,List.map_nil,List.sum_append,List.sum_cons,List.sum_nil,List.getD,Option.getD_some]
 omega
theorem H9 (l:List cd):mP l l.length=vC l:=by unfold mP vC;rw[List.take_length]
theorem RF {l:List cd} {i j:Nat} (h:i<=j) (hj:j<=l.length):mP l i<=mP l j:=by
 obtain⟨k,rfl⟩:=Nat.exists_eq_add_of_le h
 clear h
 induction k with
 |zero=>exact Nat.le_refl _
 |succ k ih=>
  have:=ih (by omega)
  rw[<-Nat.add_assoc,Ia (by omega)];omega
def JU (z0:Int) (bl:List (List Int)):Prop:=∃i n:Nat,bl=[[(n:Int)],[(i:Int)]]/\i<=(ab z0).length/\n=mP (au z0) i
def JV (z0:Int) (bl:List (List Int)):Nat:=(ab z0).length-((bl.getD 1 []).getD 0 0).toNat
theorem Rp:Di SB (fp SB [.d .bool] 500):=by
 intro z0 a0 a1 ao _ z2 _ _ z3 _ c1 h3
 have h3:z3=((ab z0).length:Int):=h3
 have bB:∀b:Bool,decide (200<vC (au z0))=b->fp SB [.d .bool] 500 [[z0]] [[aT b]]:=λb h=>⟨⟨(iN _).1,(iN _).2,trivial⟩,by show aT b=aT (decide (200<vC (au z0)));rw[h]⟩
 have hl:=kH z0
 refine⟨JU z0,JV z0,⟨0,(ab z0).length,by rw[h3];rfl,Nat.zero_le _,by simp[mP,hl]⟩,?_⟩
 rintro z5 d0 d1 ai cg e1 ⟨i,n,e,hi,hn⟩
 obtain⟨rfl,rfl⟩:z5=n/\ai=i:=by simpa using e
 refine⟨λhlt=>⟨λh2=>?_,λh2=>?_⟩,λdN=>?_⟩
 ·have hlt:=of_decide_eq_true hlt
  have h2:=of_decide_eq_true h2
  have bY:i<(ab z0).length:=by omega
  refine⟨⟨by omega,by omega⟩,⟨by omega,by omega⟩,λal _ _ h7 aw _ z9 _ _ av f0 f1 gN aI x0 x1 dV e0 z12 Vo Uc Ue JF=>?_⟩
  have h7:al=((ab z0).getD i []).getD 2 0:=by rw[h7];simp only[af,Int.toNat_natCast];rfl
  have gN:av=(((au z0).getD i b9).cV.length:Int):=by
   rw[s6 bY,gN]
   show((ab al).length:Int)=_
   rw[h7]
   show _=((aK (((ab z0).getD i []).getD 2 0)).length:Int)
   rw[mc]
  have hs:=Ia (l:=au z0) (i:=i) (by omega)
  have Uf:aI=0:=by omega
  have Ug:z12=0:=by omega
  subst Uf;subst Ug
  refine⟨⟨by omega,by omega⟩,⟨by omega,by omega⟩,⟨i+1,mP (au z0) (i+1),?_,by omega,rfl⟩,?_⟩
  ·rw[hs,<-hn,gN,show(n:Int)+((((au z0).getD i b9).cV.length:Int)+(-18446744073709551616)*0)=((n+((au z0).getD i b9).cV.length:Nat):Int) by omega,show(i:Int)+(-18446744073709551616)*0+1=((i+1:Nat):Int) by omega]
  ·show(ab z0).length-((i:Int)+(-18446744073709551616)*0+1).toNat<(ab z0).length-((i:Int)).toNat;omega
 ·have h2:=of_decide_eq_false h2
  refine bB true (decide_eq_true ?_)
  have:=RF (l:=au z0) (i:=i) (j:=(au z0).length) (by omega) (Nat.le_refl _)
  rw[H9]at this
  omega
 ·have dN:=of_decide_eq_false dN
  have No:i=(au z0).length:=by omega
  refine bB (decide (200<(n:Int))) ?_
  rw[hn,No,H9]
  rw[decide_eq_decide];omega
def J9 (z0:Int) (bl:List (List Int)):Prop:=∃i:Nat,bl=[[(i:Int)]]/\i<=(ab z0).length/\∀j:Nat,j<i->(b8 ((aK z0).getD j [])&&(decide (j=0)||Op.bytesLess ((aK z0).getD (j-1) []) ((aK z0).getD j [])))=true
def yQ (z0:Int) (bl:List (List Int)):Nat:=(ab z0).length-((bl.getD 0 []).getD 0 0).toNat
theorem Rl:Df SB (fp SB [.d .bool] 503):=by
 intro z0 a0 a1 ao _ z2 _ _ z3 _ c1 h3
 have h3:z3=((ab z0).length:Int):=h3
 have bB:∀b:Bool,fk (aK z0)=b->fp SB [.d .bool] 503 [[z0]] [[aT b]]:=λb h=>⟨⟨(iN _).1,(iN _).2,trivial⟩,by show aT b=aT (fk (aK z0));rw[h]⟩
 have hl:=mc z0
 have k9:∀i:Nat,i<(ab z0).length->(b8 ((aK z0).getD i [])&&(decide (i=0)||Op.bytesLess ((aK z0).getD (i-1) []) ((aK z0).getD i [])))=false->fp SB [.d .bool] 503 [[z0]] [[aT false]]:=λi hi h=>bB false (by
  cases hp:fk (aK z0)with
  |false=>rfl
  |true=>
   have:=List.all_eq_true.1 hp i (List.mem_range.2 (by omega))
   rw[this]at h;cases h)
 refine⟨J9 z0,yQ z0,⟨0,rfl,Nat.zero_le _,λj hj=>absurd hj (Nat.not_lt_zero j)⟩,?_⟩
 rintro z5 d0 d1 ⟨i,e,hi,hI⟩
 obtain rfl:z5=i:=by simpa using e
 refine⟨λhlt=>?_,λdN=>bB true ?_⟩
 ·have hlt:=of_decide_eq_true hlt
  have bY:i<(ab z0).length:=by omega
  refine⟨⟨by omega,by omega⟩,⟨by omega,by omega⟩,λai _ _ h6 al _ _ h7=>?_⟩
  have h6:J ai=(aK z0).getD i []:=by rw[vE bY,h6];simp only[af,Int.toNat_natCast];rfl
  have h7:al=aT (b8 (J ai)):=h7
  have wZ:=jI h7
  rw[h6]at wZ
  refine⟨λhn=>k9 i bY (by rw[<-wZ,mn hn];rfl),λhn=>⟨λhp=>?_,λhp=>?_⟩⟩
  ·have hp:=of_decide_eq_true hp
   refine⟨⟨by omega,by omega⟩,⟨by omega,by omega⟩,λaw _ _ cJ z9 _ _ br=>?_⟩
   have cJ:J aw=(aK z0).getD (i-1) []:=by
    rw[vE (by omega),cJ]
    simp only[af]
    rw[show((i:Int)+(-1)).toNat=i-1 by omega];rfl
   have br:decide (z9=1)=Op.bytesLess ((aK z0).getD (i-1) []) ((aK z0).getD i []):=by
    rw[br]
    simp only[af,cJ,h6]
    cases Op.bytesLess ((aK z0).getD (i-1) []) ((aK z0).getD i [])<;>rfl
   have eJ:decide (i=0)=false:=decide_eq_false (by omega)
   refine⟨λhq=>k9 i bY (by rw[<-br,mn hq,eJ,Bool.or_false,Bool.and_false]),λhq av x0 x1 dV e0=>⟨⟨by omega,by omega⟩,⟨i+1,by rw[show(i:Int)+(-18446744073709551616)*av+1=((i+1:Nat):Int) by omega],by omega,λj hj=>?_⟩,?_⟩⟩
   ·rcases Nat.lt_or_ge j i with h|h
    ·exact hI j h
    ·obtain rfl:j=i:=by omega
     rw[<-wZ,lF hn,<-br,lF hq,Bool.or_true];rfl
   ·show(ab z0).length-((i:Int)+(-18446744073709551616)*av+1).toNat<(ab z0).length-((i:Int)).toNat;omega
  ·have hp:=of_decide_eq_false hp
   obtain rfl:i=0:=by omega
   refine⟨⟨1,rfl,by omega,λj hj=>?_⟩,?_⟩
   ·obtain rfl:j=0:=by omega
    rw[<-wZ,lF hn];rfl
   ·show(ab z0).length-(1:Int).toNat<(ab z0).length-((0:Nat):Int).toNat;omega
 ·have:=of_decide_eq_false dN
  unfold fk
  rw[List.all_eq_true]
  intro j hj
  exact hI j (by have:=List.mem_range.1 hj;omega)
end Go.bD
namespace Go.bD
open Go Go.aZ
def Db (S:Nat->List (List Int)->List (List Int)->Prop) (K:List (List Int)->List (List Int)->Prop):Prop:=
 ∀z0:Int,0<=z0->z0<=aF->
 ∀ao:Int,0<=ao->
 ∀z2:Int,(-2)<=z2->z2<=9223372036854775807->
 ∀z3:Int,0<=z3->z3<=9223372036854775807->z3=af 20 [z0]->
 (((decide (16<z3))=true->
  K [[z0]] [[(cond (false) 1 0)]]
 )/\((decide (16<z3))=false->
  ∃(kL:List (List Int)->Prop) (m5:List (List Int)->Nat),kL [[0],[0],[0],[(-1)]]/\(∀z5:Int,0<=z5->z5<=9223372036854775807->∀ai:Int,0<=ai->ai<=aF->∀al:Int,0<=al->al<=9223372036854775807->∀aw:Int,(-2)<=aw->aw<=9223372036854775807->kL [[z5],[ai],[al],[aw]]->
   (((decide (z5<z3))=true->
    az 30 [z5,z3]/\
    az 21 [z0,z5]/\
    ∀z9:Int,0<=z9->z9<=aO->z9=af 21 [z0,z5,0]->
    ∀av:Int,0<=av->av<=aO->av=af 21 [z0,z5,1]->
    ∀aI:Int,0<=aI->aI<=gL->aI=af 21 [z0,z5,2]->
    ∀z12:Int,0<=z12->
    ∀ba:Int,(-2)<=ba->ba<=9223372036854775807->
    ∀a8:Int,0<=a8->a8<=140737488351232->a8=af 20 [aI]->
    ∀cr:Int,0<=cr->cr<=1->S 200 [[av]] [[cr]]->
    ((((!(decide (cr=1))))=true->
     K [[z0]] [[(cond (false) 1 0)]]
    )/\(((!(decide (cr=1))))=false->
     (((decide (4<a8))=true->
      K [[z0]] [[(cond (false) 1 0)]]
     )/\((decide (4<a8))=false->
      az 22 [aI,0,a8]/\
      ∀e4:Int,0<=e4->e4<=aF->e4=af 22 [aI,0,a8]->
      ∀ek:Int,0<=ek->ek<=1->S 503 [[e4]] [[ek]]->
      ((((!(decide (ek=1))))=true->
       K [[z0]] [[(cond (false) 1 0)]]
      )/\(((!(decide (ek=1))))=false->
       az 31 [ai,al]/\
       az 23 [ai,1]/\
       ∀cm:Int,0<=cm->cm<=aF->cm=af 23 [ai,z9]->
       ∀eH:Int,(-2)<=eH->eH<=9223372036854775807->
       ∀z20:Int,0<=z20->z20<=1->0<=(z5+9223372036854775809)-18446744073709551616*z20->(z5+9223372036854775809)-18446744073709551616*z20<18446744073709551616->
       az 39 [((z5+((-18446744073709551616)*z20))+1),0,9223372036854775807]/\
       (kL [[((z5+((-18446744073709551616)*z20))+1)],[cm],[(al+1)],[eH]]/\m5 [[((z5+((-18446744073709551616)*z20))+1)],[cm],[(al+1)],[eH]]<m5 [[z5],[ai],[al],[aw]])
      ))
     ))
    ))
   )/\((decide (z5<z3))=false->
    az 22 [ai,0,al]/\
    ∀z9:Int,0<=z9->z9<=aF->z9=af 22 [ai,0,al]->
    ∀av:Int,0<=av->av<=1->S 503 [[z9]] [[av]]->
    K [[z0]] [[(cond (decide (av=1)) 1 0)]]
   ))
  )
 ))
theorem whole {z y n:Int} (hn:n=((ab z).length:Int)) (h:y=af 22 [z,0,n]):ab y=ab z:=by
 rw[h]
 simp only[af,dD,hn]
 rw[show((0:Int)).toNat=0 by rfl,List.drop_zero,List.take_of_length_le (by omega)]
def oT (u:cd):Bool:=ig u.dt&&(Nat.ble u.cV.length 4&&fk u.cV)
def JO (z0:Int) (bl:List (List Int)):Prop:=∃(i:Nat) (c k:Int),bl=[[(i:Int)],[c],[(i:Int)],[k]]/\i<=(ab z0).length/\aK c=((au z0).take i).map (·.tok)/\∀j:Nat,j<i->oT ((au z0).getD j b9)=true
def JP (z0:Int) (bl:List (List Int)):Nat:=(ab z0).length-((bl.getD 0 []).getD 0 0).toNat
theorem Rh:Db SB (fp SB [.d .bool] 504):=by
 intro z0 a0 a1 ao _ z2 _ _ z3 _ c1 h3
 have h3:z3=((ab z0).length:Int):=h3
 have hl:=kH z0
 have bB:∀b:Bool,cz (au z0)=b->fp SB [.d .bool] 504 [[z0]] [[aT b]]:=λb h=>⟨⟨(iN _).1,(iN _).2,trivial⟩,by show aT b=aT (cz (au z0));rw[h]⟩
 refine⟨λiQ=>bB false ?_,λiQ=>⟨JO z0,JP z0,⟨0,0,-1,rfl,Nat.zero_le _,by simp[aK,kD],λj hj=>absurd hj (Nat.not_lt_zero j)⟩,?_⟩⟩
 ·have:=of_decide_eq_true iQ
  unfold cz
  rw[show Nat.ble (au z0).length 16=false from by
   cases h:Nat.ble (au z0).length 16 with
   |false=>rfl
   |true=>have:=Nat.le_of_ble_eq_true h;omega];rfl
 have iQ:=of_decide_eq_false iQ
 have FK:Nat.ble (au z0).length 16=true:=Nat.ble_eq_true_of_le (by omega)
 have k9:∀i:Nat,i<(ab z0).length->oT ((au z0).getD i b9)=false->fp SB [.d .bool] 504 [[z0]] [[aT false]]:=λi hi h=>bB false (by
  unfold cz
  rw[FK,Bool.true_and]
  cases hp:(au z0).all (λu=>ig u.dt&&(Nat.ble u.cV.length 4&&fk u.cV))with
  |false=>rfl
  |true=>
   have:=List.all_eq_true.1 hp ((au z0).getD i b9) (by
    have:i<(au z0).length:=by omega
    simp[List.getD,this])
   unfold oT at h
   rw[this]at h;cases h)
 rintro z5 d0 d1 ai cg e1 al f0 f1 aw g0 g1 ⟨i,c,k,e,hi,ht,aJ⟩
 obtain⟨rfl,rfl,rfl,rfl⟩:z5=i/\ai=c/\al=i/\aw=k:=by simpa using e
 have cR:(ab ai).length=i:=by
  have:=congrArg List.length ht
  rw[mc,List.length_map,List.length_take]at this
  omega
 refine⟨λhlt=>?_,λdN=>?_⟩
 ·have hlt:=of_decide_eq_true hlt
  have bY:i<(ab z0).length:=by omega
  refine⟨⟨by omega,by omega⟩,⟨by omega,by omega⟩,λz9 _ _ br av _ _ gN aI _ _ fW z12 _ ba _ _ a8 _ _ fX cr _ _ fH=>?_⟩
  generalize hu:(au z0).getD i b9=u at*
  have xo:=hu
  rw[s6 bY]at xo
  have br:J z9=u.tok:=by rw[br,<-xo];simp only[af,Int.toNat_natCast];rfl
  have gN:J av=u.dt:=by rw[gN,<-xo];simp only[af,Int.toNat_natCast];rfl
  have fW:aK aI=u.cV:=by rw[fW,<-xo];simp only[af,Int.toNat_natCast];rfl
  have fX:a8=((ab aI).length:Int):=fX
  have UF:(ab aI).length=u.cV.length:=by rw[<-fW,mc]
  have fH:cr=aT (ig (J av)):=fH
  have Ah:=jI fH
  rw[gN]at Ah
  have k9:=k9 i bY
  rw[hu]at k9
  refine⟨λhn=>k9 (by unfold oT;rw[<-Ah,mn hn];rfl),λhn=>⟨λh4=>k9 ?_,λh4=>⟨⟨by omega,by omega,by omega⟩,λe4 _ _ L4 ek _ _ lH=>?_⟩⟩⟩
  ·have h4:=of_decide_eq_true h4
   unfold oT
   rw[show Nat.ble u.cV.length 4=false from by
    cases h:Nat.ble u.cV.length 4 with
    |false=>rfl
    |true=>have:=Nat.le_of_ble_eq_true h;omega,Bool.false_and,Bool.and_false]
  ·have h4:=of_decide_eq_false h4
   have MI:Nat.ble u.cV.length 4=true:=Nat.ble_eq_true_of_le (by omega)
   have hw:=whole fX L4
   have Oq:aK e4=u.cV:=by rw[<-fW];unfold aK;rw[hw]
   have lH:ek=aT (fk (aK e4)):=lH
   have Ai:=jI lH
   rw[Oq]at Ai
   refine⟨λhq=>k9 (by unfold oT;rw[<-Ai,mn hq,Bool.and_false,Bool.and_false]),λhq=>⟨?_,?_,λcm _ _ hV eH _ _ z20 x0 x1 dV e0=>⟨⟨by omega,by omega⟩,⟨i+1,cm,eH,?_,by omega,?_,λj hj=>?_⟩,?_⟩⟩⟩
   ·show(i:Int)=((ab ai).length:Int);omega
   ·show(ab ai).length+(1:Int)<=1073741824;omega
   ·rw[show(i:Int)+(-18446744073709551616)*z20+1=((i+1:Nat):Int) by omega,show(i:Int)+1=((i+1:Nat):Int) by omega]
   ·have:ab cm=ab ai++[[z9]]:=by rw[hV];simp only[af,dD]
    have e1:aK cm=aK ai++[J z9]:=by unfold aK;rw[this];simp
    have Nr:i<(au z0).length:=by omega
    rw[e1,ht,br,List.take_add_one,List.map_append]
    have:(au z0)[i]?=some u:=by
     rw[<-hu];simp[List.getD,Nr]
    rw[this];rfl
   ·rcases Nat.lt_or_ge j i with h|h
    ·exact aJ j h
    ·obtain rfl:j=i:=by omega
     rw[hu]
     unfold oT
     rw[<-Ah,lF hn,MI,<-Ai,lF hq];rfl
   ·show(ab z0).length-((i:Int)+(-18446744073709551616)*z20+1).toNat<(ab z0).length-((i:Int)).toNat;omega
 ·have dN:=of_decide_eq_false dN
  obtain rfl:i=(ab z0).length:=by omega
  refine⟨⟨by omega,by omega,by omega⟩,λz9 _ _ br av _ _ gN=>?_⟩
  have hw:=whole (by rw[cR]) br
  have gN:av=aT (fk (aK z9)):=gN
  have FY:=jI gN
  have Ov:aK z9=(au z0).map (·.tok):=by
   rw[show aK z9=aK ai by unfold aK;rw[hw],ht,List.take_of_length_le (by omega)]
  rw[Ov]at FY
  refine bB (decide (av=1)) ?_
  rw[FY]
  unfold cz
  rw[FK,Bool.true_and,List.all_eq_true.2 λu hu=>?_,Bool.true_and]
  obtain⟨j,hj,rfl⟩:=List.getElem_of_mem hu
  have:=aJ j (by omega)
  unfold oT at this
  simpa [List.getD,hj]using this
end Go.bD
namespace Go.bD
open Go Go.aZ
theorem xB (a b:UInt8) (x y:ak):Op.bytesLess (a::x) (b::y)=true↔a.toNat<b.toNat∨(a=b/\Op.bytesLess x y=true):=by
 simp only[Op.bytesLess,Bool.or_eq_true,Bool.and_eq_true,beq_iff_eq,decide_eq_true_eq,UInt8.lt_iff_toNat_lt]
theorem Bv (x:ak):Op.bytesLess x []=false:=by cases x<;>rfl
theorem Hr:∀x y:ak,Op.bytesLess x y=true->Op.bytesLess y x=true->False
 |x,[],h,_=>by rw[Bv]at h;cases h
 |[],_::_,_,h=>by cases h
 |a::x,b::y,h,h'=>by
  rw[xB]at h h'
  rcases h with h|⟨rfl,h⟩
  ·rcases h' with h'|⟨e,_⟩
   ·omega
   ·rw[e]at h;omega
  ·rcases h' with h'|⟨_,h'⟩
   ·omega
   ·exact Hr x y h h'
theorem xC:∀x y:ak,Op.bytesLess x y=true∨Op.bytesLess y x=true∨x=y
 |[],[]=> .inr (.inr rfl)
 |[],_::_=> .inl rfl
 |_::_,[]=> .inr (.inl rfl)
 |a::x,b::y=>by
  rw[xB,xB]
  rcases Nat.lt_trichotomy a.toNat b.toNat with h|h|h
  ·exact .inl (.inl h)
  ·have e:a=b:=UInt8.toNat_inj.1 h
   subst e
   rcases xC x y with h|h|h
   ·exact .inl (.inr ⟨rfl,h⟩)
   ·exact .inr (.inl (.inr ⟨rfl,h⟩))
   ·exact .inr (.inr (by rw[h]))
  ·exact .inr (.inl (.inl h))
theorem qA:∀x y z:ak,Op.bytesLess x y=true->Op.bytesLess y z=true->Op.bytesLess x z=true
 |_,[],_,h,_=>by rw[Bv]at h;cases h
 |_,_::_,[],_,h=>by rw[Bv]at h;cases h
 |[],_::_,_::_,_,_=>rfl
 |a::x,b::y,c::z,h,h'=>by
  rw[xB]at h h'⊢
  rcases h with h|⟨rfl,h⟩
  ·rcases h' with h'|⟨rfl,_⟩
   ·exact .inl (by omega)
   ·exact .inl h
  ·rcases h' with h'|⟨rfl,h'⟩
   ·exact .inl h'
   ·exact .inr ⟨rfl,qA x y z h h'⟩
def De (S:Nat->List (List Int)->List (List Int)->Prop) (K:List (List Int)->List (List Int)->Prop):Prop:=
 ∀z0:Int,0<=z0->z0<=aF->∀ao:Int,0<=ao->ao<=aO->
 ∀z2:Int,0<=z2->
 ∀z3:Int,(-2)<=z3->z3<=9223372036854775807->
 ∀z4:Int,0<=z4->z4<=9223372036854775807->z4=af 20 [z0]->
 ∃(en:List (List Int)->Prop) (fT:List (List Int)->Nat),en [[0],[z4]]/\(∀ai:Int,0<=ai->ai<=9223372036854775807->∀al:Int,0<=al->al<=9223372036854775807->en [[ai],[al]]->
  (((decide (ai<al))=true->
   ∀aw:Int,0<=aw->aw<=1->0<=((ai+al)+9223372036854775808)-18446744073709551616*aw->((ai+al)+9223372036854775808)-18446744073709551616*aw<18446744073709551616->
   ∀z9:Int,(-1)<=z9->z9<=0->0<=(ai+(al+((-18446744073709551616)*aw)))-18446744073709551616*z9->(ai+(al+((-18446744073709551616)*aw)))-18446744073709551616*z9<18446744073709551616->
   ∀av:Int,0<=av->av<=9223372036854775807->0<=(ai+(al+(((-18446744073709551616)*aw)+((-18446744073709551616)*z9))))-2*av->(ai+(al+(((-18446744073709551616)*aw)+((-18446744073709551616)*z9))))-2*av<2->
   az 30 [av,z4]/\
   az 21 [z0,av]/\
   ∀aI:Int,0<=aI->aI<=aO->aI=af 21 [z0,av,0]->
   ∀z12:Int,0<=z12->z12<=aO->z12=af 21 [z0,av,1]->
   ∀ba:Int,0<=ba->ba<=gL->ba=af 21 [z0,av,2]->
   ∀a8:Int,0<=a8->
   ∀cr:Int,(-2)<=cr->cr<=9223372036854775807->
   ∀e4:Int,0<=e4->e4<=140737488351232->e4=af 20 [ba]->
   ∀ek:Int,(-1)<=ek->ek<=1->S 510 [[aI],[ao]] [[ek]]->
   (((decide (ek<0))=true->
    ∀cm:Int,0<=cm->cm<=1->0<=(av+9223372036854775809)-18446744073709551616*cm->(av+9223372036854775809)-18446744073709551616*cm<18446744073709551616->
    az 39 [((av+((-18446744073709551616)*cm))+1),0,9223372036854775807]/\
    (en [[((av+((-18446744073709551616)*cm))+1)],[al]]/\fT [[((av+((-18446744073709551616)*cm))+1)],[al]]<fT [[ai],[al]])
   )/\((decide (ek<0))=false->
    (en [[ai],[av]]/\fT [[ai],[av]]<fT [[ai],[al]])
   ))
  )/\((decide (ai<al))=false->
   (((decide (ai<z4))=true->
    az 30 [ai,z4]/\
    az 21 [z0,ai]/\
    ∀aw:Int,0<=aw->aw<=aO->aw=af 21 [z0,ai,0]->
    ∀z9:Int,0<=z9->z9<=aO->z9=af 21 [z0,ai,1]->
    ∀av:Int,0<=av->av<=gL->av=af 21 [z0,ai,2]->
    ∀aI:Int,0<=aI->
    ∀z12:Int,(-2)<=z12->z12<=9223372036854775807->
    ∀ba:Int,0<=ba->ba<=140737488351232->ba=af 20 [av]->
    ∀a8:Int,(-1)<=a8->a8<=1->S 510 [[aw],[ao]] [[a8]]->
    K [[z0],[ao]] [[ai],[(cond (decide (a8=0)) 1 0)]]
   )/\((decide (ai<z4))=false->
    K [[z0],[ao]] [[ai],[(cond (false) 1 0)]]
   ))
  ))
 )
theorem IB {l:List ak} (hr:fk l=true) {j k:Nat} (lQ:j<k) (hk:k<l.length):Op.bytesLess (l.getD j []) (l.getD k [])=true:=by
 have step:∀i:Nat,i+1<l.length->Op.bytesLess (l.getD i []) (l.getD (i+1) [])=true:=λi hi=>by
  have:=List.all_eq_true.1 hr (i+1) (List.mem_range.2 hi)
  simp only[Bool.and_eq_true,Bool.or_eq_true,decide_eq_true_eq]at this
  rcases this.2 with h|h
  ·omega
  ·simpa using h
 obtain⟨d,rfl⟩:=Nat.exists_eq_add_of_lt lQ
 clear lQ
 induction d with
 |zero=>exact step j hk
 |succ d ih=>exact qA _ _ _ (ih (by omega)) (step (j+d+1) hk)
theorem Jm (l:List cd) (j:Nat):(l.map (·.tok)).getD j []=(l.getD j b9).tok:=by
 simp only[List.getD,List.getElem?_map]
 cases l[j]?<;>rfl
theorem Cb {l:List cd} (hr:fk (l.map (·.tok))=true) {j k:Nat} (lQ:j<k) (hk:k<l.length):Op.bytesLess (l.getD j b9).tok (l.getD k b9).tok=true:=by
 have:=IB hr lQ (by simpa using hk)
 rwa [Jm,Jm]at this
def J6 (z0:Int) (t:ak) (bl:List (List Int)):Prop:=∃lo hi:Nat,bl=[[(lo:Int)],[(hi:Int)]]/\lo<=hi/\hi<=(au z0).length/\(fk ((au z0).map (·.tok))=true->(∀j:Nat,j<lo->Op.bytesLess ((au z0).getD j b9).tok t=true)/\∀j:Nat,hi<=j->j<(au z0).length->Op.bytesLess ((au z0).getD j b9).tok t=false)
def J7 (bl:List (List Int)):Nat:=((bl.getD 1 []).getD 0 0).toNat-((bl.getD 0 []).getD 0 0).toNat
theorem Rk:De SB (fp SB [.d (.int .i64 0 9223372036854775807),.d .bool] 505):=by
 intro z0 a0 a1 ao n0 n1 z2 _ z3 _ _ z4 b0 b1 h4
 have h4:z4=((ab z0).length:Int):=h4
 have hlen:=kH z0
 have ID:∀{z i:Int} {k:Nat},i=(k:Int)->k<(ab z0).length->z=af 21 [z0,i,0]->J z=((au z0).getD k b9).tok:=λhi hk h=>by
  rw[s6 hk,h,hi];rfl
 generalize ht:J ao=t
 have lL:∀{z x:Int} {k:Nat},J x=((au z0).getD k b9).tok->SB 510 [[x],[ao]] [[z]]->z=cond (Op.bytesLess ((au z0).getD k b9).tok t) (-1) (cond (decide (((au z0).getD k b9).tok=t)) 0 1):=λ{z x k} hx h=>by
  have h:z=cond (Op.bytesLess (J x) (J ao)) (-1) (cond (decide (J x=J ao)) 0 1):=h
  rw[h,hx,ht]
 refine⟨J6 z0 t,J7,⟨0,(ab z0).length,by rw[h4];rfl,Nat.zero_le _,by omega,λ_=>⟨λj h=>absurd h (Nat.not_lt_zero j),λj h h2=>by omega⟩⟩,?_⟩
 rintro ai bK c1 al d0 d1 ⟨lo,hi,e,UZ,Nn,hI⟩
 obtain⟨rfl,rfl⟩:ai=lo/\al=hi:=by simpa using e
 refine⟨λhlt aw cg e1 e2 e3 z9 f0 f1 f2 f3 av g0 g1 g2 g3=>?_,λdN=>?_⟩
 ·have hlt:=of_decide_eq_true hlt
  have U8:aw+z9=0:=by omega
  have fW:av=(((lo+hi)/2:Nat):Int):=by omega
  generalize hk:(lo+hi)/2=k at fW
  have da:lo<=k:=by omega
  have hk2:k<hi:=by omega
  subst fW
  have nz:k<(ab z0).length:=by omega
  have ea:k<(au z0).length:=by omega
  refine⟨⟨by omega,by omega⟩,⟨by omega,by omega⟩,λaI _ _ fW z12 _ _ _ ba _ _ _ a8 _ cr _ _ e4 _ _ _ ek _ _ lH=>?_⟩
  have lH:=lL (ID (k:=k) rfl nz fW) lH
  refine⟨λhn cm i0 i1 i2 i3=>⟨⟨by omega,by omega⟩,⟨k+1,hi,by rw[show((k:Int)+(-18446744073709551616)*cm)+1=((k+1:Nat):Int) by omega],by omega,Nn,λhr=>⟨λj hj=>?_,(hI hr).2⟩⟩,?_⟩,λhn=>⟨⟨lo,k,rfl,da,by omega,λhr=>⟨(hI hr).1,λj hj hl=>?_⟩⟩,?_⟩⟩
  ·have hn:=of_decide_eq_true hn
   have hb:Op.bytesLess ((au z0).getD k b9).tok t=true:=by
    cases hb:Op.bytesLess ((au z0).getD k b9).tok t with
    |true=>rfl
    |false=>
     rw[hb]at lH
     cases hd:decide (((au z0).getD k b9).tok=t)<;>rw[hd]at lH<;>simp only[cond_true,cond_false]at lH<;>omega
   rcases Nat.lt_or_ge j k with h|h
   ·exact qA _ _ _ (Cb hr h ea) hb
   ·rw[show j=k by omega];exact hb
  ·show((hi:Int)).toNat-(((k:Int)+(-18446744073709551616)*cm)+1).toNat<((hi:Int)).toNat-((lo:Int)).toNat;omega
  ·have hn:=of_decide_eq_false hn
   have hb:Op.bytesLess ((au z0).getD k b9).tok t=false:=by
    cases hb:Op.bytesLess ((au z0).getD k b9).tok t with
    |false=>rfl
    |true=>rw[hb]at lH;simp only[cond_true]at lH;omega
   rcases Nat.lt_or_ge k j with h|h
   ·cases jU:Op.bytesLess ((au z0).getD j b9).tok t with
    |false=>rfl
    |true=>rw[qA _ _ _ (Cb hr h hl) jU]at hb;cases hb
   ·rw[show j=k by omega];exact hb
  ·show((k:Int)).toNat-((lo:Int)).toNat<((hi:Int)).toNat-((lo:Int)).toNat;omega
 ·have dN:=of_decide_eq_false dN
  have ad:hi=lo:=by omega
  subst ad
  have bB:∀f:Bool,(f=true->hi<(au z0).length)->(fk ((au z0).map (·.tok))=true->(f=true↔hi<(au z0).length/\((au z0).getD hi b9).tok=t))->fp SB [.d (.int .i64 0 9223372036854775807),.d .bool] 505 [[z0],[ao]] [[(hi:Int)],[cond f 1 0]]:=λf hf ef=>by
   refine⟨⟨by omega,c1,by cases f<;>decide,by cases f<;>decide,trivial⟩,?_⟩
   show q9 (au z0) (J ao) (hi:Int) (cond f 1 0)
   rw[ht]
   refine⟨⟨by omega,by omega⟩,?_,λhr=>⟨λj hj=>(hI hr).1 j (by omega),λj h1 h2=>(hI hr).2 j (by omega) h2,?_⟩⟩
   ·intro h
    have:f=true:=by cases f with|true=>rfl|false=>cases h
    have:=hf this;omega
   ·have h3:=ef hr
    rw[Int.toNat_natCast]
    cases f with
    |true=>exact⟨λ_=>⟨by have:=(h3.1 rfl).1;omega,(h3.1 rfl).2⟩,λ_=>rfl⟩
    |false=>exact⟨λh=>(by cases h),λh=>(by have:=h3.2 ⟨by omega,h.2⟩;cases this)⟩
  refine⟨λhl=>?_,λhl=>?_⟩
  ·have hl:=of_decide_eq_true hl
   have nz:hi<(ab z0).length:=by omega
   refine⟨⟨by omega,by omega⟩,⟨by omega,by omega⟩,λaw _ _ cJ z9 _ _ _ av _ _ _ aI _ z12 _ _ ba _ _ _ a8 _ _ fX=>?_⟩
   have fX:=lL (ID (k:=hi) rfl nz cJ) fX
   refine bB (decide (a8=0)) (λ_=>by omega) λhr=>?_
   have hb:=(hI hr).2 hi (Nat.le_refl _) (by omega)
   rw[hb]at fX
   simp only[cond_false]at fX
   rw[decide_eq_true_eq]
   by_cases hd:((au z0).getD hi b9).tok=t
   ·rw[decide_eq_true hd]at fX
    exact⟨λ_=>⟨by omega,hd⟩,λ_=>fX⟩
   ·rw[decide_eq_false hd]at fX
    simp only[cond_false]at fX
    exact⟨λh=>(by omega),λh=>(hd h.2).elim⟩
  ·have hl:=of_decide_eq_false hl
   exact bB false (λh=>by cases h) (λ_=>⟨λh=>(by cases h),λh=>(by omega)⟩)
end Go.bD
namespace Go.bD
open Go Go.aZ
def Dd (S:Nat->List (List Int)->List (List Int)->Prop) (K:List (List Int)->List (List Int)->Prop):Prop:=
 ∀z0:Int,0<=z0->z0<=aF->∀ao:Int,0<=ao->ao<=aO->
 ∀z2:Int,0<=z2->
 ∀z3:Int,(-2)<=z3->z3<=9223372036854775807->
 ∀z4:Int,0<=z4->z4<=9223372036854775807->z4=af 20 [z0]->
 az 22 [z0,0,z4]/\
 ∀z5:Int,0<=z5->z5<=aF->z5=af 22 [z0,0,z4]->
 ∀ai:Int,0<=ai->ai<=1->S 504 [[z5]] [[ai]]->
 ((((!(decide (ai=1))))=true->
  K [[z0],[ao]] [[0],[1]]
 )/\(((!(decide (ai=1))))=false->
  az 22 [z0,0,z4]/\
  ∀al:Int,0<=al->al<=aF->al=af 22 [z0,0,z4]->
  ∀aw:Int,0<=aw->aw<=9223372036854775807->∀z9:Int,0<=z9->z9<=1->S 505 [[al],[ao]] [[aw],[z9]]->
  ((((!(decide (z9=1))))=true->
   K [[z0],[ao]] [[0],[14]]
  )/\(((!(decide (z9=1))))=false->
   K [[z0],[ao]] [[aw],[0]]
  ))
 ))
def Dc (S:Nat->List (List Int)->List (List Int)->Prop) (K:List (List Int)->List (List Int)->Prop):Prop:=
 ∀z0:Int,0<=z0->z0<=aF->∀ao:Int,0<=ao->ao<=aO->
 ∀z2:Int,0<=z2->
 ∀z3:Int,(-2)<=z3->z3<=9223372036854775807->
 ∀z4:Int,0<=z4->z4<=9223372036854775807->z4=af 20 [z0]->
 az 22 [z0,0,z4]/\
 ∀z5:Int,0<=z5->z5<=aF->z5=af 22 [z0,0,z4]->
 ∀ai:Int,0<=ai->ai<=9223372036854775807->∀al:Int,0<=al->al<=21->S 506 [[z5],[ao]] [[ai],[al]]->
 ((((!(decide (al=0))))=true->
  K [[z0],[ao]] [[0],[al]]
 )/\(((!(decide (al=0))))=false->
  az 30 [ai,z4]/\
  az 21 [z0,ai]/\
  ∀aw:Int,0<=aw->aw<=aO->aw=af 21 [z0,ai,1]->
  K [[z0],[ao]] [[aw],[0]]
 ))
theorem fu {z y n:Int} (hn:n=((ab z).length:Int)) (h:y=af 22 [z,0,n]):au y=au z:=by unfold au;rw[whole hn h]
theorem Ca {l:List cd} (h:cz l=true):fk (l.map (·.tok))=true:=by
 unfold cz at h
 simp only[Bool.and_eq_true]at h
 exact h.2.2
theorem Ih {l:List cd} {t:ak} {i f:Int} (h:q9 l t i f) (hr:cz l=true):l.findIdx? (λu=>decide (u.tok=t))=cond (decide (f=1)) (some i.toNat) none:=by
 obtain⟨⟨h1,h2⟩,h3,h4⟩:=h
 obtain⟨h5,h6,h7⟩:=h4 (Ca hr)
 by_cases hf:f=1
 ·rw[decide_eq_true hf,cond_true]
  obtain⟨g1,g2⟩:=h7.1 hf
  rw[List.findIdx?_eq_some_iff_getElem]
  refine⟨by omega,?_,λj hj=>?_⟩
  ·rw[decide_eq_true_eq,<-g2]
   have:i.toNat<l.length:=by omega
   simp[List.getD,this]
  ·have xa:j<l.length:=by omega
   have:=h5 j (by omega)
   simp only[List.getD,List.getElem?_eq_getElem xa,Option.getD_some]at this
   rw[Bool.not_eq_true,decide_eq_false_iff_not]
   intro e
   rw[e,sC]at this;cases this
 ·rw[decide_eq_false hf,cond_false]
  rw[List.findIdx?_eq_none_iff]
  intro u hu
  rw[decide_eq_false_iff_not]
  intro e
  obtain⟨j,hj,rfl⟩:=List.getElem_of_mem hu
  have hg:l.getD j b9=l[j]:=by simp[List.getD,hj]
  rcases Int.lt_or_le (j:Int) i with h|h
  ·have:=h5 j h
   rw[hg,e,sC]at this;cases this
  ·rcases Int.lt_or_eq_of_le h with h|h
   ·have hk:=Cb (Ca hr) (show i.toNat<j by omega) hj
    rw[hg,e]at hk
    have:=h6 i.toNat (by omega) (by omega)
    rw[this]at hk;cases hk
   ·refine hf (h7.2 ⟨by omega,?_⟩)
    rw[show i.toNat=j by omega,hg];exact e
theorem Rj:Dd SB (fp SB [.d (.int .i64 0 9223372036854775807),.d (.int .i64 0 21)] 506):=by
 intro z0 a0 a1 ao n0 n1 z2 _ z3 _ _ z4 b0 b1 h4
 have h4:z4=((ab z0).length:Int):=h4
 have bB:∀i e:Int,(0<=i/\i<=9223372036854775807)->(0<=e/\e<=21)->bN (au z0) (J ao)=(i,e)->fp SB [.d (.int .i64 0 9223372036854775807),.d (.int .i64 0 21)] 506 [[z0],[ao]] [[i],[e]]:=λi e hi he h=>⟨⟨hi.1,hi.2,he.1,he.2,trivial⟩,by show(i,e)=bN (au z0) (J ao);rw[h]⟩
 refine⟨⟨by omega,by omega,by omega⟩,λz5 _ _ h5 ai _ _ h6=>?_⟩
 have h6:ai=aT (cz (au z5)):=h6
 rw[fu h4 h5]at h6
 have F2:=jI h6
 refine⟨λhn=>bB 0 1 (by decide) (by decide) (by unfold bN;rw[<-F2,mn hn];rfl),λhn=>⟨⟨by omega,by omega,by omega⟩,λal _ _ h7 aw bK c1 z9 _ _ br=>?_⟩⟩
 have hr:cz (au z0)=true:=by rw[<-F2];exact lF hn
 have br:q9 (au al) (J ao) aw z9:=br
 rw[fu h4 h7]at br
 have hf:=Ih br hr
 refine⟨λhq=>bB 0 14 (by decide) (by decide) (by unfold bN;rw[hr,hf,mn hq];rfl),λhq=>bB aw 0 ⟨bK,c1⟩ (by decide) ?_⟩
 unfold bN
 rw[hr,hf,lF hq]
 show(((aw.toNat:Nat):Int),(0:Int))=(aw,0)
 rw[Int.toNat_of_nonneg bK]
theorem Bn {l:List cd} {t:ak} (h:(bN l t).2=0):0<=(bN l t).1/\(bN l t).1<l.length:=by
 unfold bN at h⊢
 cases hr:cz l with
 |false=>rw[hr]at h;cases h
 |true=>
  rw[hr]at h
  simp only[cond_true]at h⊢
  cases hf:l.findIdx? (λu=>decide (u.tok=t))with
  |none=>rw[hf]at h;cases h
  |some k=>
   have:=(List.findIdx?_eq_some_iff_getElem.1 hf).1
   simp only;omega
theorem Ri:Dc SB (fp SB [.d .str,.d (.int .i64 0 21)] 507):=by
 intro z0 a0 a1 ao n0 n1 z2 _ z3 _ _ z4 b0 b1 h4
 have h4:z4=((ab z0).length:Int):=h4
 refine⟨⟨by omega,by omega,by omega⟩,λz5 _ _ h5 ai _ _ al bK c1 h7=>?_⟩
 have h7:(ai,al)=bN (au z5) (J ao):=h7
 rw[fu h4 h5]at h7
 have e1:(bN (au z0) (J ao)).1=ai:=by rw[<-h7]
 have e2:(bN (au z0) (J ao)).2=al:=by rw[<-h7]
 have AU:J (0:Int)=[]:=by decide
 refine⟨λhn=>⟨⟨Int.le_refl _,pf,bK,c1,trivial⟩,?_⟩,λhn=>?_⟩
 ·show(J 0,al)=hh (au z0) (J ao)
  unfold hh
  rw[e2,mn hn,AU];rfl
 ·have hz:al=0:=of_decide_eq_true (lF hn)
  have hk:=Bn (l:=au z0) (t:=J ao) (by rw[e2];exact hz)
  rw[e1,kH]at hk
  refine⟨⟨by omega,by omega⟩,⟨by omega,by omega⟩,λaw d0 d1 cJ=>⟨⟨d0,d1,by decide,by decide,trivial⟩,?_⟩⟩
  show(J aw,(0:Int))=hh (au z0) (J ao)
  unfold hh
  rw[e2,e1,hz,s6 (by omega)]
  have:J aw=(s5 ((ab z0).getD ai.toNat [])).dt:=by rw[cJ];rfl
  rw[this];rfl
end Go.bD
namespace Go.bD
open Go Go.aZ
def Dp (S:Nat->List (List Int)->List (List Int)->Prop) (K:List (List Int)->List (List Int)->Prop):Prop:=
 ∀z0:Int,0<=z0->z0<=aF->∀ao:Int,0<=ao->ao<=aO->
 ∀z2:Int,0<=z2->
 ∀z3:Int,(-2)<=z3->z3<=9223372036854775807->
 ∀z4:Int,0<=z4->z4<=9223372036854775807->z4=af 20 [z0]->
 ∃(en:List (List Int)->Prop) (fT:List (List Int)->Nat),en [[0]]/\(∀ai:Int,0<=ai->ai<=9223372036854775807->en [[ai]]->
  (((decide (ai<z4))=true->
   az 30 [ai,z4]/\
   az 21 [z0,ai]/\
   ∀al:Int,0<=al->al<=aO->al=af 21 [z0,ai,0]->
   ∀aw:Int,0<=aw->aw<=1->aw=af 4 [ao,al]->
   (((decide (aw=1))=true->
    K [[z0],[ao]] [[(cond (true) 1 0)]]
   )/\((decide (aw=1))=false->
    ∀z9:Int,0<=z9->z9<=1->0<=(ai+9223372036854775809)-18446744073709551616*z9->(ai+9223372036854775809)-18446744073709551616*z9<18446744073709551616->
    az 39 [((ai+((-18446744073709551616)*z9))+1),0,9223372036854775807]/\
    (en [[((ai+((-18446744073709551616)*z9))+1)]]/\fT [[((ai+((-18446744073709551616)*z9))+1)]]<fT [[ai]])
   ))
  )/\((decide (ai<z4))=false->
   K [[z0],[ao]] [[(cond (false) 1 0)]]
  ))
 )
def Da (S:Nat->List (List Int)->List (List Int)->Prop) (K:List (List Int)->List (List Int)->Prop):Prop:=
 ∀z0:Int,0<=z0->z0<=aF->∀ao:Int,0<=ao->ao<=aO->∀z2:Int,0<=z2->z2<=aF->
 ∀z3:Int,0<=z3->
 ∀z4:Int,(-2)<=z4->z4<=9223372036854775807->
 ∀z5:Int,0<=z5->z5<=9223372036854775807->z5=af 20 [z0]->
 ∀ai:Int,0<=ai->
 ∀al:Int,(-2)<=al->al<=9223372036854775807->
 ∀aw:Int,0<=aw->aw<=9223372036854775807->aw=af 20 [z2]->
 az 22 [z0,0,z5]/\
 ∀z9:Int,0<=z9->z9<=aF->z9=af 22 [z0,0,z5]->
 ∀av:Int,0<=av->av<=9223372036854775807->∀aI:Int,0<=aI->aI<=21->S 506 [[z9],[ao]] [[av],[aI]]->
 ((((!(decide (aI=0))))=true->
  K [[z0],[ao],[z2]] [[aI]]
 )/\(((!(decide (aI=0))))=false->
  ∃(yI:List (List Int)->Prop) (JJ:List (List Int)->Nat),yI [[0]]/\(∀ba:Int,0<=ba->ba<=9223372036854775807->yI [[ba]]->
   (((decide (ba<aw))=true->
    az 30 [ba,aw]/\
    az 21 [z2,ba]/\
    ∀a8:Int,0<=a8->a8<=aO->a8=af 21 [z2,ba,0]->
    az 30 [av,z5]/\
    az 21 [z0,av]/\
    ∀cr:Int,0<=cr->cr<=gL->cr=af 21 [z0,av,2]->
    ∀e4:Int,0<=e4->
    ∀ek:Int,(-2)<=ek->ek<=9223372036854775807->
    ∀cm:Int,0<=cm->cm<=140737488351232->cm=af 20 [cr]->
    az 22 [cr,0,cm]/\
    ∀eH:Int,0<=eH->eH<=aF->eH=af 22 [cr,0,cm]->
    ∀z20:Int,0<=z20->z20<=1->S 512 [[eH],[a8]] [[z20]]->
    ((((!(decide (z20=1))))=true->
     K [[z0],[ao],[z2]] [[13]]
    )/\(((!(decide (z20=1))))=false->
     ∀z21:Int,0<=z21->z21<=1->0<=(ba+9223372036854775809)-18446744073709551616*z21->(ba+9223372036854775809)-18446744073709551616*z21<18446744073709551616->
     az 39 [((ba+((-18446744073709551616)*z21))+1),0,9223372036854775807]/\
     (yI [[((ba+((-18446744073709551616)*z21))+1)]]/\JJ [[((ba+((-18446744073709551616)*z21))+1)]]<JJ [[ba]])
    ))
   )/\((decide (ba<aw))=false->
    K [[z0],[ao],[z2]] [[0]]
   ))
  )
 ))
theorem Jp {z:Int} {i:Nat} (h:i<(ab z).length):(aK z).getD i []∈aK z:=by
 have:i<(aK z).length:=by rw[mc];exact h
 simp[List.getD,this]
theorem T6 {z y n:Int} (hn:n=((ab z).length:Int)) (h:y=af 22 [z,0,n]):aK y=aK z:=by unfold aK;rw[whole hn h]
def JQ (z0:Int) (t:ak) (bl:List (List Int)):Prop:=∃i:Nat,bl=[[(i:Int)]]/\i<=(ab z0).length/\∀j:Nat,j<i->(aK z0).getD j []≠t
theorem Rx:Dp SB (fp SB [.d .bool] 512):=by
 intro z0 a0 a1 ao n0 n1 z2 _ z3 _ _ z4 b0 b1 h4
 have h4:z4=((ab z0).length:Int):=h4
 have hl:=mc z0
 have bB:∀b:Bool,(aK z0).contains (J ao)=b->fp SB [.d .bool] 512 [[z0],[ao]] [[aT b]]:=λb h=>⟨⟨(iN _).1,(iN _).2,trivial⟩,by show aT b=aT ((aK z0).contains (J ao));rw[h]⟩
 refine⟨JQ z0 (J ao),yQ z0,⟨0,rfl,Nat.zero_le _,λj hj=>absurd hj (Nat.not_lt_zero j)⟩,?_⟩
 rintro ai d0 d1 ⟨i,e,hi,hI⟩
 obtain rfl:ai=i:=by simpa using e
 refine⟨λhlt=>?_,λdN=>bB false ?_⟩
 ·have hlt:=of_decide_eq_true hlt
  have bY:i<(ab z0).length:=by omega
  refine⟨⟨by omega,by omega⟩,⟨by omega,by omega⟩,λal _ _ h7 aw _ _ cJ=>?_⟩
  have h7:J al=(aK z0).getD i []:=by rw[vE bY,h7];simp only[af,Int.toNat_natCast];rfl
  have cJ:=nn cJ
  rw[h7]at cJ
  refine⟨λhq=>bB true ?_,λhq z9 x0 x1 dV e0=>⟨⟨by omega,by omega⟩,⟨i+1,by rw[show(i:Int)+(-18446744073709551616)*z9+1=((i+1:Nat):Int) by omega],by omega,λj hj=>?_⟩,?_⟩⟩
  ·rw[cJ]at hq
   rw[List.contains_iff_mem,of_decide_eq_true hq];exact Jp bY
  ·rcases Nat.lt_or_ge j i with h|h
   ·exact hI j h
   ·obtain rfl:j=i:=by omega
    rw[cJ]at hq
    exactλe=>of_decide_eq_false hq e.symm
  ·show(ab z0).length-((i:Int)+(-18446744073709551616)*z9+1).toNat<(ab z0).length-((i:Int)).toNat;omega
 ·have:=of_decide_eq_false dN
  cases hc:(aK z0).contains (J ao)with
  |false=>rfl
  |true=>
   rw[List.contains_iff_mem]at hc
   obtain⟨j,hj,he⟩:=List.getElem_of_mem hc
   exact(hI j (by omega) (by simp[List.getD,hj,he])).elim
def JM (z2:Int) (cV:List ak) (bl:List (List Int)):Prop:=∃i:Nat,bl=[[(i:Int)]]/\i<=(ab z2).length/\∀j:Nat,j<i->cV.contains ((aK z2).getD j [])=true
theorem Rg:Da SB (fp SB [.d (.int .i64 0 21)] 511):=by
 intro z0 a0 a1 ao n0 n1 z2 m0 kz z3 _ z4 _ _ z5 _ _ h5 ai _ al _ _ aw _ c1 cJ
 have h5:z5=((ab z0).length:Int):=h5
 have cJ:aw=((ab z2).length:Int):=cJ
 have hl:=mc z2
 have bB:∀e:Int,(0<=e/\e<=21)->gp (au z0) (J ao) (aK z2)=e->fp SB [.d (.int .i64 0 21)] 511 [[z0],[ao],[z2]] [[e]]:=λe he h=>⟨⟨he.1,he.2,trivial⟩,by show e=gp (au z0) (J ao) (aK z2);rw[h]⟩
 refine⟨⟨by omega,by omega,by omega⟩,λz9 _ _ br av _ _ aI cg e1 fW=>?_⟩
 have fW:(av,aI)=bN (au z9) (J ao):=fW
 rw[fu h5 br]at fW
 have f1:(bN (au z0) (J ao)).1=av:=by rw[<-fW]
 have f2:(bN (au z0) (J ao)).2=aI:=by rw[<-fW]
 refine⟨λhn=>bB aI ⟨cg,e1⟩ (by unfold gp;rw[f2,mn hn];rfl),λhn=>?_⟩
 have hz:aI=0:=of_decide_eq_true (lF hn)
 have hk:=Bn (l:=au z0) (t:=J ao) (by rw[f2];exact hz)
 rw[f1,kH]at hk
 have c6:gp (au z0) (J ao) (aK z2)=cond ((aK z2).all λs=>((au z0).getD av.toNat b9).cV.contains s) 0 13:=by unfold gp;rw[f2,f1,hz];rfl
 generalize hu:((au z0).getD av.toNat b9).cV=cV at c6
 refine⟨JM z2 cV,yQ z2,⟨0,rfl,Nat.zero_le _,λj hj=>absurd hj (Nat.not_lt_zero j)⟩,?_⟩
 rintro ba d0 d1 ⟨i,e,hi,hI⟩
 obtain rfl:ba=i:=by simpa using e
 refine⟨λhlt=>?_,λdN=>bB 0 (by decide) ?_⟩
 ·have hlt:=of_decide_eq_true hlt
  have bY:i<(ab z2).length:=by omega
  refine⟨⟨by omega,by omega⟩,⟨by omega,by omega⟩,λa8 _ _ fX=>⟨⟨by omega,by omega⟩,⟨by omega,by omega⟩,λcr _ _ fH e4 _ ek _ _ cm g0 g1 hV=>?_⟩⟩
  have fX:J a8=(aK z2).getD i []:=by rw[vE bY,fX];simp only[af,Int.toNat_natCast];rfl
  have fH:aK cr=cV:=by rw[<-hu,s6 (by omega),fH];rfl
  have hV:cm=((ab cr).length:Int):=hV
  refine⟨⟨by omega,by omega,by omega⟩,λeH _ _ ox z20 _ _ rR=>?_⟩
  have rR:z20=aT ((aK eH).contains (J a8)):=rR
  rw[T6 hV ox,fH,fX]at rR
  have FZ:=jI rR
  refine⟨λhq=>bB 13 (by decide) ?_,λhq z21 x0 x1 dV e0=>⟨⟨by omega,by omega⟩,⟨i+1,by rw[show(i:Int)+(-18446744073709551616)*z21+1=((i+1:Nat):Int) by omega],by omega,λj hj=>?_⟩,?_⟩⟩
  ·rw[c6]
   have hq:=mn hq
   rw[FZ]at hq
   cases ha:(aK z2).all λs=>cV.contains s with
   |false=>rfl
   |true=>
    have:=List.all_eq_true.1 ha _ (Jp bY)
    rw[hq]at this;cases this
  ·rcases Nat.lt_or_ge j i with h|h
   ·exact hI j h
   ·obtain rfl:j=i:=by omega
    rw[<-FZ];exact lF hq
  ·show(ab z2).length-((i:Int)+(-18446744073709551616)*z21+1).toNat<(ab z2).length-((i:Int)).toNat;omega
 ·have:=of_decide_eq_false dN
  rw[c6,List.all_eq_true.2 λs hs=>?_]
  ·rfl
  ·obtain⟨j,hj,rfl⟩:=List.getElem_of_mem hs
   have:=hI j (by omega)
   simpa [List.getD,hj]using this
end Go.bD
namespace Go.bD
open Go Go.aZ
def fg (x y:ak):Prop:=Op.bytesLess x y=true
theorem Hz {l:List ak} (h:fk l=true):l.Pairwise fg:=by
 rw[List.pairwise_iff_getElem]
 intro i j hi hj h8
 have:=IB h h8 hj
 simp only[List.getD,List.getElem?_eq_getElem hi,List.getElem?_eq_getElem hj,Option.getD_some]at this
 exact this
theorem R9 {l:List ak} (h:l.Pairwise fg) (hs:l.all b8=true):fk l=true:=by
 rw[List.pairwise_iff_getElem]at h
 unfold fk
 rw[List.all_eq_true]
 intro i hi
 have hi:i<l.length:=List.mem_range.1 hi
 rw[Bool.and_eq_true,Bool.or_eq_true]
 have e:l.getD i []=l[i]:=by simp[List.getD,hi]
 rw[e]
 refine⟨List.all_eq_true.1 hs _ (List.getElem_mem hi),?_⟩
 by_cases h0:i=0
 ·exact .inl (decide_eq_true h0)
 ·right
  have e1:l.getD (i-1) []=l[i-1]:=by simp[List.getD,show i-1<l.length by omega]
  rw[e1]
  exact h (i-1) i (by omega) hi (by omega)
theorem BE (s:ak):∀(l:List ak) (x:ak),x∈gS s l↔x=s∨x∈l
 |[],x=>by simp[gS]
 |y::r,x=>by
  unfold gS
  by_cases h:y=s
  ·rw[decide_eq_true h,cond_true,<-h];simp
  ·rw[decide_eq_false h,cond_false]
   cases hb:Op.bytesLess s y with
   |true=>simp
   |false=>
    have ih:=BE s r x
    simp only[cond_false,List.mem_cons,ih]
    constructor
    ·rintro(h|h|h)<;>simp[h]
    ·rintro(h|h|h)<;>simp[h]
theorem G7 (s:ak):∀{l:List ak},l.Pairwise fg->(gS s l).Pairwise fg
 |[],_=>by simp[gS]
 |y::r,h=>by
  unfold gS
  by_cases he:y=s
  ·rw[decide_eq_true he];exact h
  ·rw[decide_eq_false he,cond_false]
   have h':=List.pairwise_cons.1 h
   cases hb:Op.bytesLess s y with
   |true=>
    refine List.pairwise_cons.2 ⟨λz hz=>?_,h⟩
    rcases List.mem_cons.1 hz with rfl|hz
    ·exact hb
    ·exact qA _ _ _ hb (h'.1 z hz)
   |false=>
    refine List.pairwise_cons.2 ⟨λz hz=>?_,G7 s h'.2⟩
    rcases(BE s r z).1 hz with rfl|hz
    ·rcases xC z y with h|h|h
     ·rw[h]at hb;cases hb
     ·exact h
     ·exact absurd h.symm he
    ·exact h'.1 z hz
theorem CW:∀{d a:List ak},a.Pairwise fg->(n6 a d).Pairwise fg
 |[],_,h=>h
 |s::d,a,h=>CW (d:=d) (a:=gS s a) (G7 s h)
theorem xJ:∀{d a:List ak} (x:ak),x∈n6 a d↔x∈a∨x∈d
 |[],a,x=>by simp[n6]
 |s::d,a,x=>by
  have ih:=xJ (d:=d) (a:=gS s a) x
  show x∈n6 (gS s a) d↔_
  rw[ih,BE]
  simp only[List.mem_cons]
  constructor
  ·rintro((h|h)|h)<;>simp[h]
  ·rintro(h|h|h)<;>simp[h]
theorem Hx:∀{l aU:List ak},l.Pairwise fg->aU.Pairwise fg->(∀x,x∈l↔x∈aU)->l=aU
 |[],[],_,_,_=>rfl
 |[],y::r,_,_,h=>by have:=(h y).2 (by simp);cases this
 |x::r,[],_,_,h=>by have:=(h x).1 (by simp);cases this
 |x::r,y::s,h1,h2,h=>by
  have a1:=List.pairwise_cons.1 h1
  have a2:=List.pairwise_cons.1 h2
  have e:x=y:=by
   rcases List.mem_cons.1 ((h x).1 (by simp))with e|hx
   ·exact e
   ·rcases List.mem_cons.1 ((h y).2 (by simp))with e|hy
    ·exact e.symm
    ·exact absurd (a1.1 y hy) λh=>Hr _ _ h (a2.1 x hx)
  subst e
  refine congrArg _ (Hx a1.2 a2.2 λz=>⟨λhz=>?_,λhz=>?_⟩)
  ·rcases List.mem_cons.1 ((h z).1 (List.mem_cons_of_mem _ hz))with e|h'
   ·subst e
    have:=a1.1 z hz
    unfold fg at this;rw[sC]at this;cases this
   ·exact h'
  ·rcases List.mem_cons.1 ((h z).2 (List.mem_cons_of_mem _ hz))with e|h'
   ·subst e
    have:=a2.1 z hz
    unfold fg at this;rw[sC]at this;cases this
   ·exact h'
end Go.bD
namespace Go.bD
open Go Go.aZ
theorem R8 (l:List ak):fk l=true↔l.Pairwise fg/\∀s∈l,b8 s=true:=by
 refine⟨λh=>⟨Hz h,λs hs=>?_⟩,λh=>R9 h.1 (List.all_eq_true.2 h.2)⟩
 unfold fk at h
 rw[List.all_eq_true]at h
 obtain⟨j,hj,rfl⟩:=List.getElem_of_mem hs
 have:=h j (List.mem_range.2 hj)
 rw[Bool.and_eq_true]at this
 have h:=this.1
 simp only[List.getD,List.getElem?_eq_getElem hj,Option.getD_some]at h
 exact h
def CV (u:cd):Prop:=ig u.dt=true/\u.cV.length<=4/\u.cV.Pairwise fg/\(∀s∈u.cV,b8 s=true)/\b8 u.tok=true
theorem oX (l:List cd):cz l=true↔l.length<=16/\(∀u∈l,CV u)/\l.Pairwise (λa b=>fg a.tok b.tok):=by
 unfold cz
 simp only[Bool.and_eq_true,List.all_eq_true,R8,List.pairwise_map,List.mem_map]
 constructor
 ·rintro⟨h1,h2,h3,h4⟩
  exact⟨Nat.le_of_ble_eq_true h1,λu hu=>⟨(h2 u hu).1,Nat.le_of_ble_eq_true (h2 u hu).2.1,(h2 u hu).2.2.1,(h2 u hu).2.2.2,h4 _ ⟨u,hu,rfl⟩⟩,h3⟩
 ·rintro⟨h1,h2,h3⟩
  refine⟨Nat.ble_eq_true_of_le h1,λu hu=>⟨(h2 u hu).1,Nat.ble_eq_true_of_le (h2 u hu).2.1,(h2 u hu).2.2.1,(h2 u hu).2.2.2.1⟩,h3,?_⟩
  rintro s ⟨u,hu,rfl⟩
  exact(h2 u hu).2.2.2.2
theorem Hy {x y:ak} (h:fg x y):x≠y:=λe=>by subst e;unfold fg at h;rw[sC]at h;cases h
theorem CR {l:List cd} (hl:l.Pairwise (λa b=>fg a.tok b.tok)) {i j:Nat} (hi:i<l.length) (hj:j<l.length) (h:l[i].tok=l[j].tok):i=j:=by
 rw[List.pairwise_iff_getElem]at hl
 rcases Nat.lt_trichotomy i j with h8|h8|h8
 ·exact absurd h (Hy (hl i j hi hj h8))
 ·exact h8
 ·exact absurd h.symm (Hy (hl j i hj hi h8))
theorem Hg {l:List cd} {u:cd} {t:ak} (hr:cz l=true) (hu:u∈l) (ht:u.tok=t):∃k:Nat,bN l t=((k:Int),0)/\k<l.length/\l.getD k b9=u:=by
 have hp:=((oX l).1 hr).2.2
 unfold bN
 rw[hr,cond_true]
 cases hf:l.findIdx? (λu=>decide (u.tok=t))with
 |none=>
  rw[List.findIdx?_eq_none_iff]at hf
  have:=hf u hu
  rw[decide_eq_true ht]at this;cases this
 |some k=>
  obtain⟨h1,h2,_⟩:=List.findIdx?_eq_some_iff_getElem.1 hf
  have h2:=of_decide_eq_true h2
  obtain⟨j,hj,rfl⟩:=List.getElem_of_mem hu
  have:=CR hp h1 hj (h2.trans ht.symm)
  subst this
  exact⟨k,rfl,h1,by simp[List.getD,h1]⟩
theorem Hh {l:List cd} {t:ak} (hr:cz l=true) (h:∀u∈l,u.tok≠t):bN l t=(0,14):=by
 unfold bN
 rw[hr,cond_true]
 rw[List.findIdx?_eq_none_iff.2 λu hu=>decide_eq_false (h u hu)]
theorem Hi {l:List cd} {t:ak} (h:(bN l t).2=0):cz l=true/\∃k:Nat,bN l t=((k:Int),0)/\k<l.length/\(l.getD k b9).tok=t/\l.getD k b9∈l:=by
 unfold bN at h⊢
 cases hr:cz l with
 |false=>rw[hr]at h;cases h
 |true=>
  rw[hr]at h
  simp only[cond_true]at h⊢
  cases hf:l.findIdx? (λu=>decide (u.tok=t))with
  |none=>rw[hf]at h;cases h
  |some k=>
   obtain⟨h1,h2,_⟩:=List.findIdx?_eq_some_iff_getElem.1 hf
   have h2:=of_decide_eq_true h2
   exact⟨trivial,k,rfl,h1,by simp only[List.getD,List.getElem?_eq_getElem h1,Option.getD_some];exact h2,by simp only[List.getD,List.getElem?_eq_getElem h1,Option.getD_some];exact List.getElem_mem h1⟩
theorem Rf {l m:List cd} {t:ak} (hl:cz l=true) (hm:cz m=true) (h:∀u,u.tok=t->(u∈l↔u∈m)) (d:List ak):hh l t=hh m t/\gp l t d=gp m t d:=by
 by_cases hx:∃u∈l,u.tok=t
 ·obtain⟨u,hu,ht⟩:=hx
  obtain⟨k,h1,_,h2⟩:=Hg hl hu ht
  obtain⟨aE,h3,_,h4⟩:=Hg hm ((h u ht).1 hu) ht
  unfold hh gp
  rw[h1,h3]
  simp only[Int.toNat_natCast,h2,h4]
  exact⟨trivial,trivial⟩
 ·have n1:∀u∈l,u.tok≠t:=λu hu e=>hx ⟨u,hu,e⟩
  have cq:∀u∈m,u.tok≠t:=λu hu e=>hx ⟨u,(h u e).2 hu,e⟩
  unfold hh gp
  rw[Hh hl n1,Hh hm cq]
  exact⟨rfl,rfl⟩
theorem Lj {l:List cd} (hr:cz l=true) {k:Nat} (hk:k<l.length):cz (l.take k++l.drop (k+1))=true/\(∀u∈l.take k++l.drop (k+1),u.tok≠(l.getD k b9).tok)/\(l.take k++l.drop (k+1)).length+1=l.length/\∀u,u.tok≠(l.getD k b9).tok->(u∈l↔u∈l.take k++l.drop (k+1)):=by
 obtain⟨h1,h2,h3⟩:=(oX l).1 hr
 have k5:(l.take k++l.drop (k+1)).Sublist l:=by
  have e:l=l.take k++l.drop k:=(List.take_append_drop k l).symm
  conv=>rhs;rw[e]
  exact List.Sublist.append (List.Sublist.refl _) (by rw[<-List.drop_drop];exact List.drop_sublist _ _)
 have hlen:(l.take k++l.drop (k+1)).length+1=l.length:=by rw[List.length_append,List.length_take,List.length_drop];omega
 have hg:l.getD k b9=l[k]:=by simp[List.getD,hk]
 have hne:∀u∈l.take k++l.drop (k+1),u.tok≠l[k].tok:=λu hu e=>by
  rcases List.mem_append.1 hu with hu|hu
  ·obtain⟨j,hj,rfl⟩:=List.getElem_of_mem hu
   rw[List.length_take]at hj
   rw[List.getElem_take]at e
   have:=CR h3 (show j<l.length by omega) hk e
   omega
  ·obtain⟨j,hj,rfl⟩:=List.getElem_of_mem hu
   rw[List.length_drop]at hj
   rw[List.getElem_drop]at e
   have:=CR h3 (show k+1+j<l.length by omega) hk e
   omega
 rw[hg]
 refine⟨(oX _).2 ⟨by omega,λu hu=>h2 u (k5.subset hu),h3.sublist k5⟩,hne,hlen,λu hu=>⟨λh=>?_,λh=>k5.subset h⟩⟩
 obtain⟨j,hj,rfl⟩:=List.getElem_of_mem h
 rw[List.mem_append]
 rcases Nat.lt_trichotomy j k with lQ|lQ|lQ
 ·exact .inl (List.mem_take_iff_getElem.2 ⟨j,by omega,rfl⟩)
 ·subst lQ;exact absurd rfl hu
 ·right
  rw[List.mem_drop_iff_getElem]
  exact⟨j-(k+1),by omega,by congr 1;omega⟩
def nM (l:List cd) (u:cd):List cd:=l.takeWhile (λx=>Op.bytesLess x.tok u.tok)++u::l.dropWhile (λx=>Op.bytesLess x.tok u.tok)
theorem OX {l:List cd} {u:cd} (hr:cz l=true) (hu:CV u) (hn:∀x∈l,x.tok≠u.tok) (iQ:l.length≠16):cz (nM l u)=true/\(nM l u).length=l.length+1/\(∀x,x∈nM l u↔x=u∨x∈l):=by
 obtain⟨h1,h2,h3⟩:=(oX l).1 hr
 have fb:l.takeWhile (λx=>Op.bytesLess x.tok u.tok)++l.dropWhile (λx=>Op.bytesLess x.tok u.tok)=l:=List.takeWhile_append_dropWhile
 have gb:∀x,x∈nM l u↔x=u∨x∈l:=λx=>by
  have:x∈l↔x∈l.takeWhile (λx=>Op.bytesLess x.tok u.tok)∨x∈l.dropWhile (λx=>Op.bytesLess x.tok u.tok):=by rw[<-List.mem_append,fb]
  rw[this]
  unfold nM
  simp only[List.mem_append,List.mem_cons]
  constructor
  ·rintro(h|h|h)<;>simp[h]
  ·rintro(h|h|h)<;>simp[h]
 have hlen:(nM l u).length=l.length+1:=by
  have:=congrArg List.length fb
  rw[List.length_append]at this
  unfold nM
  rw[List.length_append,List.length_cons];omega
 have nr:=h3
 rw[<-fb,List.pairwise_append]at nr
 obtain⟨a1,a2,a3⟩:=nr
 have t1:∀x∈l.takeWhile (λx=>Op.bytesLess x.tok u.tok),fg x.tok u.tok:=λx hx=>by
  have:=List.all_takeWhile (p:=λx:cd=>Op.bytesLess x.tok u.tok) (l:=l)
  exact List.all_eq_true.1 this x hx
 have t2:∀x∈l.dropWhile (λx=>Op.bytesLess x.tok u.tok),fg u.tok x.tok:=λx hx=>by
  have U6:x∈l:=by rw[<-fb];exact List.mem_append.2 (.inr hx)
  cases hd:l.dropWhile (λx=>Op.bytesLess x.tok u.tok)with
  |nil=>rw[hd]at hx;simp at hx
  |cons y r=>
   have hy:Op.bytesLess y.tok u.tok=false:=by
    have:=List.head?_dropWhile_not (λx:cd=>Op.bytesLess x.tok u.tok) l
    rw[hd]at this
    simpa using this
   have OI:y∈l:=by rw[<-fb,hd];simp
   have GM:fg u.tok y.tok:=by
    rcases xC u.tok y.tok with h|h|h
    ·exact h
    ·rw[h]at hy;cases hy
    ·exact absurd h.symm (hn y OI)
   rw[hd]at hx a2
   rcases List.mem_cons.1 hx with rfl|hx
   ·exact GM
   ·exact qA _ _ _ GM ((List.pairwise_cons.1 a2).1 x hx)
 refine⟨(oX _).2 ⟨by omega,λx hx=>?_,?_⟩,hlen,gb⟩
 ·rcases(gb x).1 hx with rfl|hx
  ·exact hu
  ·exact h2 x hx
 ·unfold nM
  refine List.pairwise_append.2 ⟨a1,List.pairwise_cons.2 ⟨t2,a2⟩,λx hx y hy=>?_⟩
  rcases List.mem_cons.1 hy with rfl|hy
  ·exact t1 x hx
  ·exact a3 x hx y hy
theorem SD {l:List cd} {k:Nat} {g:List ak} (hr:cz l=true) (hk:k<l.length) (h4:g.length<=4) (hg:g.Pairwise fg) (hs:∀s∈g,b8 s=true):cz (l.set k ⟨(l.getD k b9).tok,(l.getD k b9).dt,g⟩)=true/\∀u,u.tok≠(l.getD k b9).tok->(u∈l↔u∈l.set k ⟨(l.getD k b9).tok,(l.getD k b9).dt,g⟩):=by
 obtain⟨h1,h2,h3⟩:=(oX l).1 hr
 have hgd:l.getD k b9=l[k]:=by simp[List.getD,hk]
 rw[hgd]
 have aJ:=h2 l[k] (List.getElem_mem hk)
 refine⟨(oX _).2 ⟨by rw[List.length_set];exact h1,λu hu=>?_,?_⟩,λu hu=>⟨λh=>?_,λh=>?_⟩⟩
 ·rcases List.mem_or_eq_of_mem_set hu with hu|rfl
  ·exact h2 u hu
  ·exact⟨aJ.1,h4,hg,hs,aJ.2.2.2.2⟩
 ·rw[List.pairwise_iff_getElem]at h3⊢
  intro i j hi hj h8
  rw[List.length_set]at hi hj
  have e:∀(q:Nat) (hq:q<l.length),(l.set k ⟨l[k].tok,l[k].dt,g⟩)[q]'(by rw[List.length_set];exact hq)=if k=q then⟨l[k].tok,l[k].dt,g⟩else l[q]:=λq hq=>by rw[List.getElem_set]
  have e':∀(q:Nat) (hq:q<l.length),((l.set k ⟨l[k].tok,l[k].dt,g⟩)[q]'(by rw[List.length_set];exact hq)).tok=l[q].tok:=λq hq=>by
   rw[e q hq]
   split
   ·rename_i h;subst h;rfl
   ·rfl
  rw[e' i hi,e' j hj]
  exact h3 i j hi hj h8
 ·obtain⟨j,hj,rfl⟩:=List.getElem_of_mem h
  have lQ:j≠k:=λe=>by subst e;exact hu rfl
  have:(l.set k ⟨l[k].tok,l[k].dt,g⟩)[j]'(by rw[List.length_set];exact hj)=l[j]:=List.getElem_set_ne (λe=>lQ e.symm) _
  rw[<-this]
  exact List.getElem_mem _
 ·rcases List.mem_or_eq_of_mem_set h with h|rfl
  ·exact h
  ·exact absurd rfl hu
theorem BU {l m:List cd} {t t':ak} (ht:t≠t') (d:List ak) (h:m=l∨(cz l=true/\cz m=true/\∀u,u.tok≠t->(u∈l↔u∈m))):hh l t'=hh m t'/\gp l t' d=gp m t' d:=by
 rcases h with rfl|⟨h1,h2,h3⟩
 ·exact⟨rfl,rfl⟩
 ·exact Rf h1 h2 (λu hu=>h3 u (by rw[hu];exactλe=>ht e.symm)) d
theorem PS (l:List cd) (t:ak):(kx l t).1=l∨(cz l=true/\cz (kx l t).1=true/\∀u,u.tok≠t->(u∈l↔u∈(kx l t).1)):=by
 by_cases h:(bN l t).2=0
 ·obtain⟨hr,k,hk,nz,uI,gb⟩:=Hi h
  obtain⟨c1,ax,bh,bu⟩:=Lj hr nz
  have iR:(kx l t).1=l.take k++l.drop (k+1):=by unfold kx;rw[hk];rfl
  rw[iR,<-uI]
  exact .inr ⟨hr,c1,bu⟩
 ·left
  unfold kx
  rw[decide_eq_false h,cond_false]
theorem RY (l:List cd) (t s:ak):(jB l t s).1=l∨(cz l=true/\cz (jB l t s).1=true/\∀u,u.tok≠t->(u∈l↔u∈(jB l t s).1)):=by
 unfold jB
 cases hb:cz l&&(b8 t&&ig s)with
 |false=>exact .inl rfl
 |true=>
  simp only[cond_true]
  cases hf:(l.findIdx? (λu=>decide (u.tok=t))).isSome with
  |true=>exact .inl rfl
  |false=>
   simp only[cond_false]
   by_cases iQ:l.length=16
   ·rw[decide_eq_true iQ];exact .inl rfl
   ·rw[decide_eq_false iQ,cond_false]
    simp only[Bool.and_eq_true]at hb
    have hn:∀u∈l,u.tok≠t:=λu hu=>by
     have:l.findIdx? (λu=>decide (u.tok=t))=none:=by
      cases h:l.findIdx? (λu=>decide (u.tok=t))with
      |none=>rfl
      |some k=>rw[h]at hf;cases hf
     exact of_decide_eq_false (List.findIdx?_eq_none_iff.1 this u hu)
    have hu:CV ⟨t,s,[]⟩:=⟨hb.2.2,Nat.zero_le _,List.Pairwise.nil,λ_ h=>by simp at h,hb.2.1⟩
    obtain⟨i1,i2,i3⟩:=OX hb.1 hu hn iQ
    refine .inr ⟨hb.1,i1,λu Oy=>?_⟩
    show u∈l↔u∈nM l ⟨t,s,[]⟩
    rw[i3 u]
    exact⟨.inr,λh=>h.resolve_left λe=>Oy (by rw[e])⟩
theorem Kq (l:List cd) (t:ak) (d:List ak):(je l t d).1=l∨(cz l=true/\cz (je l t d).1=true/\∀u,u.tok≠t->(u∈l↔u∈(je l t d).1)):=by
 unfold je
 by_cases h:(bN l t).2=0
 ·rw[decide_eq_true h,cond_true]
  cases hd:d.all b8 with
  |false=>exact .inl rfl
  |true=>
   simp only[cond_true]
   cases hg:Nat.ble (n6 (l.getD (bN l t).1.toNat b9).cV d).length 4 with
   |false=>exact .inl rfl
   |true=>
    simp only[cond_true]
    obtain⟨hr,k,hk,nz,uI,gb⟩:=Hi h
    rw[hk]at hg⊢
    simp only[Int.toNat_natCast]at hg⊢
    have aJ:=((oX l).1 hr).2.1 _ gb
    obtain⟨q1,q2⟩:=SD hr nz (Nat.le_of_ble_eq_true hg) (CW aJ.2.2.1) λs hs=>by
     rcases(xJ s).1 hs with h|h
     ·exact aJ.2.2.2.1 s h
     ·exact List.all_eq_true.1 hd s h
    rw[uI]at q1 q2⊢
    exact .inr ⟨hr,q1,q2⟩
 ·left
  rw[decide_eq_false h,cond_false]
end Go.bD
namespace Go.bD
open Go Go.aZ
def Dv (S:Nat->List (List Int)->List (List Int)->Prop) (K:List (List Int)->List (List Int)->Prop):Prop:=
 ∀z0:Int,0<=z0->z0<=aF->∀ao:Int,0<=ao->ao<=21->S 509 [[0],[117],[1786254407]] [[z0],[ao]]->
 ∀z2:Int,0<=z2->
 ∀z3:Int,(-2)<=z3->z3<=9223372036854775807->
 ∀z4:Int,0<=z4->z4<=9223372036854775807->z4=af 20 [z0]->
 az 22 [z0,0,z4]/\
 ∀z5:Int,0<=z5->z5<=aF->z5=af 22 [z0,0,z4]->
 ∀ai:Int,0<=ai->ai<=aF->ai=af 23 [0,35265235555321605]->
 ∀al:Int,0<=al->al<=21->S 511 [[z5],[117],[ai]] [[al]]->
 ∀aw:Int,0<=aw->aw<=aF->aw=af 23 [0,35265235555321605]->
 az 22 [z0,0,z4]/\
 ∀z9:Int,0<=z9->z9<=aF->z9=af 22 [z0,0,z4]->
 az 22 [aw,0,1]/\
 ∀av:Int,0<=av->av<=aF->av=af 22 [aw,0,1]->
 az 84 [z9,117,av]/\
 ∀aI:Int,0<=aI->aI<=aF->∀z12:Int,0<=z12->z12<=21->S 513 [[z9],[117],[av]] [[aI],[z12]]->
 ∀ba:Int,0<=ba->
 ∀a8:Int,(-2)<=a8->a8<=9223372036854775807->
 ∀cr:Int,0<=cr->cr<=9223372036854775807->cr=af 20 [aI]->
 az 22 [aI,0,cr]/\
 ∀e4:Int,0<=e4->e4<=aF->e4=af 22 [aI,0,cr]->
 ∀ek:Int,0<=ek->ek<=aO->∀cm:Int,0<=cm->cm<=21->S 507 [[e4],[117]] [[ek],[cm]]->
 (((decide (ao=0))=true->
  (((decide (al=13))=true->
   (((decide (z12=0))=true->
    (((decide (cm=0))=true->
     ∀eH:Int,0<=eH->eH<=1->eH=af 4 [ek,1786254407]->
     (((decide (eH=1))=true->
      az 22 [aI,0,cr]/\
      ∀z20:Int,0<=z20->z20<=aF->z20=af 22 [aI,0,cr]->
      ∀z21:Int,0<=z21->z21<=aF->z21=af 23 [0,35265235555321605]->
      ∀m3:Int,0<=m3->m3<=21->S 511 [[z20],[117],[z21]] [[m3]]->
      K [] [[(cond (decide (m3=0)) 1 0)]]
     )/\((decide (eH=1))=false->
      K [] [[(cond (false) 1 0)]]
     ))
    )/\((decide (cm=0))=false->
     K [] [[(cond (false) 1 0)]]
    ))
   )/\((decide (z12=0))=false->
    K [] [[(cond (false) 1 0)]]
   ))
  )/\((decide (al=13))=false->
   K [] [[(cond (false) 1 0)]]
  ))
 )/\((decide (ao=0))=false->
  K [] [[(cond (false) 1 0)]]
 ))
theorem TO:au 0=[]:=by unfold au;rw[kD];rfl
theorem Jg {z y n:Int} (hn:n=((ab z).length:Int)) (h:y=af 22 [z,0,n]):ab y=ab z:=whole hn h
theorem xT {z c:Int} (h:z=af 23 [0,c]):ab z=[[c]]:=by
 rw[h]
 show ab (rc (ab 0++[[c]]))=_
 rw[dD,kD];rfl
def sO:ak:=[112,114,105,118,97,99,121]
theorem B0 {z:Int} (h:z=af 23 [0,35265235555321605]):aK z=[sO]:=by
 unfold aK
 rw[xT h]
 have:J 35265235555321605=sO:=by decide
 show [J 35265235555321605]=_
 rw[this]
theorem RD:Dv SB (fp SB [.d .bool] 520):=by
 intro z0 a0 a1 ao _ _ h1 z2 _ z3 _ _ z4 _ _ h4
 have s1:J 117=[116]:=by decide
 have s2:J 1786254407=[64,97,58,104]:=by decide
 have h1:(au z0,ao)=jB (au 0) (J 117) (J 1786254407):=h1
 rw[TO,s1,s2]at h1
 have r1:jB [] [116] [64,97,58,104]=([⟨[116],[64,97,58,104],[]⟩],0):=by decide
 rw[r1]at h1
 injection h1 with e1 e2
 have h4:z4=((ab z0).length:Int):=h4
 have gT:az 22 [z0,0,z4]:=⟨by omega,by omega,by omega⟩
 refine⟨gT,λz5 _ _ h5 ai _ _ h6 al _ _ h7 aw _ _ cJ=>⟨gT,λz9 _ _ br=>?_⟩⟩
 have Vf:(ab aw).length=1:=by rw[xT cJ];rfl
 refine⟨⟨by omega,by omega,by omega⟩,λav _ _ gN=>?_⟩
 have EN:ab av=ab aw:=Jg (by omega) gN
 refine⟨by show(ab av).length<=100000000;rw[EN];omega,λaI _ _ z12 _ _ jl ba _ a8 _ _ cr _ _ fH=>?_⟩
 have fH:cr=((ab aI).length:Int):=fH
 have k1:az 22 [aI,0,cr]:=⟨by omega,by omega,by omega⟩
 refine⟨k1,λe4 _ _ iQ ek _ _ cm _ _ hV=>?_⟩
 have h7:al=gp (au z5) (J 117) (aK ai):=h7
 rw[fu h4 h5,e1,s1,B0 h6]at h7
 have h7:al=13:=by rw[h7];decide
 have jl:(au aI,z12)=je (au z9) (J 117) (aK av):=jl
 have t10:aK av=[sO]:=by unfold aK;rw[EN];exact B0 cJ
 rw[fu h4 br,e1,s1,t10]at jl
 have r2:je [⟨[116],[64,97,58,104],[]⟩] [116] [sO]=([⟨[116],[64,97,58,104],[sO]⟩],0):=by decide
 rw[r2]at jl
 injection jl with e3 dL
 have hV:(J ek,cm)=hh (au e4) (J 117):=hV
 rw[fu fH iQ,e3,s1]at hV
 have dP:hh [⟨[116],[64,97,58,104],[sO]⟩] [116]=([64,97,58,104],0):=by decide
 rw[dP]at hV
 injection hV with mv nm
 subst h7 e2 dL nm
 have bad:∀{p:Prop},decide ((0:Int)=0)=false->p:=λh=>absurd h (by decide)
 refine⟨λ_=>⟨λ_=>⟨λ_=>⟨λ_ eH _ _ ox=>?_,λh=>bad h⟩,λh=>bad h⟩,λh=>absurd h (by decide)⟩,λh=>bad h⟩
 have ox:=nn ox
 rw[mv,s2]at ox
 refine⟨λ_=>⟨k1,λz20 _ _ rR z21 _ _ pS m3 _ _ rS=>?_⟩,λh=>by rw[ox]at h;exact absurd h (by decide)⟩
 have rS:m3=gp (au z20) (J 117) (aK z21):=rS
 rw[fu fH rR,e3,s1,B0 pS]at rS
 have rS:m3=0:=by rw[rS];decide
 subst rS
 exact⟨⟨by decide,by decide,trivial⟩,rfl⟩
end Go.bD
namespace Go.bD
open Go Go.aZ
def Dl (S:Nat->List (List Int)->List (List Int)->Prop) (K:List (List Int)->List (List Int)->Prop):Prop:=
 ∀z0:Int,0<=z0->z0<=aF->∀r1:List Int,bb (mR 0 aO 2) r1->∀z3:Int,0<=z3->z3<=aO->
 ∀z4:Int,0<=z4->
 ∀z5:Int,(-2)<=z5->z5<=9223372036854775807->
 ∀ai:Int,0<=ai->ai<=9223372036854775807->ai=af 20 [z0]->
 ∀al:Int,0<=al->al<=1->S 520 [] [[al]]->
 ((((!(decide (al=1))))=true->
  K [[z0],r1,[z3]] [[(cond (false) 1 0)]]
 )/\(((!(decide (al=1))))=false->
  az 22 [z0,0,ai]/\
  ∀aw:Int,0<=aw->aw<=aF->aw=af 22 [z0,0,ai]->
  ∀z9:Int,0<=z9->z9<=1->S 500 [[aw]] [[z9]]->
  (((decide (z9=1))=true->
   K [[z0],r1,[z3]] [[(cond (true) 1 0)]]
  )/\((decide (z9=1))=false->
   ∀av:Int,0<=av->av<=1->av=af 4 [(List.getD r1 0 0),(List.getD r1 1 0)]->
   (((decide (av=1))=true->
    K [[z0],r1,[z3]] [[(cond (true) 1 0)]]
   )/\((decide (av=1))=false->
    ∀aI:Int,0<=aI->aI<=aF->aI=af 23 [0,z3]->
    az 22 [z0,0,ai]/\
    ∀z12:Int,0<=z12->z12<=aF->z12=af 22 [z0,0,ai]->
    az 22 [aI,0,1]/\
    ∀ba:Int,0<=ba->ba<=aF->ba=af 22 [aI,0,1]->
    az 84 [z12,(List.getD r1 0 0),ba]/\
    ∀a8:Int,0<=a8->a8<=aF->∀cr:Int,0<=cr->cr<=21->S 513 [[z12],[(List.getD r1 0 0)],[ba]] [[a8],[cr]]->
    ∀e4:Int,0<=e4->
    ∀ek:Int,(-2)<=ek->ek<=9223372036854775807->
    ∀cm:Int,0<=cm->cm<=9223372036854775807->cm=af 20 [a8]->
    az 22 [z0,0,ai]/\
    ∀eH:Int,0<=eH->eH<=aF->eH=af 22 [z0,0,ai]->
    ∀z20:Int,0<=z20->z20<=aF->∀z21:Int,0<=z21->z21<=21->S 508 [[eH],[(List.getD r1 0 0)]] [[z20],[z21]]->
    ∀m3:Int,0<=m3->
    ∀C1:Int,(-2)<=C1->C1<=9223372036854775807->
    ∀z24:Int,0<=z24->z24<=9223372036854775807->z24=af 20 [z20]->
    az 22 [z0,0,ai]/\
    ∀s9:Int,0<=s9->s9<=aF->s9=af 22 [z0,0,ai]->
    ∀iH:Int,0<=iH->iH<=aF->∀vG:Int,0<=vG->vG<=21->S 509 [[s9],[(List.getD r1 0 0)],[117980693241394]] [[iH],[vG]]->
    ∀z28:Int,0<=z28->
    ∀C2:Int,(-2)<=C2->C2<=9223372036854775807->
    ∀j2:Int,0<=j2->j2<=9223372036854775807->j2=af 20 [iH]->
    ∃(lz:List (List Int)->Prop) (im:List (List Int)->Nat),lz [[0]]/\(∀cM:Int,0<=cM->cM<=3->lz [[cM]]->
     (((decide (cM<3))=true->
      (((decide (cM=0))=true->
       az 22 [z0,0,ai]/\
       ∀gG:Int,0<=gG->gG<=aF->gG=af 22 [z0,0,ai]->
       ∀gH:Int,0<=gH->gH<=aO->∀fw:Int,0<=fw->fw<=21->S 507 [[gG],[(List.getD r1 1 0)]] [[gH],[fw]]->
       az 22 [a8,0,cm]/\
       ∀gI:Int,0<=gI->gI<=aF->gI=af 22 [a8,0,cm]->
       ∀z37:Int,0<=z37->z37<=aO->∀fx:Int,0<=fx->fx<=21->S 507 [[gI],[(List.getD r1 1 0)]] [[z37],[fx]]->
       ∀gJ:Int,0<=gJ->gJ<=1->gJ=af 4 [gH,z37]->
       ((((!(decide (gJ=1))))=true->
        K [[z0],r1,[z3]] [[(cond (false) 1 0)]]
       )/\(((!(decide (gJ=1))))=false->
        ((((!(decide (fw=fx))))=true->
         K [[z0],r1,[z3]] [[(cond (false) 1 0)]]
        )/\(((!(decide (fw=fx))))=false->
         ((
          ((
           az 22 [z0,0,ai]/\
           ∀z40:Int,0<=z40->z40<=aF->z40=af 22 [z0,0,ai]->
           ∀ct:Int,0<=ct->ct<=aF->ct=af 23 [0,z3]->
           ∀bQ:Int,0<=bQ->bQ<=21->S 511 [[z40],[(List.getD r1 1 0)],[ct]] [[bQ]]->
           az 22 [a8,0,cm]/\
           ∀cu:Int,0<=cu->cu<=aF->cu=af 22 [a8,0,cm]->
           ∀cv:Int,0<=cv->cv<=aF->cv=af 23 [0,z3]->
           ∀bR:Int,0<=bR->bR<=21->S 511 [[cu],[(List.getD r1 1 0)],[cv]] [[bR]]->
           ((((!(decide (bQ=bR))))=true->
            K [[z0],r1,[z3]] [[(cond (false) 1 0)]]
           )/\(((!(decide (bQ=bR))))=false->
            (lz [[(cM+1)]]/\im [[(cM+1)]]<im [[cM]])
           ))
          )/\(
           az 22 [z0,0,ai]/\
           ∀z40:Int,0<=z40->z40<=aF->z40=af 22 [z0,0,ai]->
           ∀ct:Int,0<=ct->ct<=aF->ct=af 23 [0,z3]->
           ∀bQ:Int,0<=bQ->bQ<=21->S 511 [[z40],[(List.getD r1 1 0)],[ct]] [[bQ]]->
           az 22 [a8,0,cm]/\
           ∀cu:Int,0<=cu->cu<=aF->cu=af 22 [a8,0,cm]->
           ∀cv:Int,0<=cv->cv<=aF->cv=af 23 [0,z3]->
           ∀bR:Int,0<=bR->bR<=21->S 511 [[cu],[(List.getD r1 1 0)],[cv]] [[bR]]->
           ((((!(decide (bQ=bR))))=true->
            K [[z0],r1,[z3]] [[(cond (false) 1 0)]]
           )/\(((!(decide (bQ=bR))))=false->
            (lz [[(cM+1)]]/\im [[(cM+1)]]<im [[cM]])
           ))
          ))
         )/\(
          az 22 [z0,0,ai]/\
          ∀z40:Int,0<=z40->z40<=aF->z40=af 22 [z0,0,ai]->
          ∀ct:Int,0<=ct->ct<=aF->ct=af 23 [0,z3]->
          ∀bQ:Int,0<=bQ->bQ<=21->S 511 [[z40],[(List.getD r1 1 0)],[ct]] [[bQ]]->
          az 22 [a8,0,cm]/\
          ∀cu:Int,0<=cu->cu<=aF->cu=af 22 [a8,0,cm]->
          ∀cv:Int,0<=cv->cv<=aF->cv=af 23 [0,z3]->
          ∀bR:Int,0<=bR->bR<=21->S 511 [[cu],[(List.getD r1 1 0)],[cv]] [[bR]]->
          ((((!(decide (bQ=bR))))=true->
           K [[z0],r1,[z3]] [[(cond (false) 1 0)]]
          )/\(((!(decide (bQ=bR))))=false->
           (lz [[(cM+1)]]/\im [[(cM+1)]]<im [[cM]])
          ))
         ))
        ))
       ))
      )/\((decide (cM=0))=false->
       (((decide (cM=1))=true->
        az 22 [z0,0,ai]/\
        ∀gG:Int,0<=gG->gG<=aF->gG=af 22 [z0,0,ai]->
        ∀gH:Int,0<=gH->gH<=aO->∀fw:Int,0<=fw->fw<=21->S 507 [[gG],[(List.getD r1 1 0)]] [[gH],[fw]]->
        az 22 [z20,0,z24]/\
        ∀gI:Int,0<=gI->gI<=aF->gI=af 22 [z20,0,z24]->
        ∀z37:Int,0<=z37->z37<=aO->∀fx:Int,0<=fx->fx<=21->S 507 [[gI],[(List.getD r1 1 0)]] [[z37],[fx]]->
        ∀gJ:Int,0<=gJ->gJ<=1->gJ=af 4 [gH,z37]->
        ((((!(decide (gJ=1))))=true->
         K [[z0],r1,[z3]] [[(cond (false) 1 0)]]
        )/\(((!(decide (gJ=1))))=false->
         ((((!(decide (fw=fx))))=true->
          K [[z0],r1,[z3]] [[(cond (false) 1 0)]]
         )/\(((!(decide (fw=fx))))=false->
          ((
           ((
            az 22 [z0,0,ai]/\
            ∀z40:Int,0<=z40->z40<=aF->z40=af 22 [z0,0,ai]->
            ∀ct:Int,0<=ct->ct<=aF->ct=af 23 [0,z3]->
            ∀bQ:Int,0<=bQ->bQ<=21->S 511 [[z40],[(List.getD r1 1 0)],[ct]] [[bQ]]->
            az 22 [z20,0,z24]/\
            ∀cu:Int,0<=cu->cu<=aF->cu=af 22 [z20,0,z24]->
            ∀cv:Int,0<=cv->cv<=aF->cv=af 23 [0,z3]->
            ∀bR:Int,0<=bR->bR<=21->S 511 [[cu],[(List.getD r1 1 0)],[cv]] [[bR]]->
            ((((!(decide (bQ=bR))))=true->
             K [[z0],r1,[z3]] [[(cond (false) 1 0)]]
            )/\(((!(decide (bQ=bR))))=false->
             (lz [[(cM+1)]]/\im [[(cM+1)]]<im [[cM]])
            ))
           )/\(
            az 22 [z0,0,ai]/\
            ∀z40:Int,0<=z40->z40<=aF->z40=af 22 [z0,0,ai]->
            ∀ct:Int,0<=ct->ct<=aF->ct=af 23 [0,z3]->
            ∀bQ:Int,0<=bQ->bQ<=21->S 511 [[z40],[(List.getD r1 1 0)],[ct]] [[bQ]]->
            az 22 [z20,0,z24]/\
            ∀cu:Int,0<=cu->cu<=aF->cu=af 22 [z20,0,z24]->
            ∀cv:Int,0<=cv->cv<=aF->cv=af 23 [0,z3]->
            ∀bR:Int,0<=bR->bR<=21->S 511 [[cu],[(List.getD r1 1 0)],[cv]] [[bR]]->
            ((((!(decide (bQ=bR))))=true->
             K [[z0],r1,[z3]] [[(cond (false) 1 0)]]
            )/\(((!(decide (bQ=bR))))=false->
             (lz [[(cM+1)]]/\im [[(cM+1)]]<im [[cM]])
            ))
           ))
          )/\(
           az 22 [z0,0,ai]/\
           ∀z40:Int,0<=z40->z40<=aF->z40=af 22 [z0,0,ai]->
           ∀ct:Int,0<=ct->ct<=aF->ct=af 23 [0,z3]->
           ∀bQ:Int,0<=bQ->bQ<=21->S 511 [[z40],[(List.getD r1 1 0)],[ct]] [[bQ]]->
           az 22 [z20,0,z24]/\
           ∀cu:Int,0<=cu->cu<=aF->cu=af 22 [z20,0,z24]->
           ∀cv:Int,0<=cv->cv<=aF->cv=af 23 [0,z3]->
           ∀bR:Int,0<=bR->bR<=21->S 511 [[cu],[(List.getD r1 1 0)],[cv]] [[bR]]->
           ((((!(decide (bQ=bR))))=true->
            K [[z0],r1,[z3]] [[(cond (false) 1 0)]]
           )/\(((!(decide (bQ=bR))))=false->
            (lz [[(cM+1)]]/\im [[(cM+1)]]<im [[cM]])
           ))
          ))
         ))
        ))
       )/\((decide (cM=1))=false->
        (((decide (cM=2))=true->
         az 22 [z0,0,ai]/\
         ∀gG:Int,0<=gG->gG<=aF->gG=af 22 [z0,0,ai]->
         ∀gH:Int,0<=gH->gH<=aO->∀fw:Int,0<=fw->fw<=21->S 507 [[gG],[(List.getD r1 1 0)]] [[gH],[fw]]->
         az 22 [iH,0,j2]/\
         ∀gI:Int,0<=gI->gI<=aF->gI=af 22 [iH,0,j2]->
         ∀z37:Int,0<=z37->z37<=aO->∀fx:Int,0<=fx->fx<=21->S 507 [[gI],[(List.getD r1 1 0)]] [[z37],[fx]]->
         ∀gJ:Int,0<=gJ->gJ<=1->gJ=af 4 [gH,z37]->
         ((((!(decide (gJ=1))))=true->
          K [[z0],r1,[z3]] [[(cond (false) 1 0)]]
         )/\(((!(decide (gJ=1))))=false->
          ((((!(decide (fw=fx))))=true->
           K [[z0],r1,[z3]] [[(cond (false) 1 0)]]
          )/\(((!(decide (fw=fx))))=false->
           ((
            ((
             az 22 [z0,0,ai]/\
             ∀z40:Int,0<=z40->z40<=aF->z40=af 22 [z0,0,ai]->
             ∀ct:Int,0<=ct->ct<=aF->ct=af 23 [0,z3]->
             ∀bQ:Int,0<=bQ->bQ<=21->S 511 [[z40],[(List.getD r1 1 0)],[ct]] [[bQ]]->
             az 22 [iH,0,j2]/\
             ∀cu:Int,0<=cu->cu<=aF->cu=af 22 [iH,0,j2]->
             ∀cv:Int,0<=cv->cv<=aF->cv=af 23 [0,z3]->
             ∀bR:Int,0<=bR->bR<=21->S 511 [[cu],[(List.getD r1 1 0)],[cv]] [[bR]]->
             ((((!(decide (bQ=bR))))=true->
              K [[z0],r1,[z3]] [[(cond (false) 1 0)]]
             )/\(((!(decide (bQ=bR))))=false->
              (lz [[(cM+1)]]/\im [[(cM+1)]]<im [[cM]])
             ))
            )/\(
             az 22 [z0,0,ai]/\
             ∀z40:Int,0<=z40->z40<=aF->z40=af 22 [z0,0,ai]->
             ∀ct:Int,0<=ct->ct<=aF->ct=af 23 [0,z3]->
             ∀bQ:Int,0<=bQ->bQ<=21->S 511 [[z40],[(List.getD r1 1 0)],[ct]] [[bQ]]->
             az 22 [iH,0,j2]/\
             ∀cu:Int,0<=cu->cu<=aF->cu=af 22 [iH,0,j2]->
             ∀cv:Int,0<=cv->cv<=aF->cv=af 23 [0,z3]->
             ∀bR:Int,0<=bR->bR<=21->S 511 [[cu],[(List.getD r1 1 0)],[cv]] [[bR]]->
             ((((!(decide (bQ=bR))))=true->
              K [[z0],r1,[z3]] [[(cond (false) 1 0)]]
             )/\(((!(decide (bQ=bR))))=false->
              (lz [[(cM+1)]]/\im [[(cM+1)]]<im [[cM]])
             ))
            ))
           )/\(
            az 22 [z0,0,ai]/\
            ∀z40:Int,0<=z40->z40<=aF->z40=af 22 [z0,0,ai]->
            ∀ct:Int,0<=ct->ct<=aF->ct=af 23 [0,z3]->
            ∀bQ:Int,0<=bQ->bQ<=21->S 511 [[z40],[(List.getD r1 1 0)],[ct]] [[bQ]]->
            az 22 [iH,0,j2]/\
            ∀cu:Int,0<=cu->cu<=aF->cu=af 22 [iH,0,j2]->
            ∀cv:Int,0<=cv->cv<=aF->cv=af 23 [0,z3]->
            ∀bR:Int,0<=bR->bR<=21->S 511 [[cu],[(List.getD r1 1 0)],[cv]] [[bR]]->
            ((((!(decide (bQ=bR))))=true->
             K [[z0],r1,[z3]] [[(cond (false) 1 0)]]
            )/\(((!(decide (bQ=bR))))=false->
             (lz [[(cM+1)]]/\im [[(cM+1)]]<im [[cM]])
            ))
           ))
          ))
         ))
        )/\((decide (cM=2))=false->
         False
        ))
       ))
      ))
     )/\((decide (cM<3))=false->
      K [[z0],r1,[z3]] [[(cond (true) 1 0)]]
     ))
    )
   ))
  ))
 ))
theorem sK {z c:Int} (h:z=af 23 [0,c]):aK z=[J c]:=by unfold aK;rw[xT h];rfl
theorem Rs:Dl SB (fp SB [.d .bool] 522):=by
 intro z0 a0 a1 r1 hr z3 b0 b1 z4 _ z5 _ _ ai bK c1 h6 al _ _ h7
 have h7:al=1:=h7
 subst h7
 have h6:ai=((ab z0).length:Int):=h6
 have gT:az 22 [z0,0,ai]:=⟨by omega,by omega,by omega⟩
 have yK:∀{r:Int},r=1->fp SB [.d .bool] 522 [[z0],r1,[z3]] [[r]]:=λ{r} h=>by subst h;exact⟨⟨by decide,by decide,trivial⟩,rfl⟩
 obtain⟨t,ht⟩:∃t,t=J (List.getD r1 0 0):=⟨_,rfl⟩
 obtain⟨t',eM⟩:∃t',t'=J (List.getD r1 1 0):=⟨_,rfl⟩
 refine⟨λh=>absurd h (by decide),λ_=>⟨gT,λaw _ _ cJ z9 _ _ br=>⟨λ_=>yK rfl,λ_ av _ _ gN=>⟨λ_=>yK rfl,λhne aI _ _ fW=>⟨gT,λz12 _ _ jl=>?_⟩⟩⟩⟩⟩
 have gN:=nn gN
 rw[gN,<-ht,<-eM]at hne
 have hne:t≠t':=of_decide_eq_false hne
 have Ve:(ab aI).length=1:=by rw[xT fW];rfl
 refine⟨⟨by omega,by omega,by omega⟩,λba _ _ zM=>?_⟩
 have Lt:ab ba=ab aI:=Jg (by omega) zM
 refine⟨by show(ab ba).length<=100000000;rw[Lt];omega,λa8 _ _ cr _ _ fH e4 _ ek _ _ cm _ _ hV=>⟨gT,λeH _ _ ox z20 _ _ z21 _ _ pS m3 _ C1 _ _ z24 _ _ rT=>⟨gT,λs9 _ _ L5 iH _ _ vG _ _ tS z28 _ C2 _ _ j2 _ _ rU=>?_⟩⟩⟩
 have fH:(au a8,cr)=je (au z12) (J (List.getD r1 0 0)) (aK ba):=fH
 rw[fu h6 jl,<-ht]at fH
 have pS:(au z20,z21)=kx (au eH) (J (List.getD r1 0 0)):=pS
 rw[fu h6 ox,<-ht]at pS
 have tS:(au iH,vG)=jB (au s9) (J (List.getD r1 0 0)) (J 117980693241394):=tS
 rw[fu h6 L5,<-ht]at tS
 have hV:cm=((ab a8).length:Int):=hV
 have rT:z24=((ab z20).length:Int):=rT
 have rU:j2=((ab iH).length:Int):=rU
 have EO:au a8=(je (au z0) t (aK ba)).1:=by rw[<-fH]
 have EP:au z20=(kx (au z0) t).1:=by rw[<-pS]
 have ER:au iH=(jB (au z0) t (J 117980693241394)).1:=by rw[<-tS]
 have hA:=BU hne [J z3] (Kq (au z0) t (aK ba))
 have hB:=BU hne [J z3] (PS (au z0) t)
 have hC:=BU hne [J z3] (RY (au z0) t (J 117980693241394))
 rw[<-EO]at hA
 rw[<-EP]at hB
 rw[<-ER]at hC
 have sq:az 22 [a8,0,cm]:=⟨by omega,by omega,by omega⟩
 have xw:az 22 [z20,0,z24]:=⟨by omega,by omega,by omega⟩
 have xx:az 22 [iH,0,j2]:=⟨by omega,by omega,by omega⟩
 clear fH pS tS EO EP ER
 refine⟨λ_=>True,λx=>match x with|[[z]]=>(3-z).toNat|_=>0,trivial,λcM d0 d1 _=>⟨λhlt=>⟨λ_=>?_,λn0=>⟨λ_=>?_,λn1=>⟨λ_=>?_,λcq=>?_⟩⟩⟩,λ_=>yK rfl⟩⟩
 rotate_right
 ·have x0:=of_decide_eq_false n0
  have x1:=of_decide_eq_false n1
  have dV:=of_decide_eq_false cq
  have e0:=of_decide_eq_true hlt
  omega
 ·have hm:=hA;have hn:=hV;have hk:=sq
  clear hA hB hC hV rT rU sq xw xx
  refine⟨gT,λgG _ _ tT gH _ _ fw _ _ hW=>⟨hk,λgI _ _ tU z37 _ _ fx _ _ jM gJ _ _ jN=>?_⟩⟩
  have hW:(J gH,fw)=hh (au gG) (J (List.getD r1 1 0)):=hW
  have jM:(J z37,fx)=hh (au gI) (J (List.getD r1 1 0)):=jM
  rw[fu h6 tT,<-eM]at hW
  rw[fu hn tU,<-eM,<-hm.1,<-hW]at jM
  injection jM with q1 q2
  have jN:=nn jN
  rw[q1,decide_eq_true rfl]at jN
  refine⟨λh=>by rw[jN]at h;exact absurd h (by decide),λ_=>⟨λh=>by rw[q2,decide_eq_true rfl]at h;exact absurd h (by decide),λ_=>(λx=>⟨⟨x,x⟩,x⟩) ?_⟩⟩
  refine⟨gT,λz40 _ _ tV ct _ _ tW bQ _ _ jO=>⟨hk,λcu _ _ tX cv _ _ tY bR _ _ jP=>?_⟩⟩
  have jO:bQ=gp (au z40) (J (List.getD r1 1 0)) (aK ct):=jO
  have jP:bR=gp (au cu) (J (List.getD r1 1 0)) (aK cv):=jP
  rw[fu h6 tV,<-eM,sK tW,hm.2]at jO
  rw[fu hn tX,<-eM,sK tY,<-jO]at jP
  exact⟨λh=>by rw[jP,decide_eq_true rfl]at h;exact absurd h (by decide),λ_=>⟨trivial,by show(3-(cM+1)).toNat<(3-cM).toNat;have:=of_decide_eq_true hlt;omega⟩⟩
 ·have hm:=hB;have hn:=rT;have hk:=xw
  clear hA hB hC hV rT rU sq xw xx
  refine⟨gT,λgG _ _ tT gH _ _ fw _ _ hW=>⟨hk,λgI _ _ tU z37 _ _ fx _ _ jM gJ _ _ jN=>?_⟩⟩
  have hW:(J gH,fw)=hh (au gG) (J (List.getD r1 1 0)):=hW
  have jM:(J z37,fx)=hh (au gI) (J (List.getD r1 1 0)):=jM
  rw[fu h6 tT,<-eM]at hW
  rw[fu hn tU,<-eM,<-hm.1,<-hW]at jM
  injection jM with q1 q2
  have jN:=nn jN
  rw[q1,decide_eq_true rfl]at jN
  refine⟨λh=>by rw[jN]at h;exact absurd h (by decide),λ_=>⟨λh=>by rw[q2,decide_eq_true rfl]at h;exact absurd h (by decide),λ_=>(λx=>⟨⟨x,x⟩,x⟩) ?_⟩⟩
  refine⟨gT,λz40 _ _ tV ct _ _ tW bQ _ _ jO=>⟨hk,λcu _ _ tX cv _ _ tY bR _ _ jP=>?_⟩⟩
  have jO:bQ=gp (au z40) (J (List.getD r1 1 0)) (aK ct):=jO
  have jP:bR=gp (au cu) (J (List.getD r1 1 0)) (aK cv):=jP
  rw[fu h6 tV,<-eM,sK tW,hm.2]at jO
  rw[fu hn tX,<-eM,sK tY,<-jO]at jP
  exact⟨λh=>by rw[jP,decide_eq_true rfl]at h;exact absurd h (by decide),λ_=>⟨trivial,by show(3-(cM+1)).toNat<(3-cM).toNat;have:=of_decide_eq_true hlt;omega⟩⟩
 ·have hm:=hC;have hn:=rU;have hk:=xx
  clear hA hB hC hV rT rU sq xw xx
  refine⟨gT,λgG _ _ tT gH _ _ fw _ _ hW=>⟨hk,λgI _ _ tU z37 _ _ fx _ _ jM gJ _ _ jN=>?_⟩⟩
  have hW:(J gH,fw)=hh (au gG) (J (List.getD r1 1 0)):=hW
  have jM:(J z37,fx)=hh (au gI) (J (List.getD r1 1 0)):=jM
  rw[fu h6 tT,<-eM]at hW
  rw[fu hn tU,<-eM,<-hm.1,<-hW]at jM
  injection jM with q1 q2
  have jN:=nn jN
  rw[q1,decide_eq_true rfl]at jN
  refine⟨λh=>by rw[jN]at h;exact absurd h (by decide),λ_=>⟨λh=>by rw[q2,decide_eq_true rfl]at h;exact absurd h (by decide),λ_=>(λx=>⟨⟨x,x⟩,x⟩) ?_⟩⟩
  refine⟨gT,λz40 _ _ tV ct _ _ tW bQ _ _ jO=>⟨hk,λcu _ _ tX cv _ _ tY bR _ _ jP=>?_⟩⟩
  have jO:bQ=gp (au z40) (J (List.getD r1 1 0)) (aK ct):=jO
  have jP:bR=gp (au cu) (J (List.getD r1 1 0)) (aK cv):=jP
  rw[fu h6 tV,<-eM,sK tW,hm.2]at jO
  rw[fu hn tX,<-eM,sK tY,<-jO]at jP
  exact⟨λh=>by rw[jP,decide_eq_true rfl]at h;exact absurd h (by decide),λ_=>⟨trivial,by show(3-(cM+1)).toNat<(3-cM).toNat;have:=of_decide_eq_true hlt;omega⟩⟩
end Go.bD
namespace Go.bD
open Go Go.aZ Go.Proofs
theorem Ty:kK Tryd.prog [] oL (fa [] [oM]) nS nT [1] Dh:=λ_ _=>by kernel_rfl
theorem TB:kK Tryd.prog [] mK (fa [] [oM]) PE P2 [1,1] Dk:=λ_ _=>by kernel_rfl
theorem TI:kK Tryd.prog [] sz (fa [] []) PJ P7 [1] Ds:=λ_ _=>by kernel_rfl
theorem TJ:kK Tryd.prog [] sA (fa [] []) PK P8 [1] Dt:=λ_ _=>by kernel_rfl
theorem TH:kK Tryd.prog [] sy (fa [] []) PI P6 [1] Dr:=λ_ _=>by kernel_rfl
theorem TA:kK Tryd.prog [] su (fa [x4] [sA,sz,mK]) nS nT [1] Dj:=λ_ _=>by kernel_rfl
theorem TG:kK Tryd.prog [] sx (fa [] [oL,su,sy,mK]) nS nT [1] Dq:=λ_ _=>by kernel_rfl
theorem TK:kK Tryd.prog [] sB (fa [] []) PL P9 [1] Du:=λ_ _=>by kernel_rfl
theorem TM:kK Tryd.prog [] oN (fa [] [oL,sB,mK,sx]) nS nT [1] Dw:=λ_ _=>by kernel_rfl
theorem TE:kK Tryd.prog [] sv (fa [] []) PG P4 [1] Dn:=λ_ _=>by kernel_rfl
end Go.bD
namespace Go.bD
open Go Go.aZ Go.Proofs
theorem Tz (S K):j9 sh P1 S K [1] (cE qx.args) qx.res (qx.tree (kc []) Tryd.prog [] (fa [] []) PD 600 6)=Di S K:=by kernel_rfl
theorem Tx:kK Tryd.prog [] ss (fa [] [oM]) nS nT [1] Dg:=λ_ _=>by kernel_rfl
theorem TD:kK Tryd.prog [] nP (fa [] [sv,ss]) nS nT [1] Dm:=λ_ _=>by kernel_rfl
theorem Tw (S K):j9 sh P0 S K [1] (cE sr.args) sr.res (sr.tree (kc []) Tryd.prog [] (fa [] [nP]) PC 600 6)=Df S K:=by kernel_rfl
theorem Ts (S K):j9 sh PY S K [1] (cE qv.args) qv.res (qv.tree (kc [sr]) Tryd.prog [] (fa [] [oN]) PA 600 6)=Db S K:=by kernel_rfl
theorem Tv (S K):j9 sh PZ S K [1,1] (cE qw.args) qw.res (qw.tree (kc []) Tryd.prog [] (fa [] [xy]) PB 600 6)=De S K:=by kernel_rfl
theorem Tu (S K):j9 sh nT S K [1,1] (cE mJ.args) mJ.res (mJ.tree (kc [qv,qw]) Tryd.prog [] (fa [] []) nS 600 6)=Dd S K:=by kernel_rfl
theorem Tt (S K):j9 sh nT S K [1,1] (cE nO.args) nO.res (nO.tree (kc [mJ]) Tryd.prog [] (fa [] []) nS 600 6)=Dc S K:=by kernel_rfl
theorem TF (S K):j9 sh P5 S K [1,1] (cE sw.args) sw.res (sw.tree (kc []) Tryd.prog [] (fa [] []) PH 600 6)=Dp S K:=by kernel_rfl
theorem Tr (S K):j9 sh PX S K [1,1,1] (cE nN.args) nN.res (nN.tree (kc [mJ,sw]) Tryd.prog [] (fa [] []) Pz 600 6)=Da S K:=by kernel_rfl
end Go.bD
namespace Go.bD
open Go Go.aZ Go.Proofs
theorem TL (S K):j9 sh nT S K [] (cE qy.args) qy.res (qy.tree (kc [mI,nN,mH,nO]) Tryd.prog [] (fa [] []) nS 600 6)=Dv S K:=by kernel_rfl
end Go.bD
namespace Go.bD
open Go Go.aZ Go.Proofs
theorem TC (S K):j9 sh P3 S K [1,2,1] (cE uY.args) uY.res (uY.tree (kc [qy,qx,mH,uX,mI,nO,nN]) Tryd.prog [] (fa [] []) PF 600 6)=Dl S K:=by kernel_rfl
end Go.bD
namespace Go.bD
open Go Go.aZ Go.Proofs
abbrev c3 (wb:World) (k:cn):Prop:=k.ob Tryd.prog wb (dn sh SB k.id)
abbrev yN (wb:World) (q:kM):Prop:=q.Ok Tryd.prog wb (dn sh SB q.c.id)
abbrev cO (wb:World) (k:cH):Prop:=k.Ok Tryd.prog wb (dn sh SB k.id)
theorem dt:Tryd.prog.follows .mixedOrders=true:=by kernel_rfl
theorem b5 {α:Type} {p:α->Prop}:∀x∈([]:List α),p x:=λ_ h=>by cases h
theorem de {α:Type} {p:α->Prop} {a:α} {l:List α} (h:p a) (hl:∀x∈l,p x):∀x∈a::l,p x:=λx hx=>by
 rcases List.mem_cons.1 hx with rfl|hx
 ·exact h
 ·exact hl x hx
abbrev e5 (wb:World):Prop:=eC [] ⟨wb,wb,λ_=>False,λ_=>False,[]⟩
theorem qp {a b:Int} (h:[[a]]=[[b]]):a=b:=by simpa using h
section
variable {wb:World} {mh:Nat->List (List Int)->List (List Int)->Prop} {aN:dx} {li:FuncId->Nat->Option di} {n d:Nat} {cS:Nat->List Nat} {lens:List Nat} {B:(Nat->List (List Int)->List (List Int)->Prop)->(List (List Int)->List (List Int)->Prop)->Prop}
theorem lf {c:cn} (bX:∀r ex ro,fB (dn sh mh) Tryd.prog [] ⟨wb,r,ex,ro,[]⟩ aN) (hg:e5 wb) (hf:rN Tryd.prog c.f=true) (hu:hJ c.args c.res (dn sh mh c.id)) (hl:lens=(sh c.id).1) (hd:oS c.res=(sh c.id).2)
 (e:∀S K,tl sh cS S K lens (cW c.args) c.res (c.tree Tryd.prog [] aN li n d)=B S K) (hp:B mh (cI mh c.res c.id)):c.ob Tryd.prog wb (dn sh mh c.id):=
 cn.Ok.f (Q1 dt bX hg hf hu hl hd (by rw[e];exact hp))
theorem mN {c:cH} {e9:mg} (bX:∀r ex ro,fB (dn sh mh) Tryd.prog [] ⟨wb,r,ex,ro,[]⟩ aN) (hg:e5 wb) (kY:∀(L:V->Env->Prop) (r:World) (ro:Nat->Prop),qY (dn sh mh) L ⟨wb,r,λ_=>False,ro,[]⟩ Tryd.prog e9) (hf:rN Tryd.prog c.f=true) (hl:lens=(sh c.id).1) (hd:qE c.res=(sh c.id).2)
 (e:∀S K,j9 sh cS S K lens (cE c.args) c.res (c.tree e9 Tryd.prog [] aN li n d)=B S K) (hp:B mh (fp mh c.res c.id)):c.Ok Tryd.prog wb (dn sh mh c.id):=
 KL dt bX hg kY hf hl hd (by rw[e];exact hp)
end
theorem Sp {a0 a1 a2 b0 b1 b2:Int} (h0:J a0=J b0) (h1:J a1=J b1) (h2:a2=b2):fO [.str,.str,.bool] [a0,a1,a2]=fO [.str,.str,.bool] [b0,b1,b2]:=by
 show(.tuple #[.string (aH (J a0)),.string (aH (J a1)),.bool (decide (a2=1))]:Value)=(.tuple #[.string (aH (J b0)),.string (aH (J b1)),.bool (decide (b2=1))]:Value)
 rw[h0,h1,h2]
theorem qS {a0 b0:Int} (h0:a0=b0):fO [.bool] [a0]=fO [.bool] [b0]:=by
 show(.bool (decide (a0=1)):Value)=(.bool (decide (b0=1)):Value)
 rw[h0]
theorem yk {a0 b0:Int} (h0:J a0=J b0):fO [.str] [a0]=fO [.str] [b0]:=by
 show(.string (aH (J a0)):Value)=(.string (aH (J b0)):Value)
 rw[h0]
theorem T1 {A R:List D} {spec:List Int->List Int->Prop} (hl:(cW A).length=2) (hr:(cW R).length=1) (hv:∀a b:Int,a=b->fO R [a]=fO R [b]) (h:∀z0 ao a b:Int,spec [z0,ao] [a]->spec [z0,ao] [b]->a=b):hJ A R spec:=λzs rs kE hz h1 h2 h3 h4=>by
 match zs,rs,kE,(gR hz).trans hl,(gR h1).trans hr,(gR h2).trans hr,h3,h4 with
 |[z0,ao],[a],[b],_,_,_,h3,h4=>exact hv a b (h z0 ao a b h3 h4)
theorem yu {A R:List D} {spec:List Int->List Int->Prop} (hl:(cW A).length=1) (hr:(cW R).length=1) (hv:∀a b:Int,J a=J b->fO R [a]=fO R [b]) (h:∀z0 a b:Int,spec [z0] [a]->spec [z0] [b]->J a=J b):hJ A R spec:=λzs rs kE hz h1 h2 h3 h4=>by
 match zs,rs,kE,(gR hz).trans hl,(gR h1).trans hr,(gR h2).trans hr,h3,h4 with
 |[z0],[a],[b],_,_,_,h3,h4=>exact hv a b (h z0 a b h3 h4)
theorem s7 {A R:List D} {spec:List Int->List Int->Prop} (hl:(cW A).length=1) (hr:(cW R).length=1) (hv:∀a b:Int,a=b->fO R [a]=fO R [b]) (h:∀z0 a b:Int,spec [z0] [a]->spec [z0] [b]->a=b):hJ A R spec:=λzs rs kE hz h1 h2 h3 h4=>by
 match zs,rs,kE,(gR hz).trans hl,(gR h1).trans hr,(gR h2).trans hr,h3,h4 with
 |[z0],[a],[b],_,_,_,h3,h4=>exact hv a b (h z0 a b h3 h4)
theorem TQ:hJ oL.args oL.res (dn sh SB 126):=by
 intro zs rs kE hz hr AQ h h'
 match zs,rs,kE,hz,hr,AQ,h,h' with
 |[z0],[a0,a1,a2],[b0,b1,b2],_,_,_,h,h'=>
  have e:(J a0,J a1,a2)=(J b0,J b1,b2):=Eq.trans h (Eq.symm h')
  simp only[Prod.mk.injEq]at e
  exact Sp e.1 e.2.1 e.2.2
theorem QL {wb:World} (hg:e5 wb) (uc:c3 wb oM):c3 wb oL:=lf (λ_ _ _=>fE b5 (de uc b5)) hg (by kernel_rfl) TQ rfl rfl Ty Ro
theorem TS:hJ mK.args mK.res (dn sh SB 65):=T1 rfl rfl (λ_ _=>qS) λ_ _ _ _ h h'=>by first|exact Eq.trans h (Eq.symm h')|exact qp (Eq.trans h (Eq.symm h'))
theorem QP {wb:World} (hg:e5 wb) (uc:c3 wb oM):c3 wb mK:=lf (λ_ _ _=>fE b5 (de uc b5)) hg (by kernel_rfl) TS rfl rfl TB Rr
theorem TX:hJ sz.args sz.res (dn sh SB 122):=yu rfl rfl (λ_ _=>yk) λ_ _ _ h h'=>Eq.trans h (Eq.symm h')
theorem QW {wb:World} (hg:e5 wb):c3 wb sz:=lf (λ_ _ _=>fE b5 b5) hg (by kernel_rfl) TX rfl rfl TI RA
theorem TY:hJ sA.args sA.res (dn sh SB 123):=yu rfl rfl (λ_ _=>yk) λ_ _ _ h h'=>Eq.trans h (Eq.symm h')
theorem QX {wb:World} (hg:e5 wb):c3 wb sA:=lf (λ_ _ _=>fE b5 b5) hg (by kernel_rfl) TY rfl rfl TJ RB
theorem TW:hJ sy.args sy.res (dn sh SB 124):=yu rfl rfl (λ_ _=>yk) λ_ _ _ h h'=>Eq.trans h (Eq.symm h')
theorem QV {wb:World} (hg:e5 wb):c3 wb sy:=lf (λ_ _ _=>fE b5 b5) hg (by kernel_rfl) TW rfl rfl TH Rz
theorem TR:hJ su.args su.res (dn sh SB 47):=s7 rfl rfl (λ_ _=>qS) λ_ _ _ h h'=>by first|exact Eq.trans h (Eq.symm h')|exact qp (Eq.trans h (Eq.symm h'))
theorem QN {wb:World} (hg:e5 wb) (Mm:yN wb x4) (Mw:c3 wb sA) (Mv:c3 wb sz) (ud:c3 wb mK):c3 wb su:=lf (λ_ _ _=>fE (de Mm b5) (de Mw (de Mv (de ud b5)))) hg (by kernel_rfl) TR rfl rfl TA Rq
theorem TV:hJ sx.args sx.res (dn sh SB 27):=s7 rfl rfl (λ_ _=>qS) λ_ _ _ h h'=>by first|exact Eq.trans h (Eq.symm h')|exact qp (Eq.trans h (Eq.symm h'))
theorem QU {wb:World} (hg:e5 wb) (zY:c3 wb oL) (Mp:c3 wb su) (Mu:c3 wb sy) (ud:c3 wb mK):c3 wb sx:=lf (λ_ _ _=>fE b5 (de zY (de Mp (de Mu (de ud b5))))) hg (by kernel_rfl) TV rfl rfl TG Ry
theorem TZ:hJ sB.args sB.res (dn sh SB 202):=yu rfl rfl (λ_ _=>yk) λ_ _ _ h h'=>Eq.trans h (Eq.symm h')
theorem QY {wb:World} (hg:e5 wb):c3 wb sB:=lf (λ_ _ _=>fE b5 b5) hg (by kernel_rfl) TZ rfl rfl TK RC
theorem T0:hJ oN.args oN.res (dn sh SB 200):=s7 rfl rfl (λ_ _=>qS) λ_ _ _ h h'=>by first|exact Eq.trans h (Eq.symm h')|exact qp (Eq.trans h (Eq.symm h'))
theorem Q0 {wb:World} (hg:e5 wb) (zY:c3 wb oL) (Mx:c3 wb sB) (ud:c3 wb mK) (Mt:c3 wb sx):c3 wb oN:=lf (λ_ _ _=>fE b5 (de zY (de Mx (de ud (de Mt b5))))) hg (by kernel_rfl) T0 rfl rfl TM RE
theorem TU:hJ sv.args sv.res (dn sh SB 400):=s7 rfl rfl (λ_ _=>qS) λ_ _ _ h h'=>by first|exact Eq.trans h (Eq.symm h')|exact qp (Eq.trans h (Eq.symm h'))
theorem QS {wb:World} (hg:e5 wb):c3 wb sv:=lf (λ_ _ _=>fE b5 b5) hg (by kernel_rfl) TU rfl rfl TE Rw
theorem QM {wb:World} (hg:e5 wb):cO wb qx:=mN (λ_ _ _=>fE b5 b5) hg (λ_ _ _=>(lD b5)) (by kernel_rfl) rfl rfl Tz Rp
theorem TP:hJ ss.args ss.res (dn sh SB 501):=s7 rfl rfl (λ_ _=>qS) λ_ _ _ h h'=>by first|exact Eq.trans h (Eq.symm h')|exact qp (Eq.trans h (Eq.symm h'))
theorem QK {wb:World} (hg:e5 wb) (uc:c3 wb oM):c3 wb ss:=lf (λ_ _ _=>fE b5 (de uc b5)) hg (by kernel_rfl) TP rfl rfl Tx Rm
theorem TT:hJ nP.args nP.res (dn sh SB 502):=s7 rfl rfl (λ_ _=>qS) λ_ _ _ h h'=>by first|exact Eq.trans h (Eq.symm h')|exact qp (Eq.trans h (Eq.symm h'))
theorem QR {wb:World} (hg:e5 wb) (Mr:c3 wb sv) (Mo:c3 wb ss):c3 wb nP:=lf (λ_ _ _=>fE b5 (de Mr (de Mo b5))) hg (by kernel_rfl) TT rfl rfl TD Rv
theorem QH {wb:World} (hg:e5 wb) (Mq:c3 wb nP):cO wb sr:=mN (λ_ _ _=>fE b5 (de Mq b5)) hg (λ_ _ _=>(lD b5)) (by kernel_rfl) rfl rfl Tw Rl
theorem QD {wb:World} (hg:e5 wb) (My:c3 wb oN) (Ml:cO wb sr):cO wb qv:=mN (λ_ _ _=>fE b5 (de My b5)) hg (λ_ _ _=>(lD (de Ml b5))) (by kernel_rfl) rfl rfl Ts Rh
theorem QG {wb:World} (hg:e5 wb) (Mn:c3 wb xy):cO wb qw:=mN (λ_ _ _=>fE b5 (de Mn b5)) hg (λ_ _ _=>(lD b5)) (by kernel_rfl) rfl rfl Tv Rk
theorem QF {wb:World} (hg:e5 wb) (Mj:cO wb qv) (Mk:cO wb qw):cO wb mJ:=mN (λ_ _ _=>fE b5 b5) hg (λ_ _ _=>(lD (de Mj (de Mk b5)))) (by kernel_rfl) rfl rfl Tu Rj
theorem QE {wb:World} (hg:e5 wb) (zX:cO wb mJ):cO wb nO:=mN (λ_ _ _=>fE b5 b5) hg (λ_ _ _=>(lD (de zX b5))) (by kernel_rfl) rfl rfl Tt Ri
theorem QT {wb:World} (hg:e5 wb):cO wb sw:=mN (λ_ _ _=>fE b5 b5) hg (λ_ _ _=>(lD b5)) (by kernel_rfl) rfl rfl TF Rx
theorem QA {wb:World} (hg:e5 wb) (zX:cO wb mJ) (Ms:cO wb sw):cO wb nN:=mN (λ_ _ _=>fE b5 b5) hg (λ_ _ _=>(lD (de zX (de Ms b5)))) (by kernel_rfl) rfl rfl Tr Rg
theorem QZ {wb:World} (hg:e5 wb) (h_aReg:cO wb mI) (h_aAgreed:cO wb nN) (h_aAgree:cO wb mH) (h_aWhose:cO wb nO):cO wb qy:=mN (λ_ _ _=>fE b5 b5) hg (λ_ _ _=>(lD (de h_aReg (de h_aAgreed (de h_aAgree (de h_aWhose b5)))))) (by kernel_rfl) rfl rfl TL RD
theorem QQ {wb:World} (hg:e5 wb) (h_u17alive:cO wb qy) (h_gt:cO wb qx) (h_aAgree:cO wb mH) (h_aLogout:cO wb uX) (h_aReg:cO wb mI) (h_aWhose:cO wb nO) (h_aAgreed:cO wb nN):cO wb uY:=mN (λ_ _ _=>fE b5 b5) hg (λ_ _ _=>(lD (de h_u17alive (de h_gt (de h_aAgree (de h_aLogout (de h_aReg (de h_aWhose (de h_aAgreed b5))))))))) (by kernel_rfl) rfl rfl TC Rs
end Go.bD
namespace Go.Proofs
open Go.Shelf Go.RowKit
shelf_lay Lays.n137 Nm 137 at Tryd as Tryd.Ps
theorem Tryd.strings_IndexByte (s:ByteArray) (c:Int) (w:World):
 Calls Tryd.prog 86 #[.string s,.int .u8 c] w λe w'=>e= .returned (.int .i64 (Lib.indexByte s.data.toList c.toNat.toUInt8))/\w'=w:=Any.strings_IndexByte Tryd.Ps s c w
shelf_lay Lays.n144 Nm 144 at Tryd as Tryd.Pt
theorem Tryd.strings_Contains (s sub:ByteArray) (m:Int) (w:World) (hs:s.size<4294967281) (hm:w.cell? ⟨0,0,none⟩=some (.int .i64 m)):
 Calls Tryd.prog 29 #[.string s,.string sub] w λe w'=>e= .returned (.bool (Lib.contains s.data.toList sub.data.toList))/\w'=w:=Any.strings_Contains Tryd.Pt s sub m w hs hm
end Go.Proofs
namespace Go.bD
open Go Go.aZ Go.Proofs Go.RowKit
theorem QO {wb:World}:c3 wb oM:=by
 intro zs hz
 obtain⟨rs,h1,h2,h3⟩:=OR (wb:=wb) (f:=87) (id:=73) Tryd.func87 (by kernel_rfl) (by kernel_rfl) (by kernel_rfl) (by kernel_rfl) zs hz
 match zs,hz with
 |[s,c],hz=>
  refine⟨rs,h1,?_,h3⟩
  subst h2
  rfl
theorem Lm (b:UInt8) (l:ak):dd (b::l)=((b==46&&l.getD 0 0==46)||dd l):=by
 unfold dd
 rw[List.length_cons,List.range_succ_eq_map,List.any_cons,List.any_map]
 rfl
theorem EB:∀l:ak,Lib.contains l [46,46]=dd l
 |[]=>rfl
 |b::l=>by
  have ih:=EB l
  unfold Lib.contains at ih⊢
  rw[Lm,<-ih]
  have sym:∀x:UInt8,((46:UInt8)==x)=(x==46):=λx=>by rw[Bool.eq_iff_iff,beq_iff_eq,beq_iff_eq];exact eq_comm
  have hp:([46,46]:ak).isPrefixOf (b::l)=(b==46&&l.getD 0 0==46):=by
   cases l with
   |nil=>
    show((46:UInt8)==b&&false)=(b==46&&((0:UInt8)==46))
    rw[sym];rfl
   |cons c r=>
    show((46:UInt8)==b&&((46:UInt8)==c&&true))=(b==46&&c==46)
    rw[sym,sym,Bool.and_true]
  have he:Lib.index (b::l) [46,46]=if([46,46]:ak).isPrefixOf (b::l)=true then 0 else if(Lib.index l [46,46]==-1)=true then-1 else Lib.index l [46,46]+1:=rfl
  rw[he,hp]
  cases(b==46&&l.getD 0 0==46)with
  |true=>rfl
  |false=>
   rw[if_neg (by decide),Bool.false_or]
   by_cases he:(Lib.index l [46,46]==-1)=true
   ·rw[if_pos he]
    have:=beq_iff_eq.1 he
    rw[this]
   ·rw[if_neg he]
    have he:¬Lib.index l [46,46]=-1:=λe=>he (beq_iff_eq.2 e)
    have:=Lib.index_ge [46,46] l
    rw[Bool.eq_iff_iff,decide_eq_true_eq,decide_eq_true_eq]
    omega
theorem QI {wb:World} (hc:∃m,wb.cell? ⟨0,0,none⟩=some (.int .i64 m)) (h0:0<wb.heap.size):yN wb x4:=by
 intro zs hz hp
 match zs,hz with
 |[z],hz=>
  refine⟨[aT (dd (J z))],⟨(iN _).1,(iN _).2,trivial⟩,rfl,λw hw=> .inr ⟨enters (by kernel_rfl) _ _,?_⟩⟩
  obtain⟨m,hm⟩:=hc
  have nC:w.cell? ⟨0,0,none⟩=some (.int .i64 m):=by rw[hw.cell ⟨0,0,none⟩ h0];exact hm
  have hl:(J z).length<=4294967280:=hp
  refine(Tryd.strings_Contains (aH (J z)) (aH [46,46]) m w (by show(J z).toArray.size<_;simp;omega) nC).mono ?_
  rintro e w' ⟨rfl,rfl⟩
  refine⟨?_,World.Extends.refl _⟩
  have e1:(aH (J z)).data.toList=J z:=by simp[aH]
  have e2:(aH [46,46]).data.toList=[46,46]:=rfl
  rw[e1,e2,EB]
  show _=Ending.returned (Value.bool (decide (aT (dd (J z))=1)))
  rw[tr]
end Go.bD
namespace Go.bD
open Go Go.aZ Go.Proofs Go.RowKit
theorem QJ {wb:World}:c3 wb xy:=by
 intro zs hz
 obtain⟨rs,h1,h2,h3⟩:=K6 (wb:=wb) (f:=72) (id:=510) Tryd.func72 (by kernel_rfl) (by kernel_rfl) (by kernel_rfl) (by kernel_rfl) zs hz
 match zs,hz with
 |[a,b],hz=>
  refine⟨rs,h1,?_,h3⟩
  subst h2
  show cmpL (J a) (J b)=cond (Op.bytesLess (J a) (J b)) (-1) (cond (decide (J a=J b)) 0 1)
  have hb:=zn (J a) (J b)
  have⟨h1,h2⟩:=Er (J a) (J b)
  cases hl:Op.bytesLess (J a) (J b)with
  |true=>exact h1.2 hl
  |false=>
   have n1:cmpL (J a) (J b)≠-1:=λh=>by rw[h1.1 h]at hl;cases hl
   by_cases h:J a=J b
   ·rw[decide_eq_true h];exact h2.2 h
   ·have n0:cmpL (J a) (J b)≠0:=λh'=>h (h2.1 h')
    rw[decide_eq_false h]
    show cmpL (J a) (J b)=1
    omega
end Go.bD
namespace Go.Proofs
open Go.RowKit Go.aZ
section
variable {P:Program}
theorem SZ {ops:Array Oper} {o:Oper} {a:Act} {w:World} {K:Act->World->Prop} {Q:Exit->Act->World->Prop} {E:Prop}
 (hg:o.guard=none) (s x:Operand) (t t':TypeId) (hop:o.op=Op.call {callee:=Callee.builtin Builtin.append,args:=#[s,x],argTypes:=#[t,t']}) (u v:Value) (hs:a.eval s=u) (hx:a.eval x=v) {r:Value} {w':World}
 (hr:(Builtin.append_ #[t,t'] o.type #[u,v]).run P w= .ok r w') (hK:K (a.put o.dst r) w'):if Region.wanted o (yielded ops a.tmps)=true then Oper.wp P o a w K Q else E:=by
 have hw:Region.wanted o (yielded ops a.tmps)=true:=by simp[Region.wanted,hg]
 rw[if_pos hw]
 unfold Oper.wp
 simp[execOp,hop,resolve,invoke,builtin,hs,hx,hr,Result.andThen]
 exact hK
theorem Sh (w:World) (t e ty:TypeId) (z:Value) (ht:P.underlying t=some (.slice e)) (hv:∀w,(zeroValue e).run P w= .ok z w) (h1:∀v∈z.cells.toList,v.oneCell'=true) (g o n c:Nat) (hn:0<n) (cur:Array Value) (pJ:TypeId) (hg:w.heap[g]?=some (.cells cur pJ (0,0))) (kq:o+n*z.cells.size<=cur.size):
 (Builtin.clear_ #[t] ty #[.slice (some ⟨g,o,none⟩) n c]).run P w= .ok (.tuple #[]) (w.setRow g (cur.toList.take o++(Builtin.zeroCells z.cells n).toList++cur.toList.drop (o+n*z.cells.size)).toArray):=by
 have hzs:(Builtin.zeroCells z.cells n).toList.length=n*z.cells.size:=by rw[Array.length_toList,qW]
 have hst:=run_storeCells_at P g o pJ (Builtin.zeroCells z.cells n).toList 0 cur w hg (by rw[hzs];omega) (λv hv'=>by
  simp only[Builtin.zeroCells]at hv'
  have hm:v∈z.cells.toList:=by
   simp at hv'
   obtain⟨k,da,hk⟩:=hv'
   have hs:0<z.cells.size:=by
    rcases Nat.eq_zero_or_pos z.cells.size with h|h
    ·rw[h,Nat.mul_zero]at da;omega
    ·exact h
   rw[getElem!_pos z.cells (k% z.cells.size) (Nat.mod_lt _ hs)]at hk
   rw[<-hk]
   exact Array.getElem_mem_toList _
  exact h1 v hm)
 rw[Nat.add_zero,hzs]at hst
 obtain⟨m,rfl⟩:∃m,n=m+1:=⟨n-1,by omega⟩
 simp[Builtin.clear_,run_underlying ht,hv,hst]
end
theorem mV (w:World) (g:Nat) (a:Array Value):e8 w (w.setRow g a) (some g):=
 ⟨rfl,rfl,rfl,by simp[World.setRow],λk hk hne=>setRow_other w g k a (λe=>hne (by rw[e]))⟩
theorem SL (w:World) (g:Nat) (a b:Array Value):e8 w ((w.drew.setRow g a).setRow g b) (some g):=by
 obtain⟨h1,h2,h3,h4,h5⟩:=mV w.drew g a
 obtain⟨k1,k2,k3,k4,l4⟩:=mV (w.drew.setRow g a) g b
 exact⟨k1.trans h1,k2.trans h2,k3.trans h3,Nat.le_trans h4 k4,λk hk hne=>(l4 k (Nat.lt_of_lt_of_le hk h4) hne).trans (h5 k hk hne)⟩
set_option maxHeartbeats 4000000 in
set_option maxRecDepth 1000000 in
theorem Tryd.Lo (g cap n i j:Nat) (cur:Array Value) (w:World) (hg:w.heap[g]?=some (.cells cur 39 (0,0))) (hsz:cur.size=cap*3) (hn:n<=cap) (bp:cap<=9223372036854775807) (h8:i<j) (hj:j<=n) (one:∀v∈(cur.toList.drop (j*3)).take ((n-j)*3),v.oneCell'=true):
 Calls Tryd.prog 20 #[.slice (some ⟨g,0,none⟩) n cap,.int .i64 i,.int .i64 j] w λe w'=>e= .returned (.slice (some ⟨g,0,none⟩) (i+(n-j)) cap)/\∃cur':Array Value,w'.heap[g]?=some (.cells cur' 39 (0,0))/\cur'.size=cap*3/\cur'.toList.take ((i+(n-j))*3)=cur.toList.take (i*3)++(cur.toList.drop (j*3)).take ((n-j)*3)/\e8 w w' (some g):=by
 have UU:i<=cap:=by omega
 have UX:j<=cap:=by omega
 obtain⟨i0,eJ,Au⟩:∃i0,Tryd.prog.info? 39=some i0/\i0.size=3:=⟨_,rfl,by kernel_rfl⟩
 obtain⟨news,hnews⟩:∃news,news=(cur.toList.drop (j*3)).take ((n-j)*3):=⟨_,rfl⟩
 have cR:cur.toList.length=cap*3:=by rw[Array.length_toList];exact hsz
 have hlen:news.length=(n-j)*3:=by rw[hnews,List.length_take,List.length_drop,cR];omega
 obtain⟨A,hA,mF⟩:∃A:Addr,(if cap=j then some (⟨g,0,none⟩:Addr)else some ⟨g,j*3,none⟩)=some A/\Hid (∀t u,news[t]?=some u->w.drew.cell? (A.add t)=some u):=by
  by_cases h:cap=j
  ·refine⟨⟨g,0,none⟩,by simp[h],λt u hu=>?_⟩
   have h0:news.length=0:=by rw[hlen];omega
   rw[List.length_eq_zero_iff.1 h0]at hu
   simp at hu
  ·refine⟨⟨g,j*3,none⟩,by simp[h],λt u hu=>?_⟩
   have ht:=(List.getElem?_eq_some_iff.1 hu).1
   rw[hlen]at ht
   rw[hnews,List.getElem?_take,if_pos ht,List.getElem?_drop]at hu
   rw[Addr.add_lit]
   show w.cell? _=_
   rw[Lib.cell_of_heap hg,<-Array.getElem?_toList];exact hu
 obtain⟨c1,hc1⟩:∃c1:Array Value,c1=(cur.toList.take (i*3)++news++cur.toList.drop (i*3+news.length)).toArray:=⟨_,rfl⟩
 have pZ:c1.size=cap*3:=by rw[hc1];simp[hlen,cR];omega
 obtain⟨W1,hW1⟩:∃W1,W1=w.drew.setRow g c1:=⟨_,rfl⟩
 have hgd:w.drew.heap[g]?=some (.cells cur 39 (0,0)):=hg
 have et:Hid (∀ty,(Builtin.append_ #[22,22] ty #[.slice (some ⟨g,0,none⟩) i cap,.slice (some A) (n-j) (cap-j)]).run Tryd.prog w.drew= .ok (.slice (some ⟨g,0,none⟩) (i+(n-j)) cap) W1):=λty=>by
  have:=sW (P:=Tryd.prog) w.drew 22 22 ty 39 i0 Tryd.underlying22 eJ g i cap cur 39 hgd (.slice (some A) (n-j) (cap-j)) (n-j) news (Src.ofSlice _ Tryd.underlying22 A (n-j) (cap-j) news (by rw[Au];exact hlen) mF (λu hu=>by
   rw[hnews]at hu
   exact one u hu)) (by omega) (by rw[Au,hlen,hsz];omega)
  rw[this,hW1,hc1,Au]
 have hg1:W1.heap[g]?=some (.cells c1 39 (0,0)):=by rw[hW1];exact setRow_heap w.drew g _ _ _ _ hgd
 obtain⟨z,hz,gy,hz1⟩:∃z:Value,(∀w,(zeroValue 39).run Tryd.prog w= .ok z w)/\z.cells.size=3/\∀v∈z.cells.toList,v.oneCell'=true:=⟨_,Tryd.zeroValue39,by kernel_rfl,by decide⟩
 obtain⟨ax,hc2⟩:∃ax:Array Value,ax=(c1.toList.take ((i+(n-j))*3)++(Builtin.zeroCells z.cells (n-(i+(n-j)))).toList++c1.toList.drop ((i+(n-j))*3+(n-(i+(n-j)))*z.cells.size)).toArray:=⟨_,rfl⟩
 obtain⟨W2,hW2⟩:∃W2,W2=W1.setRow g ax:=⟨_,rfl⟩
 have UP:∀ty,(Builtin.clear_ #[22] ty #[.slice (some ⟨g,(i+(n-j))*3,none⟩) (n-(i+(n-j))) (cap-(i+(n-j)))]).run Tryd.prog W1= .ok (.tuple #[]) W2:=λty=>by
  rw[Sh W1 22 39 ty z Tryd.underlying22 hz hz1 g ((i+(n-j))*3) (n-(i+(n-j))) _ (by omega) c1 39 hg1 (by rw[gy,pZ];omega),hW2,hc2]
 have hg2:W2.heap[g]?=some (.cells ax 39 (0,0)):=by rw[hW2];exact setRow_heap W1 g _ _ _ _ hg1
 have Ab:c1.toList.length=cap*3:=by rw[Array.length_toList];exact pZ
 have fin:Hid (∃cur':Array Value,W2.heap[g]?=some (.cells cur' 39 (0,0))/\cur'.size=cap*3/\cur'.toList.take ((i+(n-j))*3)=cur.toList.take (i*3)++(cur.toList.drop (j*3)).take ((n-j)*3)/\e8 w W2 (some g)):=by
  refine⟨ax,hg2,?_,?_,?_⟩
  ·rw[hc2];simp[qW,gy,Ab];omega
  ·rw[hc2]
   simp only
   rw[List.append_assoc,List.take_append_of_le_length (by rw[List.length_take,Ab];omega),List.take_of_length_le (by rw[List.length_take];omega),hc1]
   simp only
   rw[List.take_append_of_le_length (by rw[List.length_append,List.length_take,hlen,cR];omega),List.take_of_length_le (by rw[List.length_append,List.length_take,hlen,cR];omega),hnews]
  ·rw[hW2,hW1];exact SL w g _ _
 clear hnews hlen mF hc1 pZ hW1 hgd hg1 hz gy hz1 hc2 hW2 hg2 Ab cR hg hsz one
 go_enter Tryd.func20,Tryd.ntmps20
 go_wp2_with fail
 go_region_law (refine SZ rfl (.tmp 22) (.tmp 25) 22 22 rfl (.slice (some ⟨g,0,none⟩) i cap) (.slice (some A) (n-j) (cap-j)) (by simp[Act.eval,Act.put]) (by simp[Act.eval,Act.put]) (et.out _) ?_)
 go_wp2
 go_ret
 exact⟨rfl,fin.out⟩
end Go.Proofs
namespace Go.Proofs
open Go.RowKit Go.aZ
section
variable {P:Program}
theorem yi (w:World) (EA St ty e:TypeId) (i:TypeInfo) (hu:P.underlying EA=some (.slice e)) (hi:P.info? e=some i) (g o wF Lk:Nat) (a:Addr) (cB gZ:Nat) (cur:Array Value) (t:TypeId) (cs:List Value)
 (hg:w.heap[g]?=some (.cells cur t (0,0))) (hn:cs.length=Nat.min cB wF*i.size) (mF:∀j v,cs[j]?=some v->w.cell? (a.add j)=some v) (kq:o+cs.length<=cur.size) (h1:∀v∈cs,v.oneCell'=true):
 (Builtin.copy_ #[EA,St] ty #[.slice (some ⟨g,o,none⟩) wF Lk,.slice (some a) cB gZ]).run P w= .ok (goInt (Nat.min cB wF)) (w.setRow g (cur.toList.take o++cs++cur.toList.drop (o+cs.length)).toArray):=by
 have hst:=run_storeCells_at P g o t cs 0 cur w hg (by simpa using kq) h1
 rw[Nat.add_zero]at hst
 have hf:=run_firstCells_some (P:=P) w i.size (Nat.min cB wF) a cB gZ cs hn mF
 simp[Builtin.copy_,run_underlying hu,Builtin.lenOf,sizeOf,typeInfo,hi,hf,hst]
theorem Jb {ops:Array Oper} {o:Oper} {a:Act} {w:World} {K:Act->World->Prop} {Q:Exit->Act->World->Prop} {E:Prop}
 (hg:o.guard=none) (s x:Operand) (t t':TypeId) (hop:o.op=Op.call {callee:=Callee.builtin Builtin.copy,args:=#[s,x],argTypes:=#[t,t']}) (u v:Value) (hs:a.eval s=u) (hx:a.eval x=v) {r:Value} {w':World}
 (hr:(Builtin.copy_ #[t,t'] o.type #[u,v]).run P w= .ok r w') (hK:K (a.put o.dst r) w'):if Region.wanted o (yielded ops a.tmps)=true then Oper.wp P o a w K Q else E:=by
 have hw:Region.wanted o (yielded ops a.tmps)=true:=by simp[Region.wanted,hg]
 rw[if_pos hw]
 unfold Oper.wp
 simp[execOp,hop,resolve,invoke,builtin,hs,hx,hr,Result.andThen]
 exact hK
theorem o8 {w:World} {ops:Array Oper} {rest:List Oper} {o:Oper} {a:Act} {Q:Exit->Act->World->Prop} (hgd:o.guard=none) (s x:Operand) (t t':TypeId)
 (ho:o.op= .call {callee:= .builtin .append,args:=#[s,x],argTypes:=#[t,t']}) (u v:Value) (hs:a.eval s=u) (hx:a.eval x=v) {r:Value} {w':World}
 (hr:(Builtin.append_ #[t,t'] o.type #[u,v]).run P w= .ok r w') (h:wpList P ops Q rest (a.put o.dst r) w'):wpList P ops Q (o::rest) a w:=by
 refine wpList_plain hgd λK hK=>?_
 unfold Oper.wp
 simp[execOp,ho,resolve,invoke,builtin,hs,hx,hr,Result.andThen]
 exact hK _ _ h
end
set_option maxHeartbeats 4000000 in
set_option maxRecDepth 1000000 in
theorem Tryd.G8 (g n cap:Nat) (A:Addr) (vc:Nat) (r:Value) (w W1:World) (hn:n<=cap) (bp:cap<=9223372036854775807)
 (et:∀ty,(Builtin.append_ #[22,22] ty #[.slice (some ⟨g,0,none⟩) n cap,.slice (some A) 1 vc]).run Tryd.prog w= .ok r W1):
 Calls Tryd.prog 24 #[.slice (some ⟨g,0,none⟩) n cap,.int .i64 n,.slice (some A) 1 vc] w λe w'=>e= .returned r/\w'=W1:=by
 obtain⟨B,hB⟩:∃B,(if cap=n then some (⟨g,0,none⟩:Addr)else some ⟨g,n*3,none⟩)=B:=⟨_,rfl⟩
 go_enter Tryd.func24,Tryd.ntmps24
 go_wp2_with (at_builtin;refine o8 rfl (.tmp 23) (.tmp 24) 22 22 rfl _ _ rfl rfl (et _) ?_)
 go_wp2
 all_goals (go_ret;exact⟨rfl,rfl⟩)
set_option maxHeartbeats 4000000 in
set_option maxRecDepth 1000000 in
theorem Tryd.insert_nil (A:Addr) (vc:Nat) (r:Value) (w W1:World)
 (et:∀ty,(Builtin.append_ #[22,22] ty #[.slice none 0 0,.slice (some A) 1 vc]).run Tryd.prog w= .ok r W1):
 Calls Tryd.prog 24 #[.slice none 0 0,.int .i64 0,.slice (some A) 1 vc] w λe w'=>e= .returned r/\w'=W1:=by
 go_enter Tryd.func24,Tryd.ntmps24
 go_wp2_with (at_builtin;refine o8 rfl (.tmp 23) (.tmp 24) 22 22 rfl _ _ rfl rfl (et _) ?_)
 go_wp2
 all_goals (go_ret;exact⟨rfl,rfl⟩)
set_option maxHeartbeats 4000000 in
set_option maxRecDepth 1000000 in
theorem Tryd.O0 (g n cap i G C:Nat) (A:Addr) (vc:Nat) (r1 r2:Value) (w W1 W2 W3:World) (bW:i<n) (hn:n<=cap) (hroom:cap<n+1) (hC:n+1<=C) (bZ:n<=1073741824)
 (et:∀ty,(Builtin.append_ #[22,3] ty #[.slice (some ⟨g,0,none⟩) i cap,.int .i64 ((n:Int)+1-(i:Int))]).run Tryd.prog w= .ok (.slice (some ⟨G,0,none⟩) (n+1) C) W1)
 (mz:∀ty,(Builtin.copy_ #[22,22] ty #[.slice (some ⟨G,i*3,none⟩) (n+1-i) (C-i),.slice (some A) 1 vc]).run Tryd.prog W1= .ok r1 W2)
 (p2:∀ty,(Builtin.copy_ #[22,22] ty #[.slice (some ⟨G,(i+1)*3,none⟩) (n+1-(i+1)) (C-(i+1)),.slice (some ⟨g,i*3,none⟩) (n-i) (cap-i)]).run Tryd.prog W2.drew= .ok r2 W3):
 Calls Tryd.prog 24 #[.slice (some ⟨g,0,none⟩) n cap,.int .i64 i,.slice (some A) 1 vc] w λe w'=>e= .returned (.slice (some ⟨G,0,none⟩) (n+1) C)/\w'=W3:=by
 have f1:¬cap=i:=by omega
 have f2:¬C=i:=by omega
 have f3:¬C=i+1:=by omega
 have f4:i<=cap:=by omega
 have f5:¬((i:Int)=(n:Int)):=by omega
 have f6:(cap:Int)<(n:Int)+1:=by omega
 have f7:i<=C:=by omega
 have f8:i+1<=C:=by omega
 have f9:((i:Int)+1).toNat=i+1:=by omega
 have f10:(0:Int)<=(i:Int)+1:=by omega
 have f11:(i:Int)+1<=(n:Int)+1:=by omega
 have f12:i<=n:=by omega
 have f13:IntKind.i64.wrap ((i:Int)+1)=(i:Int)+1:=by rw[IntKind.wrap_i64];omega
 go_enter Tryd.func24,Tryd.ntmps24
 go_wp2_with (first
  |(at_builtin;refine o8 rfl (.tmp 34) (.tmp 39) 22 3 rfl _ _ rfl rfl (et _) ?_)
  |(at_builtin;refine T7 rfl (.tmp 43) (.tmp 44) 22 22 rfl _ _ rfl rfl (mz _) ?_))
 go_region_law (refine Jb rfl (.tmp 50) (.tmp 53) 22 22 rfl (.slice (some ⟨G,(i+1)*3,none⟩) (n+1-(i+1)) (C-(i+1))) (.slice (some ⟨g,i*3,none⟩) (n-i) (cap-i)) (by simp[Act.eval,Act.put]) (by simp[Act.eval,Act.put]) (p2 _) ?_)
 go_wp2
 go_ret
 exact⟨rfl,rfl⟩
set_option maxHeartbeats 4000000 in
set_option maxRecDepth 1000000 in
theorem Tryd.O1 (g n cap i:Nat) (A:Addr) (vc:Nat) (r1 r2:Value) (w W1 W2:World) (bW:i<n) (hn:n+1<=cap) (bZ:n<=1073741824)
 (Gw:(callFunc 38 #[.slice (some A) 1 vc,.slice (some ⟨g,(i+1)*3,none⟩) (n-i) (cap-(i+1))]).run Tryd.prog w= .ok (.value (.bool false)) w)
 (mz:∀ty,(Builtin.copy_ #[22,22] ty #[.slice (some ⟨g,(i+1)*3,none⟩) (n+1-(i+1)) (cap-(i+1)),.slice (some ⟨g,i*3,none⟩) (n+1-i) (cap-i)]).run Tryd.prog w.drew= .ok r1 W1)
 (p2:∀ty,(Builtin.copy_ #[22,22] ty #[.slice (some ⟨g,i*3,none⟩) (n+1-i) (cap-i),.slice (some A) 1 vc]).run Tryd.prog W1= .ok r2 W2):
 Calls Tryd.prog 24 #[.slice (some ⟨g,0,none⟩) n cap,.int .i64 i,.slice (some A) 1 vc] w λe w'=>e= .returned (.slice (some ⟨g,0,none⟩) (n+1) cap)/\w'=W2:=by
 have f1:¬cap=i:=by omega
 have f3:¬cap=i+1:=by omega
 have f4:i<=cap:=by omega
 have f5:¬((i:Int)=(n:Int)):=by omega
 have f6:¬(cap:Int)<(n:Int)+1:=by omega
 have f8:i+1<=cap:=by omega
 have f9:((i:Int)+1).toNat=i+1:=by omega
 have f10:(0:Int)<=(i:Int)+1:=by omega
 have f11:(i:Int)+1<=(n:Int)+1:=by omega
 have f12:i<=n:=by omega
 have f13:IntKind.i64.wrap ((i:Int)+1)=(i:Int)+1:=by rw[IntKind.wrap_i64];omega
 have f14:((n:Int)+1).toNat=n+1:=by omega
 have f15:(n:Int)+1<=(cap:Int):=by omega
 have f16:i<=n+1:=by omega
 have f17:(i:Int)<=(n:Int)+1:=by omega
 go_enter Tryd.func24,Tryd.ntmps24
 go_wp2
 go_region_law (refine Jb rfl (.tmp 73) (.tmp 76) 22 22 rfl (.slice (some ⟨g,(i+1)*3,none⟩) (n+1-(i+1)) (cap-(i+1))) (.slice (some ⟨g,i*3,none⟩) (n+1-i) (cap-i)) (by simp[Act.eval,Act.put]) (by simp[Act.eval,Act.put]) (mz _) ?_)
 go_wp2_with (at_builtin;refine T7 rfl (.tmp 80) (.tmp 81) 22 22 rfl _ _ rfl rfl (p2 _) ?_)
 go_wp2
 go_ret
 exact⟨rfl,rfl⟩
end Go.Proofs
namespace Go.bD
open Go Go.aZ Go.Proofs Go.RowKit
theorem vx (w:World) (o:Obj) (own:Option Nat):e8 w (w.drew.alloc o) own:=
 have h:=(World.Extends.refl w.drew).alloc o
 ⟨h.os,h.tape,h.output,h.size,λk hk _=>h.block k hk⟩
theorem e8.vD {w w1 w2:World} {own:Option Nat} {g:Nat} (h:e8 w w1 own) (h2:e8 w1 w2 (some g)) (hg:own=some g∨w.heap.size<=g):e8 w w2 own:=by
 obtain⟨a1,a2,a3,a4,a5⟩:=h
 obtain⟨b1,b2,b3,b4,pz⟩:=h2
 refine⟨b1.trans a1,b2.trans a2,b3.trans a3,Nat.le_trans a4 b4,λk hk hne=>?_⟩
 rw[pz k (Nat.lt_of_lt_of_le hk a4) (λe=>?_),a5 k hk hne]
 cases e
 rcases hg with hg|hg
 ·exact hne hg
 ·omega
theorem e8.Lr {w w1:World} {own:Option Nat} (h:e8 w w1 own):e8 w w1.drew own:=h
theorem Sn {P:Program} (w:World) (vA Tb e:TypeId) (ht:P.underlying vA=some (.slice e)) (size:Nat) (hz:∀w,(Go.sizeOf e).run P w= .ok size w)
 (a b:Addr) (la ca lb cb:Nat) (hne:a.block≠b.block) (tC Ef:Array Value) (vz Ji:TypeId) (LL:Nat×Nat)
 (hA:w.heap[a.block]?=some (.cells tC vz LL)) (hB:w.heap[b.block]?=some (.cells Ef Ji (0,0))) (h0:tC.size≠0):
 (Extern.SlicesOverlaps.overlaps #[vA,vA] #[Tb] #[.slice (some a) la ca,.slice (some b) lb cb]).run P w= .ok (.bool false) w:=by
 have NS:(a.block != b.block)=true:=by simpa using hne
 have NT:(a.block==b.block)=false:=by simpa using hne
 have GD:w.shape? a.block=some (vz,tC.size):=by unfold World.shape?;rw[hA]
 have xk:w.shape? b.block=some (Ji,Ef.size):=by unfold World.shape?;rw[hB]
 have Nb:∀o,w.frozen? ⟨b.block,o,none⟩=false:=λo=>by unfold World.frozen?;simp only[hB];simp
 have Nc:w.frozen? b=false:=by unfold World.frozen?;simp only[hB];simp
 change Sem.run P (α:=Value) (do
  let some t:=(#[vA,vA]:Array TypeId)[0]?|stuck "slices.overlaps: no parameter types"
  let .slice elem<-underlying t|stuck "slices.overlaps: slice type expected"
  let size<-Go.sizeOf elem
  match(some a:Option Addr),(some b:Option Addr)with
  |some a,some b=>
   if la=0∨lb=0∨size=0 then pure (Value.bool false)
   else if a.block != b.block&&(<-frozen a)&&(<-frozen b)then unsupported .addressObserved
   else do
    if a.block != b.block then do
     noView a;noView b
     if<-mayBeOne a b then return Value.bool ((<-choose (.extern "sameAddr.stringBytes" 2))==1)
    pure (Value.bool (a.block==b.block&&a.off<b.off+lb*size&&b.off<a.off+la*size))
  |_,_=>pure (Value.bool false)) w=_
 by_cases hl:la=0∨lb=0∨size=0
 ·simp[run_underlying ht,hz,hl]
 ·obtain⟨sq,Nw⟩:∃k,tC.size=k+1:=⟨tC.size-1,by omega⟩
  rw[Nw]at GD
  cases h1:w.frozen? a<;>cases h2:w.frozen? ⟨a.block,sq+1,none⟩<;>simp[run_underlying ht,hz,hl,NS,NT,frozen,noView,viewAt,mayBeOne,stringish,shape,Sem.run,GD,xk,Nb,Nc,h1,h2]
theorem Sa {α:Type} {cells e6 L2 N rest:List α} {x y z:Nat} (h:cells=e6++L2++rest) (h1:e6.length=x) (hy:z<=cells.length) (hN:N=N) (hz:z=x+y):
 (cells.take z++L2++cells.drop (z+L2.length)).toArray.toList.take x++N++(cells.take z++L2++cells.drop (z+L2.length)).toArray.toList.drop (x+y)=e6++N++L2++cells.drop (z+L2.length):=by
 simp only
 have e1:(cells.take z++L2++cells.drop (z+L2.length)).take x=e6:=by
  rw[List.append_assoc,List.take_append_of_le_length (by rw[List.length_take];omega),List.take_take,Nat.min_eq_left (by omega),h,List.append_assoc,List.take_append_of_le_length (by omega),List.take_of_length_le (by omega)]
 have e2:(cells.take z++L2++cells.drop (z+L2.length)).drop (x+y)=L2++cells.drop (z+L2.length):=by
  rw[List.append_assoc,<-hz]
  have:(cells.take z).length=z:=by rw[List.length_take];omega
  conv=>lhs;arg 1;rw[<-this]
  rw[List.drop_left]
 rw[e1,e2]
 simp
theorem L0 {α:Type} {e6 L2 N D:List α} {x y:Nat} (h1:e6.length=x) (hN:N.length=y):
 (e6++N++D).toArray.toList.take (x+y)++L2++(e6++N++D).toArray.toList.drop (x+y+L2.length)=e6++N++L2++(e6++N++D).toArray.toList.drop (x+y+L2.length):=by
 congr 2
 simp only
 rw[List.take_append_of_le_length (by rw[List.length_append];omega),List.take_of_length_le (by rw[List.length_append];omega)]
set_option maxHeartbeats 4000000 in
theorem OZ (p:Option Addr) (A:Addr) (vc:Nat) (r:Value) (w W1:World)
 (et:∀ty,(Builtin.append_ #[22,22] ty #[.slice p 0 0,.slice (some A) 1 vc]).run Tryd.prog w= .ok r W1):
 Calls Tryd.prog 24 #[.slice p 0 0,.int .i64 0,.slice (some A) 1 vc] w λe w'=>e= .returned r/\w'=W1:=by
 go_enter Tryd.func24,Tryd.ntmps24
 go_wp2_with (at_builtin;refine o8 rfl (.tmp 23) (.tmp 24) 22 22 rfl _ _ rfl rfl (et _) ?_)
 go_wp2
 all_goals (go_ret;exact⟨rfl,rfl⟩)
theorem OY (w:World) (v0:Value) (a n:Nat) (e6 L2 N:List Value) (eE gW vc:Nat) (wx:Array Value) (vz:TypeId) (Fj:Nat×Nat)
 (p1:a<=n) (bx:n+1<=1073741824) (ga:e6.length=a*3) (hl2:L2.length=(n-a)*3) (jr:N.length=3)
 (Vj:∀u∈e6,u.oneCell'=true) (HU:∀u∈L2,u.oneCell'=true) (BN:∀u∈N,u.oneCell'=true)
 (Ao:w.heap[eE]?=some (.cells wx vz Fj)) (Gy:∀(j:Nat) (u:Value),N[j]?=some u->wx[gW+j]?=some u)
 (ho:(∃p,v0= .slice p 0 0/\n=0)∨∃(g cap:Nat) (cells:Array Value) (rest:List Value),v0= .slice (some ⟨g,0,none⟩) n cap/\(n<=cap/\(cap:Int)<=9223372036854775807)/\w.heap[g]?=some (.cells cells 39 (0,0))/\cells.toList=e6++L2++rest/\cells.size=cap*3/\0<cap/\eE≠g):
 Calls Tryd.prog 24 #[v0,.int .i64 a,.slice (some ⟨eE,gW,none⟩) 1 vc] w λe w'=>e8 w w' (qF v0)/\∃(G C:Nat) (cells:Array Value) (post:List Value),e= .returned (.slice (some ⟨G,0,none⟩) (n+1) C)/\w'.heap[G]?=some (.cells cells 39 (0,0))/\cells.toList=e6++N++L2++post/\n+1<=C/\(C:Int)<=9223372036854775807/\(qF v0=some G∨w.heap.size<=G):=by
 obtain⟨i0,eJ,hZ,z,p6,uS,oF⟩:∃i0,Tryd.prog.info? 39=some i0/\i0.size=3/\∃z,i0.zero=some z/\z.cells.size=3/\i0.bytes<=131072:=⟨_,rfl,by kernel_rfl,_,rfl,by kernel_rfl,by decide+kernel⟩
 have NM:eE<w.heap.size:=(Array.getElem?_eq_some_iff.1 Ao).1
 have L6:wx.size≠0:=by
  have Me:0<N.length:=by rw[jr];decide
  have:=Gy 0 _ (List.getElem?_eq_getElem Me)
  have:=(Array.getElem?_eq_some_iff.1 this).1
  omega
 have mF:∀w1:World,w1.heap[eE]?=w.heap[eE]?->∀j u,N[j]?=some u->w1.cell? ((⟨eE,gW,none⟩:Addr).add j)=some u:=λw1 h1 j u hu=>by
  rw[Addr.add_lit]
  have:=Gy j u hu
  simp only[World.cell?,h1,Ao,Option.isSome_none,Bool.false_eq_true,if_false]
  exact this
 have AW:∀w1:World,w1.heap[eE]?=w.heap[eE]?->Src Tryd.prog i0.size 22 (.slice (some ⟨eE,gW,none⟩) 1 vc) 1 N w1:=λw1 h1=>
  Src.ofSlice w1 Tryd.underlying22 ⟨eE,gW,none⟩ 1 vc _ (by rw[jr,hZ]) (mF w1 h1) BN
 rcases ho with⟨p,hv0,h0⟩|⟨g,cap,cells,rest,hv0,⟨MR,Ad⟩,hg,km,hsz,UO,hne⟩
 ·
  have ha0:a=0:=by omega
  subst h0 ha0
  have nt:e6=[]:=List.eq_nil_of_length_eq_zero (by omega)
  have hL2:L2=[]:=List.eq_nil_of_length_eq_zero (by omega)
  subst nt hL2
  have hC:=pO w (0+1) 0 39 (by omega)
  have et:∀ty,(Builtin.append_ #[22,22] ty #[.slice p 0 0,.slice (some ⟨eE,gW,none⟩) 1 vc]).run Tryd.prog w=_:=λty=>
   run_append_grow_src w 22 22 ty 39 i0 z Tryd.underlying22 eJ p6 p 0 0 [] (tJ _ _ _ _) _ 1 _ (AW w rfl) (by omega) (by omega) (growslice_fits (by omega) (by omega))
  rw[hv0]
  refine(OZ p ⟨eE,gW,none⟩ vc _ w _ et).mono ?_
  rintro e w' ⟨rfl,rfl⟩
  exact⟨vx w _ _,w.heap.size,grownCap w (0+1) 0 39,_,(Builtin.zeroCells z.cells (grownCap w (0+1) 0 39-(0+1))).toList,rfl,heap_alloc_new w.drew _,by simp,hC.1,by omega,.inr (Nat.le_refl _)⟩
 ·have cR:cells.toList.length=cap*3:=by rw[Array.length_toList];exact hsz
  have hown:qF v0=some g:=by
   obtain⟨c',rfl⟩:∃c',cap=c'+1:=⟨cap-1,by omega⟩
   rw[hv0];rfl
  have hlt:g<w.heap.size:=(Array.getElem?_eq_some_iff.1 hg).1
  have hl0:(e6++L2).length=n*3:=by rw[List.length_append,ga,hl2,<-Nat.add_mul];congr 1;omega
  have hcell:∀(w1:World) (o:Nat) (l:List Value) (pre post:List Value),w1.heap[g]?=w.heap[g]?->cells.toList=pre++l++post->pre.length=o->∀j u,l[j]?=some u->w1.cell? ((⟨g,o,none⟩:Addr).add j)=some u:=λw1 o l pre post h1 h2 h3 j u hu=>by
   rw[Addr.add_lit]
   simp only[World.cell?,h1,hg,Option.isSome_none,Bool.false_eq_true,if_false]
   have hlt:=(List.getElem?_eq_some_iff.1 hu).1
   rw[<-Array.getElem?_toList,h2,List.append_assoc,List.getElem?_append_right (by omega),List.getElem?_append_left (by omega),<-h3]
   rw[show pre.length+j-pre.length=j by omega];exact hu
  by_cases rY:a=n
  ·
   subst rY
   have hL2:L2=[]:=List.eq_nil_of_length_eq_zero (by rw[hl2];omega)
   subst hL2
   simp only[List.append_nil]at km hl0⊢
   by_cases hroom:a+1<=cap
   ·have et:∀ty,(Builtin.append_ #[22,22] ty #[.slice (some ⟨g,0,none⟩) a cap,.slice (some ⟨eE,gW,none⟩) 1 vc]).run Tryd.prog w=_:=λty=>
     sW (P:=Tryd.prog) w 22 22 ty 39 i0 Tryd.underlying22 eJ g a cap cells 39 hg _ 1 _ (AW w rfl) hroom (by rw[hZ,jr,hsz];omega)
    rw[hv0]
    refine(Tryd.G8 g a cap ⟨eE,gW,none⟩ vc _ w _ (by omega) (by omega) et).mono ?_
    rintro e w' ⟨rfl,rfl⟩
    rw[<-hv0]
    refine⟨by rw[hown];exact mV w g _,g,cap,_,cells.toList.drop (a*3+3),rfl,setRow_heap w g _ _ _ _ hg,?_,hroom,Ad,.inl hown⟩
    rw[hZ,jr]
    simp only[km]
    rw[List.take_append_of_le_length (by omega),List.take_of_length_le (by omega)]
   ·have hC:=pO w (a+1) cap 39 (by omega)
    have et:∀ty,(Builtin.append_ #[22,22] ty #[.slice (some ⟨g,0,none⟩) a cap,.slice (some ⟨eE,gW,none⟩) 1 vc]).run Tryd.prog w=_:=λty=>
     run_append_grow_src w 22 22 ty 39 i0 z Tryd.underlying22 eJ p6 (some ⟨g,0,none⟩) a cap e6 (run_firstCells_some w.drew i0.size a ⟨g,0,none⟩ a cap _ (by rw[ga,hZ]) (hcell w.drew 0 _ [] rest rfl (by rw[km];rfl) rfl)) _ 1 _ (AW w rfl) (by omega) (by omega) (growslice_fits (by omega) (by
      have:=Nat.mul_le_mul (show a+1<=1073741824 by omega) oF
      omega))
    rw[hv0]
    refine(Tryd.G8 g a cap ⟨eE,gW,none⟩ vc _ w _ (by omega) (by omega) et).mono ?_
    rintro e w' ⟨rfl,rfl⟩
    rw[<-hv0]
    exact⟨vx w _ _,w.heap.size,grownCap w (a+1) cap 39,_,(Builtin.zeroCells z.cells (grownCap w (a+1) cap 39-(a+1))).toList,rfl,heap_alloc_new w.drew _,by simp,hC.1,by omega,.inr (Nat.le_refl _)⟩
  ·have rY:a<n:=by omega
   by_cases hroom:n+1<=cap
   ·
    have hcs:cells.toList=e6++L2++rest:=km
    have mz:∀ty,(Builtin.copy_ #[22,22] ty #[.slice (some ⟨g,(a+1)*3,none⟩) (n+1-(a+1)) (cap-(a+1)),.slice (some ⟨g,a*3,none⟩) (n+1-a) (cap-a)]).run Tryd.prog w.drew=_:=λty=>
     yi w.drew 22 22 ty 39 i0 Tryd.underlying22 eJ g ((a+1)*3) (n+1-(a+1)) (cap-(a+1)) ⟨g,a*3,none⟩ (n+1-a) (cap-a) cells 39 L2 hg
      (by rw[hl2,hZ,show Nat.min (n+1-a) (n+1-(a+1))=n-a by show min _ _=_;omega]) (hcell w.drew (a*3) _ e6 rest rfl hcs ga) (by rw[hl2,hsz];omega) HU
    obtain⟨c1,hc1⟩:∃c1,c1=(cells.toList.take ((a+1)*3)++L2++cells.toList.drop ((a+1)*3+L2.length)).toArray:=⟨_,rfl⟩
    rw[<-hc1]at mz
    have hg1:(w.drew.setRow g c1).heap[g]?=some (.cells c1 39 (0,0)):=setRow_heap w.drew g _ _ _ _ hg
    have pZ:c1.size=cap*3:=by
     rw[hc1];simp only[List.size_toArray,List.length_append,List.length_take,List.length_drop,cR,hl2];omega
    have p2:∀ty,(Builtin.copy_ #[22,22] ty #[.slice (some ⟨g,a*3,none⟩) (n+1-a) (cap-a),.slice (some ⟨eE,gW,none⟩) 1 vc]).run Tryd.prog (w.drew.setRow g c1)=_:=λty=>
     yi (w.drew.setRow g c1) 22 22 ty 39 i0 Tryd.underlying22 eJ g (a*3) (n+1-a) (cap-a) ⟨eE,gW,none⟩ 1 vc c1 39 N hg1
      (by rw[jr,hZ,show Nat.min 1 (n+1-a)=1 by show min _ _=_;omega]) (mF _ (setRow_other w.drew g eE c1 hne)) (by rw[jr,pZ];omega) BN
    have Gw:(callFunc 38 #[.slice (some ⟨eE,gW,none⟩) 1 vc,.slice (some ⟨g,(a+1)*3,none⟩) (n-a) (cap-(a+1))]).run Tryd.prog w= .ok (.value (.bool false)) w:=by
     rw[run_callFunc_extern Tryd.func38 (by kernel_rfl) (by kernel_rfl) (by kernel_rfl) (e:=Extern.SlicesOverlaps.overlaps #[22,22] #[4]) (by kernel_rfl)]
     rw[Sn w 22 4 39 Tryd.underlying22 i0.size (λw=>by simp[Go.sizeOf,typeInfo,eJ]) ⟨eE,gW,none⟩ ⟨g,(a+1)*3,none⟩ 1 vc (n-a) (cap-(a+1)) hne wx cells vz 39 Fj Ao hg L6]
     rfl
    rw[hv0]
    refine(Tryd.O1 g n cap a ⟨eE,gW,none⟩ vc _ _ w _ _ rY hroom (by omega) Gw mz p2).mono ?_
    rintro e w' ⟨rfl,rfl⟩
    rw[<-hv0]
    refine⟨by rw[hown];exact e8.vD (w:=w) (w1:=w.drew.setRow g c1) (mV w.drew g c1) (mV _ g _) (.inl rfl),g,cap,_,cells.toList.drop ((a+1)*3+L2.length),rfl,setRow_heap _ g _ _ _ _ hg1,?_,hroom,Ad,.inl hown⟩
    simp only[jr]
    rw[hc1]
    exact Sa hcs ga (by simp only[cR];omega) rfl (by rw[Nat.succ_mul])
   ·
    have hka:a+(n+1-a)=n+1:=by omega
    have AD:((n:Int)+1-(a:Int))=((n+1-a:Nat):Int):=by omega
    have hC:=pO w (n+1) cap 39 (by omega)
    have wU:=λty=>Lib.run_append_grow_zeros (P:=Tryd.prog) w 22 3 ty 39 i0 z .i64 .i64 Tryd.underlying22 Tryd.underlying3 eJ p6 (some ⟨g,0,none⟩) a cap e6
     (run_firstCells_some w.drew i0.size a ⟨g,0,none⟩ a cap _ (by rw[ga,hZ]) (hcell w.drew 0 _ [] (L2++rest) rfl (by rw[km,List.nil_append,List.append_assoc]) rfl)) (n+1-a) (by omega) (by rw[hZ];decide) (by omega) (by omega)
     (by
       have:=Nat.mul_le_mul (show n+1-a<=1073741824 by omega) oF
       omega)
     (growslice_fits (by omega) (by
       have:=Nat.mul_le_mul (show a+(n+1-a)<=1073741824 by omega) oF
       omega))
    rw[hka]at wU
    obtain⟨C,zP⟩:∃C,C=grownCap w (n+1) cap 39:=⟨_,rfl⟩
    rw[<-zP]at wU hC
    obtain⟨bK,hc0⟩:∃bK:Array Value,bK=e6.toArray++Builtin.zeroCells z.cells (n+1-a)++Builtin.zeroCells z.cells (C-(n+1)):=⟨_,rfl⟩
    rw[<-hc0,<-AD]at wU
    have FT:bK.size=C*3:=by
     rw[hc0];simp only[Array.size_append,List.size_toArray,ga,qW,uS];omega
    have MQ:bK.toList.take (a*3)=e6:=by
     rw[hc0,Array.toList_append,Array.toList_append,List.append_assoc,List.take_append_of_le_length (by simp only[ga];omega),List.take_of_length_le (by simp only[ga];omega)]
    have Fy:(w.drew.alloc (.cells bK 39)).heap[w.heap.size]?=some (.cells bK 39 (0,0)):=heap_alloc_new w.drew _
    have hold:∀k:Nat,k<w.heap.size->(w.drew.alloc (.cells bK 39)).heap[k]?=w.heap[k]?:=λk hk=>((World.Extends.refl w.drew).alloc _).block k hk
    have mz:∀ty,(Builtin.copy_ #[22,22] ty #[.slice (some ⟨w.heap.size,a*3,none⟩) (n+1-a) (C-a),.slice (some ⟨eE,gW,none⟩) 1 vc]).run Tryd.prog (w.drew.alloc (.cells bK 39))=_:=λty=>
     yi _ 22 22 ty 39 i0 Tryd.underlying22 eJ w.heap.size (a*3) (n+1-a) (C-a) ⟨eE,gW,none⟩ 1 vc bK 39 N Fy
      (by rw[jr,hZ,show Nat.min 1 (n+1-a)=1 by show min _ _=_;omega]) (mF _ (hold eE NM)) (by rw[jr,FT];omega) BN
    obtain⟨c1,hc1⟩:∃c1,c1=(bK.toList.take (a*3)++N++bK.toList.drop (a*3+N.length)).toArray:=⟨_,rfl⟩
    rw[<-hc1]at mz
    have pZ:c1.size=C*3:=by
     rw[hc1];simp only[List.size_toArray,List.length_append,List.length_take,List.length_drop,Array.length_toList,FT,jr];omega
    obtain⟨W2,hW2⟩:∃W2,W2=(w.drew.alloc (.cells bK 39)).setRow w.heap.size c1:=⟨_,rfl⟩
    have zR:W2.heap[w.heap.size]?=some (.cells c1 39 (0,0)):=by rw[hW2];exact setRow_heap _ _ _ _ _ _ Fy
    have N1:W2.drew.heap[g]?=w.heap[g]?:=by
     rw[hW2]
     show((w.drew.alloc (.cells bK 39)).setRow w.heap.size c1).heap[g]?=_
     rw[setRow_other _ _ _ _ (by omega),hold g hlt]
    have p2:∀ty,(Builtin.copy_ #[22,22] ty #[.slice (some ⟨w.heap.size,(a+1)*3,none⟩) (n+1-(a+1)) (C-(a+1)),.slice (some ⟨g,a*3,none⟩) (n-a) (cap-a)]).run Tryd.prog W2.drew=_:=λty=>
     yi W2.drew 22 22 ty 39 i0 Tryd.underlying22 eJ w.heap.size ((a+1)*3) (n+1-(a+1)) (C-(a+1)) ⟨g,a*3,none⟩ (n-a) (cap-a) c1 39 L2 zR
      (by rw[hl2,hZ,show Nat.min (n-a) (n+1-(a+1))=n-a by show min _ _=_;omega]) (hcell W2.drew (a*3) _ e6 rest N1 km ga) (by rw[hl2,pZ];omega) HU
    rw[<-hW2]at mz
    rw[hv0]
    refine(Tryd.O0 g n cap a w.heap.size C ⟨eE,gW,none⟩ vc _ _ w _ W2 _ rY MR (by omega) hC.1 (by omega) wU mz p2).mono ?_
    rintro e w' ⟨rfl,rfl⟩
    rw[<-hv0]
    refine⟨?_,w.heap.size,C,_,c1.toList.drop ((a+1)*3+L2.length),rfl,setRow_heap _ _ _ _ _ _ zR,?_,hC.1,by omega,.inr (Nat.le_refl _)⟩
    ·rw[hW2]
     have s1:=e8.vD (vx w (.cells bK 39) (qF v0)) (mV _ w.heap.size c1) (.inr (Nat.le_refl _))
     exact e8.vD (e8.Lr s1) (mV _ w.heap.size _) (.inr (Nat.le_refl _))
    ·simp only
     rw[hc1,jr]
     simp only
     rw[MQ,Nat.succ_mul]
     exact L0 ga jr
end Go.bD
namespace Go.bD
open Go Go.aZ Go.Proofs Go.RowKit
def yE (w w':World) (n:Nat) (vs:List Value) (x:Value):Prop:=
 (n=0/\∃p,x= .slice p 0 0)∨(0<n/\∃(g C:Nat) (cells:Array Value) (rest:List Value),x= .slice (some ⟨g,0,none⟩) n C/\w.heap.size<=g/\w'.heap[g]?=some (.cells cells 39 (0,0))/\cells.toList=vs++rest/\cells.size=C*3/\n<=C/\(C:Int)<=9223372036854775807)
set_option maxHeartbeats 4000000 in
theorem K4 (w:World):Calls Tryd.prog 19 #[.slice none 0 0] w λe w'=>e= .returned (.slice none 0 0)/\w'=w:=by
 have h0:=Cn w Tryd.underlying22 none 0 0
 go_enter Tryd.func19,Tryd.ntmps19
 go_wp2
 all_goals (go_ret;exact⟨rfl,rfl⟩)
set_option maxHeartbeats 4000000 in
theorem Ep (w:World) (a:Addr) (n c:Nat) (r:Value) (W1:World)
 (et:∀ty,(Builtin.append_ #[22,22] ty #[.slice (some ⟨w.heap.size,0,none⟩) 0 0,.slice (some a) n c]).run Tryd.prog (w.alloc (.cells #[] 39))= .ok r W1):
 Calls Tryd.prog 19 #[.slice (some a) n c] w λe w'=>e= .returned r/\w'=W1:=by
 have h0:=Cn w Tryd.underlying22 (some a) n c
 go_enter Tryd.func19,Tryd.ntmps19
 go_wp2_with (at_builtin;refine o8 rfl (.tmp 5) (.tmp 6) 22 22 rfl _ _ rfl rfl (et _) ?_)
 go_wp2
 all_goals (go_ret;exact⟨rfl,rfl⟩)
theorem SK (w:World) (o:Obj) (own:Option Nat):e8 w (w.alloc o) own:=
 have h:=(World.Extends.refl w).alloc o
 ⟨h.os,h.tape,h.output,h.size,λk hk _=>h.block k hk⟩
theorem zm (w:World) (v:Value) (n:Nat) (vs:List Value) (hn:n<=1073741824) (hl:vs.length=n*3) (one:∀u∈vs,u.oneCell'=true)
 (hv:(∃p,v= .slice p 0 0/\n=0)∨∃(a:Addr) (c:Nat),v= .slice (some a) n c/\∀(j:Nat) (u:Value),vs[j]?=some u->(a.add j).block<w.heap.size/\w.cell? (a.add j)=some u):
 Calls Tryd.prog 19 #[v] w λe w'=>w.Extends w'/\∃x,e= .returned x/\yE w w' n vs x:=by
 obtain⟨i0,eJ,hZ,z,p6,uS,oF⟩:∃i0,Tryd.prog.info? 39=some i0/\i0.size=3/\∃z,i0.zero=some z/\z.cells.size=3/\i0.bytes<=131072:=⟨_,rfl,by kernel_rfl,_,rfl,by kernel_rfl,by decide+kernel⟩
 have main:∀(a:Addr) (c:Nat),v= .slice (some a) n c->(∀(j:Nat) (u:Value),vs[j]?=some u->(a.add j).block<w.heap.size/\w.cell? (a.add j)=some u)->Calls Tryd.prog 19 #[v] w λe w'=>w.Extends w'/\∃x,e= .returned x/\yE w w' n vs x:=λa c hv hc=>by
  subst hv
  have hg0:(w.alloc (.cells #[] 39)).heap[w.heap.size]?=some (.cells #[] 39 (0,0)):=heap_alloc_new w _
  by_cases h0:n=0
  ·subst h0
   have hz:vs=[]:=List.eq_nil_of_length_eq_zero (by omega)
   subst hz
   have et:∀ty,(Builtin.append_ #[22,22] ty #[.slice (some ⟨w.heap.size,0,none⟩) 0 0,.slice (some a) 0 c]).run Tryd.prog (w.alloc (.cells #[] 39))=_:=λty=>
    sW (P:=Tryd.prog) _ 22 22 ty 39 i0 Tryd.underlying22 eJ w.heap.size 0 0 #[] 39 hg0 _ 0 [] (Src.BK _ Tryd.underlying22 (some a) c) (by omega) (by simp)
   refine(Ep w a 0 c _ _ et).mono ?_
   rintro e w' ⟨rfl,rfl⟩
   exact⟨(e8.vD (SK w (.cells #[] 39) none) (mV _ w.heap.size _) (.inr (Nat.le_refl _))).ext,_,rfl,.inl ⟨rfl,_,rfl⟩⟩
  ·have mF:Src Tryd.prog i0.size 22 (.slice (some a) n c) n vs (w.alloc (.cells #[] 39)):=
    Src.ofSlice _ Tryd.underlying22 a n c vs (by rw[hl,hZ]) (λj u hu=>by
     obtain⟨h1,h2⟩:=hc j u hu
     rw[((World.Extends.refl w).alloc (.cells #[] 39)).cell _ h1];exact h2) one
   have hC:=pO (w.alloc (.cells #[] 39)) (0+n) 0 39 (by omega)
   have et:∀ty,(Builtin.append_ #[22,22] ty #[.slice (some ⟨w.heap.size,0,none⟩) 0 0,.slice (some a) n c]).run Tryd.prog (w.alloc (.cells #[] 39))=_:=λty=>
    run_append_grow_src _ 22 22 ty 39 i0 z Tryd.underlying22 eJ p6 (some ⟨w.heap.size,0,none⟩) 0 0 [] (tJ _ _ _ _) _ n vs mF (by omega) (by omega) (growslice_fits (by omega) (by
     have:=Nat.mul_le_mul (show 0+n<=1073741824 by omega) oF
     omega))
   refine(Ep w a n c _ _ et).mono ?_
   rintro e w' ⟨rfl,rfl⟩
   have hx:w.Extends (w.alloc (.cells #[] 39)):=(World.Extends.refl w).alloc _
   refine⟨hx.trans (vx _ _ none).ext,_,rfl,.inr ⟨by omega,(w.alloc (.cells #[] 39)).heap.size,grownCap (w.alloc (.cells #[] 39)) (0+n) 0 39,_,(Builtin.zeroCells z.cells (grownCap (w.alloc (.cells #[] 39)) (0+n) 0 39-(0+n))).toList,by rw[Nat.zero_add],hx.size,heap_alloc_new (w.alloc (.cells #[] 39)).drew _,by simp,?_,by have:=hC.1;omega,by omega⟩⟩
   simp only[Array.size_append,List.size_toArray,List.nil_append,hl,qW,uS]
   have:=hC.1
   omega
 rcases hv with⟨p,hv,h0⟩|⟨a,c,hv,hc⟩
 ·cases p with
  |none=>
   subst hv
   refine(K4 w).mono ?_
   rintro e w' ⟨rfl,rfl⟩
   exact⟨World.Extends.refl _,_,rfl,.inl ⟨h0,none,rfl⟩⟩
  |some a=>
   refine main a 0 (by rw[hv,h0]) λj u hu=>?_
   have hz:vs=[]:=List.eq_nil_of_length_eq_zero (by omega)
   rw[hz]at hu;simp at hu
 ·exact main a c hv hc
end Go.bD
namespace Go.bD
open Go Go.aZ Go.Proofs Go.RowKit
theorem rG {w w2 w3:World} {G:Nat} (h:w.Extends w2) (h2:e8 w2 w3 (some G)) (hG:w.heap.size<=G):w.Extends w3:=
 (e8.vD (w:=w) (w1:=w2) (own:=none) ⟨h.os,h.tape,h.output,h.size,λk hk _=>h.block k hk⟩ h2 (.inr hG)).ext
set_option maxHeartbeats 4000000 in
theorem PR (v0 v1:Value) (w:World) (i dM:Int) (he:¬dM=0) (hk:Calls Tryd.prog 12 #[v0,v1] w λe w1=>w.Extends w1/\e= .returned (.tuple #[.int .i64 i,.int .i64 dM])):
 Calls Tryd.prog 8 #[v0,v1] w λe w1=>w.Extends w1/\e= .returned (.tuple #[v0,.int .i64 dM]):=by
 go_enter Tryd.func8,Tryd.ntmps8
 go_wp2_with (go_at_call 12;refine hk.mono ?_)
 rintro e w1 ⟨hx,rfl⟩
 go_wp2
 all_goals (go_ret2;exact⟨hx,rfl⟩)
set_option maxHeartbeats 4000000 in
theorem PT (v0 v1:Value) (w:World) (i:Nat) (hi:i<=1073741824) (D Q:World->Value->Prop) (hk:Calls Tryd.prog 12 #[v0,v1] w λe w1=>w.Extends w1/\e= .returned (.tuple #[.int .i64 i,.int .i64 0]))
 (hc:∀w1,w.Extends w1->Calls Tryd.prog 19 #[v0] w1 λe w2=>∃x,e= .returned x/\D w2 x)
 (hd:∀w2 x,D w2 x->Calls Tryd.prog 20 #[x,.int .i64 i,.int .i64 ((i:Int)+1)] w2 λe w3=>∃y,e= .returned y/\Q w3 y):
 Calls Tryd.prog 8 #[v0,v1] w λe w'=>∃y,e= .returned (.tuple #[y,.int .i64 0])/\Q w' y:=by
 have f13:IntKind.i64.wrap ((i:Int)+1)=(i:Int)+1:=by rw[IntKind.wrap_i64];omega
 go_enter Tryd.func8,Tryd.ntmps8
 go_wp2_with (go_at_call 12;refine hk.mono ?_)
 rintro e w1 ⟨hx,rfl⟩
 go_wp2_with (go_at_call 19;refine(hc _ hx).mono ?_)
 rintro e w2 ⟨x,rfl,hD⟩
 go_wp2_with (go_at_call 20;refine(hd _ _ hD).mono ?_)
 rintro e w3 ⟨y,rfl,hQ⟩
 go_wp2
 go_ret2
 exact⟨y,rfl,hQ⟩
set_option maxHeartbeats 4000000 in
theorem RW (v0 v1 v2:Value) (w:World) (b1 b2 b3:Bool) (hb:(b1&&(b2&&b3))=false)
 (hR:Calls Tryd.prog 21 #[v0] w λe w1=>w.Extends w1/\e= .returned (.bool b1))
 (jQ:∀w1,w.Extends w1->Calls Tryd.prog 15 #[v1] w1 λe w2=>w.Extends w2/\e= .returned (.bool b2))
 (hU:∀w1,w.Extends w1->Calls Tryd.prog 22 #[v2] w1 λe w2=>w.Extends w2/\e= .returned (.bool b3)):
 Calls Tryd.prog 9 #[v0,v1,v2] w λe w1=>w.Extends w1/\e= .returned (.tuple #[v0,.int .i64 1]):=by
 cases b1 with
 |false=>
  go_enter Tryd.func9,Tryd.ntmps9
  go_wp2_with (go_at_call 21;refine hR.mono ?_)
  rintro e w1 ⟨hx,rfl⟩
  go_wp2
  go_ret2
  exact⟨hx,rfl⟩
 |true=>
  cases b2 with
  |false=>
   go_enter Tryd.func9,Tryd.ntmps9
   go_wp2_with (go_at_call 21;refine hR.mono ?_)
   rintro e w1 ⟨hx,rfl⟩
   go_wp2_with (go_at_call 15;refine(jQ _ hx).mono ?_)
   rintro e w2 ⟨hx2,rfl⟩
   go_wp2
   go_ret2
   exact⟨hx2,rfl⟩
  |true=>
   have:b3=false:=by simpa using hb
   subst this
   go_enter Tryd.func9,Tryd.ntmps9
   go_wp2_with (go_at_call 21;refine hR.mono ?_)
   rintro e w1 ⟨hx,rfl⟩
   go_wp2_with (go_at_call 15;refine(jQ _ hx).mono ?_)
   rintro e w2 ⟨hx2,rfl⟩
   go_wp2_with (go_at_call 22;refine(hU _ hx2).mono ?_)
   rintro e w3 ⟨hx3,rfl⟩
   go_wp2
   go_ret2
   exact⟨hx3,rfl⟩
set_option maxHeartbeats 4000000 in
theorem RZ (v0 v1 v2:Value) (w:World) (i:Int)
 (hR:Calls Tryd.prog 21 #[v0] w λe w1=>w.Extends w1/\e= .returned (.bool true))
 (jQ:∀w1,w.Extends w1->Calls Tryd.prog 15 #[v1] w1 λe w2=>w.Extends w2/\e= .returned (.bool true))
 (hU:∀w1,w.Extends w1->Calls Tryd.prog 22 #[v2] w1 λe w2=>w.Extends w2/\e= .returned (.bool true))
 (hL:∀w1,w.Extends w1->Calls Tryd.prog 23 #[v0,v1] w1 λe w2=>w.Extends w2/\e= .returned (.tuple #[.int .i64 i,.bool true])):
 Calls Tryd.prog 9 #[v0,v1,v2] w λe w1=>w.Extends w1/\e= .returned (.tuple #[v0,.int .i64 6]):=by
 go_enter Tryd.func9,Tryd.ntmps9
 go_wp2_with (go_at_call 21;refine hR.mono ?_)
 rintro e w1 ⟨hx,rfl⟩
 go_wp2_with (go_at_call 15;refine(jQ _ hx).mono ?_)
 rintro e w2 ⟨hx2,rfl⟩
 go_wp2_with (go_at_call 22;refine(hU _ hx2).mono ?_)
 rintro e w3 ⟨hx3,rfl⟩
 go_wp2_with (go_at_call 23;refine(hL _ hx3).mono ?_)
 rintro e w4 ⟨uO,rfl⟩
 go_wp2
 go_ret2
 exact⟨uO,rfl⟩
set_option maxHeartbeats 4000000 in
theorem RX (p:Option Addr) (c:Nat) (v1 v2:Value) (w:World) (i:Int)
 (hR:Calls Tryd.prog 21 #[.slice p 16 c] w λe w1=>w.Extends w1/\e= .returned (.bool true))
 (jQ:∀w1,w.Extends w1->Calls Tryd.prog 15 #[v1] w1 λe w2=>w.Extends w2/\e= .returned (.bool true))
 (hU:∀w1,w.Extends w1->Calls Tryd.prog 22 #[v2] w1 λe w2=>w.Extends w2/\e= .returned (.bool true))
 (hL:∀w1,w.Extends w1->Calls Tryd.prog 23 #[.slice p 16 c,v1] w1 λe w2=>w.Extends w2/\e= .returned (.tuple #[.int .i64 i,.bool false])):
 Calls Tryd.prog 9 #[.slice p 16 c,v1,v2] w λe w1=>w.Extends w1/\e= .returned (.tuple #[.slice p 16 c,.int .i64 10]):=by
 go_enter Tryd.func9,Tryd.ntmps9
 go_wp2_with (go_at_call 21;refine hR.mono ?_)
 rintro e w1 ⟨hx,rfl⟩
 go_wp2_with (go_at_call 15;refine(jQ _ hx).mono ?_)
 rintro e w2 ⟨hx2,rfl⟩
 go_wp2_with (go_at_call 22;refine(hU _ hx2).mono ?_)
 rintro e w3 ⟨hx3,rfl⟩
 go_wp2_with (go_at_call 23;refine(hL _ hx3).mono ?_)
 rintro e w4 ⟨uO,rfl⟩
 go_wp2
 go_ret2
 exact⟨uO,rfl⟩
set_option maxHeartbeats 4000000 in
theorem R0 (p:Option Addr) (n c:Nat) (s1 s2:ByteArray) (w:World) (i:Nat) (hn:¬(n:Int)=16) (D Q:World->Value->Prop)
 (hR:Calls Tryd.prog 21 #[.slice p n c] w λe w1=>w.Extends w1/\e= .returned (.bool true))
 (jQ:∀w1,w.Extends w1->Calls Tryd.prog 15 #[.string s1] w1 λe w2=>w.Extends w2/\e= .returned (.bool true))
 (hU:∀w1,w.Extends w1->Calls Tryd.prog 22 #[.string s2] w1 λe w2=>w.Extends w2/\e= .returned (.bool true))
 (hL:∀w1,w.Extends w1->Calls Tryd.prog 23 #[.slice p n c,.string s1] w1 λe w2=>w.Extends w2/\e= .returned (.tuple #[.int .i64 i,.bool false]))
 (hc:∀w1,w.Extends w1->Calls Tryd.prog 19 #[.slice p n c] w1 λe w2=>∃x,e= .returned x/\D w2 x)
 (hd:∀w2 x,D w2 x->Calls Tryd.prog 24 #[x,.int .i64 i,.slice (some ⟨w2.heap.size,0,none⟩) 1 1] (w2.alloc (.cells #[.string s1,.string s2,.slice none 0 0] 39)) λe w3=>∃y,e= .returned y/\Q w3 y):
 Calls Tryd.prog 9 #[.slice p n c,.string s1,.string s2] w λe w'=>∃y,e= .returned (.tuple #[y,.int .i64 0])/\Q w' y:=by
 go_enter Tryd.func9,Tryd.ntmps9
 go_wp2_with (go_at_call 21;refine hR.mono ?_)
 rintro e w1 ⟨hx,rfl⟩
 go_wp2_with (go_at_call 15;refine(jQ _ hx).mono ?_)
 rintro e w2 ⟨hx2,rfl⟩
 go_wp2_with (go_at_call 22;refine(hU _ hx2).mono ?_)
 rintro e w3 ⟨hx3,rfl⟩
 go_wp2_with (go_at_call 23;refine(hL _ hx3).mono ?_)
 rintro e w4 ⟨uO,rfl⟩
 go_wp2_with (go_at_call 19;refine(hc _ uO).mono ?_)
 rintro e yw ⟨x,rfl,hD⟩
 go_wp2_with (go_at_call 24;refine(hd _ _ hD).mono ?_)
 rintro e JA ⟨y,rfl,hQ⟩
 go_wp2
 go_ret2
 exact⟨y,rfl,hQ⟩
end Go.bD
namespace Go.bD
open Go Go.aZ Go.Proofs Go.RowKit
set_option maxHeartbeats 4000000 in
theorem K3 (s:ak) (w:World) (hq:Calls Tryd.prog 15 #[.string (aH s)] w λe w2=>w.Extends w2/\e= .returned (.bool (b8 s))):
 Calls Tryd.prog 14 #[.string (aH s)] w λe w2=>w.Extends w2/\e= .returned (.bool !b8 s):=by
 go_enter Tryd.func14,Tryd.ntmps14
 go_wp2_with (go_at_call 15;refine hq.mono ?_)
 rintro e w2 ⟨hx,rfl⟩
 go_wp2
 go_ret
 exact⟨hx,rfl⟩
def yJ (l:List ak) (r:Int):Prop:=(0<=r↔l.all b8=false)/\-1<=r
set_option maxHeartbeats 4000000 in
theorem OW (l:List ak) (p:Option Addr) (g o cap:Nat) (w:World) (hl:l.length<=1073741824) (hp:0<l.length->p=some ⟨g,o,none⟩)
 (hc:∀w1,w.Extends w1->∀j,j<l.length->w1.cell? ⟨g,o+j,none⟩=some (.string (aH (l.getD j []))))
 (hq:∀w1,w.Extends w1->∀s∈l,Calls Tryd.prog 15 #[.string (aH s)] w1 λe w2=>w1.Extends w2/\e= .returned (.bool (b8 s))):
 Calls Tryd.prog 27 #[.slice p l.length cap,.func (.func 14) #[] #[]] w λe w'=>w.Extends w'/\∃r:Int,e= .returned (.int .i64 r)/\yJ l r:=by
 go_enter Tryd.func27,Tryd.ntmps27
 go_wp2
 go_loopw [8] (λvi wr=>∃i:Nat,vi= .int .i64 i/\i<=l.length/\Hid ((l.take i).all b8=true)/\w.Extends wr) (λvi _=>l.length-(RowKit.intOf vi).toNat)
 case atStart=>exact⟨0,rfl,Nat.zero_le _,by simp[Hid],World.Extends.refl _⟩
 case round=>
  obtain⟨i,rfl,hi,hI,hx⟩:=hrel
  by_cases hlt:i<l.length
  ·have U0:(i:Int)<(l.length:Int):=by omega
   have p9:¬((i:Int)<0):=by omega
   have hcell:=hc _ hx i hlt
   have hs:l.getD i []∈l:=by simp only[List.getD,List.getElem?_eq_getElem hlt,Option.getD_some];exact List.getElem_mem hlt
   have qc:=hp (by omega)
   subst qc
   have AJ:b8 (l.getD i [])=true->Hid ((l.take (i+1)).all b8=true):=λhb=>by
    have hI':(l.take i).all b8=true:=hI
    have uI:l.take (i+1)=l.take i++[l.getD i []]:=by
     rw[List.take_add_one,List.getElem?_eq_getElem hlt]
     simp[List.getD,hlt]
    show(l.take (i+1)).all b8=true
    rw[uI,List.all_append,hI'];simp only[List.all_cons,hb,List.all_nil];rfl
   obtain⟨s,ks⟩:∃s,s=l.getD i []:=⟨_,rfl⟩
   rw[<-ks]at hcell hs
   have sg:=K3 _ _ (hq _ hx _ hs)
   have AJ:b8 s=true->Hid ((l.take (i+1)).all b8=true):=λhb=>AJ (by rw[<-ks];exact hb)
   have kp:b8 s=false->yJ l i:=λhb=>⟨⟨λ_=>by rw[List.all_eq_false];exact⟨_,hs,by rw[hb];decide⟩,λ_=>by omega⟩,by omega⟩
   clear hc hq ks hp hI hs
   go_wp2_with (go_at_call 14;refine sg.mono ?_)
   rintro e w2 hx2 rfl
   cases hb:b8 s with
   |true=>
    go_wp2
    go_roundw
    case rel=>exact⟨i+1,by simp,by omega,AJ hb,hx.trans hx2⟩
    case measure=>simp[RowKit.intOf];omega
   |false=>
    go_wp2
    go_ret
    exact⟨hx.trans hx2,_,rfl,kp hb⟩
  ·have dN:¬(i:Int)<(l.length:Int):=by omega
   have hI':(l.take i).all b8=true:=hI
   rw[List.take_of_length_le (by omega)]at hI'
   have kp:yJ l (-1):=⟨⟨λh=>by omega,λh=>by rw[hI']at h;cases h⟩,by omega⟩
   clear hI hI' hc hq
   go_wp2
   go_ret
   exact⟨hx,_,rfl,kp⟩
set_option maxHeartbeats 4000000 in
theorem Lf (l:List ak) (p:Option Addr) (g o cap:Nat) (w:World) (hl:l.length<=1073741824) (hp:0<l.length->p=some ⟨g,o,none⟩)
 (hc:∀w1,w.Extends w1->∀j,j<l.length->w1.cell? ⟨g,o+j,none⟩=some (.string (aH (l.getD j []))))
 (hq:∀w1,w.Extends w1->∀s∈l,Calls Tryd.prog 15 #[.string (aH s)] w1 λe w2=>w1.Extends w2/\e= .returned (.bool (b8 s))):
 Calls Tryd.prog 13 #[.slice p l.length cap,.func (.func 14) #[] #[]] w λe w'=>w.Extends w'/\e= .returned (.bool !l.all b8):=by
 have h:=OW l p g o cap w hl hp hc hq
 clear hc hq hp
 go_enter Tryd.func13,Tryd.ntmps13
 go_wp2_with (go_at_call 27;refine h.mono ?_)
 rintro e w2 ⟨hx,r,rfl,hr⟩
 obtain⟨b,hb,hd⟩:∃b:Bool,b=(!l.all b8)/\((0<=r)↔b=true):=⟨_,rfl,by rw[hr.1];cases l.all b8<;>decide⟩
 have UQ:decide (0<=r)=b:=by
  cases b with
  |true=>exact decide_eq_true (hd.2 rfl)
  |false=>exact decide_eq_false λh=>by have:=hd.1 h;cases this
 clear hr hd
 go_wp2
 go_ret
 exact⟨hx,rfl⟩
end Go.bD
namespace Go.bD
open Go Go.aZ Go.Proofs Go.RowKit
theorem IP {P:Program} (w:World) (t gk ty e:TypeId) (i:TypeInfo) (ht:P.underlying t=some (.slice e)) (hi:P.info? e=some i) (x:Value) (hs:Src P i.size gk x 0 [] w):
 (Builtin.append_ #[t,gk] ty #[.slice none 0 0,x]).run P w= .ok (.slice none 0 0) w:=by
 have hc:=hs.cells
 rcases hs.kind with⟨e',hk⟩|hk<;>simp[Builtin.append_,run_underlying ht,run_underlying hk,sizeOf,typeInfo,hi,hs.len,hc]
set_option maxHeartbeats 4000000 in
theorem L3 (w:World):Calls Tryd.prog 30 #[.slice none 0 0,.int .i64 0] w λe w'=>e= .returned (.slice none 0 0)/\w'=w:=by
 go_enter Tryd.func30,Tryd.ntmps30
 go_wp2
 go_ret
 exact⟨rfl,rfl⟩
set_option maxHeartbeats 4000000 in
theorem L1 (w:World) (n G C:Nat) (hn:0<n) (bZ:n<=1073741824) (W1:World)
 (et:∀ty,(Builtin.append_ #[37,3] ty #[.slice none 0 0,.int .i64 n]).run Tryd.prog w= .ok (.slice (some ⟨G,0,none⟩) n C) W1):
 Calls Tryd.prog 30 #[.slice none 0 0,.int .i64 n] w λe w'=>e= .returned (.slice (some ⟨G,0,none⟩) 0 C)/\w'=W1:=by
 have f1:¬(n:Int)<0:=by omega
 have f2:(0:Int)<n:=by omega
 go_enter Tryd.func30,Tryd.ntmps30
 go_wp2_with (at_builtin;refine o8 rfl (.tmp 20) (.tmp 21) 37 3 rfl _ _ rfl rfl (et _) ?_)
 go_wp2
 go_ret
 exact⟨rfl,rfl⟩
set_option maxHeartbeats 8000000 in
theorem Eu (A n0 n1 bK c1:Nat) (p0 p1:Option Addr) (g0 g1 g2:Value) (w W0 W1 W2:World) (hn:n0+n1<=1073741824)
 (a0:w.cell? ⟨A,0,none⟩=some (.slice p0 n0 bK)) (a1:w.cell? ⟨A,1,none⟩=some (.slice p1 n1 c1))
 (b0:W0.cell? ⟨A,0,none⟩=some (.slice p0 n0 bK)) (b1:W1.cell? ⟨A,1,none⟩=some (.slice p1 n1 c1))
 (hG:Calls Tryd.prog 30 #[.slice none 0 0,.int .i64 ((n0:Int)+(n1:Int))] w λe w'=>e= .returned g0/\w'=W0)
 (h0:∀ty,(Builtin.append_ #[37,37] ty #[g0,.slice p0 n0 bK]).run Tryd.prog W0= .ok g1 W1)
 (h1:∀ty,(Builtin.append_ #[37,37] ty #[g1,.slice p1 n1 c1]).run Tryd.prog W1= .ok g2 W2):
 Calls Tryd.prog 16 #[.slice (some ⟨A,0,none⟩) 2 2] w λe w'=>e= .returned g2/\w'=W2:=by
 have f0:IntKind.i64.wrap (0+(n0:Int))=(n0:Int):=by rw[IntKind.wrap_i64];omega
 have f1:IntKind.i64.wrap ((n0:Int)+(n1:Int))=(n0:Int)+(n1:Int):=by rw[IntKind.wrap_i64];omega
 have f2:¬(n0:Int)<0:=by omega
 have f3:¬(n0:Int)+(n1:Int)<0:=by omega
 go_enter Tryd.func16,Tryd.ntmps16
 go_wp2
 go_loopw [11,3] (λvi vs wr=>wr=w/\((vi= .int .i64 0/\vs= .int .i64 0)∨(vi= .int .i64 1/\vs= .int .i64 n0)∨(vi= .int .i64 2/\vs= .int .i64 ((n0:Int)+(n1:Int))))) (λvi _ _=>2-(RowKit.intOf vi).toNat)
 case atStart=>exact⟨rfl,.inl ⟨rfl,rfl⟩⟩
 case round=>
  obtain⟨rfl,h⟩:=hrel
  rcases h with⟨rfl,rfl⟩|⟨rfl,rfl⟩|⟨rfl,rfl⟩
  ·clear h0 h1 hG
   go_wp2
   go_roundw
   case rel=>simp
   case measure=>simp[RowKit.intOf]
  ·clear h0 h1 hG
   go_wp2
   go_roundw
   case rel=>simp
   case measure=>simp[RowKit.intOf]
  ·go_wp2_with (go_at_call 30;refine hG.mono ?_)
   rintro e w2 ⟨rfl,rfl⟩
   go_wp2
   go_loopw [27,6] (λvi vs wr=>(vi= .int .i64 0/\vs=g0/\wr=w2)∨(vi= .int .i64 1/\vs=g1/\wr=W1)∨(vi= .int .i64 2/\vs=g2/\wr=W2)) (λvi _ _=>2-(RowKit.intOf vi).toNat)
   case atStart=>exact .inl ⟨rfl,rfl,rfl⟩
   case round=>
    rcases hrel with⟨rfl,rfl,rfl⟩|⟨rfl,rfl,rfl⟩|⟨rfl,rfl,rfl⟩
    ·go_wp2_with (at_builtin;refine o8 rfl (.tmp 31) (.tmp 32) 37 37 rfl _ _ rfl rfl (h0 _) ?_)
     go_roundw
     case rel=>simp
     case measure=>simp[RowKit.intOf]
    ·go_wp2_with (at_builtin;refine o8 rfl (.tmp 31) (.tmp 32) 37 37 rfl _ _ rfl rfl (h1 _) ?_)
     go_roundw
     case rel=>simp
     case measure=>simp[RowKit.intOf]
    ·go_wp2
     go_ret
     exact⟨rfl,rfl⟩
end Go.bD
namespace Go.Proofs
open Go.RowKit Go.Shelf Go.Sort
shelf_lay Lays.n190 Nm 190 at Tryd as Tryd.Hl
shelf_lay Lays.n194 Nm 194 at Tryd as Tryd.Hk
theorem Tryd.SQ (dj off cap:Nat) (zs:List (List UInt8)) (w:World) (hH:Holds encStr w dj off zs.toArray) (kl:dj<w.heap.size) (hsz:zs.length<4611686018427387904):
 Calls Tryd.prog 17 #[.slice (some ⟨dj,off,none⟩) zs.length cap] w λe w'=>
  e= .returned (.tuple #[])/\∃n os,w'=grow (putRow encStr (Sort.ahead w n) dj off (zs.mergeSort λx y=>decide (x<=y)).toArray) os:=
 calls_of_every_depth λD=>AnyS.slices_Sort_string_alone Tryd.Hl D dj off cap zs w hH kl hsz
theorem Tryd.SR (p:Option Addr) (cap:Nat) (w:World):Calls Tryd.prog 17 #[.slice p 0 cap] w λe w'=>e= .returned (.tuple #[])/\w'=w:=
 calls_of_every_depth λD=>AnyS.slices_Sort_string_none_alone Tryd.Hl D p cap w
theorem Tryd.K8 (dj off cap:Nat) (zs:List (List UInt8)) (w:World) (hH:Holds encStr w dj off zs.toArray) (hsz:zs.length<=9223372036854775807) (bp:zs.length<=cap):
 Calls Tryd.prog 18 #[.slice (some ⟨dj,off,none⟩) zs.length cap] w λe w'=>e= .returned (.slice (some ⟨dj,off,none⟩) (Lib.compact zs).length cap)/\∃q,w'=putRow encStr (Sort.ahead w q) dj off (Lib.compact zs++List.replicate (zs.length-(Lib.compact zs).length) []).toArray:=
 calls_of_every_depth λD=>AnyS.slices_Compact_string_in Tryd.Hk D dj off cap zs w hH hsz bp
theorem Tryd.K9 (a:Option Addr) (cap:Nat) (w:World):Calls Tryd.prog 18 #[.slice a 0 cap] w λe w'=>e= .returned (.slice a 0 cap)/\w'=w:=
 calls_of_every_depth λD=>AnyS.slices_Compact_string_empty_in Tryd.Hk D a cap w
end Go.Proofs
namespace Go.bD
open Go Go.aZ Go.Proofs Go.RowKit
def fq (w0 w:World) (l:List ak) (x:Value):Prop:=
 w0.Extends w/\((l=[]/\x= .slice none 0 0)∨∃(G C:Nat) (cells:Array Value) (rest:List Value),x= .slice (some ⟨G,0,none⟩) l.length C/\w0.heap.size<=G/\w.heap[G]?=some (.cells cells 9 (0,0))/\cells.toList=l.map (λt=>Value.string (aH t))++rest/\l.length<=C/\C<=9223372036854775807)
theorem Jr {l:List ak} {cells:Array Value} {rest:List Value} (h:cells.toList=l.map (λt=>Value.string (aH t))++rest):cells.toList.take l.length=l.map encStr:=by
 rw[h,List.take_append_of_le_length (by simp),List.take_of_length_le (by simp)];rfl
theorem Fu {w0 w w':World} {G:Nat} (h:w0.Extends w) (h2:w.grownBy w' (some G)) (hG:w0.heap.size<=G):w0.Extends w':=
 rG h ⟨h2.os,h2.tape,h2.output,h2.size,λk hk hne=>h2.block k hk λe=>hne e.symm⟩ hG
theorem SS {w0 w:World} {l:List ak} {x:Value} (h:fq w0 w l x) (hl:l.length<=1073741824):Calls Tryd.prog 17 #[x] w λe w'=>e= .returned (.tuple #[])/\fq w0 w' (l.mergeSort λx y=>decide (x<=y)) x:=by
 obtain⟨hx,⟨h1,h2⟩|⟨G,C,cells,rest,h1,h2,h3,h4,h5,h6⟩⟩:=h
 ·subst h1 h2
  refine(Tryd.SR none 0 w).mono ?_
  rintro e w' ⟨rfl,rfl⟩
  exact⟨rfl,hx,.inl ⟨by simp,rfl⟩⟩
 ·subst h1
  have hlt:=(Array.getElem?_eq_some_iff.1 h3).1
  refine(Tryd.SQ G 0 C l w (holds_of_block h3 (Jr h4)) hlt (by omega)).mono ?_
  rintro e w' ⟨rfl,n,os,rfl⟩
  have hl2:(l.mergeSort λx y=>decide (x<=y)).length=l.length:=List.length_mergeSort _
  have hcs:l.length<=cells.size:=by
   have:=congrArg List.length h4
   simp only[Array.length_toList,List.length_append,List.length_map]at this
   omega
  refine⟨rfl,Fu hx (grownBy_sorted _) h2,.inr ⟨G,C,_,(Go.Sort.putCells encStr 0 (l.mergeSort λx y=>decide (x<=y)).toArray cells).toList.drop l.length,by rw[hl2],h2,heap_sorted _ h3,?_,by omega,h6⟩⟩
  have:=take_putCells cells (l.mergeSort λx y=>decide (x<=y)) (by omega)
  rw[hl2]at this
  rw[show(l.mergeSort λx y=>decide (x<=y)).map (λt=>Value.string (aH t))=(l.mergeSort λx y=>decide (x<=y)).map encStr from rfl,<-this,List.take_append_drop]
theorem Lb {w0 w:World} {l:List ak} {x:Value} (h:fq w0 w l x) (hl:l.length<=1073741824) (cR:(Lib.compact l).length<=l.length) (hc0:Lib.compact ([]:List ak)=[]):Calls Tryd.prog 18 #[x] w λe w'=>∃y,e= .returned y/\fq w0 w' (Lib.compact l) y:=by
 obtain⟨hx,⟨h1,h2⟩|⟨G,C,cells,rest,h1,h2,h3,h4,h5,h6⟩⟩:=h
 ·subst h1 h2
  refine(Tryd.K9 none 0 w).mono ?_
  rintro e w' ⟨rfl,rfl⟩
  exact⟨_,rfl,hx,.inl ⟨hc0,rfl⟩⟩
 ·subst h1
  have hlt:=(Array.getElem?_eq_some_iff.1 h3).1
  refine(Tryd.K8 G 0 C l w (holds_of_block h3 (Jr h4)) (by omega) h5).mono ?_
  rintro e w' ⟨rfl,q,rfl⟩
  have hcs:l.length<=cells.size:=by
   have:=congrArg List.length h4
   simp only[Array.length_toList,List.length_append,List.length_map]at this
   omega
  obtain⟨ts,fe⟩:∃ts,ts=Lib.compact l++List.replicate (l.length-(Lib.compact l).length) []:=⟨_,rfl⟩
  have GJ:ts.length=l.length:=by rw[fe];simp;omega
  rw[<-fe]
  have hb:=heap_sorted (n:=q) (os:=#[]) ts.toArray h3
  have hg:=grownBy_sorted (w:=w) (g:=G) (n:=q) (os:=#[]) ts.toArray
  rw[Go.Sort.grow_empty]at hb hg
  refine⟨_,rfl,Fu hx hg h2,.inr ⟨G,C,_,(List.replicate (l.length-(Lib.compact l).length) []).map encStr++(Go.Sort.putCells encStr 0 ts.toArray cells).toList.drop l.length,rfl,h2,hb,?_,by omega,h6⟩⟩
  have:=take_putCells cells ts (by omega)
  rw[GJ]at this
  rw[<-List.append_assoc,show(Lib.compact l).map (λt=>Value.string (aH t))=(Lib.compact l).map encStr from rfl,<-List.map_append,<-fe,<-this,List.take_append_drop]
end Go.bD
namespace Go.bD
open Go Go.aZ Go.Proofs Go.RowKit
abbrev mb (l:List ak):List Value:=l.map λt=>Value.string (aH t)
def yS (w:World) (x:Value) (l:List ak):Prop:=
 ∃p c,x= .slice p l.length c/\∀w1,w.Extends w1->Src Tryd.prog 1 37 x l.length (mb l) w1
theorem Ld {w:World} {A:Nat} {x0 x1:Value} {l0 l1:List ak} (hA:A<w.heap.size) (a0:w.cell? ⟨A,0,none⟩=some x0) (a1:w.cell? ⟨A,1,none⟩=some x1) (h0:yS w x0 l0) (h1:yS w x1 l1) (hn:l0.length+l1.length<=1073741824):
 Calls Tryd.prog 16 #[.slice (some ⟨A,0,none⟩) 2 2] w λe w'=>∃y,e= .returned y/\fq w w' (l0++l1) y:=by
 obtain⟨i0,eJ,hZ,z,p6,uS,oF⟩:∃i0,Tryd.prog.info? 9=some i0/\i0.size=1/\∃z,i0.zero=some z/\z.cells.size=1/\i0.bytes<=131072:=⟨_,rfl,by kernel_rfl,_,rfl,by kernel_rfl,by decide+kernel⟩
 obtain⟨p0,bK,rfl,Cp⟩:=h0
 obtain⟨p1,c1,rfl,s1⟩:=h1
 rw[<-hZ]at Cp s1
 have hcell:∀{w1:World} {o:Nat} {v:Value},w.Extends w1->w.cell? ⟨A,o,none⟩=some v->w1.cell? ⟨A,o,none⟩=some v:=λhx h=>by rw[hx.cell _ hA];exact h
 by_cases hz:l0.length+l1.length=0
 ·have cg:l0=[]:=List.eq_nil_of_length_eq_zero (by omega)
  have e1:l1=[]:=List.eq_nil_of_length_eq_zero (by omega)
  subst cg e1
  have q0:=λty=>IP w 37 37 ty 9 i0 Tryd.underlying37 eJ _ (Cp w (World.Extends.refl w))
  have q1:=λty=>IP w 37 37 ty 9 i0 Tryd.underlying37 eJ _ (s1 w (World.Extends.refl w))
  refine(Eu A 0 0 bK c1 p0 p1 (.slice none 0 0) (.slice none 0 0) (.slice none 0 0) w w w w (by omega) a0 a1 a0 a1 (L3 w) q0 q1).mono ?_
  rintro e w' ⟨rfl,rfl⟩
  exact⟨_,rfl,World.Extends.refl _,.inl ⟨rfl,rfl⟩⟩
 ·obtain⟨k,hk⟩:∃k,k=l0.length+l1.length:=⟨_,rfl⟩
  have AD:((l0.length:Int)+(l1.length:Int))=((k:Nat):Int):=by omega
  have hC:=pO w (0+k) 0 9 (by omega)
  have et:=λty=>Lib.run_append_grow_zeros (P:=Tryd.prog) w 37 3 ty 9 i0 z .i64 .i64 Tryd.underlying37 Tryd.underlying3 eJ p6 none 0 0 []
   (tJ w.drew i0.size none 0) k (by omega) (by rw[hZ];decide) (by omega) (by omega)
   (by
     have:=Nat.mul_le_mul (show k<=1073741824 by omega) oF
     omega)
   (growslice_fits (by omega) (by
     have:=Nat.mul_le_mul (show 0+k<=1073741824 by omega) oF
     omega))
  obtain⟨C,zP⟩:∃C,C=grownCap w (0+k) 0 9:=⟨_,rfl⟩
  rw[<-zP]at et hC
  obtain⟨nk,hY⟩:∃nk:Array Value,nk=([]:List Value).toArray++Builtin.zeroCells z.cells k++Builtin.zeroCells z.cells (C-(0+k)):=⟨_,rfl⟩
  rw[<-hY,Nat.zero_add]at et
  rw[Nat.zero_add]at hC hY
  have FX:nk.size=C:=by rw[hY];simp only[Array.size_append,List.size_toArray,List.length_nil,qW,uS];omega
  obtain⟨W0,zW⟩:∃W0,W0=w.drew.alloc (.cells nk 9):=⟨_,rfl⟩
  rw[<-zW]at et
  have hx0:w.Extends W0:=by rw[zW];exact(vx w _ none).ext
  have hg0:W0.heap[w.heap.size]?=some (.cells nk 9 (0,0)):=by rw[zW];exact heap_alloc_new w.drew _
  have hl0:(mb l0).length=l0.length:=by simp
  have ga:(mb l1).length=l1.length:=by simp
  have q0:=λty=>sW (P:=Tryd.prog) W0 37 37 ty 9 i0 Tryd.underlying37 eJ w.heap.size 0 C nk 9 hg0 _ l0.length _ (Cp W0 hx0) (by omega) (by rw[hZ,hl0,FX];omega)
  obtain⟨ca,FU⟩:∃ca,ca=(nk.toList.take (0*i0.size)++mb l0++nk.toList.drop (0*i0.size+(mb l0).length)).toArray:=⟨_,rfl⟩
  obtain⟨W1,hW1⟩:∃W1,W1=W0.setRow w.heap.size ca:=⟨_,rfl⟩
  rw[<-FU,<-hW1,Nat.zero_add]at q0
  have nG:w.Extends W1:=by rw[hW1];exact rG hx0 (mV W0 _ _) (Nat.le_refl _)
  have hg1:W1.heap[w.heap.size]?=some (.cells ca 9 (0,0)):=by rw[hW1];exact setRow_heap W0 _ _ _ _ _ hg0
  have FV:ca.toList=mb l0++nk.toList.drop l0.length:=by rw[FU];simp
  have MS:ca.size=C:=by
   have:=congrArg List.length FV
   simp only[Array.length_toList,List.length_append,List.length_drop,List.length_map,FX]at this
   omega
  have q1:=λty=>sW (P:=Tryd.prog) W1 37 37 ty 9 i0 Tryd.underlying37 eJ w.heap.size l0.length C ca 9 hg1 _ l1.length _ (s1 W1 nG) (by omega) (by rw[hZ,ga,MS];omega)
  obtain⟨cb,jn⟩:∃cb,cb=(ca.toList.take (l0.length*i0.size)++mb l1++ca.toList.drop (l0.length*i0.size+(mb l1).length)).toArray:=⟨_,rfl⟩
  rw[<-jn]at q1
  refine(Eu A l0.length l1.length bK c1 p0 p1 (.slice (some ⟨w.heap.size,0,none⟩) 0 C) (.slice (some ⟨w.heap.size,0,none⟩) l0.length C) _ w W0 W1 _ hn a0 a1 (hcell hx0 a0) (hcell nG a1) (by rw[AD];exact L1 w k w.heap.size C (by omega) (by omega) W0 et) q0 q1).mono ?_
  rintro e w' ⟨rfl,rfl⟩
  refine⟨_,rfl,rG nG (mV W1 _ _) (Nat.le_refl _),.inr ⟨w.heap.size,C,cb,ca.toList.drop (l0.length*i0.size+(mb l1).length),by rw[List.length_append],Nat.le_refl _,setRow_heap W1 _ _ _ _ _ hg1,?_,by rw[List.length_append];omega,by omega⟩⟩
  rw[jn]
  simp only[hZ,Nat.mul_one]
  rw[show ca.toList.take l0.length=mb l0 by rw[FV,List.take_append_of_le_length (by omega),List.take_of_length_le (by omega)]]
  simp
end Go.bD
namespace Go.bD
open Go Go.aZ Go.Proofs Go.RowKit
set_option maxHeartbeats 4000000 in
theorem Ko (v0 v1 v2:Value) (w:World) (i dM:Int) (he:¬dM=0) (hk:Calls Tryd.prog 12 #[v0,v1] w λe w1=>w.Extends w1/\e= .returned (.tuple #[.int .i64 i,.int .i64 dM])):
 Calls Tryd.prog 7 #[v0,v1,v2] w λe w1=>w.Extends w1/\e= .returned (.tuple #[v0,.int .i64 dM]):=by
 go_enter Tryd.func7,Tryd.ntmps7
 go_wp2_with (go_at_call 12;refine hk.mono ?_)
 rintro e w1 ⟨hx,rfl⟩
 go_wp2
 all_goals (go_ret2;exact⟨hx,rfl⟩)
set_option maxHeartbeats 4000000 in
theorem Km (v0 v1 v2:Value) (w:World) (i:Int) (hk:Calls Tryd.prog 12 #[v0,v1] w λe w1=>w.Extends w1/\e= .returned (.tuple #[.int .i64 i,.int .i64 0]))
 (hf:∀w1,w.Extends w1->Calls Tryd.prog 13 #[v2,.func (.func 14) #[] #[]] w1 λe w2=>w.Extends w2/\e= .returned (.bool true)):
 Calls Tryd.prog 7 #[v0,v1,v2] w λe w1=>w.Extends w1/\e= .returned (.tuple #[v0,.int .i64 1]):=by
 go_enter Tryd.func7,Tryd.ntmps7
 go_wp2_with (go_at_call 12;refine hk.mono ?_)
 rintro e w1 ⟨hx,rfl⟩
 go_wp2_with (go_at_call 13;refine(hf _ hx).mono ?_)
 rintro e w2 ⟨hx2,rfl⟩
 go_wp2
 all_goals (go_ret2;exact⟨hx2,rfl⟩)
set_option maxHeartbeats 4000000 in
theorem Kn (g o n cap i m u6 tE qC jf:Nat) (kB qG:Option Addr) (v1:Value) (w:World) (bW:i<n) (hn:n<=1073741824) (hm:(4:Int)<m) (n8 n9:World->Value->Prop)
 (hk:Calls Tryd.prog 12 #[.slice (some ⟨g,o,none⟩) n cap,v1] w λe w1=>w.Extends w1/\e= .returned (.tuple #[.int .i64 i,.int .i64 0]))
 (hf:∀w1,w.Extends w1->Calls Tryd.prog 13 #[.slice qG qC jf,.func (.func 14) #[] #[]] w1 λe w2=>w.Extends w2/\e= .returned (.bool false))
 (hcell:∀w1,w.Extends w1->w1.cell? ⟨g,o+i*3+2,none⟩=some (.slice kB u6 tE))
 (r3:∀w1,w.Extends w1->Calls Tryd.prog 16 #[.slice (some ⟨w1.heap.size,0,none⟩) 2 2] (w1.alloc (.cells #[.slice kB u6 tE,.slice qG qC jf] 37)) λe w2=>∃y,e= .returned y/\n8 w2 y)
 (xl:∀w1 y,n8 w1 y->Calls Tryd.prog 17 #[y] w1 λe w2=>e= .returned (.tuple #[])/\n9 w2 y)
 (nv:∀w1 y,n9 w1 y->Calls Tryd.prog 18 #[y] w1 λe w2=>∃p c,e= .returned (.slice p m c)/\w.Extends w2):
 Calls Tryd.prog 7 #[.slice (some ⟨g,o,none⟩) n cap,v1,.slice qG qC jf] w λe w1=>w.Extends w1/\e= .returned (.tuple #[.slice (some ⟨g,o,none⟩) n cap,.int .i64 10]):=by
 have f1:(i:Int)<(n:Int):=by omega
 have f2:¬(i:Int)<0:=by omega
 go_enter Tryd.func7,Tryd.ntmps7
 go_wp2_with (go_at_call 12;refine hk.mono ?_)
 first|rintro e w1 ⟨hx,rfl⟩|rintro e w1 hx rfl
 go_wp2_with (go_at_call 13;refine(hf _ hx).mono ?_)
 first|rintro e w2 ⟨hx2,rfl⟩|rintro e w2 hx2 rfl
 have hce:=hcell _ hx2
 clear hcell
 go_wp2_with (go_at_call 16;refine(r3 _ hx2).mono ?_)
 first|rintro e w3 ⟨y,rfl,ua⟩|rintro e w3 y rfl ua
 go_wp2_with (go_at_call 17;refine(xl _ _ ua).mono ?_)
 first|rintro e w4 ⟨rfl,ub⟩|rintro e w4 rfl ub
 go_wp2_with (go_at_call 18;refine(nv _ _ ub).mono ?_)
 first|rintro e yw ⟨p,c,rfl,GP⟩|rintro e yw p c rfl GP
 go_wp2
 all_goals (go_ret2;exact⟨GP,rfl⟩)
set_option maxHeartbeats 4000000 in
theorem Kp (g o n cap i m u6 tE qC jf:Nat) (kB qG:Option Addr) (v1:Value) (w:World) (bW:i<n) (hn:n<=1073741824) (hm:¬(4:Int)<m) (n8 n9 te:World->Value->Prop) (Dy:World->Nat->Value->Value->Prop) (Q:World->Value->Prop)
 (hk:Calls Tryd.prog 12 #[.slice (some ⟨g,o,none⟩) n cap,v1] w λe w1=>w.Extends w1/\e= .returned (.tuple #[.int .i64 i,.int .i64 0]))
 (hf:∀w1,w.Extends w1->Calls Tryd.prog 13 #[.slice qG qC jf,.func (.func 14) #[] #[]] w1 λe w2=>w.Extends w2/\e= .returned (.bool false))
 (hcell:∀w1,w.Extends w1->w1.cell? ⟨g,o+i*3+2,none⟩=some (.slice kB u6 tE))
 (r3:∀w1,w.Extends w1->Calls Tryd.prog 16 #[.slice (some ⟨w1.heap.size,0,none⟩) 2 2] (w1.alloc (.cells #[.slice kB u6 tE,.slice qG qC jf] 37)) λe w2=>∃y,e= .returned y/\n8 w2 y)
 (xl:∀w1 y,n8 w1 y->Calls Tryd.prog 17 #[y] w1 λe w2=>e= .returned (.tuple #[])/\n9 w2 y)
 (nv:∀w1 y,n9 w1 y->Calls Tryd.prog 18 #[y] w1 λe w2=>∃p c,e= .returned (.slice p m c)/\te w2 (.slice p m c))
 (cR:∀w1 y,te w1 y->Calls Tryd.prog 19 #[.slice (some ⟨g,o,none⟩) n cap] w1 λe w2=>∃G C,e= .returned (.slice (some ⟨G,0,none⟩) n C)/\(∃u,w2.cell? ⟨G,i*3+2,none⟩=some u)/\w2.frozen? ⟨G,i*3+2,none⟩=false/\Dy w2 G (.slice (some ⟨G,0,none⟩) n C) y)
 (hst:∀w1 G z y,Dy w1 G z y->Q (w1.setCell ⟨G,i*3+2,none⟩ y) z):
 Calls Tryd.prog 7 #[.slice (some ⟨g,o,none⟩) n cap,v1,.slice qG qC jf] w λe w1=>∃z,e= .returned (.tuple #[z,.int .i64 0])/\Q w1 z:=by
 have f1:(i:Int)<(n:Int):=by omega
 have f2:¬(i:Int)<0:=by omega
 go_enter Tryd.func7,Tryd.ntmps7
 go_wp2_with (go_at_call 12;refine hk.mono ?_)
 first|rintro e w1 ⟨hx,rfl⟩|rintro e w1 hx rfl
 go_wp2_with (go_at_call 13;refine(hf _ hx).mono ?_)
 first|rintro e w2 ⟨hx2,rfl⟩|rintro e w2 hx2 rfl
 have hce:=hcell _ hx2
 clear hcell
 go_wp2_with (go_at_call 16;refine(r3 _ hx2).mono ?_)
 first|rintro e w3 ⟨y,rfl,ua⟩|rintro e w3 y rfl ua
 go_wp2_with (go_at_call 17;refine(xl _ _ ua).mono ?_)
 first|rintro e w4 ⟨rfl,ub⟩|rintro e w4 rfl ub
 go_wp2_with (go_at_call 18;refine(nv _ _ ub).mono ?_)
 first|rintro e yw ⟨p,c,rfl,Fw⟩|rintro e yw p c rfl Fw
 go_wp2_with (go_at_call 19;refine(cR _ _ Fw).mono ?_)
 first|rintro e JA ⟨G,C,rfl,⟨u,hu⟩,uq,Fx⟩|rintro e JA G C rfl ⟨u,hu⟩ uq Fx
 have hQ:=hst _ _ _ _ Fx
 clear hst cR nv xl r3 hf hk
 go_wp2
 all_goals (go_ret2;exact⟨_,rfl,hQ⟩)
end Go.bD
namespace Go.bD
open Go Go.aZ
theorem Et (d:Array ak) (hs:∀i j,i<j->j<d.size->d[i]! =d[j]! ∨fg d[i]! d[j]!):∀m,m<=d.size->(Lib.compactUpTo d m).Pairwise fg/\∀x,x∈Lib.compactUpTo d m↔∃j,j<m/\d[j]! =x
 |0,_=>by simp[Lib.compactUpTo]
 |m+1,hm=>by
  obtain⟨h1,h2⟩:=Et d hs m (by omega)
  rw[Lib.compactUpTo_succ]
  by_cases hk:m=0∨d[m]! ≠d[m-1]!
  ·have Nz:Lib.keeps d m=true:=by unfold Lib.keeps;exact decide_eq_true hk
   rw[if_pos Nz]
   refine⟨List.pairwise_append.2 ⟨h1,by simp,λx hx y hy=>?_⟩,λx=>?_⟩
   ·simp at hy
    subst hy
    obtain⟨j,hj,rfl⟩:=(h2 x).1 hx
    have Gp:m≠0:=by omega
    have hne:d[m]! ≠d[m-1]! :=hk.resolve_left Gp
    have hl:fg d[m-1]! d[m]! :=(hs (m-1) m (by omega) (by omega)).resolve_left λe=>hne e.symm
    by_cases Ns:j=m-1
    ·rw[Ns];exact hl
    ·rcases hs j (m-1) (by omega) (by omega)with e|h
     ·rw[e];exact hl
     ·exact qA _ _ _ h hl
   ·rw[List.mem_append,h2 x]
    simp only[List.mem_singleton]
    constructor
    ·rintro(⟨j,hj,e⟩|e)
     ·exact⟨j,by omega,e⟩
     ·exact⟨m,by omega,e.symm⟩
    ·rintro⟨j,hj,e⟩
     by_cases h:j=m
     ·subst h;exact .inr e.symm
     ·exact .inl ⟨j,by omega,e⟩
  ·have nA:Lib.keeps d m=false:=by unfold Lib.keeps;exact decide_eq_false hk
   rw[nA]
   have Gp:m≠0:=λe=>hk (.inl e)
   have he:d[m]! =d[m-1]! :=Classical.byContradiction λe=>hk (.inr e)
   rw[if_neg (by decide),List.append_nil]
   refine⟨h1,λx=>?_⟩
   rw[h2 x]
   constructor
   ·rintro⟨j,hj,e⟩;exact⟨j,by omega,e⟩
   ·rintro⟨j,hj,e⟩
    by_cases h:j=m
    ·subst h;exact⟨j-1,by omega,by rw[<-he];exact e⟩
    ·exact⟨j,by omega,e⟩
theorem La {a d:List ak} (ha:a.Pairwise fg):Lib.compact ((a++d).mergeSort λx y=>decide (x<=y))=n6 a d:=by
 obtain⟨l,hl⟩:∃l,l=(a++d).mergeSort λx y=>decide (x<=y):=⟨_,rfl⟩
 have Tf:∀a b c:ak,decide (a<=b)=true->decide (b<=c)=true->decide (a<=c)=true:=λa b c h1 h2=>by simp only[decide_eq_true_eq]at*;exact List.le_trans h1 h2
 have to:∀a b:ak,(decide (a<=b)||decide (b<=a))=true:=λa b=>by simp only[Bool.or_eq_true,decide_eq_true_eq];exact List.le_total a b
 have hp:=List.pairwise_mergeSort Tf to (a++d)
 have hm:∀x,x∈l↔x∈a∨x∈d:=λx=>by rw[hl,(List.mergeSort_perm (a++d) _).mem_iff,List.mem_append]
 rw[<-hl]at hp⊢
 rw[List.pairwise_iff_getElem]at hp
 have hg:∀i,i<l.length->l.toArray[i]! =l.getD i []:=λi hi=>by simp[List.getD,hi]
 obtain⟨h1,h2⟩:=Et l.toArray (λi j h8 hj=>by
  have hj:j<l.length:=by simpa using hj
  have:=hp i j (by omega) hj h8
  simp only[decide_eq_true_eq]at this
  rw[hg i (by omega),hg j hj]
  simp only[List.getD,List.getElem?_eq_getElem hj,List.getElem?_eq_getElem (show i<l.length by omega),Option.getD_some]
  rcases xC l[i] l[j]with h|h|h
  ·exact .inr h
  ·exfalso
   rw[Go.Proofs.bytesLess_eq]at h
   exact List.not_le.2 (of_decide_eq_true h) this
  ·exact .inl h) l.length (by simp)
 refine Hx h1 (CW ha) λx=>?_
 unfold Lib.compact
 rw[h2 x,xJ,<-hm x]
 constructor
 ·rintro⟨j,hj,e⟩
  rw[hg j hj]at e
  rw[<-e]
  simp only[List.getD,List.getElem?_eq_getElem hj,Option.getD_some]
  exact List.getElem_mem hj
 ·intro hx
  obtain⟨j,hj,e⟩:=List.getElem_of_mem hx
  exact⟨j,hj,by rw[hg j hj,<-e];simp[List.getD,hj]⟩
end Go.bD
namespace Go.bD
open Go Go.aZ Go.Proofs Go.RowKit
theorem dW.ext {F F':Nat->Prop} {w w':World} {sh:List ah} {rows:List (List Int)} {v:Value} (h:dW F w sh rows v) (hF:∀g,F g->F' g) (hx:w.Extends w'):dW F' w' sh rows v:=by
 rcases h with h|⟨g,o,cap,cells,t,fz,h1,h2,h3,h4,h5⟩
 ·exact .inl h
 ·exact .inr ⟨g,o,cap,cells,t,fz,h1,h2,hF g h3,by rw[hx.block g (Array.getElem?_eq_some_iff.1 h4).1];exact h4,h5.mono (Fr.ext hF hx)⟩
theorem Hf {l:List cd} {t:ak} {i e:Int} (h:(i,e)=bN l t) (he:e=0):l.length<=16/\0<=i/\i<l.length:=by
 have h2:(bN l t).2=0:=by rw[<-h];exact he
 have hk:=Bn h2
 rw[<-h]at hk
 refine⟨?_,hk⟩
 unfold bN at h2
 cases hr:cz l with
 |false=>rw[hr]at h2;cases h2
 |true=>
  unfold cz at hr
  simp only[Bool.and_eq_true]at hr
  exact Nat.le_of_ble_eq_true hr.1
theorem CY {F:Nat->Prop} {w:World} {sh:List ah} {rows:List (List Int)} {v:Value} (h:dW F w sh rows v):∃vs,c7 F w sh rows vs/\(∀row∈rows,aS sh row)/\((∃p,v= .slice p 0 0/\rows.length=0)∨∃(a:Addr) (c:Nat),v= .slice (some a) rows.length c/\∀w1,w.Extends w1->∀(j:Nat) (u:Value),vs[j]?=some u->(a.add j).block<w1.heap.size/\w1.cell? (a.add j)=some u):=by
 rcases h with⟨⟨p,h⟩,hr⟩|⟨g,o,cap,cells,t,fz,h1,h2,h3,h4,h5⟩
 ·exact⟨[],by rw[hr];rfl,by rw[hr];intro _ h;simp at h,.inl ⟨p,h,by rw[hr];rfl⟩⟩
 ·obtain⟨vs,k1,k2⟩:=h5.vs
  refine⟨vs,k1,h5.1,.inr ⟨⟨g,o,none⟩,cap,h1,λw1 hx j u hu=>?_⟩⟩
  have hlt:=(Array.getElem?_eq_some_iff.1 h4).1
  rw[Addr.add_lit]
  refine⟨Nat.lt_of_lt_of_le hlt hx.size,?_⟩
  simp only[World.cell?,hx.block g hlt,h4,Option.isSome_none,Bool.false_eq_true,if_false]
  exact k2 j u hu
theorem Fh {P:Program} {f:FuncId} {args:Array Value} {w:World} {val:Value} (he:(callFunc f args).run P w= .ok (.enter f args) w) (h:q8 P f args w val):Calls P f args w λe w'=>e= .returned val/\w.Extends w':=by
 rcases h with h|⟨_,h⟩
 ·rw[he]at h;cases h
 ·exact h
theorem Ii {wb:World} (hp:c3 wb nP) {c:Int} (h:0<=c/\c<=aO) {w:World} (hw:wb.Extends w):Calls Tryd.prog 15 #[.string (aH (J c))] w λe w2=>w.Extends w2/\e= .returned (.bool (b8 (J c))):=by
 obtain⟨rs,h1,h2,h3⟩:=hp [c] ⟨h.1,h.2,trivial⟩
 match rs,h1 with
 |[r],h1=>
  have h2:r=aT (b8 (J c)):=h2
  refine(Fh (enters (by kernel_rfl) _ _) (h3 w hw)).mono ?_
  rintro e w2 ⟨he,hx⟩
  refine⟨hx,?_⟩
  rw[he]
  show Ending.returned (.bool (decide (r=1)))=_
  rw[h2,tr]
theorem QB {wb:World} (nA:cO wb mJ):cO wb uX:=by
 refine⟨λargs w=>enters (by kernel_rfl) _ _,λF w vs zs hw hz ix hat=>?_⟩
 match zs,hz,vs,hat with
 |[z,t],hz,[v0,v1],hat=>
  obtain⟨h0,h1,_⟩:=hat
  have h0:dW F w [.str,.str,.sub 1] (ab z) v0:=h0
  have nA:=nA.2 F w [v0,v1] [z,t] hw hz trivial ⟨h0,h1,trivial⟩
  have h1:v1= .string (aH (J t)):=h1
  have hk:Calls Tryd.prog 12 #[v0,v1] w λe w1=>w.Extends w1/\e= .returned (.tuple #[.int .i64 (bN (au z) (J t)).1,.int .i64 (bN (au z) (J t)).2]):=by
   refine nA.mono ?_
   rintro e w1 ⟨hx,rs,us,hb,hs,ha,rfl⟩
   match rs,hb,us,ha with
   |[i,dM],hb,[u0,n5],ha=>
    have hs:(i,dM)=bN (au z) (J t):=hs
    obtain⟨a0,a1,_⟩:=ha
    have a0:u0= .int .i64 i:=a0
    have a1:n5= .int .i64 dM:=a1
    subst a0 a1
    exact⟨hx,by rw[<-hs];rfl⟩
  have hzb:0<=z/\z<=aF:=⟨hz.1,hz.2.1⟩
  obtain⟨i,dM,gw⟩:∃i dM,bN (au z) (J t)=(i,dM):=⟨_,_,rfl⟩
  rw[gw]at hk
  by_cases he:dM=0
  ·subst he
   obtain⟨hn,eJ,kr⟩:=Hf gw.symm rfl
   rw[kH]at hn kr
   obtain⟨a,rfl⟩:∃a:Nat,i=a:=⟨i.toNat,by omega⟩
   obtain⟨vs,dO,cX,hval⟩:=CY h0
   have hl:=dO.len
   have hl:vs.length=(ab z).length*3:=hl
   obtain⟨p,c,hv⟩:∃p c,v0= .slice (some p) (ab z).length c/\∀w1,w.Extends w1->∀(j:Nat) (u:Value),vs[j]?=some u->(p.add j).block<w1.heap.size/\w1.cell? (p.add j)=some u:=by
    rcases hval with⟨_,_,h⟩|⟨p,c,h⟩
    ·omega
    ·exact⟨p,c,h⟩
   have one:∀u∈vs,u.oneCell'=true:=vt dO
   have gd:∀row∈(ab z).take a++(ab z).drop (a+1),aS [.str,.str,.sub 1] row:=λrow hr=>(List.mem_append.1 hr).elim (λh=>cX row (List.mem_of_mem_take h)) λh=>cX row (List.mem_of_mem_drop h)
   have lR:((ab z).take a++(ab z).drop (a+1)).length=a+((ab z).length-(a+1)):=by rw[List.length_append,List.length_take,List.length_drop,Nat.min_eq_left (by omega)]
   have hR:c7 F w [.str,.str,.sub 1] ((ab z).take a++(ab z).drop (a+1)) (vs.take (a*3)++vs.drop ((a+1)*3)):=oZ (dO.split a).1 (dO.split (a+1)).2
   refine(PT v0 v1 w a (by omega) (λw2 x=>w.Extends w2/\∃(G C:Nat) (cells:Array Value) (rest:List Value),x= .slice (some ⟨G,0,none⟩) (ab z).length C/\w.heap.size<=G/\w2.heap[G]?=some (.cells cells 39 (0,0))/\cells.toList=vs++rest/\cells.size=C*3/\(ab z).length<=C/\(C:Int)<=9223372036854775807)
    (λw3 y=>w.Extends w3/\dW (λg=>F g∨w.heap.size<=g) w3 [.str,.str,.sub 1] ((ab z).take a++(ab z).drop (a+1)) y) hk (λw1 hx=>?_) (λw2 x hD=>?_)).mono ?_
   ·refine(zm w1 v0 (ab z).length vs (by omega) hl one (.inr ⟨p,c,hv.1,hv.2 w1 hx⟩)).mono ?_
    rintro e w2 ⟨hx2,x,rfl,cR⟩
    refine⟨x,rfl,hx.trans hx2,?_⟩
    rcases cR with⟨h,_⟩|⟨_,G,C,cells,rest,c1,ax,bh⟩
    ·omega
    ·exact⟨G,C,cells,rest,c1,Nat.le_trans hx.size ax,bh⟩
   ·obtain⟨hx,G,C,cells,rest,rfl,hG,hg,km,hsz,NR,hC⟩:=hD
    have t1:cells.toList.take (a*3)=vs.take (a*3):=by rw[km,List.take_append_of_le_length (by omega)]
    have t2:(cells.toList.drop ((a+1)*3)).take (((ab z).length-(a+1))*3)=vs.drop ((a+1)*3):=by
     rw[km,List.drop_append_of_le_length (by omega),List.take_append_of_le_length (by rw[List.length_drop];omega),List.take_of_length_le (by rw[List.length_drop];omega)]
    refine(Tryd.Lo G C (ab z).length a (a+1) cells w2 hg hsz NR (by omega) (by omega) (by omega) (by rw[t2];exactλu hu=>one u (List.mem_of_mem_drop hu))).mono ?_
    rintro e w3 ⟨rfl,cur',g1,g2,g3,g4⟩
    have hx3:=rG hx g4 hG
    refine⟨_,rfl,hx3,.inr ⟨G,0,C,cur',_,_,by rw[lR],⟨by rw[lR];omega,hC⟩,.inr hG,g1,gd,[],_,cur'.toList.drop ((a+((ab z).length-(a+1)))*3),?_,rfl,hR.mono (Fr.ext (λg h=> .inl h) hx3)⟩⟩
    rw[t1,t2]at g3
    rw[<-g3,List.nil_append,List.take_append_drop]
   ·rintro e w3 ⟨y,rfl,hx3,hy⟩
    refine⟨hx3,[rc ((ab z).take a++(ab z).drop (a+1)),0],[y,.int .i64 0],⟨cL _,lB (by kernel_rfl) (by rw[lR];omega) gd,by decide,by decide,trivial⟩,?_,⟨?_,rfl,trivial⟩,rfl⟩
    ·show(au (rc _),(0:Int))=kx (au z) (J t)
     unfold kx
     rw[gw]
     simp only[au,dD,List.map_append,List.map_take,List.map_drop,Int.toNat_natCast]
     rfl
    ·show dW _ _ _ (ab (rc _)) _
     rw[dD];exact hy
  ·refine(PR v0 v1 w i dM he hk).mono ?_
   rintro e w1 ⟨hx,rfl⟩
   have hb:0<=dM/\dM<=21:=by
    have:dM=(bN (au z) (J t)).2:=by rw[gw]
    rw[this]
    unfold bN
    cases cz (au z)<;>simp only[cond_true,cond_false]
    ·decide
    ·cases(au z).findIdx? (λu=>decide (u.tok=J t))with
     |none=>decide
     |some k=>exact(show(0:Int)<=0/\(0:Int)<=21 by decide)
   refine⟨hx,[z,dM],[v0,.int .i64 dM],⟨hzb.1,hzb.2,hb.1,hb.2,trivial⟩,?_,⟨dW.ext h0 (λg h=> .inl h) hx,rfl,trivial⟩,rfl⟩
   show(au z,dM)=kx (au z) (J t)
   unfold kx
   rw[gw]
   simp only[decide_eq_false he,cond_false]
theorem TN {wb:World} (hp:c3 wb oN) {c:Int} (h:0<=c/\c<=aO) {w:World} (hw:wb.Extends w):Calls Tryd.prog 22 #[.string (aH (J c))] w λe w2=>w.Extends w2/\e= .returned (.bool (ig (J c))):=by
 obtain⟨rs,h1,h2,h3⟩:=hp [c] ⟨h.1,h.2,trivial⟩
 match rs,h1 with
 |[r],h1=>
  have h2:r=aT (ig (J c)):=h2
  refine(Fh (enters (by kernel_rfl) _ _) (h3 w hw)).mono ?_
  rintro e w2 ⟨he,hx⟩
  refine⟨hx,?_⟩
  rw[he]
  show Ending.returned (.bool (decide (r=1)))=_
  rw[h2,tr]
theorem Jj {α:Type} (p:α->Bool):∀(l:List α) (k:Nat),(∀j (h:j<l.length),j<k->p l[j]=true)->(∀(h:k<l.length),p l[k]=false)->k<=l.length->l.takeWhile p=l.take k/\l.dropWhile p=l.drop k
 |[],k,_,_,_=>by simp
 |x::r,0,_,h2,_=>by
  have:=h2 (by simp)
  simp only[List.getElem_cons_zero]at this
  simp[List.takeWhile,List.dropWhile,this]
 |x::r,k+1,h1,h2,hk=>by
  have h0:=h1 0 (by simp) (by omega)
  simp only[List.getElem_cons_zero]at h0
  have ih:=Jj p r k (λj h hj=>by
   have:=h1 (j+1) (by simpa using h) (by omega)
   simpa using this) (λh=>by
   have:=h2 (by simpa using h)
   simpa using this) (by simpa using hk)
  simp[List.takeWhile,List.dropWhile,h0,ih.1,ih.2]
theorem RL {l:List cd} {t:ak} {i f:Int} (h:q9 l t i f) (hr:cz l=true):(0<=i/\i<=l.length)/\l.takeWhile (λu=>Op.bytesLess u.tok t)=l.take i.toNat/\l.dropWhile (λu=>Op.bytesLess u.tok t)=l.drop i.toNat/\(l.findIdx? (λu=>decide (u.tok=t))).isSome=decide (f=1):=by
 have hf:=Ih h hr
 obtain⟨⟨h1,h2⟩,h3,h4⟩:=h
 obtain⟨h5,h6,h7⟩:=h4 (Ca hr)
 have hg:∀j (hj:j<l.length),l.getD j b9=l[j]:=λj hj=>by simp[List.getD,hj]
 have ht:=Jj (λu:cd=>Op.bytesLess u.tok t) l i.toNat (λj hj fZ=>by rw[<-hg j hj];exact h5 j (by omega)) (λhi=>by rw[<-hg _ hi];exact h6 _ (by omega) hi) (by omega)
 refine⟨⟨h1,h2⟩,ht.1,ht.2,?_⟩
 rw[hf]
 cases decide (f=1)<;>rfl
theorem QC {wb:World} (hR:cO wb qv) (hp:c3 wb nP) (hu:c3 wb oN) (hl:cO wb qw):cO wb mI:=by
 refine⟨λargs w=>enters (by kernel_rfl) _ _,λF w vs zs hw hz ix hat=>?_⟩
 match zs,hz,vs,hat with
 |[z,t,s],hz,[v0,v1,v2],hat=>
  obtain⟨h0,h1,h2,_⟩:=hat
  have h0:dW F w [.str,.str,.sub 1] (ab z) v0:=h0
  have nq:v1= .string (aH (J t)):=h1
  have h2:v2= .string (aH (J s)):=h2
  have hzb:0<=z/\z<=aF:=⟨hz.1,hz.2.1⟩
  have sk:0<=t/\t<=aO:=⟨hz.2.2.1,hz.2.2.2.1⟩
  have xk:0<=s/\s<=aO:=⟨hz.2.2.2.2.1,hz.2.2.2.2.2.1⟩
  have same:∀{w1:World} {x:Int},w.Extends w1->0<=x->x<=21->(au z,x)=jB (au z) (J t) (J s)->w.Extends w1/\∃rs us,bb (cE mI.res) rs/\dn sh SB mI.id [z,t,s] rs/\fD (λg=>F g∨w.heap.size<=g) (λg=>w.heap.size<=g) w1 mI.res rs us/\Ending.returned (.tuple #[v0,.int .i64 x])= .returned (mY us):=λ{w1 x} hx x0 x1 hs=>
   ⟨hx,[z,x],[v0,.int .i64 x],⟨hzb.1,hzb.2,x0,x1,trivial⟩,hs,⟨dW.ext h0 (λg h=> .inl h) hx,rfl,trivial⟩,rfl⟩
  have pC:Calls Tryd.prog 21 #[v0] w λe w1=>w.Extends w1/\e= .returned (.bool (cz (au z))):=by
   refine(hR.2 F w [v0] [z] hw ⟨hzb.1,hzb.2,trivial⟩ trivial ⟨h0,trivial⟩).mono ?_
   rintro e w1 ⟨hx,rs,us,hb,hs,ha,rfl⟩
   match rs,hb,us,ha with
   |[r],hb,[u],ha=>
    have hs:r=aT (cz (au z)):=hs
    have ha:u= .bool (decide (r=1)):=ha.1
    refine⟨hx,?_⟩
    show Ending.returned u=_
    rw[ha,hs,tr]
  have rr:∀w1,w.Extends w1->Calls Tryd.prog 15 #[v1] w1 λe w2=>w.Extends w2/\e= .returned (.bool (b8 (J t))):=λw1 hx=>by
   rw[nq]
   exact(Ii hp sk (hw.trans hx)).mono λe w2 ⟨a,b⟩=>⟨hx.trans a,b⟩
  have ru:∀w1,w.Extends w1->Calls Tryd.prog 22 #[v2] w1 λe w2=>w.Extends w2/\e= .returned (.bool (ig (J s))):=λw1 hx=>by
   rw[h2]
   exact(TN hu xk (hw.trans hx)).mono λe w2 ⟨a,b⟩=>⟨hx.trans a,b⟩
  cases hb:(cz (au z)&&(b8 (J t)&&ig (J s)))with
  |false=>
   refine(RW v0 v1 v2 w _ _ _ hb pC rr ru).mono ?_
   rintro e w1 ⟨hx,rfl⟩
   refine same hx (by decide) (by decide) ?_
   unfold jB
   rw[hb];rfl
  |true=>
  have hb':=hb
  simp only[Bool.and_eq_true]at hb'
  obtain⟨b1,b2,b3⟩:=hb'
  rw[b1]at pC;rw[b2]at rr;rw[b3]at ru
  have NQ:(au z).length<=16:=by
   unfold cz at b1
   simp only[Bool.and_eq_true]at b1
   exact Nat.le_of_ble_eq_true b1.1
  rw[kH]at NQ
  have eo:∀w1,w.Extends w1->Calls Tryd.prog 23 #[v0,v1] w1 λe w2=>w.Extends w2/\e= .returned (.tuple #[.int .i64 ((au z).takeWhile (λu=>Op.bytesLess u.tok (J t))).length,.bool ((au z).findIdx? (λu=>decide (u.tok=J t))).isSome]):=λw1 hx=>by
   refine(hl.2 F w1 [v0,v1] [z,t] (hw.trans hx) ⟨hzb.1,hzb.2,sk.1,sk.2,trivial⟩ trivial ⟨dW.ext h0 (λg h=>h) hx,h1,trivial⟩).mono ?_
   rintro e w2 ⟨hx2,rs,us,hb,hs,ha,rfl⟩
   match rs,hb,us,ha with
   |[i,f],hb,[u0,n5],ha=>
    have hs:q9 (au z) (J t) i f:=hs
    obtain⟨a0,a1,_⟩:=ha
    have a0:u0= .int .i64 i:=a0
    have a1:n5= .bool (decide (f=1)):=a1
    obtain⟨q1,q2,q3,q4⟩:=RL hs b1
    refine⟨hx.trans hx2,?_⟩
    rw[a0,a1,q2,q4,List.length_take]
    have:((min i.toNat (au z).length:Nat):Int)=i:=by omega
    rw[this];rfl
  obtain⟨a,ha⟩:∃a,a=((au z).takeWhile (λu=>Op.bytesLess u.tok (J t))).length:=⟨_,rfl⟩
  rw[<-ha]at eo
  cases hf:((au z).findIdx? (λu=>decide (u.tok=J t))).isSome with
  |true=>
   rw[hf]at eo
   refine(RZ v0 v1 v2 w a pC rr ru eo).mono ?_
   rintro e w1 ⟨hx,rfl⟩
   refine same hx (by decide) (by decide) ?_
   unfold jB
   rw[hb,hf];rfl
  |false=>
  rw[hf]at eo
  obtain⟨vs,dO,cX,hval⟩:=CY h0
  have hlv:vs.length=(ab z).length*3:=dO.len
  have one:∀u∈vs,u.oneCell'=true:=vt dO
  obtain⟨p,c,hv0⟩:∃p c,v0= .slice p (ab z).length c:=by
   rcases hval with⟨p,h,h'⟩|⟨p,c,h,_⟩
   ·exact⟨p,0,by rw[h,h']⟩
   ·exact⟨_,c,h⟩
  by_cases iQ:(ab z).length=16
  ·rw[hv0,iQ]at pC eo
   have:=RX p c v1 v2 w a pC rr ru eo
   rw[<-iQ,<-hv0]at this
   refine this.mono ?_
   rintro e w1 ⟨hx,rfl⟩
   refine same hx (by decide) (by decide) ?_
   unfold jB
   rw[hb,hf,kH,iQ];rfl
  ·have GL:(au z).takeWhile (λu=>Op.bytesLess u.tok (J t))=(au z).take a:=by
    conv=>rhs;rw[<-List.takeWhile_append_dropWhile (p:=λu:cd=>Op.bytesLess u.tok (J t)) (l:=au z),ha]
    rw[List.take_left]
   have M4:(au z).dropWhile (λu=>Op.bytesLess u.tok (J t))=(au z).drop a:=by
    conv=>rhs;rw[<-List.takeWhile_append_dropWhile (p:=λu:cd=>Op.bytesLess u.tok (J t)) (l:=au z),ha]
    rw[List.drop_left]
   have rY:a<=(ab z).length:=by
    have:=congrArg List.length GL
    rw[<-ha,List.length_take,kH]at this
    omega
   obtain⟨bw,lW⟩:∃bw,bw=(ab z).take a++([[t,s,rc []]]++(ab z).drop a):=⟨_,rfl⟩
   have qb:∀r∈bw,aS [.str,.str,.sub 1] r:=λr hr=>by
    rw[lW]at hr
    rcases List.mem_append.1 hr with hr|hr
    ·exact cX r (List.mem_of_mem_take hr)
    ·rcases List.mem_append.1 hr with hr|hr
     ·simp at hr;subst hr
      exact⟨sk,xk,⟨cL _,yO (l:=[]) (by simp) (by simp)⟩,trivial⟩
     ·exact cX r (List.mem_of_mem_drop hr)
   have lR:bw.length=(ab z).length+1:=by rw[lW];simp;omega
   have ga:(vs.take (a*3)).length=a*3:=by rw[List.length_take,hlv];omega
   have hl2:(vs.drop (a*3)).length=((ab z).length-a)*3:=by rw[List.length_drop,hlv,Nat.sub_mul]
   have hf':∀g,F g->F g∨w.heap.size<=g:=λg h=> .inl h
   rw[hv0,nq]at eo
   rw[nq]at rr
   rw[h2]at ru
   rw[hv0]at pC
   have:=R0 p (ab z).length c (aH (J t)) (aH (J s)) w a (by omega)
    (λw2 x=>w.Extends w2/\yE w w2 (ab z).length vs x)
    (λw3 y=>w.Extends w3/\dW (λg=>F g∨w.heap.size<=g) w3 [.str,.str,.sub 1] bw y) pC rr ru eo (λw1 hx=>?_) (λw2 x hD=>?_)
   ·rw[nq,h2,hv0]
    refine this.mono ?_
    rintro e w3 ⟨y,rfl,hx3,hy⟩
    refine⟨hx3,[rc bw,0],[y,.int .i64 0],⟨cL _,lB (by kernel_rfl) (by rw[lR];omega) qb,by decide,by decide,trivial⟩,?_,⟨?_,rfl,trivial⟩,rfl⟩
    ·show(au (rc bw),(0:Int))=jB (au z) (J t) (J s)
     unfold jB
     rw[hb,hf,kH,decide_eq_false iQ,GL,M4]
     simp only[cond_true,cond_false]
     congr 1
     unfold au
     rw[dD,lW]
     simp only[List.map_append,List.map_take,List.map_drop,List.map_cons,List.map_nil,List.singleton_append]
     congr 2
    ·show dW _ _ _ (ab (rc _)) _
     rw[dD];exact hy
   ·refine(zm w1 (.slice p (ab z).length c) (ab z).length vs (by omega) hlv one ?_).mono ?_
    ·rw[hv0]at hval
     rcases hval with⟨q,h,h'⟩|⟨q,c',h,h'⟩
     ·exact .inl ⟨q,h,h'⟩
     ·exact .inr ⟨q,c',h,h' w1 hx⟩
    ·rintro e w2 ⟨hx2,x,rfl,cR⟩
     refine⟨x,rfl,hx.trans hx2,?_⟩
     rcases cR with h|⟨q0,G,C,cells,rest,q1,q2,q3⟩
     ·exact .inl h
     ·exact .inr ⟨q0,G,C,cells,rest,q1,Nat.le_trans hx.size q2,q3⟩
   ·obtain⟨hx,cR⟩:=hD
    have nH:=hx.trans ((World.Extends.refl w2).alloc (.cells #[.string (aH (J t)),.string (aH (J s)),.slice none 0 0] 39))
    have hbl:=heap_alloc_new w2 (.cells #[.string (aH (J t)),.string (aH (J s)),.slice none 0 0] 39)
    have hown:∀g,qF x=some g->w.heap.size<=g:=λg hg=>by
     rcases cR with⟨_,q,hx0⟩|⟨_,G,C,cells,rest,q1,q2,_⟩
     ·rw[hx0]at hg
      cases q<;>cases hg
     ·rw[q1]at hg
      unfold qF at hg
      split at hg
      ·rename_i heq
       injection heq with e1 e2 e3
       injection e1 with e1
       rw[<-e1]at hg
       cases hg;exact q2
      ·cases hg
    refine(OY (w2.alloc (.cells #[.string (aH (J t)),.string (aH (J s)),.slice none 0 0] 39)) x a (ab z).length (vs.take (a*3)) (vs.drop (a*3)) [.string (aH (J t)),.string (aH (J s)),.slice none 0 0] w2.heap.size 0 1 _ _ _ rY (by omega) ga hl2 rfl (λu hu=>one u (List.mem_of_mem_take hu)) (λu hu=>one u (List.mem_of_mem_drop hu)) (λu hu=>by
     simp only[List.mem_cons,List.not_mem_nil,or_false]at hu
     rcases hu with rfl|rfl|rfl<;>rfl) hbl (λj u hu=>by rw[Nat.zero_add];simpa using hu) ?_).mono ?_
    ·rcases cR with⟨Fv,q,hx0⟩|⟨Fv,G,C,cells,rest,q1,q2,q3,q4,q5,q6,kC⟩
     ·exact .inl ⟨q,hx0,Fv⟩
     ·have L8:=(Array.getElem?_eq_some_iff.1 q3).1
      refine .inr ⟨G,C,cells,rest,q1,⟨q6,kC⟩,?_,by rw[q4,List.take_append_drop],q5,by omega,by omega⟩
      rw[((World.Extends.refl w2).alloc (.cells #[.string (aH (J t)),.string (aH (J s)),.slice none 0 0] 39)).block G L8];exact q3
    ·rintro e w3 ⟨fM,G,C,cells,post,rfl,g1,g2,g3,g4,g5⟩
     have hx3:w.Extends w3:=by
      cases ho:qF x with
      |none=>rw[ho]at fM;exact nH.trans fM.ext
      |some g=>rw[ho]at fM;exact rG nH fM (hown g ho)
     have hG:w.heap.size<=G:=by
      rcases g5 with h|h
      ·exact hown G h
      ·exact Nat.le_trans nH.size h
     refine⟨_,rfl,hx3,.inr ⟨G,0,C,cells,_,_,by rw[lR],⟨by rw[lR];exact g3,g4⟩,.inr hG,g1,qb,[],vs.take (a*3)++([.string (aH (J t)),.string (aH (J s)),.slice none 0 0]++vs.drop (a*3)),post,by rw[g2];simp,rfl,?_⟩⟩
     rw[lW]
     refine oZ ((dO.split a).1.mono (Fr.ext hf' hx3)) (oZ ⟨[.string (aH (J t)),.string (aH (J s)),.slice none 0 0],[],by simp,⟨rfl,rfl,?_,trivial⟩,rfl⟩ ((dO.split a).2.mono (Fr.ext hf' hx3)))
     exact .inl ⟨⟨none,rfl⟩,dD []⟩
end Go.bD
namespace Go.bD
open Go Go.aZ Go.Proofs Go.RowKit
theorem jc.sl {F:Nat->Prop} {w:World} {rows:List (List Int)} {v:Value} (h:jc F w [.str] rows v):dW F w [.str] rows v:=by
 rcases h with h|⟨g,o,cap,cells,t,fz,h1,⟨h2,pR,_⟩,h3,h4,h5⟩
 ·exact .inl h
 ·exact .inr ⟨g,o,cap,cells,t,fz,h1,⟨h2,pR⟩,h3,h4,(iq rfl).2 h5⟩
theorem Jq {F:Nat->Prop} {w:World} {d:Int} {v:Value} (h:dW F w [.str] (ab d) v):∃(p:Option Addr) (g o cap:Nat),v= .slice p (aK d).length cap/\(0<(aK d).length->p=some ⟨g,o,none⟩)/\(∀w1,w.Extends w1->∀j,j<(aK d).length->w1.cell? ⟨g,o+j,none⟩=some (.string (aH ((aK d).getD j []))))/\∀row∈ab d,aS [.str] row:=by
 rcases h with⟨⟨p,h⟩,hr⟩|⟨g,o,cap,cells,t,fz,h1,h2,h3,h4,h5⟩
 ·have h0:(aK d).length=0:=by rw[mc,hr];rfl
  exact⟨p,0,0,0,by rw[h,h0],λh=>by omega,λ_ _ j hj=>by omega,by rw[hr];intro _ h;simp at h⟩
 ·have h5:=(iq (sh:=[.str]) rfl).1 h5
  refine⟨_,g,o,cap,by rw[h1,mc],λ_=>rfl,λw1 hx j hj=>?_,h5.1⟩
  have hj':j<(ab d).length:=by rw[mc]at hj;exact hj
  have hrow:=List.getElem?_eq_getElem hj'
  obtain⟨z,z0,ao,z2,z3⟩:=(h5.1 _ (List.getElem_mem hj')).get (j:=0) (c:= .str) rfl
  have hc:=h5.get hrow z3
  have hlt:=(Array.getElem?_eq_some_iff.1 h4).1
  simp only[World.cell?,hx.block g hlt,h4,Option.isSome_none,Bool.false_eq_true,if_false]
  rw[vE hj']
  have e:((ab d).getD j []).getD 0 0=z:=by simp only[List.getD,hrow,Option.getD_some,z0]
  rw[e]
  have hc:cells[o+j]?=some (.string (aH (J z))):=by simpa [ah.val]using hc
  exact hc
theorem Jo {w:World} {l:List ak} {p:Option Addr} {g o cap:Nat} (hp:0<l.length->p=some ⟨g,o,none⟩) (hc:∀w1,w.Extends w1->∀j,j<l.length->w1.cell? ⟨g,o+j,none⟩=some (.string (aH (l.getD j [])))):yS w (.slice p l.length cap) l:=by
 refine⟨p,cap,rfl,λw1 hx=>?_⟩
 by_cases h0:l.length=0
 ·have hl:l=[]:=List.eq_nil_of_length_eq_zero h0
  subst hl
  exact Src.BK w1 Tryd.underlying37 p cap
 ·rw[hp (by omega)]
  refine Src.ofSlice w1 Tryd.underlying37 ⟨g,o,none⟩ l.length cap _ (by simp) (λj u hu=>?_) (λu hu=>by obtain⟨_,_,rfl⟩:=List.mem_map.1 hu;rfl)
  have hj:j<l.length:=by have:=(List.getElem?_eq_some_iff.1 hu).1;simpa using this
  rw[Addr.add_lit,hc w1 hx j hj]
  rw[<-hu]
  simp[List.getD,hj]
theorem fq.base {w W w':World} {l:List ak} {x:Value} (hx:w.Extends W) (h:fq W w' l x):fq w w' l x:=by
 obtain⟨h1,h2⟩:=h
 refine⟨hx.trans h1,h2.imp id ?_⟩
 rintro⟨G,C,cells,rest,k1,k2,k3⟩
 exact⟨G,C,cells,rest,k1,Nat.le_trans hx.size k2,k3⟩
theorem fq.form {w w':World} {l:List ak} {x:Value} (h:fq w w' l x):∃p c,x= .slice p l.length c:=by
 rcases h.2 with⟨h1,h2⟩|⟨G,C,_,_,h1,_⟩
 ·exact⟨none,0,by rw[h1,h2];rfl⟩
 ·exact⟨_,_,h1⟩
def kf (l:List ak):List (List Int):=l.map λt=>[dF t]
theorem LU (l:List ak):bz [.str] (kf l)=mb l:=by
 induction l with
 |nil=>rfl
 |cons t r ih=>
  show bL [.str] [dF t]++bz [.str] (kf r)=_
  rw[ih]
  simp[bL,ah.val,gD]
theorem Em {l:List ak} (h:∀t∈l,t.length<=64):∀row∈kf l,aS [.str] row:=λrow hr=>by
 obtain⟨t,ht,rfl⟩:=List.mem_map.1 hr
 exact⟨⟨kQ _,j6 (by have:=h t ht;unfold ez;omega)⟩,trivial⟩
theorem Ti (l:List ak):aK (rc (kf l))=l:=by
 unfold aK
 rw[dD]
 unfold kf
 rw[List.map_map]
 conv=>rhs;rw[<-List.map_id l]
 exact List.map_congr_left λt _=>by simp[gD]
theorem fq.sub {F:Nat->Prop} {w w' w3:World} {l:List ak} {x:Value} (h:fq w w' l x) (hl:l.length<=1073741824) (tZ:∀t∈l,t.length<=64) (he:∀G C,x= .slice (some ⟨G,0,none⟩) l.length C->w.heap.size<=G->w3.heap[G]?=w'.heap[G]?):jc (λg=>F g∨w.heap.size<=g) w3 [.str] (kf l) x:=by
 have cR:(kf l).length=l.length:=by simp[kf]
 rcases h.2 with⟨h1,h2⟩|⟨G,C,cells,rest,h1,h2,h3,h4,h5,h6⟩
 ·subst h1 h2
  exact .inl ⟨⟨_,rfl⟩,rfl⟩
 ·exact .inr ⟨G,0,C,cells,_,_,by rw[h1,cR],⟨by rw[cR];exact h5,by omega,by rw[cR];omega⟩,.inr h2,by rw[he G C h1 h2];exact h3,Em tZ,[],rest,by rw[LU,h4];rfl,rfl⟩
theorem I3 (w:World) (g k:Nat) (v:Value):e8 w (w.setCell ⟨g,k,none⟩ v) (some g):=by
 rw[Go.Sort.setCell_eq]
 refine⟨rfl,rfl,rfl,by simp[Go.Sort.mapBlock],λi hi hne=>?_⟩
 have:g≠i:=λe=>hne (by rw[e])
 simp[Go.Sort.mapBlock,Array.getElem?_modify,this]
theorem heap_setCell {w:World} {g k:Nat} {v:Value} {cells:Array Value} {t:TypeId} {fz:Nat×Nat} (h:w.heap[g]?=some (.cells cells t fz)):(w.setCell ⟨g,k,none⟩ v).heap[g]?=some (.cells (cells.setIfInBounds k v) t fz):=by
 rw[Go.Sort.setCell_eq]
 simp[Go.Sort.mapBlock,Array.getElem?_modify,h,Go.Sort.onCells]
theorem Qz {wb:World} (nA:cO wb mJ) (hpl:c3 wb nP):cO wb mH:=by
 refine⟨λargs w=>enters (by kernel_rfl) _ _,λF w vs zs hw hz ix hat=>?_⟩
 match zs,hz,vs,hat with
 |[z,t,d],hz,[v0,v1,v2],hat=>
  obtain⟨h0,h1,h2,_⟩:=hat
  have h0:dW F w [.str,.str,.sub 1] (ab z) v0:=h0
  have h2:dW F w [.str] (ab d) v2:=h2
  have ix:(ab d).length<=100000000:=ix
  have nA:=nA.2 F w [v0,v1] [z,t] hw ⟨hz.1,hz.2.1,hz.2.2.1,hz.2.2.2.1,trivial⟩ trivial ⟨h0,h1,trivial⟩
  have h1:v1= .string (aH (J t)):=h1
  have hk:Calls Tryd.prog 12 #[v0,v1] w λe w1=>w.Extends w1/\e= .returned (.tuple #[.int .i64 (bN (au z) (J t)).1,.int .i64 (bN (au z) (J t)).2]):=by
   refine nA.mono ?_
   rintro e w1 ⟨hx,rs,us,hb,hs,ha,rfl⟩
   match rs,hb,us,ha with
   |[i,dM],hb,[u0,n5],ha=>
    have hs:(i,dM)=bN (au z) (J t):=hs
    obtain⟨a0,a1,_⟩:=ha
    have a0:u0= .int .i64 i:=a0
    have a1:n5= .int .i64 dM:=a1
    subst a0 a1
    exact⟨hx,by rw[<-hs];rfl⟩
  have hzb:0<=z/\z<=aF:=⟨hz.1,hz.2.1⟩
  obtain⟨i,dM,gw⟩:∃i dM,bN (au z) (J t)=(i,dM):=⟨_,_,rfl⟩
  rw[gw]at hk
  have same:∀{w1:World} {x:Int},w.Extends w1->0<=x->x<=21->(au z,x)=je (au z) (J t) (aK d)->w.Extends w1/\∃rs us,bb (cE mH.res) rs/\dn sh SB mH.id [z,t,d] rs/\fD (λg=>F g∨w.heap.size<=g) (λg=>w.heap.size<=g) w1 mH.res rs us/\Ending.returned (.tuple #[v0,.int .i64 x])= .returned (mY us):=λ{w1 x} hx x0 x1 hs=>
   ⟨hx,[z,x],[v0,.int .i64 x],⟨hzb.1,hzb.2,x0,x1,trivial⟩,hs,⟨dW.ext h0 (λg h=> .inl h) hx,rfl,trivial⟩,rfl⟩
  by_cases he:dM=0
  rotate_left
  ·refine(Ko v0 v1 v2 w i dM he hk).mono ?_
   rintro e w1 ⟨hx,rfl⟩
   have hb:0<=dM/\dM<=21:=by
    have:dM=(bN (au z) (J t)).2:=by rw[gw]
    rw[this]
    unfold bN
    cases cz (au z)<;>simp only[cond_true,cond_false]
    ·decide
    ·cases(au z).findIdx? (λu=>decide (u.tok=J t))with
     |none=>decide
     |some k=>exact(show(0:Int)<=0/\(0:Int)<=21 by decide)
   refine same hx hb.1 hb.2 ?_
   unfold je
   rw[gw]
   simp only[decide_eq_false he,cond_false]
  subst he
  obtain⟨hn,eJ,kr⟩:=Hf gw.symm rfl
  have Od:cz (au z)=true:=by
   cases hr:cz (au z)with
   |true=>rfl
   |false=>unfold bN at gw;rw[hr]at gw;cases gw
  rw[kH]at hn kr
  obtain⟨a,rfl⟩:∃a:Nat,i=a:=⟨i.toNat,by omega⟩
  have hai:a<(ab z).length:=by omega
  obtain⟨bd,g2,o2,kR,hv2,se,hc2,qg⟩:=Jq h2
  have hq:∀w1,w.Extends w1->∀s∈aK d,Calls Tryd.prog 15 #[.string (aH s)] w1 λe w2=>w1.Extends w2/\e= .returned (.bool (b8 s)):=λw1 hx s hs=>by
   obtain⟨row,hr,rfl⟩:=List.mem_map.1 hs
   have:=qg row hr
   match row,this with
   |[c],this=>exact Ii hpl this.1 (hw.trans hx)
  have GJ:(aK d).length<=100000000:=by rw[mc];exact ix
  have my:∀w1,w.Extends w1->Calls Tryd.prog 13 #[v2,.func (.func 14) #[] #[]] w1 λe w2=>w.Extends w2/\e= .returned (.bool !(aK d).all b8):=λw1 hx=>by
   rw[hv2]
   refine(Lf (aK d) bd g2 o2 kR w1 (by omega) se (λw' ey=>hc2 w' (hx.trans ey)) λw' ey=>hq w' (hx.trans ey)).mono ?_
   rintro e w2 ⟨hx2,rfl⟩
   exact⟨hx.trans hx2,rfl⟩
  cases hall:(aK d).all b8 with
  |false=>
   rw[hall]at my
   refine(Km v0 v1 v2 w a hk my).mono ?_
   rintro e w1 ⟨hx,rfl⟩
   refine same hx (by decide) (by decide) ?_
   unfold je
   rw[gw,hall];rfl
  |true=>
  rw[hall]at my
  obtain⟨vs,dO,cX,hval⟩:=CY h0
  have hl:vs.length=(ab z).length*3:=dO.len
  have one:∀u∈vs,u.oneCell'=true:=vt dO
  obtain⟨g,o,cap,hv0,hc0⟩:∃g o cap,v0= .slice (some ⟨g,o,none⟩) (ab z).length cap/\∀w1,w.Extends w1->∀(j:Nat) (u:Value),vs[j]?=some u->((⟨g,o,none⟩:Addr).add j).block<w1.heap.size/\w1.cell? ((⟨g,o,none⟩:Addr).add j)=some u:=by
   rcases h0 with⟨_,h⟩|⟨g,o,cap,cells,tt,fz,q1,q2,q3,q4,q5⟩
   ·rw[h]at hai;simp at hai
   ·rcases hval with⟨_,_,h⟩|⟨p,c,h,h'⟩
    ·omega
    ·rw[q1]at h
     injection h with e1 e2 e3
     injection e1 with e1
     subst e1
     exact⟨g,o,cap,q1,h'⟩
  obtain⟨row,hrow⟩:∃row,row=(ab z).getD a []:=⟨_,rfl⟩
  have hrow':(ab z)[a]?=some row:=by rw[hrow];simp[List.getD,hai]
  have ew:=dO.get hrow'
  have eW:([.str,.str,.sub 1]:List ah).length=3:=rfl
  rw[eW]at ew
  have mE:=cX row (List.mem_of_getElem? hrow')
  obtain⟨bK,c1,ax,rfl⟩:∃bK c1 ax,row=[bK,c1,ax]:=by
   match row,mE with
   |[bK,c1,ax],_=>exact⟨bK,c1,ax,rfl⟩
  obtain⟨x0,x1,qV,hx3⟩:∃x0 x1 qV,(vs.drop (a*3)).take 3=[x0,x1,qV]:=by
   match(vs.drop (a*3)).take 3,ew with
   |[x0,x1,qV],_=>exact⟨x0,x1,qV,rfl⟩
  rw[hx3]at ew
  have hu:(au z).getD a b9=s5 [bK,c1,ax]:=by rw[s6 hai,<-hrow]
  have uH:vs=vs.take (a*3)++([x0,x1,qV]++vs.drop ((a+1)*3)):=by
   rw[<-hx3,show(a+1)*3=a*3+3 by omega,<-List.drop_drop,List.take_append_drop,List.take_append_drop]
  have nH:vs[a*3+2]?=some qV:=by
   have ga:(vs.take (a*3)).length=a*3:=by rw[List.length_take,hl];omega
   rw[uH,List.getElem?_append_right (by omega),ga]
   rw[show a*3+2-a*3=2 by omega];rfl
  have k5:jc F w [.str] (ab ax) qV:=ew.2.2.1
  obtain⟨p1,g1,o1,pD,jw,qc,hc1,U4⟩:=Jq (jc.sl k5)
  have AR:=Od
  unfold cz at AR
  simp only[Bool.and_eq_true]at AR
  have AZ:=List.all_eq_true.1 AR.2.1 (s5 [bK,c1,ax]) (by
   rw[<-hu]
   have:a<(au z).length:=by rw[kH];exact hai
   simp only[List.getD,List.getElem?_eq_getElem this,Option.getD_some]
   exact List.getElem_mem this)
  simp only[Bool.and_eq_true]at AZ
  have c6:(s5 [bK,c1,ax]).cV=aK ax:=rfl
  have UL:(aK ax).length<=4:=by rw[<-c6];exact Nat.le_of_ble_eq_true AZ.2.1
  have wT:fk (aK ax)=true:=AZ.2.2
  have ME:=Hz wT
  have MF:∀s∈aK ax,b8 s=true:=λs hs=>by
   unfold fk at wT
   rw[List.all_eq_true]at wT
   obtain⟨j,hj,rfl⟩:=List.getElem_of_mem hs
   have:=wT j (List.mem_range.2 hj)
   rw[Bool.and_eq_true]at this
   have h:=this.1
   simp only[List.getD,List.getElem?_eq_getElem hj,Option.getD_some]at h
   exact h
  obtain⟨U,hU⟩:∃U,U=n6 (aK ax) (aK d):=⟨_,rfl⟩
  have hcs:=La (a:=aK ax) (d:=aK d) ME
  rw[<-hU]at hcs
  have FE:∀s∈U,s.length<=64:=λs hs=>by
   have:b8 s=true:=by
    rw[hU,xJ]at hs
    rcases hs with h|h
    ·exact MF s h
    ·exact List.all_eq_true.1 hall s h
   unfold b8 at this
   simp only[Bool.and_eq_true]at this
   exact Nat.le_of_ble_eq_true this.2.1
  have NC:((aK ax++aK d).mergeSort λx y=>decide (x<=y)).length<=1073741824:=by rw[List.length_mergeSort,List.length_append];omega
  have NF:U.length<=((aK ax++aK d).mergeSort λx y=>decide (x<=y)).length:=by
   rw[<-hcs]
   unfold Lib.compact Lib.compactUpTo
   rw[List.length_map]
   refine Nat.le_trans (List.length_filter_le _ _) ?_
   rw[List.length_range]
   exact Nat.le_refl _
  have n8:∀w1,w.Extends w1->Calls Tryd.prog 16 #[.slice (some ⟨w1.heap.size,0,none⟩) 2 2] (w1.alloc (.cells #[.slice p1 (aK ax).length pD,.slice bd (aK d).length kR] 37)) λe w2=>∃y,e= .returned y/\fq w w2 (aK ax++aK d) y:=λw1 hx=>by
   have nH:=hx.trans ((World.Extends.refl w1).alloc (.cells #[.slice p1 (aK ax).length pD,.slice bd (aK d).length kR] 37))
   have hb:=heap_alloc_new w1 (.cells #[.slice p1 (aK ax).length pD,.slice bd (aK d).length kR] 37)
   refine(Ld (l0:=aK ax) (l1:=aK d) (Array.getElem?_eq_some_iff.1 hb).1 (x0:= .slice p1 (aK ax).length pD) (x1:= .slice bd (aK d).length kR) (by simp only[World.cell?,hb];rfl) (by simp only[World.cell?,hb];rfl) (Jo qc λw' ey=>hc1 w' (nH.trans ey)) (Jo se λw' ey=>hc2 w' (nH.trans ey)) (by omega)).mono ?_
   rintro e w2 ⟨y,rfl,hy⟩
   exact⟨y,rfl,hy.base nH⟩
  have n9:∀w1 y,fq w w1 (aK ax++aK d) y->Calls Tryd.prog 17 #[y] w1 λe w2=>e= .returned (.tuple #[])/\fq w w2 ((aK ax++aK d).mergeSort λx y=>decide (x<=y)) y:=λw1 y hy=>SS hy (by rw[List.length_append];omega)
  have te:∀w1 y,fq w w1 ((aK ax++aK d).mergeSort λx y=>decide (x<=y)) y->Calls Tryd.prog 18 #[y] w1 λe w2=>∃p c,e= .returned (.slice p U.length c)/\fq w w2 U (.slice p U.length c):=λw1 y hy=>by
   refine(Lb hy NC (by rw[hcs];exact NF) rfl).mono ?_
   rintro e w2 ⟨y,rfl,hy⟩
   rw[hcs]at hy
   obtain⟨p,c,rfl⟩:=hy.form
   exact⟨p,c,rfl,hy⟩
  have hce:∀w1,w.Extends w1->w1.cell? ⟨g,o+a*3+2,none⟩=some (.slice p1 (aK ax).length pD):=λw1 hx=>by
   have:=(hc0 w1 hx _ _ nH).2
   rw[Addr.add_lit,<-Nat.add_assoc]at this
   rw[this,jw]
  rw[hv2]at my
  by_cases hm:(4:Int)<(U.length:Nat)
  ·have Gd:=Kn g o (ab z).length cap a U.length (aK ax).length pD (aK d).length kR p1 bd v1 w hai (by omega) hm (λw1 y=>fq w w1 (aK ax++aK d) y) (λw1 y=>fq w w1 ((aK ax++aK d).mergeSort λx y=>decide (x<=y)) y) (by rw[<-hv0];exact hk) my hce n8 n9 λw1 y hy=>(te w1 y hy).mono λe w2 ⟨p,c,h1,h2⟩=>⟨p,c,h1,h2.1⟩
   rw[<-hv0,<-hv2]at Gd
   refine Gd.mono ?_
   rintro e w1 ⟨hx,rfl⟩
   refine same hx (by decide) (by decide) ?_
   unfold je
   rw[gw,hall]
   simp only[Int.toNat_natCast,hu,c6,<-hU]
   rw[show Nat.ble U.length 4=false from by
    cases h:Nat.ble U.length 4 with
    |false=>rfl
    |true=>have:=Nat.le_of_ble_eq_true h;omega]
   rfl
  ·obtain⟨bw,lW⟩:∃bw,bw=(ab z).take a++([[bK,c1,rc (kf U)]]++(ab z).drop (a+1)):=⟨_,rfl⟩
   have Mh:U.length<=4:=by omega
   have MT:(kf U).length=U.length:=by simp[kf]
   have qb:∀r∈bw,aS [.str,.str,.sub 1] r:=λr hr=>by
    rw[lW]at hr
    rcases List.mem_append.1 hr with hr|hr
    ·exact cX r (List.mem_of_mem_take hr)
    ·rcases List.mem_append.1 hr with hr|hr
     ·simp at hr;subst hr
      exact⟨mE.1,mE.2.1,⟨cL _,yP (k:=1) (by rw[MT];omega) (Em FE)⟩,trivial⟩
     ·exact cX r (List.mem_of_mem_drop hr)
   have lR:bw.length=(ab z).length:=by rw[lW];simp;omega
   have GR:=Kp g o (ab z).length cap a U.length (aK ax).length pD (aK d).length kR p1 bd v1 w hai (by omega) hm (λw1 y=>fq w w1 (aK ax++aK d) y) (λw1 y=>fq w w1 ((aK ax++aK d).mergeSort λx y=>decide (x<=y)) y) (λw1 y=>fq w w1 U y)
    (λw2 G z' y=>w.Extends w2/\w.heap.size<=G/\(∃w1,fq w w1 U y/\(∀H:Nat,H<w1.heap.size->w2.heap[H]?=w1.heap[H]?)/\w1.heap.size<=G)/\∃(C:Nat) (cells:Array Value) (rest:List Value),z'= .slice (some ⟨G,0,none⟩) (ab z).length C/\w2.heap[G]?=some (.cells cells 39 (0,0))/\cells.toList=vs++rest/\(ab z).length<=C/\(C:Int)<=9223372036854775807)
    (λw3 z'=>w.Extends w3/\dW (λg=>F g∨w.heap.size<=g) w3 [.str,.str,.sub 1] bw z') (by rw[<-hv0];exact hk) my hce n8 n9 te (λw1 y hy=>?_) (λw2 G z' y hD=>?_)
   ·rw[<-hv0,<-hv2]at GR
    refine GR.mono ?_
    rintro e w3 ⟨y,rfl,hx3,hy⟩
    refine⟨hx3,[rc bw,0],[y,.int .i64 0],⟨cL _,lB (by kernel_rfl) (by rw[lR];omega) qb,by decide,by decide,trivial⟩,?_,⟨?_,rfl,trivial⟩,rfl⟩
    ·show(au (rc bw),(0:Int))=je (au z) (J t) (aK d)
     unfold je
     rw[gw,hall]
     simp only[Int.toNat_natCast,hu,c6,<-hU]
     rw[show Nat.ble U.length 4=true from Nat.ble_eq_true_of_le Mh]
     show _=((au z).set a _,(0:Int))
     congr 1
     rw[List.set_eq_take_append_cons_drop,if_pos (by rw[kH];exact hai)]
     unfold au
     rw[dD,lW]
     simp only[List.map_append,List.map_take,List.map_drop,List.map_cons,List.map_nil,List.singleton_append]
     congr 2
     show(⟨J bK,J c1,aK (rc (kf U))⟩:cd)=_
     rw[Ti];rfl
    ·show dW _ _ _ (ab (rc _)) _
     rw[dD];exact hy
   ·refine(zm w1 (.slice (some ⟨g,o,none⟩) (ab z).length cap) (ab z).length vs (by omega) hl one (.inr ⟨_,_,rfl,hc0 w1 hy.1⟩)).mono ?_
    rintro e w2 ⟨hx2,x,rfl,cR⟩
    rcases cR with⟨h,_⟩|⟨_,G,C,cells,rest,q1,q2,q3,q4,q5,q6,kC⟩
    ·omega
    ·have hk2:a*3+2<cells.size:=by
      have:=congrArg List.length q4
      rw[Array.length_toList,List.length_append,hl]at this
      omega
     subst q1
     exact⟨G,C,rfl,⟨cells[a*3+2],by simp[World.cell?,q3,hk2]⟩,by simp[World.frozen?,q3],hy.1.trans hx2,Nat.le_trans hy.1.size q2,⟨w1,hy,λH hH=>hx2.block H hH,q2⟩,C,cells,rest,rfl,q3,q4,q6,kC⟩
   ·obtain⟨hx2,hG,⟨w1,hy,AV,zR⟩,C,cells,rest,rfl,q3,q4,q6,kC⟩:=hD
    have hx3:=rG hx2 (I3 w2 G (a*3+2) y) hG
    have hf:∀g,F g->F g∨w.heap.size<=g:=λg h=> .inl h
    refine⟨hx3,.inr ⟨G,0,C,_,_,_,by rw[lR],⟨by rw[lR];exact q6,kC⟩,.inr hG,heap_setCell q3,qb,[],vs.take (a*3)++([x0,x1,y]++vs.drop ((a+1)*3)),rest,?_,rfl,?_⟩⟩
    ·have ga:(vs.take (a*3)).length=a*3:=by rw[List.length_take,hl];omega
     rw[Array.toList_setIfInBounds,q4]
     conv=>lhs;rw[uH]
     rw[List.append_assoc,List.set_append_right _ _ (by omega),ga,show a*3+2-a*3=2 by omega]
     simp
    ·rw[lW]
     refine oZ ((dO.split a).1.mono (Fr.ext hf hx3)) (oZ ⟨[x0,x1,y],[],by simp,⟨ew.1,ew.2.1,?_,trivial⟩,rfl⟩ ((dO.split (a+1)).2.mono (Fr.ext hf hx3)))
     show jc _ _ [.str] (ab (rc (kf U))) y
     rw[dD]
     refine hy.sub (by omega) FE λH C' he hH=>?_
     have hlt:H<w1.heap.size:=by
      rcases hy.2 with⟨h1,h2⟩|⟨Uo,Un,cc,IN,h1,h2,h3,_⟩
      ·rw[h2]at he;cases he
      ·rw[h1]at he
       injection he with e1
       injection e1 with e1
       injection e1 with e1
       rw[<-e1]
       exact(Array.getElem?_eq_some_iff.1 h3).1
     have UI:=(Array.getElem?_eq_some_iff.1 q3).1
     rw[(I3 w2 G (a*3+2) y).2.2.2.2 H (by omega) (λe=>by injection e with e;omega),AV H hlt]
end Go.bD
namespace Go.Proofs.YtejjagiggkgdmaaDoor
open Go Go.aZ Go.bD Go.ChangeShapes Go.RowKit
theorem own:ownKnob Tryd.prog.godebug=none:=by kernel_rfl
theorem PO:laidOutB Tryd.prog=true:=by kernel_rfl
def laid:List (String×DataW Unit):=[("unicode/utf8.acceptRanges",Rows.laid_unicode_utf8_acceptRanges),("unicode/utf8.first",Rows.laid_unicode_utf8_first)]
theorem Fq (W:World):eC [] ⟨W,W,λ_=>False,λ_=>False,[]⟩:=λg cs hm=>by cases hm
theorem Pp:(laid.filter λx=>x.2.handleName?.isNone)=laid:=by kernel_rfl
theorem Lq (os:Os) (args:Array Value):laidMetH Tryd.prog laid ((World.laidAll Tryd.prog os laid).forCall (λ_ _=>0) ⟨#[],args,[]⟩).memory:=
 laidMetH_of_parts3 (fuel:=8) (by rw[Pp];exact laidMet_laidAll args (by kernel_rfl) (by kernel_rfl)) (by kernel_rfl) (by kernel_rfl)
theorem Tm:td Tryd.prog 9 (.d (.str)):=Tryd.underlying9
theorem Tl:td Tryd.prog 22 (.rd [.str,.str,.sub 1]):=⟨39,Tryd.underlying22,by kernel_rfl,by kernel_rfl,by decide⟩
theorem Tn:td Tryd.prog 23 (.d (.mix [.str,.str])):=⟨.inr ⟨_,_,Tryd.underlying23⟩,by kernel_rfl,by kernel_rfl,rfl⟩
theorem cell0 {W:World} (h:W.ShapedOpen Tryd.prog):∃m,W.cell? ⟨0,0,none⟩=some (.int .i64 m):=
 cell_of_shapedOpen_int (zero:=#[.int .i64 0]) (t:=3) h (of_decide_eq_true (by kernel_rfl)) (by kernel_rfl) rfl (by kernel_rfl) (by kernel_rfl) Tryd.underlying3
theorem M7 {W:World} {m:Int} (h:W.cell? ⟨0,0,none⟩=some (.int .i64 m)):0<W.heap.size:=by
 rcases Nat.lt_or_ge 0 W.heap.size with h0|h0
 ·exact h0
 ·have:W.heap[(0:Nat)]?=none:=Array.getElem?_eq_none h0
  simp[World.cell?,this]at h
theorem Q3 {id:Nat} (hid:id=521∨id=522) (a:List (List Int)) (z:Int) (h:SB id a [[z]]):z=1:=by
 rcases hid with rfl|rfl
 all_goals
  match a,h with
  |[],h=>first|exact h|exact h.elim
  |[_],h=>first|exact h|exact h.elim
  |[_,_],h=>first|exact h|exact h.elim
  |[_,_,_],h=>first|exact h|exact h.elim
  |_::_::_::_::_,h=>exact h.elim
structure JN (W:World):Prop where
 CT:cO W qy
 zK:cO W qx
 vQ:cO W nO
 yT:cO W uX
 vP:cO W mI
 vN:cO W mH
 vO:cO W nN
theorem Kv {W:World} (h:W.ShapedOpen Tryd.prog):JN W:=by
 have hg:=Fq W
 obtain⟨m,hm⟩:=cell0 h
 have A9:c3 W oM:=QO
 have Ez:=QL hg A9
 have Be:=QP hg A9
 have KU:yN W x4:=QI ⟨m,hm⟩ (M7 hm)
 have Td:=QW hg
 have Te:=QX hg
 have Tc:=QV hg
 have N2:=QN hg KU Te Td Be
 have SC:=QU hg Ez N2 Tc Be
 have Th:=QY hg
 have Jy:=Q0 hg Ez Th Be SC
 have RM:=QS hg
 have K5:c3 W xy:=QJ
 have zK:=QM hg
 have Lh:=QK hg A9
 have BZ:=QR hg RM Lh
 have KE:=QH hg BZ
 have DP:=QD hg Jy KE
 have DX:=QG hg K5
 have vT:=QF hg DP DX
 have vQ:=QE hg vT
 have yT:cO W uX:=QB vT
 have vP:cO W mI:=QC DP BZ Jy DX
 have Su:=QT hg
 have vO:=QA hg vT Su
 have vN:cO W mH:=Qz vT BZ
 have CT:=QZ hg vP vO vN vQ
 exact⟨CT,zK,vQ,yT,vP,vN,vO⟩
end Go.Proofs.YtejjagiggkgdmaaDoor
