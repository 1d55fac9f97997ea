/- The address seat: what each function says,on texts. -/
import Derived.Test.YtejjagiggkgdmaaDoorPac
import Derived.Test.YtejjagiggkgdmaaDoorProg
import Derived.KernelRfl
import Derived.Shelf.Lay
import Derived.Shelf.LaySoft
import Derived.Shelf.Strings.Search1
import Derived.Shelf.Strings.Search3
import Derived.Shelf.Small.Strs
import Derived.BigCall
import Derived.Lib.IndexMore
import Derived.WalkKit
import Derived.OwnWalk
import Derived.Deep.RegionLaw
import Derived.Laws.CopyOwn
import Derived.Lib.Builder
import Derived.Lib.Overlaps
import Derived.Lib.AppendZerosOnto
import Derived.Shelf.Slices.In.CompactS
import Derived.Shelf.Slices.In.SortAlone
import Derived.Shelf.Slices.In.SortNone
import Derived.Sort.OwnSorted
import Derived.Sort.EveryDepth
import Derived.Lib.SlicesCompact
import Derived.Sort.Walk0
import Derived.Shelf.Vars
import Derived.Test.YtejjagiggkgdmaaDoorRows
import Derived.Test.YtejjagiggkgdmaaDoorTie
import Derived.Test.YtejjagiggkgdmaaDoorCards
import Derived.SevenTiedAt
import Derived.Lay

set_option linter.unusedVariables false
set_option linter.unusedSimpArgs false
namespace Go.bD
open Go Go.aZ
abbrev al:=List UInt8
def u8 (z:Int):UInt8:=UInt8.ofNat z.toNat
def aS (b:Bool):Int:=cond b 1 0
def hZ (p:UInt8->Bool) (l:al):al:=l.dropWhile p
def fV (p:UInt8->Bool) (l:al):al:=(l.reverse.dropWhile p).reverse
def gv (p:UInt8->Bool) (l:al):al:=hZ p (fV p l)
def dd (l:al):Bool:=(List.range l.length).any λi=>l.getD i 0==46&&l.getD (i+1) 0==46
def uq (c:UInt8):Bool:=Nat.ble 97 c.toNat&&Nat.ble c.toNat 122
def uo (c:UInt8):Bool:=Nat.ble 65 c.toNat&&Nat.ble c.toNat 90
def fT (c:UInt8):Bool:=Nat.ble 48 c.toNat&&Nat.ble c.toNat 57
def Se:al:=[33,35,36,37,38,39,42,43,47,61,63,94,95,96,123,124,125,126,45]
def Ov (c:UInt8):Bool:=uq c||uo c||fT c||Se.contains c||c==46
def th (c:UInt8):Bool:=c==46||c==45
def p6 (c:UInt8):Bool:=uq c||uo c||fT c||th c
def uF (inn nY:UInt8->Bool) (s:al):Bool:=(List.range s.length).all λi=>
 inn (s.getD i 0)&&(!nY (s.getD i 0)||(Nat.blt 0 i&&Nat.blt (i+1) s.length))&& !(s.getD i 0==46&&Nat.blt 0 i&&s.getD (i-1) 0==46)
def A4 (s:al):Bool:=Nat.blt 0 s.length&&Nat.ble s.length 64&&uF Ov (·==46) s
def jy (s:al):Bool:=Nat.blt 0 s.length&&Nat.ble s.length 230&&uF p6 th s
def sn (s:al):Bool:=Nat.blt 0 s.length&&Nat.ble s.length 5&&s.all fT
def kx (c:Int) (s:al):al×al×Int:=cond (decide (0<=idx c s)) (s.take (idx c s).toNat,s.drop ((idx c s).toNat+1),1) (s,[],0)
def kS (s:al):Bool:=jy (kx 58 s).1&&(decide ((kx 58 s).2.2=0)||sn (kx 58 s).2.1)
def lo (c:UInt8):UInt8:=cond (uo c) (UInt8.ofNat (c.toNat+32)) c
def lower (s:al):al:=s.map lo
def K8 (t:al):al×Int:=
 cond (decide (0<=idx 64 t)&&Nat.ble t.length 254&&A4 (t.take (idx 64 t).toNat)&&jy (t.drop ((idx 64 t).toNat+1))&&(t.drop ((idx 64 t).toNat+1)).contains 46) (lower t,0) ([],2)
def y4 (s:al):al×Int:=K8 (gv (·==32) s)
def R9:al:=[32,45,46,40,41]
def s4:al->al->Bool->Option (al×Bool)
 |[],d,p=>some (d,p)
 |c::r,d,p=>cond (fT c) (s4 r (d++[c]) p) (cond (c==43&&d.isEmpty&& !p) (s4 r d true) (cond (R9.contains c) (s4 r d p) none))
def yX (w:al):Option (al×al):=
 cond (w==[]) (some ([],[])) (cond (w==[71,66]) (some ([52,52],[48])) (cond (w==[85,83]) (some ([49],[])) (cond (w==[68,69]) (some ([52,57],[48])) (cond (w==[70,82]) (some ([51,51],[48])) (cond (w==[67,72]) (some ([52,49],[48])) none)))))
def Rk (w code oI d:al) (p:Bool):al:=cond (!p&& !(w==[])) (code++cond (oI.isPrefixOf d) (d.drop oI.length) d) d
def Rj (n:al):al×Int:=cond (Nat.blt n.length 6||Nat.blt 15 n.length||n.getD 0 0==48) ([],2) (n,0)
def Bv (w s:al):al×Int:=match yX w with
 |none=>([],7)
 |some (code,oI)=>match s4 s [] false with
  |none=>([],2)
  |some (d,p)=>Rj (Rk w code oI d p)
def A1 (a b c d:al):Bool:=cond (a==c) (Op.bytesLess b d) (Op.bytesLess a c)
def K7:al:=[101,109,97,105,108]
def PX:al:=[109,115,105,115,100,110]
def G8 (m:al) (p:al×Int):al×al×Int:=cond (decide (p.2=0)) (m,p.1,0) ([],[],p.2)
def uy (m w:al):al×al×Int:=cond (m==K7) (G8 m (y4 w)) (cond (m==PX) (G8 m (Bv [] w)) ([],[],1))
def uO (m w:al):Bool:=decide ((uy m w).2.2=0)&&(m==(uy m w).1)&&(w==(uy m w).2.1)
def wV (c:UInt8):Bool:=uq c||fT c||([46,95,61,47,43,45]:al).contains c
def Gv (c:UInt8):Bool:=uq c||uo c||fT c
def kc (k:UInt8) (s:al):al×al×Int:=
 cond (Nat.blt 0 s.length&&Nat.ble s.length 255&&s.getD 0 0==k&&decide (0<=idx 58 s)&&kS (s.drop ((idx 58 s).toNat+1))) ((s.take (idx 58 s).toNat).drop 1,s.drop ((idx 58 s).toNat+1),1) ([],[],0)
def ov (k:UInt8) (inn:UInt8->Bool) (most:Nat) (s:al):Bool:=
 decide ((kc k s).2.2=1)&&Nat.blt 0 (kc k s).1.length&&Nat.ble (kc k s).1.length most&&(kc k s).1.all inn
def ie (s:al):Bool:=ov 64 wV 200 s
def xD (s:al):Bool:=ov 33 Gv 64 s
def Iw (s:al):al×al×Int:=cond (ie s||xD s) ((s.take (idx 58 s).toNat).drop 1,s.drop ((idx 58 s).toNat+1),0) ([],[],2)
def ys:al:=[65,66,67,68,69,70,71,72,73,74,75,76,77,78,79,80,81,82,83,84,85,86,87,88,89,90,97,98,99,100,101,102,103,104,105,106,107,108,109,110,111,112,113,114,115,116,117,118,119,120,121,122,48,49,50,51,52,53,54,55,56,57,45,95]
def dy (c:UInt8):Int:=idx (c.toNat:Int) ys
def nv (n:Nat):UInt8:=ys.getD n 0
def Bu:al->al
 |[]=>[]
 |[a]=>[nv (a.toNat/4),nv (a.toNat% 4*16)]
 |[a,b]=>[nv (a.toNat/4),nv (a.toNat% 4*16+b.toNat/16),nv (b.toNat% 16*4)]
 |a::b::c::r=>nv (a.toNat/4)::nv (a.toNat% 4*16+b.toNat/16)::nv (b.toNat% 16*4+c.toNat/64)::nv (c.toNat% 64)::Bu r
def nV (a b c d:Int):Int:=262144*a+(4096*b+(64*c+d))
def xt:al->al->Option al
 |out,[]=>some out
 |_,[_]=>none
 |out,[a,b]=>cond (decide (0<=dy a)&&decide (0<=dy b)&&decide (nV (dy a) (dy b) 0 0% 65536=0)) (some (out++[u8 (nV (dy a) (dy b) 0 0/65536)])) none
 |out,[a,b,c]=>cond (decide (0<=dy a)&&decide (0<=dy b)&&decide (0<=dy c)&&decide (nV (dy a) (dy b) (dy c) 0% 256=0)) (some (out++[u8 (nV (dy a) (dy b) (dy c) 0/65536)]++[u8 (nV (dy a) (dy b) (dy c) 0/256% 256)])) none
 |out,a::b::c::d::r=>cond (decide (0<=dy a)&&decide (0<=dy b)&&decide (0<=dy c)&&decide (0<=dy d)) (xt (out++[u8 (nV (dy a) (dy b) (dy c) (dy d)/65536)]++[u8 (nV (dy a) (dy b) (dy c) (dy d)/256% 256)]++[u8 (nV (dy a) (dy b) (dy c) (dy d)% 256)]) r) none
def pb (r:Int):al:=(ab r).map λrow=>UInt8.ofNat (row.getD 0 0).toNat
def En (s:al):Bool:=decide (s.length=44)&&s.getD 0 0==36&&(xt [] (s.drop 1)).isSome
abbrev il:=(al×al)×al×Int
def s5:il:=(([],[]),[],0)
def kV (r:List Int):al×al:=(J (r.getD 0 0),J (r.getD 1 0))
def lf (r:List Int):il:=(kV r,J (r.getD 2 0),r.getD 3 0)
def bds (z:Int):List il:=(ab z).map lf
def x2 (z:Int):List (al×al):=(ab z).map kV
def vz (b:il):Bool:=decide (0<=b.2.2)&&(decide (b.2.2<=1099511627776)&&(uO b.1.1 b.1.2&&ie b.2.1))
def w5 (a b:al×al):Bool:=A1 a.1 a.2 b.1 b.2
def vO (a b:al×al):Int:=cond (a==b) 0 (cond (w5 a b) (-1) 1)
def Iv:List il->Bool
 |[]=>true
 |[_]=>true
 |a::b::r=>w5 a.1 b.1&&Iv (b::r)
def qx (l:List il):Bool:=Nat.ble l.length 64&&l.all vz&&Iv l
def Er (l:List il) (w:al×al):Option il:=cond (qx l) (l.find? (λb=>b.1==w)) none
def Hh (l:List il) (x:al):List (al×al):=cond (qx l) ((l.filter (·.2.1==x)).map (·.1)) []
def Dy (l:List il) (w:il):List il×Int:=cond (vz w&&qx l) (cond (l.any (·.1==w.1)) (l.map (λb=>cond (b.1==w.1) w b),0) (cond (decide (l.length=64)) (l,10) (l.filter (λb=>w5 b.1 w.1)++w::l.filter (λb=>w5 w.1 b.1),0))) (l,1)
def IU (l:List il) (w:il):List il×Int:=cond (qx l) (match l.find? (·.1==w.1)with|none=>(l,7)|some b=>cond (b.2.1==w.2.1) (l.filter (λb=> !(b.1==w.1)),0) (l,14)) (l,1)
def Jv (l:List il) (w:al×al) (i f:Int):Prop:=(0<=i/\i<=l.length)/\(f=1->i<l.length)/\(qx l=true->(∀j:Nat,(j:Int)<i->vO (l.getD j s5).1 w<0)/\(∀j:Nat,i<=j->j<l.length->0<=vO (l.getD j s5).1 w)/\(f=1↔i<l.length/\vO (l.getD i.toNat s5).1 w=0))
structure dq where
 id:Int
 sec:al
 iJ:al×al
 tok:al
 o7:Int
 since:Int
 sL:Int
 shown:Int
 B3:Int
deriving DecidableEq
def lK:dq:=⟨0,[],([],[]),[],0,0,0,0,0⟩
def iG (r:List Int):dq:=⟨r.getD 0 0,J (r.getD 1 0),(J (r.getD 2 0),J (r.getD 3 0)),J (r.getD 4 0),r.getD 5 0,r.getD 6 0,r.getD 7 0,r.getD 8 0,r.getD 9 0⟩
def ev (z:Int):List dq:=(ab z).map iG
def nz (t:al):Bool:=t.all λc=>Nat.ble 32 c.toNat&&Nat.ble c.toNat 126
def cg (t:al):Bool:= !t.isEmpty&&(Nat.ble t.length 64&&(nz t&& !t.contains 32))
def u4 (n:Int):Bool:=decide (0<=n)&&decide (n<=1099511627776)
def xQ (s:dq):Bool:=(decide (1<=s.id)&&decide (s.id<=1099511627776))&&(u4 s.since&&u4 s.B3)&&(decide (1<=s.o7)&&decide (s.o7<=1000)&&(decide (0<=s.sL)&&decide (s.sL<=3)))&&(decide (s.shown=1)||decide (s.B3=0))&&(cg s.sec&&(cg s.tok&&uO s.iJ.1 s.iJ.2))
def Dl (a b:dq):Bool:=decide (a.sec=b.sec)&&decide (a.iJ=b.iJ)
def Ks (x s:dq):Bool:=Dl x s||(decide (x.tok=s.tok)||decide (s.id<=x.id))
def oB (l:List dq):Bool:=Nat.ble l.length 16&&(List.range l.length).all λi=>xQ (l.getD i lK)&&(l.take i).all λx=> !Ks x (l.getD i lK)
def TE (x:Int):Int:=(x+9223372036854775808)% 18446744073709551616-9223372036854775808
def xl (s:dq) (now:Int):Bool:=decide (86400<TE (now-s.since))
def qo (l:List dq) (now:Int):List dq:=l.filter λs=> !xl s now
def Et (l:List dq) (id:Int):Option dq:=cond (oB l) (l.find? λs=>decide (s.id=id)) none
def mv (l:List dq) (now:Int) (w:dq):Nat×Int:=cond (u4 now&&oB l) (match l.findIdx? (λs=>decide (s.id=w.id))with
 |some i=>cond (decide ((l.getD i lK).sec=w.sec)&& !xl (l.getD i lK) now) (i,0) (0,11)
 |none=>(0,11)) (0,1)
def Ip (l:List dq) (now:Int) (w:dq):(al×al)×Int:=cond (decide ((mv l now w).2=0)) (cond (decide ((l.getD (mv l now w).1 lK).shown=1)) ((l.getD (mv l now w).1 lK).iJ,0) (([],[]),14)) (([],[]),(mv l now w).2)
def SJ (l:List dq) (now:Int) (w:dq) (i:Nat) (s:dq):List dq×Int:=cond (decide (s.sL=3)) (l,16) (cond (decide (s.tok=w.tok)) (cond (decide (s.shown=1)) (l,0) (l.set i {s with shown:=1,B3:=now},0)) (l.set i {s with sL:=s.sL+1},12))
def IE (l:List dq) (now:Int) (w:dq):List dq×Int:=cond (decide ((mv l now w).2=0)) (SJ l now w (mv l now w).1 (l.getD (mv l now w).1 lK)) (l,(mv l now w).2)
def RC (live:List dq) (w:dq) (i:Nat) (s:dq):List dq×Int×Int×Int:=(live.set i {s with o7:=max s.o7 w.o7},s.id,aS (decide (s.o7<w.o7)),0)
def RD (l live:List dq) (w:dq):List dq×Int×Int×Int:=cond (live.any (λs=>decide (s.id=w.id))||live.any (λs=>decide (s.tok=w.tok))) (l,0,0,6) (cond (decide (live.length=16)) (l,0,0,10) (live.filter (λs=>decide (s.id<w.id))++w::live.filter (λs=>decide (w.id<s.id)),w.id,1,0))
def HQ (l:List dq) (w:dq):List dq×Int×Int×Int:=cond (xQ w&&(decide (w.sL<=0)&&(!decide (w.shown=1)&&oB l))) (match(qo l w.since).findIdx? (λs=>Dl s w)with
 |some i=>RC (qo l w.since) w i ((qo l w.since).getD i lK)
 |none=>RD l (qo l w.since) w) (l,0,0,1)
def Jt (l:List dq) (n i f:Int):Prop:=(0<=i/\i<=l.length)/\(f=1->i<l.length)/\(oB l=true->(∀j:Nat,(j:Int)<i->(l.getD j lK).id<n)/\(∀j:Nat,i<=j->j<l.length->n<=(l.getD j lK).id)/\(f=1↔i<l.length/\(l.getD i.toNat lK).id=n))
def J6:List Int:=[5,116,477315081741,437051401625,117,1,100,0,0,0]
structure cm where
 tok:al
 dv:al
 cR:List al
deriving DecidableEq
def ch:cm:=⟨[],[],[]⟩
def aN (z:Int):List al:=(ab z).map λr=>J (r.getD 0 0)
def sI (r:List Int):cm:=⟨J (r.getD 0 0),J (r.getD 1 0),aN (r.getD 2 0)⟩
def aB (z:Int):List cm:=(ab z).map sI
def u5 (l:List cm):Nat:=l.length+(l.map λu=>u.cR.length).sum
def fa (l:List al):Bool:=(List.range l.length).all λi=>cg (l.getD i [])&&(decide (i=0)||Op.bytesLess (l.getD (i-1) []) (l.getD i []))
def de (l:List cm):Bool:=Nat.ble l.length 16&&(l.all (λu=>ie u.dv&&(Nat.ble u.cR.length 4&&fa u.cR))&&fa (l.map (·.tok)))
def qK (l:List cm) (t:al) (i f:Int):Prop:=(0<=i/\i<=l.length)/\(f=1->i<l.length)/\(fa (l.map (·.tok))=true->(∀j:Nat,(j:Int)<i->Op.bytesLess (l.getD j ch).tok t=true)/\(∀j:Nat,i<=j->j<l.length->Op.bytesLess (l.getD j ch).tok t=false)/\(f=1↔i<l.length/\(l.getD i.toNat ch).tok=t))
def bJ (l:List cm) (t:al):Int×Int:=cond (de l) (match l.findIdx? (λu=>decide (u.tok=t))with|some k=>((k:Int),0)|none=>(0,14)) (0,1)
def fm (l:List cm) (t:al):al×Int:=cond (decide ((bJ l t).2=0)) ((l.getD (bJ l t).1.toNat ch).dv,0) ([],(bJ l t).2)
def nN (l:List cm) (t:al) (d:List al):Int:=cond (decide ((bJ l t).2=0)) (cond (d.all λs=>(l.getD (bJ l t).1.toNat ch).cR.contains s) 0 13) (bJ l t).2
def iD (l:List cm) (t:al):List cm×Int:=cond (decide ((bJ l t).2=0)) (l.take (bJ l t).1.toNat++l.drop ((bJ l t).1.toNat+1),0) (l,(bJ l t).2)
def iF (l:List cm) (t m:al):List cm×Int:=cond (de l&&(cg t&&ie m)) (cond (l.findIdx? (λu=>decide (u.tok=t))).isSome (l,6) (cond (decide (l.length=16)) (l,10) (l.takeWhile (λu=>Op.bytesLess u.tok t)++⟨t,m,[]⟩::l.dropWhile (λu=>Op.bytesLess u.tok t),0))) (l,1)
def gE (s:al):List al->List al
 |[]=>[s]
 |x::r=>cond (decide (x=s)) (x::r) (cond (Op.bytesLess s x) (s::x::r) (x::gE s r))
def oJ (a d:List al):List al:=d.foldl (λl s=>gE s l) a
def mN (l:List cm) (t:al) (d:List al):List cm×Int:=cond (decide ((bJ l t).2=0)) (cond (d.all cg) (cond (Nat.ble (oJ (l.getD (bJ l t).1.toNat ch).cR d).length 4) (l.set (bJ l t).1.toNat ⟨(l.getD (bJ l t).1.toNat ch).tok,(l.getD (bJ l t).1.toNat ch).dv,oJ (l.getD (bJ l t).1.toNat ch).cR d⟩,0) (l,10)) (l,1)) (l,(bJ l t).2)
structure im where
 tok:al
 iJ:al×al
 room:al
 R8:al
 R4:al
 qW:al
deriving DecidableEq
def uI:im:=⟨[],([],[]),[],[],[],[]⟩
def qn (r:List Int):im:=⟨J (r.getD 0 0),(J (r.getD 1 0),J (r.getD 2 0)),J (r.getD 3 0),J (r.getD 4 0),J (r.getD 5 0),J (r.getD 6 0)⟩
def ia (z:Int):List im:=(ab z).map qn
def xu (p:im):Bool:=cg p.tok&&(cg p.R4&&(uO p.iJ.1 p.iJ.2&&(xD p.room&&(ie p.R8&&(p.qW.isEmpty||ie p.qW)))))
def HV (l:List im):Bool:=(List.range l.length).all λi=>decide (i=0)||Op.bytesLess (l.getD (i-1) uI).tok (l.getD i uI).tok
def uP (l:List im):Bool:=Nat.ble l.length 32&&(l.all xu&&HV l)
def Ju (l:List im) (t:al) (i f:Int):Prop:=(0<=i/\i<=l.length)/\(f=1->i<l.length)/\(HV l=true->(∀j:Nat,(j:Int)<i->Op.bytesLess (l.getD j uI).tok t=true)/\(∀j:Nat,i<=j->j<l.length->Op.bytesLess (l.getD j uI).tok t=false)/\(f=1↔i<l.length/\(l.getD i.toNat uI).tok=t))
def Es (l:List im) (t:al):Option im:=cond (uP l) (l.find? λp=>decide (p.tok=t)) none
def IA (l:List im) (w:im):List im×Int:=cond (xu w&&(w.qW.isEmpty&&uP l)) (cond (l.any λp=>decide (p.tok=w.tok)) (l,6) (cond (decide (l.length=32)) (l,10) (l.filter (λp=>Op.bytesLess p.tok w.tok)++w::l.filter (λp=>Op.bytesLess w.tok p.tok),0))) (l,1)
def I1 (iJ:al×al) (p:im):Bool:=decide (p.iJ=iJ)&&p.qW.isEmpty
def Im (l:List im) (iJ:al×al) (dv:al):List im×List im×Int:=cond (ie dv&&uP l) (l.map (λp=>cond (I1 iJ p) {p with qW:=dv} p),(l.filter (I1 iJ)).map (λp=>{p with qW:=dv}),0) (l,[],1)
def JT:al:=[65,66,67,68,69,70,71,72,73,74,75,76,77,78,79,80,81,82,83,84,85,86,87,88,89,90,97,98,99,100,101,102,103,104,105,106,107,108,109,110,111,112,113,114,115,116,117,118,119,120,121,122,48,49,50,51,52,53,54,55,56,57,43,47]
def nw (n:Nat):UInt8:=JT.getD n 0
def HC:al->al
 |[]=>[]
 |[a]=>[nw (a.toNat/4),nw (a.toNat% 4*16)]
 |[a,b]=>[nw (a.toNat/4),nw (a.toNat% 4*16+b.toNat/16),nw (b.toNat% 16*4)]
 |a::b::c::r=>nw (a.toNat/4)::nw (a.toNat% 4*16+b.toNat/16)::nw (b.toNat% 16*4+c.toNat/64)::nw (c.toNat% 64)::HC r
def QE:List Int:=[117,477315081741,437051401625,1786258745,1786259033,1721197221,0]
def JE:Nat->List (List Int)->List (List Int)->Prop
 |600,[[z]],[[r]]=>r=aS (cg (J z))
 |601,[r],[[z]]=>z=aS (xu (qn r))
 |602,[[z]],[[r]]=>r=aS (uP (ia z))
 |603,[[z],[t]],[[i],[f]]=>Ju (ia z) (J t) i f
 |604,[[z],[t]],[r,[f]]=>match Es (ia z) (J t)with
  |some b=>qn r=b/\f=1
  |none=>r=[0,0,0,0,0,0,0]/\f=0
 |605,[[c],[i],[r]],[[y]]=>ab y=(ab c).take i.toNat++ab r++(ab c).drop i.toNat
 |606,[[z],r],[[y],[e]]=>(ia y,e)=IA (ia z) (qn r)
 |607,[[z],a,[m]],[[y],[d],[e]]=>(ia y,ia d,e)=Im (ia z) (kV a) (J m)
 |608,[],[r]=>r=QE
 |612,[r],[[z]]=>z=aS (xu (qn r))
 |613,[[z]],[[r]]=>r=aS (uP (ia z))
 |614,[[z],[t]],[r,[f]]=>match Es (ia z) (J t)with
  |some b=>qn r=b/\f=1
  |none=>r=[0,0,0,0,0,0,0]/\f=0
 |615,[[z],r],[[y],[e]]=>(ia y,e)=IA (ia z) (qn r)
 |616,[[z],a,[m]],[[y],[d],[e]]=>(ia y,ia d,e)=Im (ia z) (kV a) (J m)
 |617,[[a],[b]],[[r]]=>r=aS (decide (ia a=ia b))
 |618,[[r]],[[z]]=>J z=HC (pb r)
 |619,[[z]],[[r]]=>ab r=ab z
 |_,_,_=>False
def JF:Nat->List (List Int)->List (List Int)->Prop
 |500,[[z]],[[r]]=>r=aS (decide (200<u5 (aB z)))
 |501,[[z]],[[r]]=>r=aS ((J z).contains 32)
 |502,[[z]],[[r]]=>r=aS (cg (J z))
 |503,[[z]],[[r]]=>r=aS (fa (aN z))
 |504,[[z]],[[r]]=>r=aS (de (aB z))
 |505,[[z],[t]],[[i],[f]]=>qK (aB z) (J t) i f
 |506,[[z],[t]],[[i],[e]]=>(i,e)=bJ (aB z) (J t)
 |507,[[z],[t]],[[s],[e]]=>(J s,e)=fm (aB z) (J t)
 |508,[[z],[t]],[[y],[e]]=>(aB y,e)=iD (aB z) (J t)
 |509,[[z],[t],[m]],[[y],[e]]=>(aB y,e)=iF (aB z) (J t) (J m)
 |511,[[z],[t],[d]],[[e]]=>e=nN (aB z) (J t) (aN d)
 |513,[[z],[t],[d]],[[y],[e]]=>(aB y,e)=mN (aB z) (J t) (aN d)
 |520,[],[[r]]=>r=1
 |521,[_,_],[[r]]=>r=1
 |522,[_,_,_],[[r]]=>r=1
 |512,[[z],[t]],[[r]]=>r=aS ((aN z).contains (J t))
 |510,[[a],[b]],[[r]]=>r=cond (Op.bytesLess (J a) (J b)) (-1) (cond (decide (J a=J b)) 0 1)
 |n,a,b=>JE n a b
def JD:Nat->List (List Int)->List (List Int)->Prop
 |400,[[z]],[[r]]=>r=aS (nz (J z))
 |401,[[z]],[[r]]=>r=aS (cg (J z))
 |402,[r],[[z]]=>z=aS (xQ (iG r))
 |403,[[z]],[[r]]=>r=aS (oB (ev z))
 |404,[[z],[n]],[[i],[f]]=>Jt (ev z) n i f
 |417,[r,[n]],[[z]]=>z=aS (xl (iG r) n)
 |405,[[z],[n]],[r,[f]]=>match Et (ev z) n with
  |some b=>iG r=b/\f=1
  |none=>r=[0,0,0,0,0,0,0,0,0,0]/\f=0
 |406,[[z],[n],r],[[i],[e]]=>(i,e)=(((mv (ev z) n (iG r)).1:Int),(mv (ev z) n (iG r)).2)
 |407,[[z],[n],r],[a,[e]]=>(kV a,e)=Ip (ev z) n (iG r)
 |408,[[z],[n],r],[[y],[e]]=>(ev y,e)=IE (ev z) n (iG r)
 |409,[[z],[n]],[[y]]=>ev y=qo (ev z) n
 |410,[[z],[n]],[[y]]=>ev y=cond (u4 n&&oB (ev z)) (qo (ev z) n) []
 |411,[[c],[i],[r]],[[y]]=>ab y=(ab c).take i.toNat++ab r++(ab c).drop i.toNat
 |412,[[z],r],[[y],[i],[s],[e]]=>(ev y,i,s,e)=HQ (ev z) (iG r)
 |416,[[a],[b]],[[r]]=>r=aS (decide (ev a=ev b))
 |418,[],[r]=>r=J6
 |413,[],[[r]]=>r=1
 |414,[_],[[r]]=>r=1
 |415,[_,_],[[r]]=>r=1
 |420,[[z]],[[r]]=>r=aS (cg (J z))
 |422,[r],[[z]]=>z=aS (xQ (iG r))
 |423,[[z]],[[r]]=>r=aS (oB (ev z))
 |424,[[z],[n]],[[y]]=>ev y=cond (u4 n&&oB (ev z)) (qo (ev z) n) []
 |425,[[z],[n]],[r,[f]]=>match Et (ev z) n with
  |some b=>iG r=b/\f=1
  |none=>r=[0,0,0,0,0,0,0,0,0,0]/\f=0
 |426,[[z],[n],r],[[i]]=>i=match(ev z).findIdx? (λs=>decide (s.id=(iG r).id)&&(decide (s.sec=(iG r).sec)&& !xl s n))with
  |some k=>(k:Int)
  |none=>-1
 |427,[[z],[n],r],[[y],[e]]=>(ev y,e)=IE (ev z) n (iG r)
 |428,[[z],[n],r],[a,[e]]=>(kV a,e)=Ip (ev z) n (iG r)
 |429,[[z],r],[[y],[i],[s],[e]]=>(ev y,i,s,e)=HQ (ev z) (iG r)
 |430,[_,_],[[r]]=>r=1
 |431,[_,_,_],[[r]]=>r=1
 |n,a,b=>JF n a b
def JC:Nat->List (List Int)->List (List Int)->Prop
 |300,[r],[[z]]=>z=aS (vz (lf r))
 |301,[r,a],[[z]]=>z=vO (kV r) (kV a)
 |302,[[z],a],[[i],[f]]=>Jv (bds z) (kV a) i f
 |303,[[z]],[[r]]=>r=aS (qx (bds z))
 |304,[[z],a],[r,[f]]=>match Er (bds z) (kV a)with
  |some b=>lf r=b/\f=1
  |none=>lf r=s5/\f=0
 |305,[[z],[x]],[[y]]=>x2 y=Hh (bds z) (J x)
 |306,[[c],[i],[r]],[[y]]=>ab y=(ab c).take i.toNat++ab r++(ab c).drop i.toNat
 |307,[[c],[i],[j]],[[y]]=>ab y=(ab c).take i.toNat++(ab c).drop j.toNat
 |308,[[z],r],[[y],[e]]=>(bds y,e)=Dy (bds z) (lf r)
 |309,[[z],r],[[y],[e]]=>(bds y,e)=IU (bds z) (lf r)
 |310,[],[[r]]=>r=1
 |311,[_,_],[[r]]=>r=1
 |312,[_],[[r]]=>r=1
 |320,[r],[[z]]=>z=aS (vz (lf r))
 |321,[[z]],[[r]]=>r=aS (qx (bds z))
 |322,[[z],a],[r,[f]]=>match Er (bds z) (kV a)with
  |some b=>lf r=b/\f=1
  |none=>lf r=s5/\f=0
 |323,[[z],a],[[y]]=>bds y=(bds z).filter (λb=> !(b.1==kV a))
 |324,[[z],r],[[y],[e]]=>(bds y,e)=Dy (bds z) (lf r)
 |325,[[z],r],[[y],[e]]=>(bds y,e)=IU (bds z) (lf r)
 |326,[[z],[x]],[[y]]=>x2 y=Hh (bds z) (J x)
 |327,[[a],[b]],[[r]]=>r=aS (decide (bds a=bds b))
 |328,[[a],[b]],[[r]]=>r=aS (decide (x2 a=x2 b))
 |329,[_,_,_],[[r]]=>r=1
 |n,a,b=>JD n a b
def SB:Nat->List (List Int)->List (List Int)->Prop
 |73,[[z],[b]],[[r]]=>r=idx b (J z)
 |36,[[z],[b]],[[r]]=>J r=hZ (·==u8 b) (J z)
 |37,[[z],[b]],[[r]]=>J r=fV (·==u8 b) (J z)
 |120,[[z]],[[r]]=>J r=gv (·==32) (J z)
 |121,[[z]],[[r]]=>J r=gv (·==46) (J z)
 |122,[[z]],[[r]]=>J r=gv th (J z)
 |123,[[z]],[[r]]=>J r=gv p6 (J z)
 |124,[[z]],[[r]]=>J r=gv fT (J z)
 |125,[[z]],[[a],[b],[c]]=>(J a,J b,c)=kx 64 (J z)
 |126,[[z]],[[a],[b],[c]]=>(J a,J b,c)=kx 58 (J z)
 |127,[[z]],[[r]]=>r=aS ((J z).contains 46)
 |128,[[z]],[[r]]=>r=aS (dd (J z))
 |44,[[s],[b]],[[r]]=>r=aS ((J s).all λc=>(J b).contains c)
 |65,[[s],[b]],[[r]]=>r=aS ((J s).all λc=>(J b).contains c)
 |28,[[z]],[[r]]=>J r=lower (J z)
 |17,[[z]],[[r]]=>J r=lower (J z)
 |31,[[z],[c]],[[r]]=>r=aS ((J z).contains (u8 c))
 |47,[[z]],[[r]]=>r=aS (jy (J z))
 |30,[[z]],[[r]]=>r=aS (jy (J z))
 |27,[[z]],[[r]]=>r=aS (kS (J z))
 |24,[[z]],[[r]]=>r=aS (A4 (J z))
 |29,[[z]],[[r]]=>r=aS (A4 (J z))
 |50,[[c]],[[r]]=>r=aS (uq (u8 c))
 |51,[[c]],[[r]]=>r=aS (uo (u8 c))
 |52,[[c]],[[r]]=>r=aS (fT (u8 c))
 |10,[[z]],[[a],[e]]=>(J a,e)=y4 (J z)
 |11,[[z]],[[a],[e]]=>(J a,e)=y4 (J z)
 |35,[[w]],[[c],[t],[o]]=>match yX (J w)with
  |some (code,oI)=>J c=code/\t=aS (!oI.isEmpty)/\o=1
  |none=>J c=[]/\t=0/\o=0
 |32,[[w]],[[c,t],[o]]=>match yX (J w)with
  |some (code,oI)=>J c=code/\J t=oI/\o=1
  |none=>o=0/\J c=[]/\J t=[]
 |33,[[s]],[[d],[p],[o]]=>match s4 (J s) [] false with
  |some (yY,bo)=>J d=yY/\p=aS bo/\o=1
  |none=>J d=[]/\p=0/\o=0
 |34,[[s],[t]],[[r]]=>J r=cond ((J t).isPrefixOf (J s)) ((J s).drop (J t).length) (J s)
 |12,[[w],[s]],[[a],[e]]=>(J a,e)=Bv (J w) (J s)
 |13,[[w],[s]],[[a],[e]]=>(J a,e)=Bv (J w) (J s)
 |14,[[a,b],[c,d]],[[r]]=>r=aS (A1 (J a) (J b) (J c) (J d))
 |21,[[a,b],[c,d]],[[r]]=>r=aS (A1 (J a) (J b) (J c) (J d))
 |15,[[m],[w]],[[a,b],[e]]=>(J a,J b,e)=uy (J m) (J w)
 |18,[[m],[w]],[[a,b],[e]]=>(J a,J b,e)=uy (J m) (J w)
 |16,[[m,w]],[[r]]=>r=aS (uO (J m) (J w))
 |19,[[m,w]],[[r]]=>r=aS (uO (J m) (J w))
 |20,[[m,w]],[[r]]=>J r=J m++[32]++J w
 |202,[[z]],[[r]]=>J r=gv wV (J z)
 |203,[[z]],[[r]]=>J r=gv Gv (J z)
 |200,[[z]],[[r]]=>r=aS (ie (J z))
 |207,[[z]],[[r]]=>r=aS (ie (J z))
 |201,[[z]],[[r]]=>r=aS (xD (J z))
 |208,[[z]],[[r]]=>r=aS (xD (J z))
 |204,[[z]],[[r]]=>r=idx 58 (J z)
 |205,[[z]],[[r]]=>r=aS (kS (J z))
 |206,[[z],[k]],[[a],[b],[c]]=>(J a,J b,c)=kc (u8 k) (J z)
 |211,[[z],[k]],[[a],[b],[c]]=>(J a,J b,c)=kc (u8 k) (J z)
 |209,[[z]],[[a],[b],[e]]=>(J a,J b,e)=Iw (J z)
 |210,[[z]],[[a],[b],[e]]=>(J a,J b,e)=Iw (J z)
 |220,[[z]],[[r],[e]]=>match xt [] (J z)with
  |some l=>pb r=l/\e=0
  |none=>pb r=[]/\e=2
 |221,[[z]],[[r],[e]]=>match xt [] (J z)with
  |some l=>pb r=l/\e=0
  |none=>pb r=[]/\e=2
 |222,[[r]],[[z]]=>J z=Bu (pb r)
 |225,[[r]],[[z]]=>J z=Bu (pb r)
 |223,[[z]],[[r]]=>r=aS (En (J z))
 |224,[[z]],[[r]]=>r=aS (En (J z))
 |230,[[c]],[[r]]=>r=idx c ys
 |226,[],[[r]]=>r=1
 |227,[_],[[r]]=>r=1
 |228,[_],[[r]]=>r=1
 |229,[_,_],[[r]]=>r=1
 |9,[],[[r]]=>r=1
 |3,[_],[[r]]=>r=1
 |4,[_,_],[[r]]=>r=1
 |5,[_],[[r]]=>r=1
 |6,[_,_,_],[[r]]=>r=1
 |7,[_,_],[[r]]=>r=1
 |8,[_,_],[[r]]=>r=1
 |n,a,b=>JC n a b
theorem Cq (b:UInt8):u8 (b.toNat:Int)=b:=by simp[u8]
theorem SY {b:UInt8} {z:Int} (h0:0<=z) (h1:z<=255):((b.toNat:Int)=z)↔(b==u8 z)=true:=by
 rw[beq_iff_eq,<-UInt8.toNat_inj]
 unfold u8
 simp
 omega
theorem Gk {c:Int} (h0:0<=c) (h1:c<=255):∀l:al,(idx c l=-1/\u8 c∉l)∨(0<=idx c l/\(idx c l).toNat<l.length/\l.getD (idx c l).toNat 0=u8 c/\u8 c∈l/\∀j,j<(idx c l).toNat->l.getD j 0≠u8 c)
 |[]=> .inl ⟨rfl,by simp⟩
 |b::r=>by
  have hb:=SY (b:=b) h0 h1
  have ih:=Gk h0 h1 r
  by_cases he:(b.toNat:Int)=c
  ·have hb':b=u8 c:=by simpa using hb.1 he
   right
   have:idx c (b::r)=0:=by simp[idx,he]
   rw[this]
   refine⟨Int.le_refl _,by simp,by simp[hb'],by simp[hb'],λj hj=>by simp at hj⟩
  ·have hb':¬b=u8 c:=λe=>he (hb.2 (by simpa using e))
   rcases ih with⟨h2,h3⟩|⟨h2,h3,h4,h5,h6⟩
   ·left
    exact⟨by simp[idx,he,h2],by simp[h3];exactλe=>hb' e.symm⟩
   ·right
    have e:idx c (b::r)=idx c r+1:=by
     show(if(b.toNat:Int)=c then 0 else if idx c r<0 then-1 else idx c r+1)=_
     rw[if_neg he,if_neg (by omega)]
    have pk:(idx c (b::r)).toNat=(idx c r).toNat+1:=by omega
    rw[pk]
    refine⟨by omega,by simp;omega,by simpa using h4,by simp[h5],λj hj=>?_⟩
    cases j with
    |zero=>simpa using hb'
    |succ j=>simpa using h6 j (by omega)
theorem Gm {c:Int} (h0:0<=c) (h1:c<=255) (l:al):decide (0<=idx c l)=l.contains (u8 c):=by
 rcases Gk h0 h1 l with⟨h2,h3⟩|⟨h2,_,_,h3,_⟩
 ·rw[h2];simp[h3]
 ·simp[h2,h3]
theorem iq (b:Bool):0<=aS b/\aS b<=1:=by cases b<;>decide
theorem s3 (b:Bool):decide (aS b=1)=b:=by cases b<;>rfl
theorem SZ {z:Int} (h0:0<=z) (h1:z<=255):((u8 z).toNat:Int)=z:=by unfold u8;simp;omega
theorem IH (l:al) (i:Nat) (h:i<l.length):l.take (i+1)=l.take i++[l.getD i 0]:=by
 rw[List.take_add_one];simp[List.getD,h]
theorem Pa {z:Int} (h:z<=aO):((J z).length:Int)<=9223372036854775807:=by
 have:=oT h;unfold eu at this;omega
theorem xJ (p:UInt8->Bool) (l:al) (x:UInt8):fV p (l++[x])=cond (p x) (fV p l) (l++[x]):=by
 unfold fV
 simp only[List.reverse_append,List.reverse_cons,List.reverse_nil,List.nil_append,List.singleton_append,List.dropWhile_cons]
 cases p x<;>simp
end Go.bD
set_option maxRecDepth 100000
namespace Go.bD
open Go Go.aZ
def mn:FuncId->Nat->Option dh:=λ_ _=>none
def mo:Nat->List Nat:=λ_=>[]
def KT:D:= .int .u8 0 255
def KQ:D:= .int .i64 (-1) 9223372036854775807
def rf:D:= .int .i64 0 21
def OW:D:= .gY [32]
def ON:D:= .gY [46,46]
def OP:D:= .gY [46,45]
def OM:D:= .gY [58]
def OR:D:= .gY [97,98,99,100,101,102,103,104,105,106,107,108,109,110,111,112,113,114,115,116,117,118,119,120,121,122,65,66,67,68,69,70,71,72,73,74,75,76,77,78,79,80,81,82,83,84,85,86,87,88,89,90,48,49,50,51,52,53,54,55,56,57,46,45]
def OO:D:= .gY [48,49,50,51,52,53,54,55,56,57]
def OX:D:= .gY [97,98,99,100,101,102,103,104,105,106,107,108,109,110,111,112,113,114,115,116,117,118,119,120,121,122,48,49,50,51,52,53,54,55,56,57,46,95,61,47,43,45]
def KM:D:= .int .i64 (-1) 1
def Ec:D:= .int .i64 0 9223372036854775807
def ka:bh:= .rd [.str,.str,.sub 1]
def xb:bh:= .rd [.str]
def two:D:= .mix [.str,.str]
def oo:cj:=⟨87,73,[.str,KT],[KQ]⟩
def om:cj:=⟨54,126,[.str,OM],[.str,.str,.bool]⟩
def mm:cj:=⟨70,65,[.str,.str],[.bool]⟩
def Ph:FuncId->Nat->Option dh:=λf r=>match f,r with
 |70,2=>some ⟨[0,1,7],[(8,0,9223372036854775807)],[],[],[],[],[]⟩
 |_,_=>none
def PE:Nat->List Nat:=λn=>[1]
def OL:cj:=⟨29,128,[.str,ON],[.bool]⟩
def xw:kp:=⟨OL,41⟩
def r9:cj:=⟨69,122,[.str,OP],[.str]⟩
def Pm:FuncId->Nat->Option dh:=λf r=>match f,r with
 |82,1=>some ⟨[1],[(0,0,0)],[],[],[],[],[]⟩
 |83,1=>some ⟨[1],[(0,0,0)],[],[],[],[],[]⟩
 |_,_=>none
def PI:Nat->List Nat:=λn=>[1]
def sa:cj:=⟨69,123,[.str,OR],[.str]⟩
def Pn:FuncId->Nat->Option dh:=λf r=>match f,r with
 |82,1=>some ⟨[1],[(0,0,0)],[],[],[],[],[]⟩
 |83,1=>some ⟨[1],[(0,0,0)],[],[],[],[],[]⟩
 |_,_=>none
def PJ:Nat->List Nat:=λn=>[1]
def r8:cj:=⟨69,124,[.str,OO],[.str]⟩
def Pl:FuncId->Nat->Option dh:=λf r=>match f,r with
 |82,1=>some ⟨[1],[(0,0,0)],[],[],[],[],[]⟩
 |83,1=>some ⟨[1],[(0,0,0)],[],[],[],[],[]⟩
 |_,_=>none
def PH:Nat->List Nat:=λn=>[1]
def r4:cj:=⟨71,47,[.str],[.bool]⟩
def r7:cj:=⟨57,27,[.str],[.bool]⟩
def sb:cj:=⟨69,202,[.str,OX],[.str]⟩
def Po:FuncId->Nat->Option dh:=λf r=>match f,r with
 |82,1=>some ⟨[1],[(0,0,0)],[],[],[],[],[]⟩
 |83,1=>some ⟨[1],[(0,0,0)],[],[],[],[],[]⟩
 |_,_=>none
def PK:Nat->List Nat:=λn=>[1]
def oq:cj:=⟨22,200,[.str],[.bool]⟩
def r5:cj:=⟨28,400,[.str],[.bool]⟩
def Pj:FuncId->Nat->Option dh:=λf r=>match f,r with
 |28,2=>some ⟨[0,5],[(6,0,9223372036854775807)],[],[],[],[],[]⟩
 |_,_=>none
def PF:Nat->List Nat:=λn=>[1]
def wY:cj:=⟨72,510,[.str,.str],[KM]⟩
def qd:cB:=⟨6,500,[ka],[.d .bool],0⟩
def Pg:FuncId->Nat->Option dh:=λf r=>match f,r with
 |6,3=>some ⟨[0],[(3,0,9223372036854775807),(4,0,9223372036854775807)],[],[],[],[],[]⟩
 |_,_=>none
def PD:Nat->List Nat:=λn=>[1,1]
def r3:cj:=⟨29,501,[.str,OW],[.bool]⟩
def ns:cj:=⟨15,502,[.str],[.bool]⟩
def r0:cB:=⟨33,503,[xb],[.d .bool],0⟩
def Pf:FuncId->Nat->Option dh:=λf r=>match f,r with
 |33,2=>some ⟨[0,5,6],[(7,0,9223372036854775807)],[],[],[],[],[]⟩
 |_,_=>none
def PC:Nat->List Nat:=λn=>[1]
def qb:cB:=⟨21,504,[ka],[.d .bool],0⟩
def Pd:FuncId->Nat->Option dh:=λf r=>match f,r with
 |21,5=>some ⟨[0,9,10],[(11,0,9223372036854775807)],[],[],[(3,[.str],9)],[],[]⟩
 |_,_=>none
def PA:Nat->List Nat:=λn=>[1,1,1,1]
def qc:cB:=⟨23,505,[ka,.d .str],[.d Ec,.d .bool],0⟩
def Pe:FuncId->Nat->Option dh:=λf r=>match f,r with
 |35,3=>some ⟨[0,1,2,8],[(9,0,9223372036854775807),(10,0,9223372036854775807)],[],[],[],[],[]⟩
 |_,_=>none
def PB:Nat->List Nat:=λn=>[1,1]
def ml:cB:=⟨12,506,[ka,.d .str],[.d Ec,.d rf],0⟩
def nr:cB:=⟨10,507,[ka,.d .str],[.d .str,.d rf],0⟩
def uu:cB:=⟨8,508,[ka,.d .str],[ka,.d rf],0⟩
def mj:cB:=⟨9,509,[ka,.d .str,.d .str],[ka,.d rf],0⟩
def r6:cB:=⟨26,512,[xb,.d .str],[.d .bool],0⟩
def Pk:FuncId->Nat->Option dh:=λf r=>match f,r with
 |40,2=>some ⟨[0,1,7],[(8,0,9223372036854775807)],[],[],[],[],[]⟩
 |_,_=>none
def PG:Nat->List Nat:=λn=>[1]
def qa:cB:=⟨11,511,[ka,.d .str,xb],[.d rf],0⟩
def Pc:FuncId->Nat->Option dh:=λf r=>match f,r with
 |27,2=>some ⟨[0,1,7],[(8,0,9223372036854775807)],[],[],[],[],[]⟩
 |_,_=>none
def Pz:Nat->List Nat:=λn=>[1]
def oj:cB:=⟨7,513,[ka,.d .str,xb],[ka,.d rf],84⟩
def qe:cB:=⟨5,520,[],[.d .bool],0⟩
def uv:cB:=⟨4,521,[ka,.d .str],[.d .bool],0⟩
def sh:Nat->List Nat×List Nat
 |73=>([1,1],[1])
 |126=>([1],[1,1,1])
 |65=>([1,1],[1])
 |128=>([1],[1])
 |122=>([1],[1])
 |123=>([1],[1])
 |124=>([1],[1])
 |47=>([1],[1])
 |27=>([1],[1])
 |202=>([1],[1])
 |200=>([1],[1])
 |400=>([1],[1])
 |510=>([1,1],[1])
 |500=>([1],[1])
 |501=>([1],[1])
 |502=>([1],[1])
 |503=>([1],[1])
 |504=>([1],[1])
 |505=>([1,1],[1,1])
 |506=>([1,1],[1,1])
 |507=>([1,1],[1,1])
 |508=>([1,1],[1,1])
 |509=>([1,1,1],[1,1])
 |512=>([1,1],[1])
 |511=>([1,1,1],[1])
 |513=>([1,1,1],[1,1])
 |520=>([],[1])
 |521=>([1,1],[1])
 |522=>([1,2,1],[1])
 |_=>([],[])
abbrev kn (P:Program) (gl:cF) (c:cj) (aL:dp) (li:FuncId->Nat->Option dh) (cJ:Nat->List Nat) (lens:List Nat) (B:(Nat->List (List Int)->List (List Int)->Prop)->(List (List Int)->List (List Int)->Prop)->Prop):Prop:=∀S K,sX sh cJ S K lens (cN c.args) c.res (c.tree P gl aL li 600 6)=B S K
end Go.bD
namespace Go.bD
open Go Go.aZ
theorem B9 {l:al} (h:l≠[]):∃r x,l=r++[x]:=⟨_,_,(List.dropLast_concat_getLast h).symm⟩
theorem R1:J 0=[]:=rfl
theorem eq_nil {z aj:Int} (h:aj=ah 4 [z,0]):decide (aj=1)=(J z==[]):=by
 rw[h];simp only[ah,R1]
 cases hz:J z with
 |nil=>rfl
 |cons x r=>simp
def CK (S:Nat->List (List Int)->List (List Int)->Prop) (K:List (List Int)->List (List Int)->Prop):Prop:=
 ∀z0:Int,0<=z0->z0<=aO->
 ∀aj:Int,0<=aj->aj<=1->aj=ah 4 [59,z0]->
 (((decide (aj=1))=true->
  aG 2 [z0,0,0]/\
  ∀z2:Int,0<=z2->z2<=aO->z2=ah 2 [z0,0,0]->
  ∀z3:Int,0<=z3->z3<=9223372036854775807->z3=ah 0 [z0]->
  aG 2 [z0,1,z3]/\
  ∀z4:Int,0<=z4->z4<=aO->z4=ah 2 [z0,1,z3]->
  K [[z0]] [[z2],[z4],[(cond (true) 1 0)]]
 )/\((decide (aj=1))=false->
  ∀z2:Int,(-1)<=z2->z2<=9223372036854775807->S 73 [[z0],[58]] [[z2]]->
  (((decide (0<=z2))=true->
   aG 2 [z0,0,z2]/\
   ∀z3:Int,0<=z3->z3<=aO->z3=ah 2 [z0,0,z2]->
   ∀z4:Int,0<=z4->z4<=1->0<=(z2+9223372036854775809)-18446744073709551616*z4->(z2+9223372036854775809)-18446744073709551616*z4<18446744073709551616->
   ∀z5:Int,0<=z5->z5<=9223372036854775807->z5=ah 0 [z0]->
   aG 2 [z0,((z2+((-18446744073709551616)*z4))+1),z5]/\
   ∀ai:Int,0<=ai->ai<=aO->ai=ah 2 [z0,((z2+((-18446744073709551616)*z4))+1),z5]->
   K [[z0]] [[z3],[ai],[(cond (true) 1 0)]]
  )/\((decide (0<=z2))=false->
   K [[z0]] [[z0],[0],[(cond (false) 1 0)]]
  ))
 ))
def CN (S:Nat->List (List Int)->List (List Int)->Prop) (K:List (List Int)->List (List Int)->Prop):Prop:=
 ∀z0:Int,0<=z0->z0<=aO->∀aj:Int,0<=aj->aj<=aO->
 ∀z2:Int,0<=z2->z2<=9223372036854775807->z2=ah 0 [z0]->
 ∃(oU:List (List Int)->Prop) (vb:List (List Int)->Nat),oU [[0]]/\(∀z4:Int,0<=z4->z4<=9223372036854775807->oU [[z4]]->
  (((decide (z4<z2))=true->
   aG 1 [z0,z4]/\
   ∀z5:Int,0<=z5->z5<=255->z5=ah 1 [z0,z4]->
   ∀ai:Int,(-1)<=ai->ai<=9223372036854775807->S 73 [[aj],[z5]] [[ai]]->
   (((decide (ai<0))=true->
    K [[z0],[aj]] [[(cond (false) 1 0)]]
   )/\((decide (ai<0))=false->
    ∀ao:Int,0<=ao->ao<=1->0<=(z4+9223372036854775809)-18446744073709551616*ao->(z4+9223372036854775809)-18446744073709551616*ao<18446744073709551616->
    aG 39 [((z4+((-18446744073709551616)*ao))+1),0,9223372036854775807]/\
    (oU [[((z4+((-18446744073709551616)*ao))+1)]]/\vb [[((z4+((-18446744073709551616)*ao))+1)]]<vb [[z4]])
   ))
  )/\((decide (z4<z2))=false->
   K [[z0],[aj]] [[(cond (true) 1 0)]]
  ))
 )
theorem QX {c n:Int} (h0:0<=c) (h1:c<=255) (hn:J n=[u8 c]) {id:Nat} (hid:∀z a b r,SB id [[z]] [[a],[b],[r]]=((J a,J b,r)=kx c (J z))):
 (∀z0:Int,0<=z0->z0<=aO->
 ∀aj:Int,0<=aj->aj<=1->aj=ah 4 [n,z0]->
 (((decide (aj=1))=true->
  aG 2 [z0,0,0]/\
  ∀z2:Int,0<=z2->z2<=aO->z2=ah 2 [z0,0,0]->
  ∀z3:Int,0<=z3->z3<=9223372036854775807->z3=ah 0 [z0]->
  aG 2 [z0,1,z3]/\
  ∀z4:Int,0<=z4->z4<=aO->z4=ah 2 [z0,1,z3]->
  cC SB [.str,.str,.bool] id [[z0]] [[z2],[z4],[(cond (true) 1 0)]]
 )/\((decide (aj=1))=false->
  ∀z2:Int,(-1)<=z2->z2<=9223372036854775807->SB 73 [[z0],[c]] [[z2]]->
  (((decide (0<=z2))=true->
   aG 2 [z0,0,z2]/\
   ∀z3:Int,0<=z3->z3<=aO->z3=ah 2 [z0,0,z2]->
   ∀z4:Int,0<=z4->z4<=1->0<=(z2+9223372036854775809)-18446744073709551616*z4->(z2+9223372036854775809)-18446744073709551616*z4<18446744073709551616->
   ∀z5:Int,0<=z5->z5<=9223372036854775807->z5=ah 0 [z0]->
   aG 2 [z0,((z2+((-18446744073709551616)*z4))+1),z5]/\
   ∀ai:Int,0<=ai->ai<=aO->ai=ah 2 [z0,((z2+((-18446744073709551616)*z4))+1),z5]->
   cC SB [.str,.str,.bool] id [[z0]] [[z3],[ai],[(cond (true) 1 0)]]
  )/\((decide (0<=z2))=false->
   cC SB [.str,.str,.bool] id [[z0]] [[z0],[0],[(cond (false) 1 0)]]
  ))
 ))):=by
  intro z0 a0 a1 aj b0 b1 hz1
  simp only[ah,hn]at hz1
  refine⟨λh=>?_,λh z2 bL c1 h2=>?_⟩
  ·have hs:J z0=[u8 c]:=by
    by_cases h':[u8 c]=J z0
    ·exact h'.symm
    ·rw[if_neg h']at hz1;subst hz1;simp at h
   refine⟨⟨by omega,by omega,by omega⟩,λz2 bL c1 h2 z3 d0 d1 h3=>?_⟩
   simp only[ah,hs,List.length_singleton]at h3
   refine⟨⟨by omega,by omega,by rw[hs];simp only[List.length_singleton];omega⟩,λz4 b7 e1 h4=>⟨⟨bL,c1,b7,e1,by decide,by decide,trivial⟩,?_⟩⟩
   rw[hid]
   have e2:J z2=[]:=by rw[h2];simp[ah,gu]
   have dG:J z4=[]:=by rw[h4];simp[ah,gu,hs]
   have K6:idx c [u8 c]=0:=by simp[idx,SZ h0 h1]
   rw[e2,dG,hs]
   simp[kx,K6]
  ·have h2:z2=idx c (J z0):=h2
   refine⟨λhp=>?_,λhp=>⟨⟨a0,a1,Int.le_refl _,oS,by decide,by decide,trivial⟩,?_⟩⟩
   ·have hp:0<=z2:=by simpa using hp
    have hr:=um c (J z0)
    have hL:=Pa a1
    refine⟨⟨by omega,by omega,by omega⟩,λz3 d0 d1 h3 z4 b7 e1 e2 e3 z5 f0 f1 h5=>?_⟩
    simp only[ah]at h5
    have Le:z2+-18446744073709551616*z4+1=z2+1:=by omega
    rw[Le]
    refine⟨⟨by omega,by omega,by omega⟩,λai g0 g1 h6=>⟨⟨d0,d1,g0,g1,by decide,by decide,trivial⟩,?_⟩⟩
    rw[hid]
    have e3:J z3=(J z0).take z2.toNat:=by rw[h3];simp[ah,gu]
    have mY:J ai=(J z0).drop (z2.toNat+1):=by
     rw[h6];simp only[ah,gu]
     rw[show(z2+1).toNat=z2.toNat+1 by omega]
     exact List.take_of_length_le (by simp;omega)
    rw[e3,mY]
    unfold kx
    rw[<-h2,show decide (0<=z2)=true by simpa using hp]
    rfl
   ·rw[hid]
    unfold kx
    rw[<-h2,hp]
    rfl
theorem QY:CK SB (cC SB [.str,.str,.bool] 126):=QX (c:=58) (n:=59) (by decide) (by decide) (by decide) λ_ _ _ _=>rfl
theorem JX (p:UInt8->Bool) (l:al) (i:Nat) (h:i<l.length):(l.take (i+1)).all p=((l.take i).all p&&p (l.getD i 0)):=by
 rw[IH l i h];simp
theorem JU (p:UInt8->Bool) (l:al) (i:Nat) (h:i<l.length) (hp:p (l.getD i 0)=false):l.all p=false:=by
 rw[List.all_eq_false]
 refine⟨l.getD i 0,?_,λe=>by rw[hp]at e;cases e⟩
 simp[List.getD,h]
theorem TJ {z q L:Int} (h:z<L) (hL:L<=9223372036854775807) (h0:0<=z) (q0:0<=q) (e2:0<=(z+9223372036854775809)-18446744073709551616*q):z+-18446744073709551616*q+1=z+1:=by omega
theorem Q4 {id:Nat} (hid:∀s b r,SB id [[s],[b]] [[r]]=(r=aS ((J s).all λc=>(J b).contains c))):
 (∀z0:Int,0<=z0->z0<=aO->∀aj:Int,0<=aj->aj<=aO->
 ∀z2:Int,0<=z2->z2<=9223372036854775807->z2=ah 0 [z0]->
 ∃(oU:List (List Int)->Prop) (vb:List (List Int)->Nat),oU [[0]]/\(∀z4:Int,0<=z4->z4<=9223372036854775807->oU [[z4]]->
  (((decide (z4<z2))=true->
   aG 1 [z0,z4]/\
   ∀z5:Int,0<=z5->z5<=255->z5=ah 1 [z0,z4]->
   ∀ai:Int,(-1)<=ai->ai<=9223372036854775807->SB 73 [[aj],[z5]] [[ai]]->
   (((decide (ai<0))=true->
    cC SB [.bool] id [[z0],[aj]] [[(cond (false) 1 0)]]
   )/\((decide (ai<0))=false->
    ∀ao:Int,0<=ao->ao<=1->0<=(z4+9223372036854775809)-18446744073709551616*ao->(z4+9223372036854775809)-18446744073709551616*ao<18446744073709551616->
    aG 39 [((z4+((-18446744073709551616)*ao))+1),0,9223372036854775807]/\
    (oU [[((z4+((-18446744073709551616)*ao))+1)]]/\vb [[((z4+((-18446744073709551616)*ao))+1)]]<vb [[z4]])
   ))
  )/\((decide (z4<z2))=false->
   cC SB [.bool] id [[z0],[aj]] [[(cond (true) 1 0)]]
  ))
 )):=by
  intro z0 a0 a1 aj b0 b1 z2 bL c1 h2
  simp only[ah]at h2
  refine⟨λbl=>∃i:Nat,bl=[[(i:Int)]]/\i<=(J z0).length/\((J z0).take i).all (λc=>(J aj).contains c)=true,λbl=>(J z0).length-((bl.getD 0 []).getD 0 0).toNat,⟨0,rfl,Nat.zero_le _,rfl⟩,?_⟩
  rintro z4 d0 d1 ⟨i,e,hi,hall⟩
  obtain rfl:z4=i:=by simpa using e
  refine⟨λhp=>?_,λhp=>⟨⟨by decide,by decide,trivial⟩,?_⟩⟩
  ·have hp:(i:Int)<z2:=by simpa using hp
   refine⟨⟨d0,by omega⟩,λz5 b7 e1 h5 ai f0 f1 h6=>?_⟩
   have h6:ai=idx z5 (J aj):=h6
   simp only[ah,Int.toNat_natCast]at h5
   have hu:u8 z5=(J z0).getD i 0:=by rw[h5,Cq]
   have hm:=Gm b7 e1 (J aj)
   rw[hu,<-h6]at hm
   refine⟨λhq=>⟨⟨by decide,by decide,trivial⟩,?_⟩,λhq ao g0 g1 g2 g3=>?_⟩
   ·rw[hid,JU _ _ i (by omega) (by rw[<-hm];simpa using hq)];rfl
   ·have hq:0<=ai:=by simpa using hq
    rw[TJ (L:=z2) hp c1 d0 g0 g2]
    refine⟨⟨by omega,by omega⟩,⟨i+1,by simp,by omega,?_⟩,?_⟩
    ·rw[JX _ _ _ (by omega),hall,<-hm];simpa using hq
    ·show(J z0).length-((i:Int)+1).toNat<(J z0).length-(i:Int).toNat
     omega
  ·have hp:¬(i:Int)<z2:=by simpa using hp
   rw[List.take_of_length_le (by omega)]at hall
   rw[hid,hall];rfl
theorem Q1:CN SB (cC SB [.bool] 65):=Q4 λ_ _ _=>rfl
def CU (S:Nat->List (List Int)->List (List Int)->Prop) (K:List (List Int)->List (List Int)->Prop):Prop:=
 ∀z0:Int,0<=z0->z0<=aO->
 ∀aj:Int,0<=aj->aj<=1->aj=ah 4 [z0,0]->
 (((decide (aj=1))=true->
  K [[z0]] [[z0]]
 )/\((decide (aj=1))=false->
  ∃(fe:List (List Int)->Prop) (ij:List (List Int)->Nat),fe [[z0]]/\(∀z3:Int,0<=z3->z3<=aO->fe [[z3]]->
   ∀z4:Int,0<=z4->z4<=9223372036854775807->z4=ah 0 [z3]->
   (((decide (0<z4))=true->
    ∀z5:Int,0<=z5->z5<=9223372036854775807->z5=ah 0 [z3]->
    aG 1 [z3,(z5+(-1))]/\
    ∀ai:Int,0<=ai->ai<=255->ai=ah 1 [z3,(z5+(-1))]->
    ∀ao:Int,0<=ao->ao<=1->ao=ah 43 [12125,ai]->
    ((((!(decide (ao=1))))=true->
     ∃(ff:List (List Int)->Prop) (ik:List (List Int)->Nat),ff [[z3]]/\(∀z9:Int,0<=z9->z9<=aO->ff [[z9]]->
      ∀ar:Int,0<=ar->ar<=9223372036854775807->ar=ah 0 [z9]->
      (((decide (0<ar))=true->
       aG 1 [z9,0]/\
       ∀aI:Int,0<=aI->aI<=255->aI=ah 1 [z9,0]->
       ∀z12:Int,0<=z12->z12<=1->z12=ah 43 [12125,aI]->
       ((((!(decide (z12=1))))=true->
        K [[z0]] [[z9]]
       )/\(((!(decide (z12=1))))=false->
        ∀a8:Int,0<=a8->a8<=9223372036854775807->a8=ah 0 [z9]->
        aG 2 [z9,1,a8]/\
        ∀bn:Int,0<=bn->bn<=aO->bn=ah 2 [z9,1,a8]->
        (ff [[bn]]/\ik [[bn]]<ik [[z9]])
       ))
      )/\((decide (0<ar))=false->
       K [[z0]] [[z9]]
      ))
     )
    )/\(((!(decide (ao=1))))=false->
     ∀aw:Int,0<=aw->aw<=9223372036854775807->aw=ah 0 [z3]->
     aG 2 [z3,0,(aw+(-1))]/\
     ∀z9:Int,0<=z9->z9<=aO->z9=ah 2 [z3,0,(aw+(-1))]->
     (fe [[z9]]/\ij [[z9]]<ij [[z3]])
    ))
   )/\((decide (0<z4))=false->
    ∃(eh:List (List Int)->Prop) (fJ:List (List Int)->Nat),eh [[z3]]/\(∀ai:Int,0<=ai->ai<=aO->eh [[ai]]->
     ∀ao:Int,0<=ao->ao<=9223372036854775807->ao=ah 0 [ai]->
     (((decide (0<ao))=true->
      aG 1 [ai,0]/\
      ∀aw:Int,0<=aw->aw<=255->aw=ah 1 [ai,0]->
      ∀z9:Int,0<=z9->z9<=1->z9=ah 43 [12125,aw]->
      ((((!(decide (z9=1))))=true->
       K [[z0]] [[ai]]
      )/\(((!(decide (z9=1))))=false->
       ∀ar:Int,0<=ar->ar<=9223372036854775807->ar=ah 0 [ai]->
       aG 2 [ai,1,ar]/\
       ∀aI:Int,0<=aI->aI<=aO->aI=ah 2 [ai,1,ar]->
       (eh [[aI]]/\fJ [[aI]]<fJ [[ai]])
      ))
     )/\((decide (0<ao))=false->
      K [[z0]] [[ai]]
     ))
    )
   ))
  )
 ))
def CV (S:Nat->List (List Int)->List (List Int)->Prop) (K:List (List Int)->List (List Int)->Prop):Prop:=
 ∀z0:Int,0<=z0->z0<=aO->
 ∀aj:Int,0<=aj->aj<=1->aj=ah 4 [z0,0]->
 (((decide (aj=1))=true->
  K [[z0]] [[z0]]
 )/\((decide (aj=1))=false->
  ∃(fe:List (List Int)->Prop) (ij:List (List Int)->Nat),fe [[z0]]/\(∀z3:Int,0<=z3->z3<=aO->fe [[z3]]->
   ∀z4:Int,0<=z4->z4<=9223372036854775807->z4=ah 0 [z3]->
   (((decide (0<z4))=true->
    ∀z5:Int,0<=z5->z5<=9223372036854775807->z5=ah 0 [z3]->
    aG 1 [z3,(z5+(-1))]/\
    ∀ai:Int,0<=ai->ai<=255->ai=ah 1 [z3,(z5+(-1))]->
    ∀ao:Int,0<=ao->ao<=1->ao=ah 43 [8267443711659794979134808499087199072256874527605039863196959864303977456569186565734100443375465041388132907546406408792979960403300126342849461211344038,ai]->
    ((((!(decide (ao=1))))=true->
     ∃(ff:List (List Int)->Prop) (ik:List (List Int)->Nat),ff [[z3]]/\(∀z9:Int,0<=z9->z9<=aO->ff [[z9]]->
      ∀ar:Int,0<=ar->ar<=9223372036854775807->ar=ah 0 [z9]->
      (((decide (0<ar))=true->
       aG 1 [z9,0]/\
       ∀aI:Int,0<=aI->aI<=255->aI=ah 1 [z9,0]->
       ∀z12:Int,0<=z12->z12<=1->z12=ah 43 [8267443711659794979134808499087199072256874527605039863196959864303977456569186565734100443375465041388132907546406408792979960403300126342849461211344038,aI]->
       ((((!(decide (z12=1))))=true->
        K [[z0]] [[z9]]
       )/\(((!(decide (z12=1))))=false->
        ∀a8:Int,0<=a8->a8<=9223372036854775807->a8=ah 0 [z9]->
        aG 2 [z9,1,a8]/\
        ∀bn:Int,0<=bn->bn<=aO->bn=ah 2 [z9,1,a8]->
        (ff [[bn]]/\ik [[bn]]<ik [[z9]])
       ))
      )/\((decide (0<ar))=false->
       K [[z0]] [[z9]]
      ))
     )
    )/\(((!(decide (ao=1))))=false->
     ∀aw:Int,0<=aw->aw<=9223372036854775807->aw=ah 0 [z3]->
     aG 2 [z3,0,(aw+(-1))]/\
     ∀z9:Int,0<=z9->z9<=aO->z9=ah 2 [z3,0,(aw+(-1))]->
     (fe [[z9]]/\ij [[z9]]<ij [[z3]])
    ))
   )/\((decide (0<z4))=false->
    ∃(eh:List (List Int)->Prop) (fJ:List (List Int)->Nat),eh [[z3]]/\(∀ai:Int,0<=ai->ai<=aO->eh [[ai]]->
     ∀ao:Int,0<=ao->ao<=9223372036854775807->ao=ah 0 [ai]->
     (((decide (0<ao))=true->
      aG 1 [ai,0]/\
      ∀aw:Int,0<=aw->aw<=255->aw=ah 1 [ai,0]->
      ∀z9:Int,0<=z9->z9<=1->z9=ah 43 [8267443711659794979134808499087199072256874527605039863196959864303977456569186565734100443375465041388132907546406408792979960403300126342849461211344038,aw]->
      ((((!(decide (z9=1))))=true->
       K [[z0]] [[ai]]
      )/\(((!(decide (z9=1))))=false->
       ∀ar:Int,0<=ar->ar<=9223372036854775807->ar=ah 0 [ai]->
       aG 2 [ai,1,ar]/\
       ∀aI:Int,0<=aI->aI<=aO->aI=ah 2 [ai,1,ar]->
       (eh [[aI]]/\fJ [[aI]]<fJ [[ai]])
      ))
     )/\((decide (0<ao))=false->
      K [[z0]] [[ai]]
     ))
    )
   ))
  )
 ))
def CT (S:Nat->List (List Int)->List (List Int)->Prop) (K:List (List Int)->List (List Int)->Prop):Prop:=
 ∀z0:Int,0<=z0->z0<=aO->
 ∀aj:Int,0<=aj->aj<=1->aj=ah 4 [z0,0]->
 (((decide (aj=1))=true->
  K [[z0]] [[z0]]
 )/\((decide (aj=1))=false->
  ∃(fe:List (List Int)->Prop) (ij:List (List Int)->Nat),fe [[z0]]/\(∀z3:Int,0<=z3->z3<=aO->fe [[z3]]->
   ∀z4:Int,0<=z4->z4<=9223372036854775807->z4=ah 0 [z3]->
   (((decide (0<z4))=true->
    ∀z5:Int,0<=z5->z5<=9223372036854775807->z5=ah 0 [z3]->
    aG 1 [z3,(z5+(-1))]/\
    ∀ai:Int,0<=ai->ai<=255->ai=ah 1 [z3,(z5+(-1))]->
    ∀ao:Int,0<=ao->ao<=1->ao=ah 43 [284767230291263911083031,ai]->
    ((((!(decide (ao=1))))=true->
     ∃(ff:List (List Int)->Prop) (ik:List (List Int)->Nat),ff [[z3]]/\(∀z9:Int,0<=z9->z9<=aO->ff [[z9]]->
      ∀ar:Int,0<=ar->ar<=9223372036854775807->ar=ah 0 [z9]->
      (((decide (0<ar))=true->
       aG 1 [z9,0]/\
       ∀aI:Int,0<=aI->aI<=255->aI=ah 1 [z9,0]->
       ∀z12:Int,0<=z12->z12<=1->z12=ah 43 [284767230291263911083031,aI]->
       ((((!(decide (z12=1))))=true->
        K [[z0]] [[z9]]
       )/\(((!(decide (z12=1))))=false->
        ∀a8:Int,0<=a8->a8<=9223372036854775807->a8=ah 0 [z9]->
        aG 2 [z9,1,a8]/\
        ∀bn:Int,0<=bn->bn<=aO->bn=ah 2 [z9,1,a8]->
        (ff [[bn]]/\ik [[bn]]<ik [[z9]])
       ))
      )/\((decide (0<ar))=false->
       K [[z0]] [[z9]]
      ))
     )
    )/\(((!(decide (ao=1))))=false->
     ∀aw:Int,0<=aw->aw<=9223372036854775807->aw=ah 0 [z3]->
     aG 2 [z3,0,(aw+(-1))]/\
     ∀z9:Int,0<=z9->z9<=aO->z9=ah 2 [z3,0,(aw+(-1))]->
     (fe [[z9]]/\ij [[z9]]<ij [[z3]])
    ))
   )/\((decide (0<z4))=false->
    ∃(eh:List (List Int)->Prop) (fJ:List (List Int)->Nat),eh [[z3]]/\(∀ai:Int,0<=ai->ai<=aO->eh [[ai]]->
     ∀ao:Int,0<=ao->ao<=9223372036854775807->ao=ah 0 [ai]->
     (((decide (0<ao))=true->
      aG 1 [ai,0]/\
      ∀aw:Int,0<=aw->aw<=255->aw=ah 1 [ai,0]->
      ∀z9:Int,0<=z9->z9<=1->z9=ah 43 [284767230291263911083031,aw]->
      ((((!(decide (z9=1))))=true->
       K [[z0]] [[ai]]
      )/\(((!(decide (z9=1))))=false->
       ∀ar:Int,0<=ar->ar<=9223372036854775807->ar=ah 0 [ai]->
       aG 2 [ai,1,ar]/\
       ∀aI:Int,0<=aI->aI<=aO->aI=ah 2 [ai,1,ar]->
       (eh [[aI]]/\fJ [[aI]]<fJ [[ai]])
      ))
     )/\((decide (0<ao))=false->
      K [[z0]] [[ai]]
     ))
    )
   ))
  )
 ))
theorem EE {n z q:Int} {p:UInt8->Bool} (hn:∀c,(J n).contains c=p c) (h:q=ah 43 [n,z]):decide (q=1)=p (u8 z):=by
 rw[h];simp only[ah]
 have:=hn (u8 z)
 unfold u8 at this⊢
 rw[<-this]
 by_cases hm:UInt8.ofNat z.toNat∈J n
 ·simp[hm]
 ·simp[hm]
theorem xr {n:Int} {p:UInt8->Bool} (hn:∀c,(J n).contains c=p c) {id:Nat} (hid:∀z r,SB id [[z]] [[r]]=(J r=gv p (J z))):
 (∀z0:Int,0<=z0->z0<=aO->
 ∀aj:Int,0<=aj->aj<=1->aj=ah 4 [z0,0]->
 (((decide (aj=1))=true->
   cC SB [.str] id [[z0]] [[z0]]
 )/\((decide (aj=1))=false->
  ∃(fe:List (List Int)->Prop) (ij:List (List Int)->Nat),fe [[z0]]/\(∀z3:Int,0<=z3->z3<=aO->fe [[z3]]->
   ∀z4:Int,0<=z4->z4<=9223372036854775807->z4=ah 0 [z3]->
   (((decide (0<z4))=true->
    ∀z5:Int,0<=z5->z5<=9223372036854775807->z5=ah 0 [z3]->
    aG 1 [z3,(z5+(-1))]/\
    ∀ai:Int,0<=ai->ai<=255->ai=ah 1 [z3,(z5+(-1))]->
    ∀ao:Int,0<=ao->ao<=1->ao=ah 43 [n,ai]->
    ((((!(decide (ao=1))))=true->
     ∃(ff:List (List Int)->Prop) (ik:List (List Int)->Nat),ff [[z3]]/\(∀z9:Int,0<=z9->z9<=aO->ff [[z9]]->
      ∀ar:Int,0<=ar->ar<=9223372036854775807->ar=ah 0 [z9]->
      (((decide (0<ar))=true->
       aG 1 [z9,0]/\
       ∀aI:Int,0<=aI->aI<=255->aI=ah 1 [z9,0]->
       ∀z12:Int,0<=z12->z12<=1->z12=ah 43 [n,aI]->
       ((((!(decide (z12=1))))=true->
         cC SB [.str] id [[z0]] [[z9]]
       )/\(((!(decide (z12=1))))=false->
        ∀a8:Int,0<=a8->a8<=9223372036854775807->a8=ah 0 [z9]->
        aG 2 [z9,1,a8]/\
        ∀bn:Int,0<=bn->bn<=aO->bn=ah 2 [z9,1,a8]->
        (ff [[bn]]/\ik [[bn]]<ik [[z9]])
       ))
      )/\((decide (0<ar))=false->
       cC SB [.str] id [[z0]] [[z9]]
      ))
     )
    )/\(((!(decide (ao=1))))=false->
     ∀aw:Int,0<=aw->aw<=9223372036854775807->aw=ah 0 [z3]->
     aG 2 [z3,0,(aw+(-1))]/\
     ∀z9:Int,0<=z9->z9<=aO->z9=ah 2 [z3,0,(aw+(-1))]->
     (fe [[z9]]/\ij [[z9]]<ij [[z3]])
    ))
   )/\((decide (0<z4))=false->
    ∃(eh:List (List Int)->Prop) (fJ:List (List Int)->Nat),eh [[z3]]/\(∀ai:Int,0<=ai->ai<=aO->eh [[ai]]->
     ∀ao:Int,0<=ao->ao<=9223372036854775807->ao=ah 0 [ai]->
     (((decide (0<ao))=true->
      aG 1 [ai,0]/\
      ∀aw:Int,0<=aw->aw<=255->aw=ah 1 [ai,0]->
      ∀z9:Int,0<=z9->z9<=1->z9=ah 43 [n,aw]->
      ((((!(decide (z9=1))))=true->
        cC SB [.str] id [[z0]] [[ai]]
      )/\(((!(decide (z9=1))))=false->
       ∀ar:Int,0<=ar->ar<=9223372036854775807->ar=ah 0 [ai]->
       aG 2 [ai,1,ar]/\
       ∀aI:Int,0<=aI->aI<=aO->aI=ah 2 [ai,1,ar]->
       (eh [[aI]]/\fJ [[aI]]<fJ [[ai]])
      ))
     )/\((decide (0<ao))=false->
      cC SB [.str] id [[z0]] [[ai]]
     ))
    )
   ))
  )
 ))):=by
  intro z0 a0 a1 aj b0 b1 hz1
  rw[eq_nil hz1]
  have inner:∀z3:Int,0<=z3->z3<=aO->J z3=fV p (J z0)->∃(ff:List (List Int)->Prop) (ik:List (List Int)->Nat),ff [[z3]]/\(∀z9:Int,0<=z9->z9<=aO->ff [[z9]]->
   ∀ar:Int,0<=ar->ar<=9223372036854775807->ar=ah 0 [z9]->
   (((decide (0<ar))=true->
    aG 1 [z9,0]/\
    ∀aI:Int,0<=aI->aI<=255->aI=ah 1 [z9,0]->
    ∀z12:Int,0<=z12->z12<=1->z12=ah 43 [n,aI]->
    ((((!(decide (z12=1))))=true->
     cC SB [.str] id [[z0]] [[z9]]
    )/\(((!(decide (z12=1))))=false->
     ∀a8:Int,0<=a8->a8<=9223372036854775807->a8=ah 0 [z9]->
     aG 2 [z9,1,a8]/\
     ∀bn:Int,0<=bn->bn<=aO->bn=ah 2 [z9,1,a8]->
     (ff [[bn]]/\ik [[bn]]<ik [[z9]])
    ))
   )/\((decide (0<ar))=false->
    cC SB [.str] id [[z0]] [[z9]]
   ))):=by
   intro z3 a0 a1 h3
   refine⟨λbl=>∃z,bl=[[z]]/\hZ p (J z)=hZ p (fV p (J z0)),λbl=>(J ((bl.getD 0 []).getD 0 0)).length,⟨z3,rfl,by rw[h3]⟩,?_⟩
   rintro z9 bL c1 ⟨z,e,hz⟩
   obtain rfl:z9=z:=by simpa using e
   intro z4 d0 d1 gm
   simp only[ah]at gm
   cases hl:J z9 with
   |nil=>
    rw[hl]at gm hz
    simp only[List.length_nil]at gm
    subst gm
    refine⟨λhp=>by simp at hp,λ_=>⟨⟨bL,c1,trivial⟩,?_⟩⟩
    rw[hid,hl];exact hz
   |cons x r=>
    rw[hl]at gm hz
    simp only[List.length_cons]at gm
    refine⟨λ_=>⟨⟨Int.le_refl _,by rw[hl];simp only[List.length_cons];omega⟩,?_⟩,λhp=>by simp at hp;omega⟩
    intro z5 b7 e1 rZ
    simp only[ah,hl,Int.toNat_zero,List.getD_cons_zero]at rZ
    intro ai f0 f1 nm
    rw[EE hn nm,rZ,Cq]
    refine⟨λhe=>⟨⟨bL,c1,trivial⟩,?_⟩,λhe=>?_⟩
    ·rw[hid,hl]
     have he:p x=false:=by simpa using he
     show x::r=hZ p (fV p (J z0))
     rw[<-hz]
     simp[hZ,List.dropWhile_cons,he]
    ·have he:p x=true:=by simpa using he
     intro a8 f0 f1 nm
     simp only[ah,hl,List.length_cons]at nm
     refine⟨⟨by omega,by omega,by rw[hl];simp only[List.length_cons];omega⟩,?_⟩
     intro ao g0 g1 uj
     have hr:J ao=r:=by
      rw[uj];simp only[ah,gu,hl]
      rw[show(1:Int).toNat=1 from rfl,List.drop_one,List.tail_cons]
      exact List.take_of_length_le (by omega)
     refine⟨⟨ao,rfl,?_⟩,?_⟩
     ·rw[hr,<-hz];simp only[hZ,List.dropWhile_cons,he,if_true]
     ·show(J ao).length<(J z9).length
      rw[hr,hl];simp
  refine⟨λh=>⟨⟨a0,a1,trivial⟩,?_⟩,λh=>?_⟩
  ·rw[hid]
   have:J z0=[]:=by simpa using h
   rw[this];rfl
  ·refine⟨λbl=>∃z,bl=[[z]]/\fV p (J z)=fV p (J z0),λbl=>(J ((bl.getD 0 []).getD 0 0)).length,⟨z0,rfl,rfl⟩,?_⟩
   rintro z3 bL c1 ⟨z,e,hz⟩
   obtain rfl:z3=z:=by simpa using e
   intro z4 d0 d1 gm
   simp only[ah]at gm
   by_cases hl:J z3=[]
   ·have UF:=gm
    rw[hl]at gm
    simp only[List.length_nil]at gm
    subst gm
    refine⟨λhp=>by simp at hp,λ_=>inner z3 bL c1 ?_⟩
    rw[hl]at hz⊢
    exact hz
   ·obtain⟨r,x,hl⟩:=B9 hl
    rw[hl]at gm hz
    simp only[List.length_append,List.length_cons,List.length_nil]at gm
    refine⟨λ_=>?_,λhp=>by simp at hp;omega⟩
    intro z5 d0 d1 rZ
    simp only[ah,hl,List.length_append,List.length_cons,List.length_nil]at rZ
    refine⟨⟨by omega,by rw[hl];simp only[List.length_append,List.length_cons,List.length_nil];omega⟩,?_⟩
    intro ai f0 f1 nm
    have ht:(z5+-1).toNat=r.length:=by omega
    simp only[ah,hl,ht]at nm
    rw[show((r++[x]).getD r.length 0)=x by simp[List.getD]]at nm
    intro ao g0 g1 uj
    rw[EE hn uj,nm,Cq]
    refine⟨λhe=>inner z3 bL c1 ?_,λhe=>?_⟩
    ·have he:p x=false:=by simpa using he
     rw[hl,<-hz,xJ,he,cond_false]
    ·have he:p x=true:=by simpa using he
     intro ao f0 f1 uj
     simp only[ah,hl,List.length_append,List.length_cons,List.length_nil]at uj
     have N0:(ao+-1).toNat=r.length:=by omega
     refine⟨⟨by omega,by omega,by rw[hl];simp only[List.length_append,List.length_cons,List.length_nil];omega⟩,?_⟩
     intro aw g0 g1 Og
     have hr:J aw=r:=by
      rw[Og];simp only[ah,gu,hl,N0]
      simp
     refine⟨⟨aw,rfl,?_⟩,?_⟩
     ·rw[hr,<-hz,xJ,he,cond_true]
     ·show(J aw).length<(J z3).length
      rw[hr,hl];simp
theorem o3 {q p:UInt8->Bool} (h:((List.range 256).all λi=>q (UInt8.ofNat i)==p (UInt8.ofNat i))=true) (c:UInt8):q c=p c:=by
 have:=List.all_eq_true.1 h c.toNat (List.mem_range.2 c.toNat_lt)
 simpa using this
theorem Ra:CU SB (cC SB [.str] 122):=xr (n:=12125) (p:=th) (o3 (by decide+kernel)) λ_ _=>rfl
theorem Rb:CV SB (cC SB [.str] 123):=xr (n:=8267443711659794979134808499087199072256874527605039863196959864303977456569186565734100443375465041388132907546406408792979960403300126342849461211344038) (p:=p6) (o3 (by decide+kernel)) λ_ _=>rfl
theorem Q9:CT SB (cC SB [.str] 124):=xr (n:=284767230291263911083031) (p:=fT) (o3 (by decide+kernel)) λ_ _=>rfl
end Go.bD
namespace Go.bD
open Go Go.aZ
def CM (S:Nat->List (List Int)->List (List Int)->Prop) (K:List (List Int)->List (List Int)->Prop):Prop:=
 ∀z0:Int,0<=z0->z0<=aO->
 ∀aj:Int,0<=aj->aj<=1->aj=ah 4 [z0,0]->
 ((((!(decide (aj=1))))=true->
  ∀z2:Int,0<=z2->z2<=9223372036854775807->z2=ah 0 [z0]->
  (((decide (z2<=230))=true->
   ∀z3:Int,0<=z3->z3<=aO->S 123 [[z0]] [[z3]]->
   ∀z4:Int,0<=z4->z4<=1->z4=ah 4 [z3,0]->
   (((decide (z4=1))=true->
    ∀z5:Int,0<=z5->z5<=1->S 65 [[z0],[3092260449727753699381237987134896180985020549865866695797500355328521677512090486983914513878993150076419119825652852662229468458769751959831595687466918]] [[z5]]->
    (((decide (z5=1))=true->
     ∀ai:Int,0<=ai->ai<=aO->S 122 [[z0]] [[ai]]->
     ∀ao:Int,0<=ao->ao<=1->ao=ah 4 [ai,z0]->
     (((decide (ao=1))=true->
      aG 41 [z0]/\
      ∀aw:Int,0<=aw->aw<=1->S 128 [[z0]] [[aw]]->
      K [[z0]] [[(cond ((!(decide (aw=1)))) 1 0)]]
     )/\((decide (ao=1))=false->
      K [[z0]] [[(cond (false) 1 0)]]
     ))
    )/\((decide (z5=1))=false->
     K [[z0]] [[(cond (false) 1 0)]]
    ))
   )/\((decide (z4=1))=false->
    K [[z0]] [[(cond (false) 1 0)]]
   ))
  )/\((decide (z2<=230))=false->
   K [[z0]] [[(cond (false) 1 0)]]
  ))
 )/\(((!(decide (aj=1))))=false->
  K [[z0]] [[(cond (false) 1 0)]]
 ))
theorem xc (p:UInt8->Bool) (l:al):(hZ p l).length<=l.length:=(List.dropWhile_sublist p).length_le
theorem RQ (p:UInt8->Bool) (l:al):(fV p l).length<=l.length:=by
 unfold fV;rw[List.length_reverse]
 have:=xc p l.reverse
 rwa [List.length_reverse]at this
theorem PN {p:UInt8->Bool} {l:al} (h:l.length<=(hZ p l).length):hZ p l=l:=(List.dropWhile_suffix p).eq_of_length (Nat.le_antisymm (xc p l) h)
theorem RP {p:UInt8->Bool} {l:al} (h:l.length<=(fV p l).length):fV p l=l:=by
 have:hZ p l.reverse=l.reverse:=PN (by unfold fV at h;rw[List.length_reverse]at h;rw[List.length_reverse];exact h)
 unfold fV;unfold hZ at this;rw[this,List.reverse_reverse]
theorem EM (r:al) (x:UInt8):(r++[x]).getD r.length 0=x:=by simp[List.getD]
theorem SP (p:UInt8->Bool) (s:al):gv p s=s↔∀i,i<s.length->p (s.getD i 0)=true->0<i/\i+1<s.length:=by
 by_cases hs:s=[]
 ·subst hs;exact⟨λ_ i h=>by simp at h,λ_=>rfl⟩
 ·constructor
  ·intro h i hi hp
   have hl:s.length<=(gv p s).length:=by rw[h];exact Nat.le_refl _
   have h1:=xc p (fV p s)
   have hr:fV p s=s:=RP (Nat.le_trans hl h1)
   have ht:hZ p s=s:=by unfold gv at h;rwa [hr]at h
   refine⟨Nat.pos_of_ne_zero λh0=>?_,Nat.lt_of_le_of_ne hi λh0=>?_⟩
   ·subst h0
    cases s with
    |nil=>exact hs rfl
    |cons x r=>
     have hp:p x=true:=hp
     have h2:hZ p (x::r)=hZ p r:=by simp[hZ,List.dropWhile_cons,hp]
     have:=xc p r
     rw[h2]at ht
     rw[ht]at this
     simp at this
     omega
   ·obtain⟨r,x,rfl⟩:=B9 hs
    have:i=r.length:=by simp at h0;omega
    subst this
    rw[EM]at hp
    rw[xJ,hp,cond_true]at hr
    have:=RQ p r
    rw[hr]at this
    simp at this
    omega
  ·intro h
   have hr:fV p s=s:=by
    obtain⟨r,x,rfl⟩:=B9 hs
    rw[xJ]
    cases hx:p x with
    |false=>rfl
    |true=>have:=(h r.length (by simp) (by rw[EM];exact hx)).2;simp at this
   unfold gv;rw[hr]
   cases s with
   |nil=>rfl
   |cons x r=>
    cases hx:p x with
    |false=>simp[hZ,List.dropWhile_cons,hx]
    |true=>have:=(h 0 (by simp) hx).1;omega
theorem JV (p:UInt8->Bool) (s:al):s.all p=true↔∀i,i<s.length->p (s.getD i 0)=true:=by
 rw[List.all_eq_true]
 constructor
 ·intro h i hi
  refine h _ ?_
  simp[List.getD,hi]
 ·intro h x hx
  obtain⟨i,hi,rfl⟩:=List.getElem_of_mem hx
  have:=h i hi
  simpa [List.getD,hi]using this
theorem KO (s:al):dd s=false↔∀i,i<s.length->¬(s.getD i 0=46/\s.getD (i+1) 0=46):=by
 unfold dd
 rw[List.any_eq_false]
 constructor
 ·intro h i hi ad
  exact h i (List.mem_range.2 hi) (by rw[ad.1,ad.2];rfl)
 ·intro h i hi ad
  rw[Bool.and_eq_true,beq_iff_eq,beq_iff_eq]at ad
  exact h i (List.mem_range.1 hi) ad
theorem Qa (inn nY:UInt8->Bool) (s:al):uF inn nY s=true↔∀i,i<s.length->inn (s.getD i 0)=true/\(nY (s.getD i 0)=true->0<i/\i+1<s.length)/\¬(s.getD i 0=46/\0<i/\s.getD (i-1) 0=46):=by
 unfold uF
 rw[List.all_eq_true]
 constructor
 ·intro h i hi
  have:=h i (List.mem_range.2 hi)
  simp only[Bool.and_eq_true,Bool.or_eq_true,Bool.not_eq_true',Nat.blt_eq,Bool.and_eq_false_iff,beq_eq_false_iff_ne]at this
  refine⟨this.1.1,λhe=>?_,λad=>?_⟩
  ·rcases this.1.2 with h1|h1
   ·rw[h1]at he;cases he
   ·exact h1
  ·have h3:Nat.blt 0 i=true:=by rw[Nat.blt_eq];exact ad.2.1
   rcases this.2 with(h1|h1)|h1
   ·exact h1 ad.1
   ·rw[h3]at h1;cases h1
   ·exact h1 ad.2.2
 ·intro h i hi
  obtain⟨h1,h2,h3⟩:=h i (List.mem_range.1 hi)
  simp only[Bool.and_eq_true,Bool.or_eq_true,Bool.not_eq_true',Nat.blt_eq,Bool.and_eq_false_iff,beq_eq_false_iff_ne]
  refine⟨⟨h1,?_⟩,?_⟩
  ·cases he:nY (s.getD i 0)with
   |false=>exact .inl rfl
   |true=>exact .inr (h2 he)
  ·by_cases e1:s.getD i 0=46
   ·by_cases e2:s.getD (i-1) 0=46
    ·left;right
     cases hb:Nat.blt 0 i with
     |false=>rfl
     |true=>rw[Nat.blt_eq]at hb;exact absurd ⟨e1,hb,e2⟩ h3
    ·exact .inr e2
   ·exact .inl (.inl e1)
theorem xk (inn nY:UInt8->Bool) (s:al):uF inn nY s=(s.all inn&&decide (gv nY s=s)&& !dd s):=by
 rw[Bool.eq_iff_iff,Qa,Bool.and_eq_true,Bool.and_eq_true,JV,decide_eq_true_eq,SP,Bool.not_eq_true',KO]
 constructor
 ·intro h
  refine⟨⟨λi hi=>(h i hi).1,λi hi=>(h i hi).2.1⟩,λi hi ad=>?_⟩
  by_cases hj:i+1<s.length
  ·exact(h (i+1) hj).2.2 ⟨ad.2,by omega,by simpa using ad.1⟩
  ·have:s.getD (i+1) 0=0:=by simp[List.getD,show s.length<=i+1 by omega]
   rw[this]at ad;exact absurd ad.2 (by decide)
 ·rintro⟨⟨h1,h2⟩,h3⟩ i hi
  refine⟨h1 i hi,h2 i hi,λad=>?_⟩
  exact h3 (i-1) (by omega) ⟨ad.2.2,by rw[show i-1+1=i by omega];exact ad.1⟩
theorem Ed {p:UInt8->Bool}:∀{l:al},l.all p=true->l.dropWhile p=[]
 |[],_=>rfl
 |x::r,h=>by
  simp only[List.all_cons,Bool.and_eq_true]at h
  rw[List.dropWhile_cons,if_pos h.1]
  exact Ed h.2
theorem Co {p:UInt8->Bool} {s:al} (h:s.all p=true):gv p s=[]:=by
 have:fV p s=[]:=by
  unfold fV
  have:s.reverse.all p=true:=by rw[List.all_reverse];exact h
  rw[Ed this];rfl
 unfold gv;rw[this];rfl
theorem ri {z a b:Int} (h:z=ah 4 [a,b]):decide (z=1)=decide (J a=J b):=by
 rw[h];simp only[ah]
 by_cases e:J a=J b<;>simp[e]
theorem xh {z a:Int} (h:z=ah 4 [a,0]):(!decide (z=1))=Nat.blt 0 (J a).length:=by
 rw[eq_nil h]
 cases J a with
 |nil=>rfl
 |cons x r=>simp
theorem ux {z a n:Int} (m:Nat) (hm:n=(m:Int)) (h:z=ah 0 [a]):decide (z<=n)=Nat.ble (J a).length m:=by
 rw[h,hm];simp only[ah]
 rw[Bool.eq_iff_iff,decide_eq_true_eq,Nat.ble_eq];omega
theorem O9 {z a n:Int} (m:Nat) (hm:n=(m:Int)) (h:z=ah 0 [a]):decide (n<z)= !Nat.ble (J a).length m:=by
 rw[h,hm];simp only[ah]
 rw[Bool.eq_iff_iff,decide_eq_true_eq,Bool.not_eq_true',<-Bool.not_eq_true,Nat.ble_eq];omega
theorem jo {z:Int} {b:Bool} (h:z=aS b):decide (z=1)=b:=by rw[h,s3]
theorem uw {id:Nat} {zs:List (List Int)} {b:Bool} (h:SB id zs [[aS b]]):cC SB [.bool] id zs [[aS b]]:=⟨⟨(iq b).1,(iq b).2,trivial⟩,h⟩
theorem QH (s:al) {n:Int} (hn:∀c,(J n).contains c=p6 c):(s.all λc=>(J n).contains c)=s.all p6:=by
 congr 1;funext c;exact hn c
theorem Q0:CM SB (cC SB [.bool] 47):=by
 intro z0 a0 a1 aj b0 b1 h1
 have bB:∀b:Bool,jy (J z0)=b->cC SB [.bool] 47 [[z0]] [[aS b]]:=λb h=>uw (by show aS b=aS (jy (J z0));rw[h])
 refine⟨λhp z2 bL c1 h2=>⟨λhq z3 d0 d1 h3 z4 b7 e1 h4=>⟨λhr z5 f0 f1 h5=>?_,λhr=>bB false ?_⟩,λhq=>bB false ?_⟩,λhp=>bB false ?_⟩
 ·rw[xh h1]at hp
  rw[ux (n:=230) 230 rfl h2]at hq
  have h5:z5=aS ((J z0).all λc=>(J _).contains c):=h5
  rw[QH (J z0) (o3 (by decide+kernel))]at h5
  rw[jo h5]
  refine⟨λhs ai g0 g1 h6 ao i0 i1 h7=>?_,λhs=>bB false ?_⟩
  ·have h6:J ai=gv th (J z0):=h6
   rw[ri h7,h6]
   refine⟨λht=>⟨?_,λaw GB iB cz=>?_⟩,λht=>bB false ?_⟩
   ·show(J z0).length<=4294967280
    rw[Nat.ble_eq]at hq;omega
   ·have cz:aw=aS (dd (J z0)):=cz
    rw[jo cz]
    refine bB _ ?_
    unfold jy;rw[hp,hq,xk,hs,ht];rfl
   ·unfold jy;rw[xk,ht];simp
  ·unfold jy;rw[xk,hs];simp
 ·have h3:J z3=gv p6 (J z0):=h3
  rw[eq_nil h4,h3]at hr
  unfold jy;rw[xk]
  cases ha:(J z0).all p6 with
  |false=>simp
  |true=>rw[Co ha]at hr;simp at hr
 ·rw[ux (n:=230) 230 rfl h2]at hq
  unfold jy;rw[hq];simp
 ·rw[xh h1]at hp
  unfold jy;rw[hp];rfl
def CS (S:Nat->List (List Int)->List (List Int)->Prop) (K:List (List Int)->List (List Int)->Prop):Prop:=
 ∀z0:Int,0<=z0->z0<=aO->
 ∀aj:Int,0<=aj->aj<=aO->∀z2:Int,0<=z2->z2<=aO->∀z3:Int,0<=z3->z3<=1->S 126 [[z0]] [[aj],[z2],[z3]]->
 ∀z4:Int,0<=z4->z4<=1->S 47 [[aj]] [[z4]]->
 (((decide (z4=1))=true->
  ((((!(decide (z3=1))))=true->
   K [[z0]] [[(cond (true) 1 0)]]
  )/\(((!(decide (z3=1))))=false->
   ∀z5:Int,0<=z5->z5<=1->z5=ah 4 [z2,0]->
   ((((!(decide (z5=1))))=true->
    ∀ai:Int,0<=ai->ai<=9223372036854775807->ai=ah 0 [z2]->
    (((decide (ai<=5))=true->
     ∀ao:Int,0<=ao->ao<=aO->S 124 [[z2]] [[ao]]->
     ∀aw:Int,0<=aw->aw<=1->aw=ah 4 [ao,0]->
     (((decide (aw=1))=true->
      ∀z9:Int,0<=z9->z9<=1->S 65 [[z2],[284767230291263911083031]] [[z9]]->
      K [[z0]] [[(cond (decide (z9=1)) 1 0)]]
     )/\((decide (aw=1))=false->
      K [[z0]] [[(cond (false) 1 0)]]
     ))
    )/\((decide (ai<=5))=false->
     K [[z0]] [[(cond (false) 1 0)]]
    ))
   )/\(((!(decide (z5=1))))=false->
    K [[z0]] [[(cond (false) 1 0)]]
   ))
  ))
 )/\((decide (z4=1))=false->
  K [[z0]] [[(cond (false) 1 0)]]
 ))
theorem Q8:CS SB (cC SB [.bool] 27):=by
 intro z0 a0 a1 aj b0 b1 z2 bL c1 z3 d0 d1 fj z4 b7 e1 h4
 have fj:(J aj,J z2,z3)=kx 58 (J z0):=fj
 have h4:z4=aS (jy (J aj)):=h4
 have hv:kS (J z0)=(jy (J aj)&&(decide (z3=0)||sn (J z2))):=by unfold kS;rw[<-fj]
 have bB:∀b:Bool,kS (J z0)=b->cC SB [.bool] 27 [[z0]] [[aS b]]:=λb h=>uw (by show aS b=aS (kS (J z0));rw[h])
 have h3:(!decide (z3=1))=decide (z3=0):=by
  rcases(show z3=0∨z3=1 by omega)with rfl|rfl<;>rfl
 rw[jo h4,h3]
 refine⟨λhp=>⟨λhq=>bB true ?_,λhq z5 f0 f1 h5=>?_⟩,λhp=>bB false ?_⟩
 ·rw[hv,hp,hq];rfl
 ·have hn:=xh h5
  refine⟨λhr ai g0 g1 h6=>⟨λhs ao i0 i1 h7 aw GB iB cz=>?_,λhs=>bB false ?_⟩,λhr=>bB false ?_⟩
  ·rw[hr]at hn
   rw[ux (n:=5) 5 rfl h6]at hs
   have h7:J ao=gv fT (J z2):=h7
   rw[eq_nil cz,h7]
   refine⟨λht z9 kL k1 bt=>?_,λht=>bB false ?_⟩
   ·have bt:z9=aS ((J z2).all λc=>(J 284767230291263911083031).contains c):=bt
    have e:((J z2).all λc=>(J 284767230291263911083031).contains c)=(J z2).all fT:=congrArg (List.all (J z2)) (funext (o3 (p:=fT) (by decide+kernel)))
    rw[e]at bt
    rw[jo bt]
    refine bB _ ?_
    rw[hv,hp,hq];unfold sn;rw[<-hn,hs];simp
   ·rw[hv,hp,hq];unfold sn
    cases ha:(J z2).all fT with
    |false=>simp
    |true=>rw[Co ha]at ht;simp at ht
  ·rw[ux (n:=5) 5 rfl h6]at hs
   rw[hv,hp,hq];unfold sn;rw[hs];simp
  ·rw[hr]at hn
   rw[hv,hp,hq];unfold sn;rw[<-hn];rfl
 ·rw[hv,hp];rfl
theorem sc:∀l:al,Op.bytesLess l l=false
 |[]=>rfl
 |x::r=>by
  have:=sc r
  simp[Op.bytesLess,this]
end Go.bD
namespace Go.bD
open Go Go.aZ
def CW (S:Nat->List (List Int)->List (List Int)->Prop) (K:List (List Int)->List (List Int)->Prop):Prop:=
 ∀z0:Int,0<=z0->z0<=aO->
 ∀aj:Int,0<=aj->aj<=1->aj=ah 4 [z0,0]->
 (((decide (aj=1))=true->
  K [[z0]] [[z0]]
 )/\((decide (aj=1))=false->
  ∃(fe:List (List Int)->Prop) (ij:List (List Int)->Nat),fe [[z0]]/\(∀z3:Int,0<=z3->z3<=aO->fe [[z3]]->
   ∀z4:Int,0<=z4->z4<=9223372036854775807->z4=ah 0 [z3]->
   (((decide (0<z4))=true->
    ∀z5:Int,0<=z5->z5<=9223372036854775807->z5=ah 0 [z3]->
    aG 1 [z3,(z5+(-1))]/\
    ∀ai:Int,0<=ai->ai<=255->ai=ah 1 [z3,(z5+(-1))]->
    ∀ao:Int,0<=ao->ao<=1->ao=ah 43 [79221403731691789204265450354666987086070872538664503581038852739373042335165977954796146613462291367,ai]->
    ((((!(decide (ao=1))))=true->
     ∃(ff:List (List Int)->Prop) (ik:List (List Int)->Nat),ff [[z3]]/\(∀z9:Int,0<=z9->z9<=aO->ff [[z9]]->
      ∀ar:Int,0<=ar->ar<=9223372036854775807->ar=ah 0 [z9]->
      (((decide (0<ar))=true->
       aG 1 [z9,0]/\
       ∀aI:Int,0<=aI->aI<=255->aI=ah 1 [z9,0]->
       ∀z12:Int,0<=z12->z12<=1->z12=ah 43 [79221403731691789204265450354666987086070872538664503581038852739373042335165977954796146613462291367,aI]->
       ((((!(decide (z12=1))))=true->
        K [[z0]] [[z9]]
       )/\(((!(decide (z12=1))))=false->
        ∀a8:Int,0<=a8->a8<=9223372036854775807->a8=ah 0 [z9]->
        aG 2 [z9,1,a8]/\
        ∀bn:Int,0<=bn->bn<=aO->bn=ah 2 [z9,1,a8]->
        (ff [[bn]]/\ik [[bn]]<ik [[z9]])
       ))
      )/\((decide (0<ar))=false->
       K [[z0]] [[z9]]
      ))
     )
    )/\(((!(decide (ao=1))))=false->
     ∀aw:Int,0<=aw->aw<=9223372036854775807->aw=ah 0 [z3]->
     aG 2 [z3,0,(aw+(-1))]/\
     ∀z9:Int,0<=z9->z9<=aO->z9=ah 2 [z3,0,(aw+(-1))]->
     (fe [[z9]]/\ij [[z9]]<ij [[z3]])
    ))
   )/\((decide (0<z4))=false->
    ∃(eh:List (List Int)->Prop) (fJ:List (List Int)->Nat),eh [[z3]]/\(∀ai:Int,0<=ai->ai<=aO->eh [[ai]]->
     ∀ao:Int,0<=ao->ao<=9223372036854775807->ao=ah 0 [ai]->
     (((decide (0<ao))=true->
      aG 1 [ai,0]/\
      ∀aw:Int,0<=aw->aw<=255->aw=ah 1 [ai,0]->
      ∀z9:Int,0<=z9->z9<=1->z9=ah 43 [79221403731691789204265450354666987086070872538664503581038852739373042335165977954796146613462291367,aw]->
      ((((!(decide (z9=1))))=true->
       K [[z0]] [[ai]]
      )/\(((!(decide (z9=1))))=false->
       ∀ar:Int,0<=ar->ar<=9223372036854775807->ar=ah 0 [ai]->
       aG 2 [ai,1,ar]/\
       ∀aI:Int,0<=aI->aI<=aO->aI=ah 2 [ai,1,ar]->
       (eh [[aI]]/\fJ [[aI]]<fJ [[ai]])
      ))
     )/\((decide (0<ao))=false->
      K [[z0]] [[ai]]
     ))
    )
   ))
  )
 ))
theorem Rc:CW SB (cC SB [.str] 202):=xr (n:=79221403731691789204265450354666987086070872538664503581038852739373042335165977954796146613462291367) (p:=wV) (o3 (by decide+kernel)) λ_ _=>rfl
theorem SH {s z L:Int} {n:Nat} (hz:z=(n:Int)) (h:n<=(J s).length) (hL:L=ah 0 [s]):(0<=z/\z<=L/\L<=((J s).length:Int))/\∀y,y=ah 2 [s,z,L]->J y=(J s).drop n:=by
 subst hz
 simp only[ah]at hL
 refine⟨⟨by omega,by omega,by omega⟩,λy hy=>?_⟩
 rw[hy];simp only[ah,gu]
 rw[show((n:Int)).toNat=n by omega]
 exact List.take_of_length_le (by simp;omega)
theorem GG {id:Nat} {zs:List (List Int)} {a b:Int} {c:Bool} (a0:0<=a) (a1:a<=aO) (b0:0<=b) (b1:b<=aO) (h:SB id zs [[a],[b],[aS c]]):cC SB [.str,.str,.bool] id zs [[a],[b],[aS c]]:=⟨⟨a0,a1,b0,b1,(iq c).1,(iq c).2,trivial⟩,h⟩
theorem HB {k:UInt8} {s:al} (h:(Nat.blt 0 s.length&&Nat.ble s.length 255&&s.getD 0 0==k&&decide (0<=idx 58 s)&&kS (s.drop ((idx 58 s).toNat+1)))=false):kc k s=([],[],0):=by unfold kc;rw[h];rfl
end Go.bD
namespace Go.bD
open Go Go.aZ
def CY (S:Nat->List (List Int)->List (List Int)->Prop) (K:List (List Int)->List (List Int)->Prop):Prop:=
 ∀z0:Int,0<=z0->z0<=aO->
 ∀aj:Int,0<=aj->aj<=9223372036854775807->aj=ah 0 [z0]->
 (((decide (255<aj))=true->
  K [[z0]] [[(cond (false) 1 0)]]
 )/\((decide (255<aj))=false->
  ∀z2:Int,0<=z2->z2<=9223372036854775807->z2=ah 0 [z0]->
  (((decide (1<=z2))=true->
   aG 2 [z0,0,1]/\
   ∀z3:Int,0<=z3->z3<=aO->z3=ah 2 [z0,0,1]->
   ∀z4:Int,0<=z4->z4<=1->z4=ah 4 [z3,65]->
   ((((!(decide (z4=1))))=true->
    K [[z0]] [[(cond (false) 1 0)]]
   )/\(((!(decide (z4=1))))=false->
    ∀z5:Int,0<=z5->z5<=9223372036854775807->z5=ah 0 [z0]->
    aG 2 [z0,1,z5]/\
    ∀ai:Int,0<=ai->ai<=aO->ai=ah 2 [z0,1,z5]->
    ∀ao:Int,0<=ao->ao<=aO->∀aw:Int,0<=aw->aw<=aO->∀z9:Int,0<=z9->z9<=1->S 126 [[ai]] [[ao],[aw],[z9]]->
    (((decide (z9=1))=true->
     ∀ar:Int,0<=ar->ar<=1->ar=ah 4 [ao,0]->
     ((((!(decide (ar=1))))=true->
      ∀aI:Int,0<=aI->aI<=9223372036854775807->aI=ah 0 [ao]->
      (((decide (aI<=200))=true->
       ∀z12:Int,0<=z12->z12<=aO->S 202 [[ao]] [[z12]]->
       ∀a8:Int,0<=a8->a8<=1->a8=ah 4 [z12,0]->
       (((decide (a8=1))=true->
        ∀bn:Int,0<=bn->bn<=1->S 65 [[ao],[29623484903295033747957742255491238963424329677582429956179748554116486405127370353604394274421496743]] [[bn]]->
        (((decide (bn=1))=true->
         ∀cu:Int,0<=cu->cu<=1->S 27 [[aw]] [[cu]]->
         K [[z0]] [[(cond (decide (cu=1)) 1 0)]]
        )/\((decide (bn=1))=false->
         K [[z0]] [[(cond (false) 1 0)]]
        ))
       )/\((decide (a8=1))=false->
        K [[z0]] [[(cond (false) 1 0)]]
       ))
      )/\((decide (aI<=200))=false->
       K [[z0]] [[(cond (false) 1 0)]]
      ))
     )/\(((!(decide (ar=1))))=false->
      K [[z0]] [[(cond (false) 1 0)]]
     ))
    )/\((decide (z9=1))=false->
     K [[z0]] [[(cond (false) 1 0)]]
    ))
   ))
  )/\((decide (1<=z2))=false->
   K [[z0]] [[(cond (false) 1 0)]]
  ))
 ))
theorem Ot {c:UInt8} {t:al} (h:c≠58):idx 58 (c::t)=if idx 58 t<0 then-1 else idx 58 t+1:=by
 have:¬(c.toNat:Int)=58:=λe=>h (by rw[<-UInt8.toNat_inj];show c.toNat=58;omega)
 show(if(c.toNat:Int)=58 then 0 else if idx 58 t<0 then-1 else idx 58 t+1)=_
 rw[if_neg this]
theorem Rh {k:UInt8} (hk:k≠58) {t:al} (hl:t.length+1<=255):kc k (k::t)=cond (decide (0<=idx 58 t)&&kS (t.drop ((idx 58 t).toNat+1))) (t.take (idx 58 t).toNat,t.drop ((idx 58 t).toNat+1),1) ([],[],0):=by
 unfold kc
 rw[Ot hk,show Nat.blt 0 (k::t).length=true by rw[Nat.blt_eq];simp,show Nat.ble (k::t).length 255=true by rw[Nat.ble_eq];simpa using hl]
 have hr:=um 58 t
 have hb:((k::t).getD 0 0==k)=true:=by show(k==k)=true;simp
 rw[hb]
 by_cases hn:idx 58 t<0
 ·rw[if_pos hn,show decide (0<=idx 58 t)=false from decide_eq_false (by omega)]
  simp
 ·rw[if_neg hn,show decide (0<=idx 58 t)=true from decide_eq_true (by omega),show decide (0<=idx 58 t+1)=true from decide_eq_true (by omega),show(idx 58 t+1).toNat=(idx 58 t).toNat+1 by omega]
  simp
theorem HA {k:UInt8} {s:al} (h:s.getD 0 0≠k∨s=[]):(kc k s).2.2=0:=by
 rw[HB]
 rcases h with h|h
 ·rw[show(s.getD 0 0==k)=false by simpa using h];simp
 ·rw[h];rfl
theorem Ri {k:UInt8} {s:al} (h:Nat.ble s.length 255=false):(kc k s).2.2=0:=by
 rw[HB]
 rw[h];simp
theorem xf {k:UInt8} {inn:UInt8->Bool} {most:Nat} {s:al} (h:(kc k s).2.2=0):ov k inn most s=false:=by unfold ov;rw[h];rfl
theorem QI (inn:UInt8->Bool) (s:al) {n:Int} (hn:∀c,(J n).contains c=inn c):(s.all λc=>(J n).contains c)=s.all inn:=by
 congr 1;funext c;exact hn c
theorem Q3 {k:UInt8} {GD yV Bg:Int} {inn:UInt8->Bool} {most tid:Nat} (hk:k≠58) (M4:J GD=[k]) (c2:∀c,(J yV).contains c=inn c) (hm:Bg=(most:Int)) (ht:∀z r,SB tid [[z]] [[r]]=(J r=gv inn (J z))) {id:Nat} (hid:∀z r,SB id [[z]] [[r]]=(r=aS (ov k inn most (J z)))):
(∀z0:Int,0<=z0->z0<=aO->
 ∀aj:Int,0<=aj->aj<=9223372036854775807->aj=ah 0 [z0]->
 (((decide (255<aj))=true->
  cC SB [.bool] id [[z0]] [[(cond (false) 1 0)]]
 )/\((decide (255<aj))=false->
  ∀z2:Int,0<=z2->z2<=9223372036854775807->z2=ah 0 [z0]->
  (((decide (1<=z2))=true->
   aG 2 [z0,0,1]/\
   ∀z3:Int,0<=z3->z3<=aO->z3=ah 2 [z0,0,1]->
   ∀z4:Int,0<=z4->z4<=1->z4=ah 4 [z3,GD]->
   ((((!(decide (z4=1))))=true->
    cC SB [.bool] id [[z0]] [[(cond (false) 1 0)]]
   )/\(((!(decide (z4=1))))=false->
    ∀z5:Int,0<=z5->z5<=9223372036854775807->z5=ah 0 [z0]->
    aG 2 [z0,1,z5]/\
    ∀ai:Int,0<=ai->ai<=aO->ai=ah 2 [z0,1,z5]->
    ∀ao:Int,0<=ao->ao<=aO->∀aw:Int,0<=aw->aw<=aO->∀z9:Int,0<=z9->z9<=1->SB 126 [[ai]] [[ao],[aw],[z9]]->
    (((decide (z9=1))=true->
     ∀ar:Int,0<=ar->ar<=1->ar=ah 4 [ao,0]->
     ((((!(decide (ar=1))))=true->
      ∀aI:Int,0<=aI->aI<=9223372036854775807->aI=ah 0 [ao]->
      (((decide (aI<=Bg))=true->
       ∀z12:Int,0<=z12->z12<=aO->SB tid [[ao]] [[z12]]->
       ∀a8:Int,0<=a8->a8<=1->a8=ah 4 [z12,0]->
       (((decide (a8=1))=true->
        ∀bn:Int,0<=bn->bn<=1->SB 65 [[ao],[yV]] [[bn]]->
        (((decide (bn=1))=true->
         ∀cu:Int,0<=cu->cu<=1->SB 27 [[aw]] [[cu]]->
         cC SB [.bool] id [[z0]] [[(cond (decide (cu=1)) 1 0)]]
        )/\((decide (bn=1))=false->
         cC SB [.bool] id [[z0]] [[(cond (false) 1 0)]]
        ))
       )/\((decide (a8=1))=false->
        cC SB [.bool] id [[z0]] [[(cond (false) 1 0)]]
       ))
      )/\((decide (aI<=Bg))=false->
       cC SB [.bool] id [[z0]] [[(cond (false) 1 0)]]
      ))
     )/\(((!(decide (ar=1))))=false->
      cC SB [.bool] id [[z0]] [[(cond (false) 1 0)]]
     ))
    )/\((decide (z9=1))=false->
     cC SB [.bool] id [[z0]] [[(cond (false) 1 0)]]
    ))
   ))
  )/\((decide (1<=z2))=false->
   cC SB [.bool] id [[z0]] [[(cond (false) 1 0)]]
  ))
 ))):=by
  intro z0 a0 a1 aj b0 b1 h1
  have bB:∀b:Bool,ov k inn most (J z0)=b->cC SB [.bool] id [[z0]] [[aS b]]:=λb h=>uw (by rw[hid,h])
  have tv:=O9 (n:=255) 255 rfl h1
  refine⟨λhb=>bB false (xf (Ri (by rw[hb]at tv;simpa using tv.symm))),λhb z2 bL c1 h2=>?_⟩
  rw[hb]at tv
  have hlen:(J z0).length<=255:=by
   have:Nat.ble (J z0).length 255=true:=by simpa using tv.symm
   exact Nat.le_of_ble_eq_true this
  simp only[ah]at h2
  refine⟨λhp=>⟨⟨Int.le_refl _,by decide,by have:=of_decide_eq_true hp;omega⟩,λz3 d0 d1 h3 z4 b7 e1 h4=>?_⟩,λhp=>bB false (xf (HA (.inr ?_)))⟩
  ·cases hs:J z0 with
   |nil=>rw[hs]at h2;have:=of_decide_eq_true hp;simp at h2;omega
   |cons c t=>
    have e3:J z3=[c]:=by rw[h3];simp only[ah,gu,hs];rfl
    rw[ri h4,e3,M4]
    refine⟨λhne=>bB false (xf (HA (.inl ?_))),λheq z5 f0 f1 h5=>?_⟩
    ·rw[hs];intro h
     have h:c=k:=h
     rw[h]at hne;simp at hne
    ·have Mu:c=k:=by simpa using heq
     subst Mu
     have nc:t.length+1<=255:=by rw[hs]at hlen;simpa using hlen
     obtain⟨s1,s2⟩:=SH (s:=z0) (z:=1) (L:=z5) (n:=1) rfl (by rw[hs];simp) h5
     refine⟨s1,λai g0 g1 h6 ao i0 i1 aw GB iB z9 kL k1 hC=>?_⟩
     have mY:J ai=t:=by rw[s2 ai h6,hs];rfl
     have hC:(J ao,J aw,z9)=kx 58 (J ai):=hC
     rw[mY]at hC
     have jt:=Rh hk nc
     unfold kx at hC
     cases hi:decide (0<=idx 58 t)with
     |false=>
      rw[hi]at hC jt
      simp only[cond_false,Prod.mk.injEq]at hC
      obtain⟨_,_,rfl⟩:=hC
      exact⟨λh=>by simp at h,λ_=>bB false (xf (by rw[hs,jt];rfl))⟩
     |true=>
      rw[hi]at hC jt
      simp only[cond_true,Prod.mk.injEq]at hC
      obtain⟨K0,K1,rfl⟩:=hC
      rw[Bool.true_and]at jt
      have hv:ov c inn most (J z0)=(kS (J aw)&&Nat.blt 0 (J ao).length&&Nat.ble (J ao).length most&&(J ao).all inn):=by
       unfold ov
       rw[hs,jt,<-K0,<-K1]
       cases kS (J aw)<;>rfl
      refine⟨λ_ ar l0 l1 fM=>?_,λh=>by simp at h⟩
      have hn:=xh fM
      refine⟨λhq aI m0 kb fN=>?_,λhq=>bB false (by rw[hq]at hn;rw[hv,<-hn];simp)⟩
      rw[hq]at hn
      rw[ux most hm fN]
      refine⟨λhr z12 n0 n1 jU a8 UP o1 pw=>?_,λhr=>bB false (by rw[hv,hr];simp)⟩
      rw[ht]at jU
      rw[eq_nil pw,jU]
      refine⟨λhs bn p0 p1 fO=>?_,λhs=>bB false ?_⟩
      ·have fO:bn=aS ((J ao).all λc=>(J yV).contains c):=fO
       rw[QI inn _ c2]at fO
       rw[jo fO]
       refine⟨λha cu q0 q1 iv=>?_,λha=>bB false (by rw[hv,ha];simp)⟩
       have iv:cu=aS (kS (J aw)):=iv
       rw[jo iv]
       refine bB _ ?_
       rw[hv,<-hn,hr,ha];simp
      ·rw[hv]
       cases ha:(J ao).all inn with
       |false=>simp
       |true=>rw[Co ha]at hs;simp at hs
  ·have hp:¬1<=z2:=of_decide_eq_false hp
   exact List.length_eq_zero_iff.1 (by omega)
theorem Rf:CY SB (cC SB [.bool] 200):=Q3 (k:=64) (inn:=wV) (most:=200) (tid:=202) (by decide) (by decide) (o3 (by decide+kernel)) rfl (λ_ _=>rfl) (λ_ _=>rfl)
end Go.bD
namespace Go.bD
open Go Go.aZ
def CQ (S:Nat->List (List Int)->List (List Int)->Prop) (K:List (List Int)->List (List Int)->Prop):Prop:=
 ∀z0:Int,0<=z0->z0<=aO->
 ∀aj:Int,0<=aj->aj<=9223372036854775807->aj=ah 0 [z0]->
 ∃(fe:List (List Int)->Prop) (ij:List (List Int)->Nat),fe [[0]]/\(∀z3:Int,0<=z3->z3<=9223372036854775807->fe [[z3]]->
  (((decide (z3<aj))=true->
   aG 1 [z0,z3]/\
   ∀z4:Int,0<=z4->z4<=255->z4=ah 1 [z0,z3]->
   (((decide (z4<32))=true->
    K [[z0]] [[(cond (false) 1 0)]]
   )/\((decide (z4<32))=false->
    aG 1 [z0,z3]/\
    ∀z5:Int,0<=z5->z5<=255->z5=ah 1 [z0,z3]->
    (((decide (126<z5))=true->
     K [[z0]] [[(cond (false) 1 0)]]
    )/\((decide (126<z5))=false->
     ∀ai:Int,0<=ai->ai<=1->0<=(z3+9223372036854775809)-18446744073709551616*ai->(z3+9223372036854775809)-18446744073709551616*ai<18446744073709551616->
     aG 39 [((z3+((-18446744073709551616)*ai))+1),0,9223372036854775807]/\
     (fe [[((z3+((-18446744073709551616)*ai))+1)]]/\ij [[((z3+((-18446744073709551616)*ai))+1)]]<ij [[z3]])
    ))
   ))
  )/\((decide (z3<aj))=false->
   K [[z0]] [[(cond (true) 1 0)]]
  ))
 )
theorem lY {b:Bool} (h:(!b)=true):b=false:=by cases b<;>first|rfl|cases h
theorem kr {b:Bool} (h:(!b)=false):b=true:=by cases b<;>first|rfl|cases h
def Jw (z0:Int) (bl:List (List Int)):Prop:=∃i:Nat,bl=[[(i:Int)]]/\i<=(J z0).length/\nz ((J z0).take i)=true
def Jx (z0:Int) (bl:List (List Int)):Nat:=(J z0).length-((bl.getD 0 []).getD 0 0).toNat
theorem Rn {t:al} {i:Nat} (h:i<t.length):t.getD i 0∈t:=by simp[List.getD,h]
theorem Q6:CQ SB (cC SB [.bool] 400):=by
 intro z0 a0 a1 aj _ c1 h1
 have h1:aj=((J z0).length:Int):=h1
 have bB:∀b:Bool,nz (J z0)=b->cC SB [.bool] 400 [[z0]] [[aS b]]:=λb h=>uw (by show aS b=aS (nz (J z0));rw[h])
 have kN:∀i,i<(J z0).length->(((J z0).getD i 0).toNat<32∨126<((J z0).getD i 0).toNat)->cC SB [.bool] 400 [[z0]] [[cond false 1 0]]:=λi hi h=>bB false (by
  cases hp:nz (J z0)with
  |false=>rfl
  |true=>
   have:=List.all_eq_true.1 hp _ (Rn hi)
   simp only[Bool.and_eq_true,Nat.ble_eq]at this
   omega)
 refine⟨Jw z0,Jx z0,⟨0,rfl,Nat.zero_le _,rfl⟩,?_⟩
 rintro z3 d0 d1 ⟨i,e,hi,hI⟩
 obtain rfl:z3=i:=by simpa using e
 refine⟨λhlt=>?_,λdI=>bB true ?_⟩
 ·have hlt:=of_decide_eq_true hlt
  have bW:i<(J z0).length:=by omega
  have hg:∀z:Int,z=ah 1 [z0,(i:Int)]->z=(((J z0).getD i 0).toNat:Int):=λz h=>by
   rw[h];simp only[ah,Int.toNat_natCast]
  refine⟨⟨by omega,by omega⟩,λz4 _ _ h4=>⟨λhc=>kN i bW (.inl ?_),λhc=>⟨⟨by omega,by omega⟩,λz5 _ _ h5=>⟨λhd=>kN i bW (.inr ?_),λhd ai x0 x1 ef fb=>?_⟩⟩⟩⟩
  ·have:=hg z4 h4;have:=of_decide_eq_true hc;omega
  ·have:=hg z5 h5;have:=of_decide_eq_true hd;omega
  ·have dG:=hg z4 h4;have l6:=hg z5 h5
   have hc:=of_decide_eq_false hc;have hd:=of_decide_eq_false hd
   refine⟨⟨by omega,by omega⟩,⟨i+1,by rw[show((i:Int)+(-18446744073709551616)*ai)+1=((i+1:Nat):Int) by omega],by omega,?_⟩,?_⟩
   ·unfold nz at hI⊢
    rw[IH _ _ bW,List.all_append,hI]
    simp only[List.all_cons,List.all_nil,Bool.and_true,Bool.true_and,Bool.and_eq_true,Nat.ble_eq]
    omega
   ·show(J z0).length-(((i:Int)+(-18446744073709551616)*ai)+1).toNat<(J z0).length-((i:Int)).toNat;omega
 ·have:=of_decide_eq_false dI
  rwa [List.take_of_length_le (by omega)]at hI
end Go.bD
namespace Go.bD
open Go Go.aZ
def CJ (S:Nat->List (List Int)->List (List Int)->Prop) (K:List (List Int)->List (List Int)->Prop):Prop:=
 ∀z0:Int,0<=z0->z0<=aO->
 ∀aj:Int,0<=aj->aj<=1->aj=ah 4 [33,z0]->
 (((decide (aj=1))=true->
  K [[z0]] [[(cond (true) 1 0)]]
 )/\((decide (aj=1))=false->
  ∀z2:Int,(-1)<=z2->z2<=9223372036854775807->S 73 [[z0],[32]] [[z2]]->
  K [[z0]] [[(cond (decide (0<=z2)) 1 0)]]
 ))
def CP (S:Nat->List (List Int)->List (List Int)->Prop) (K:List (List Int)->List (List Int)->Prop):Prop:=
 ∀z0:Int,0<=z0->z0<=aO->
 ∀aj:Int,0<=aj->aj<=1->aj=ah 4 [z0,0]->
 ((((!(decide (aj=1))))=true->
  ∀z2:Int,0<=z2->z2<=9223372036854775807->z2=ah 0 [z0]->
  (((decide (z2<=64))=true->
   ∀z3:Int,0<=z3->z3<=1->S 400 [[z0]] [[z3]]->
   (((decide (z3=1))=true->
    ∀z4:Int,0<=z4->z4<=1->S 501 [[z0]] [[z4]]->
    K [[z0]] [[(cond ((!(decide (z4=1)))) 1 0)]]
   )/\((decide (z3=1))=false->
    K [[z0]] [[(cond (false) 1 0)]]
   ))
  )/\((decide (z2<=64))=false->
   K [[z0]] [[(cond (false) 1 0)]]
  ))
 )/\(((!(decide (aj=1))))=false->
  K [[z0]] [[(cond (false) 1 0)]]
 ))
def CL (S:Nat->List (List Int)->List (List Int)->Prop) (K:List (List Int)->List (List Int)->Prop):Prop:=
 ∀z0:Int,0<=z0->z0<=aW->
 ∀aj:Int,0<=aj->
 ∀z2:Int,(-2)<=z2->z2<=9223372036854775807->
 ∀z3:Int,0<=z3->z3<=9223372036854775807->z3=ah 20 [z0]->
 ∃(ko:List (List Int)->Prop) (mJ:List (List Int)->Nat),ko [[z3],[0]]/\(∀z5:Int,0<=z5->z5<=9223372036854775807->∀ai:Int,0<=ai->ai<=9223372036854775807->ko [[z5],[ai]]->
  (((decide (ai<z3))=true->
   (((decide (z5<=200))=true->
    aG 30 [ai,z3]/\
    aG 21 [z0,ai]/\
    ∀ao:Int,0<=ao->ao<=gy->ao=ah 21 [z0,ai,2]->
    ∀aw:Int,0<=aw->
    ∀z9:Int,(-2)<=z9->z9<=9223372036854775807->
    ∀ar:Int,0<=ar->ar<=140737488351232->ar=ah 20 [ao]->
    ∀aI:Int,0<=aI->aI<=1->0<=((z5+ar)+9223372036854775808)-18446744073709551616*aI->((z5+ar)+9223372036854775808)-18446744073709551616*aI<18446744073709551616->
    ∀z12:Int,0<=z12->z12<=1->0<=(ai+9223372036854775809)-18446744073709551616*z12->(ai+9223372036854775809)-18446744073709551616*z12<18446744073709551616->
    aG 39 [(z5+(ar+((-18446744073709551616)*aI))),0,9223372036854775807]/\
    aG 39 [((ai+((-18446744073709551616)*z12))+1),0,9223372036854775807]/\
    (ko [[(z5+(ar+((-18446744073709551616)*aI)))],[((ai+((-18446744073709551616)*z12))+1)]]/\mJ [[(z5+(ar+((-18446744073709551616)*aI)))],[((ai+((-18446744073709551616)*z12))+1)]]<mJ [[z5],[ai]])
   )/\((decide (z5<=200))=false->
    K [[z0]] [[(cond (true) 1 0)]]
   ))
  )/\((decide (ai<z3))=false->
   K [[z0]] [[(cond (decide (200<z5)) 1 0)]]
  ))
 )
def CI (S:Nat->List (List Int)->List (List Int)->Prop) (K:List (List Int)->List (List Int)->Prop):Prop:=
 ∀z0:Int,0<=z0->z0<=aW->
 ∀aj:Int,0<=aj->
 ∀z2:Int,(-2)<=z2->z2<=9223372036854775807->
 ∀z3:Int,0<=z3->z3<=9223372036854775807->z3=ah 20 [z0]->
 ∃(ko:List (List Int)->Prop) (mJ:List (List Int)->Nat),ko [[0]]/\(∀z5:Int,0<=z5->z5<=9223372036854775807->ko [[z5]]->
  (((decide (z5<z3))=true->
   aG 30 [z5,z3]/\
   aG 21 [z0,z5]/\
   ∀ai:Int,0<=ai->ai<=aO->ai=ah 21 [z0,z5,0]->
   ∀ao:Int,0<=ao->ao<=1->S 502 [[ai]] [[ao]]->
   ((((!(decide (ao=1))))=true->
    K [[z0]] [[(cond (false) 1 0)]]
   )/\(((!(decide (ao=1))))=false->
    (((decide (0<z5))=true->
     aG 30 [(z5+(-1)),z3]/\
     aG 21 [z0,(z5+(-1))]/\
     ∀aw:Int,0<=aw->aw<=aO->aw=ah 21 [z0,(z5+(-1)),0]->
     ∀z9:Int,0<=z9->z9<=1->z9=ah 5 [aw,ai]->
     ((((!(decide (z9=1))))=true->
      K [[z0]] [[(cond (false) 1 0)]]
     )/\(((!(decide (z9=1))))=false->
      ∀ar:Int,0<=ar->ar<=1->0<=(z5+9223372036854775809)-18446744073709551616*ar->(z5+9223372036854775809)-18446744073709551616*ar<18446744073709551616->
      aG 39 [((z5+((-18446744073709551616)*ar))+1),0,9223372036854775807]/\
      (ko [[((z5+((-18446744073709551616)*ar))+1)]]/\mJ [[((z5+((-18446744073709551616)*ar))+1)]]<mJ [[z5]])
     ))
    )/\((decide (0<z5))=false->
     (ko [[1]]/\mJ [[1]]<mJ [[z5]])
    ))
   ))
  )/\((decide (z5<z3))=false->
   K [[z0]] [[(cond (true) 1 0)]]
  ))
 )
theorem QW:CJ SB (cC SB [.bool] 501):=by
 intro z0 a0 a1 aj b0 b1 hz1
 simp only[ah]at hz1
 refine⟨λh=>⟨⟨by decide,by decide,trivial⟩,?_⟩,λh z2 bL c1 h2=>⟨⟨(iq _).1,(iq _).2,trivial⟩,?_⟩⟩
 ·have:J z0=[32]:=by
   have e:J 33=[32]:=by decide
   rw[e]at hz1
   by_cases h':[32]=J z0
   ·exact h'.symm
   ·rw[if_neg h']at hz1;subst hz1;simp at h
  show(1:Int)=aS ((J z0).contains 32)
  rw[this];rfl
 ·have h2:z2=idx 32 (J z0):=h2
  show(cond (decide (0<=z2)) 1 0:Int)=aS ((J z0).contains 32)
  rw[h2,Gm (by decide) (by decide)];rfl
theorem Q5:CP SB (cC SB [.bool] 502):=by
 intro z0 a0 a1 aj _ _ h1
 have h1:=ri h1
 have Ap:J (0:Int)=[]:=by decide
 rw[Ap]at h1
 have bB:∀b:Bool,cg (J z0)=b->cC SB [.bool] 502 [[z0]] [[aS b]]:=λb h=>uw (by show aS b=aS (cg (J z0));rw[h])
 refine⟨λhn z2 _ _ h2=>?_,λhn=>bB false ?_⟩
 rotate_left
 ·have:=kr hn
  rw[h1]at this
  rw[of_decide_eq_true this];rfl
 have hne:(J z0).isEmpty=false:=by
  have:=lY hn
  rw[h1]at this
  have:=of_decide_eq_false this
  cases h:J z0 with
  |nil=>exact absurd h this
  |cons _ _=>rfl
 have h2:z2=((J z0).length:Int):=h2
 have b7:cg (J z0)=(Nat.ble (J z0).length 64&&(nz (J z0)&& !(J z0).contains 32)):=by unfold cg;rw[hne];rfl
 refine⟨λtw z3 _ _ h3=>?_,λtw=>bB false ?_⟩
 rotate_left
 ·have:=of_decide_eq_false tw
  rw[b7,show Nat.ble (J z0).length 64=false from by
   cases h:Nat.ble (J z0).length 64 with
   |false=>rfl
   |true=>have:=Nat.le_of_ble_eq_true h;omega];rfl
 have hb:Nat.ble (J z0).length 64=true:=Nat.ble_eq_true_of_le (by have:=of_decide_eq_true tw;omega)
 rw[hb,Bool.true_and]at b7
 have h3:z3=aS (nz (J z0)):=h3
 have Fp:=jo h3
 refine⟨λhp z4 _ _ h4=>?_,λhp=>bB false (by rw[b7,<-Fp,hp];rfl)⟩
 have h4:z4=aS ((J z0).contains 32):=h4
 have Mz:=jo h4
 have:=bB (!decide (z4=1)) (by rw[b7,<-Fp,hp,Mz];rfl)
 exact this
theorem ji (z:Int):(aB z).length=(ab z).length:=by simp[aB]
theorem sJ {z:Int} {i:Nat} (h:i<(ab z).length):(aB z).getD i ch=sI ((ab z).getD i []):=by simp[aB,List.getD,h]
theorem lP (z:Int):(aN z).length=(ab z).length:=by simp[aN]
theorem u7 {z:Int} {i:Nat} (h:i<(ab z).length):(aN z).getD i []=J (((ab z).getD i []).getD 0 0):=by simp[aN,List.getD,h]
def mw (l:List cm) (i:Nat):Nat:=l.length+((l.take i).map λu=>u.cR.length).sum
theorem Hy {l:List cm} {i:Nat} (h:i<l.length):mw l (i+1)=mw l i+(l.getD i ch).cR.length:=by
 unfold mw
 rw[List.take_add_one]
 simp only[List.getElem?_eq_getElem h,Option.toList_some,List.map_append,List.map_cons,List.map_nil,List.sum_append,List.sum_cons,List.sum_nil,List.getD,Option.getD_some]
 omega
theorem Hx (l:List cm):mw l l.length=u5 l:=by unfold mw u5;rw[List.take_length]
theorem Rg {l:List cm} {i j:Nat} (h:i<=j) (hj:j<=l.length):mw l i<=mw l j:=by
 obtain⟨k,rfl⟩:=Nat.exists_eq_add_of_le h
 clear h
 induction k with
 |zero=>exact Nat.le_refl _
 |succ k ih=>
  have:=ih (by omega)
  rw[<-Nat.add_assoc,Hy (by omega)];omega
def Jm (z0:Int) (bl:List (List Int)):Prop:=∃i n:Nat,bl=[[(n:Int)],[(i:Int)]]/\i<=(ab z0).length/\n=mw (aB z0) i
def Jn (z0:Int) (bl:List (List Int)):Nat:=(ab z0).length-((bl.getD 1 []).getD 0 0).toNat
theorem QZ:CL SB (fg SB [.d .bool] 500):=by
 intro z0 a0 a1 aj _ z2 _ _ z3 _ c1 h3
 have h3:z3=((ab z0).length:Int):=h3
 have bB:∀b:Bool,decide (200<u5 (aB z0))=b->fg SB [.d .bool] 500 [[z0]] [[aS b]]:=λb h=>⟨⟨(iq _).1,(iq _).2,trivial⟩,by show aS b=aS (decide (200<u5 (aB z0)));rw[h]⟩
 have hl:=ji z0
 refine⟨Jm z0,Jn z0,⟨0,(ab z0).length,by rw[h3];rfl,Nat.zero_le _,by simp[mw,hl]⟩,?_⟩
 rintro z5 d0 d1 ai b7 e1 ⟨i,n,e,hi,hn⟩
 obtain⟨rfl,rfl⟩:z5=n/\ai=i:=by simpa using e
 refine⟨λhlt=>⟨λh2=>?_,λh2=>?_⟩,λdI=>?_⟩
 ·have hlt:=of_decide_eq_true hlt
  have h2:=of_decide_eq_true h2
  have bW:i<(ab z0).length:=by omega
  refine⟨⟨by omega,by omega⟩,⟨by omega,by omega⟩,λao _ _ h7 aw _ z9 _ _ ar f0 f1 fM aI x0 x1 ef fb z12 UW TL TN I6=>?_⟩
  have h7:ao=((ab z0).getD i []).getD 2 0:=by rw[h7];simp only[ah,Int.toNat_natCast];rfl
  have fM:ar=(((aB z0).getD i ch).cR.length:Int):=by
   rw[sJ bW,fM]
   show((ab ao).length:Int)=_
   rw[h7]
   show _=((aN (((ab z0).getD i []).getD 2 0)).length:Int)
   rw[lP]
  have hs:=Hy (l:=aB z0) (i:=i) (by omega)
  have TO:aI=0:=by omega
  have TP:z12=0:=by omega
  subst TO;subst TP
  refine⟨⟨by omega,by omega⟩,⟨by omega,by omega⟩,⟨i+1,mw (aB z0) (i+1),?_,by omega,rfl⟩,?_⟩
  ·rw[hs,<-hn,fM,show(n:Int)+((((aB z0).getD i ch).cR.length:Int)+(-18446744073709551616)*0)=((n+((aB z0).getD i ch).cR.length:Nat):Int) by omega,show(i:Int)+(-18446744073709551616)*0+1=((i+1:Nat):Int) by omega]
  ·show(ab z0).length-((i:Int)+(-18446744073709551616)*0+1).toNat<(ab z0).length-((i:Int)).toNat;omega
 ·have h2:=of_decide_eq_false h2
  refine bB true (decide_eq_true ?_)
  have:=Rg (l:=aB z0) (i:=i) (j:=(aB z0).length) (by omega) (Nat.le_refl _)
  rw[Hx]at this
  omega
 ·have dI:=of_decide_eq_false dI
  have MU:i=(aB z0).length:=by omega
  refine bB (decide (200<(n:Int))) ?_
  rw[hn,MU,Hx]
  rw[decide_eq_decide];omega
def JB (z0:Int) (bl:List (List Int)):Prop:=∃i:Nat,bl=[[(i:Int)]]/\i<=(ab z0).length/\∀j:Nat,j<i->(cg ((aN z0).getD j [])&&(decide (j=0)||Op.bytesLess ((aN z0).getD (j-1) []) ((aN z0).getD j [])))=true
def yl (z0:Int) (bl:List (List Int)):Nat:=(ab z0).length-((bl.getD 0 []).getD 0 0).toNat
theorem QV:CI SB (fg SB [.d .bool] 503):=by
 intro z0 a0 a1 aj _ z2 _ _ z3 _ c1 h3
 have h3:z3=((ab z0).length:Int):=h3
 have bB:∀b:Bool,fa (aN z0)=b->fg SB [.d .bool] 503 [[z0]] [[aS b]]:=λb h=>⟨⟨(iq _).1,(iq _).2,trivial⟩,by show aS b=aS (fa (aN z0));rw[h]⟩
 have hl:=lP z0
 have kN:∀i:Nat,i<(ab z0).length->(cg ((aN z0).getD i [])&&(decide (i=0)||Op.bytesLess ((aN z0).getD (i-1) []) ((aN z0).getD i [])))=false->fg SB [.d .bool] 503 [[z0]] [[aS false]]:=λi hi h=>bB false (by
  cases hp:fa (aN z0)with
  |false=>rfl
  |true=>
   have:=List.all_eq_true.1 hp i (List.mem_range.2 (by omega))
   rw[this]at h;cases h)
 refine⟨JB z0,yl z0,⟨0,rfl,Nat.zero_le _,λj hj=>absurd hj (Nat.not_lt_zero j)⟩,?_⟩
 rintro z5 d0 d1 ⟨i,e,hi,hI⟩
 obtain rfl:z5=i:=by simpa using e
 refine⟨λhlt=>?_,λdI=>bB true ?_⟩
 ·have hlt:=of_decide_eq_true hlt
  have bW:i<(ab z0).length:=by omega
  refine⟨⟨by omega,by omega⟩,⟨by omega,by omega⟩,λai _ _ h6 ao _ _ h7=>?_⟩
  have h6:J ai=(aN z0).getD i []:=by rw[u7 bW,h6];simp only[ah,Int.toNat_natCast];rfl
  have h7:ao=aS (cg (J ai)):=h7
  have wv:=jo h7
  rw[h6]at wv
  refine⟨λhn=>kN i bW (by rw[<-wv,lY hn];rfl),λhn=>⟨λhp=>?_,λhp=>?_⟩⟩
  ·have hp:=of_decide_eq_true hp
   refine⟨⟨by omega,by omega⟩,⟨by omega,by omega⟩,λaw _ _ cz z9 _ _ bt=>?_⟩
   have cz:J aw=(aN z0).getD (i-1) []:=by
    rw[u7 (by omega),cz]
    simp only[ah]
    rw[show((i:Int)+(-1)).toNat=i-1 by omega];rfl
   have bt:decide (z9=1)=Op.bytesLess ((aN z0).getD (i-1) []) ((aN z0).getD i []):=by
    rw[bt]
    simp only[ah,cz,h6]
    cases Op.bytesLess ((aN z0).getD (i-1) []) ((aN z0).getD i [])<;>rfl
   have eE:decide (i=0)=false:=decide_eq_false (by omega)
   refine⟨λhq=>kN i bW (by rw[<-bt,lY hq,eE,Bool.or_false,Bool.and_false]),λhq ar x0 x1 ef fb=>⟨⟨by omega,by omega⟩,⟨i+1,by rw[show(i:Int)+(-18446744073709551616)*ar+1=((i+1:Nat):Int) by omega],by omega,λj hj=>?_⟩,?_⟩⟩
   ·rcases Nat.lt_or_ge j i with h|h
    ·exact hI j h
    ·obtain rfl:j=i:=by omega
     rw[<-wv,kr hn,<-bt,kr hq,Bool.or_true];rfl
   ·show(ab z0).length-((i:Int)+(-18446744073709551616)*ar+1).toNat<(ab z0).length-((i:Int)).toNat;omega
  ·have hp:=of_decide_eq_false hp
   obtain rfl:i=0:=by omega
   refine⟨⟨1,rfl,by omega,λj hj=>?_⟩,?_⟩
   ·obtain rfl:j=0:=by omega
    rw[<-wv,kr hn];rfl
   ·show(ab z0).length-(1:Int).toNat<(ab z0).length-((0:Nat):Int).toNat;omega
 ·have:=of_decide_eq_false dI
  unfold fa
  rw[List.all_eq_true]
  intro j hj
  exact hI j (by have:=List.mem_range.1 hj;omega)
end Go.bD
namespace Go.bD
open Go Go.aZ
def CE (S:Nat->List (List Int)->List (List Int)->Prop) (K:List (List Int)->List (List Int)->Prop):Prop:=
 ∀z0:Int,0<=z0->z0<=aW->
 ∀aj:Int,0<=aj->
 ∀z2:Int,(-2)<=z2->z2<=9223372036854775807->
 ∀z3:Int,0<=z3->z3<=9223372036854775807->z3=ah 20 [z0]->
 (((decide (16<z3))=true->
  K [[z0]] [[(cond (false) 1 0)]]
 )/\((decide (16<z3))=false->
  ∃(ko:List (List Int)->Prop) (mJ:List (List Int)->Nat),ko [[0],[0],[0],[(-1)]]/\(∀z5:Int,0<=z5->z5<=9223372036854775807->∀ai:Int,0<=ai->ai<=aW->∀ao:Int,0<=ao->ao<=9223372036854775807->∀aw:Int,(-2)<=aw->aw<=9223372036854775807->ko [[z5],[ai],[ao],[aw]]->
   (((decide (z5<z3))=true->
    aG 30 [z5,z3]/\
    aG 21 [z0,z5]/\
    ∀z9:Int,0<=z9->z9<=aO->z9=ah 21 [z0,z5,0]->
    ∀ar:Int,0<=ar->ar<=aO->ar=ah 21 [z0,z5,1]->
    ∀aI:Int,0<=aI->aI<=gy->aI=ah 21 [z0,z5,2]->
    ∀z12:Int,0<=z12->
    ∀a8:Int,(-2)<=a8->a8<=9223372036854775807->
    ∀bn:Int,0<=bn->bn<=140737488351232->bn=ah 20 [aI]->
    ∀cu:Int,0<=cu->cu<=1->S 200 [[ar]] [[cu]]->
    ((((!(decide (cu=1))))=true->
     K [[z0]] [[(cond (false) 1 0)]]
    )/\(((!(decide (cu=1))))=false->
     (((decide (4<bn))=true->
      K [[z0]] [[(cond (false) 1 0)]]
     )/\((decide (4<bn))=false->
      aG 22 [aI,0,bn]/\
      ∀dC:Int,0<=dC->dC<=aW->dC=ah 22 [aI,0,bn]->
      ∀dM:Int,0<=dM->dM<=1->S 503 [[dC]] [[dM]]->
      ((((!(decide (dM=1))))=true->
       K [[z0]] [[(cond (false) 1 0)]]
      )/\(((!(decide (dM=1))))=false->
       aG 31 [ai,ao]/\
       aG 23 [ai,1]/\
       ∀cP:Int,0<=cP->cP<=aW->cP=ah 23 [ai,z9]->
       ∀eg:Int,(-2)<=eg->eg<=9223372036854775807->
       ∀z20:Int,0<=z20->z20<=1->0<=(z5+9223372036854775809)-18446744073709551616*z20->(z5+9223372036854775809)-18446744073709551616*z20<18446744073709551616->
       aG 39 [((z5+((-18446744073709551616)*z20))+1),0,9223372036854775807]/\
       (ko [[((z5+((-18446744073709551616)*z20))+1)],[cP],[(ao+1)],[eg]]/\mJ [[((z5+((-18446744073709551616)*z20))+1)],[cP],[(ao+1)],[eg]]<mJ [[z5],[ai],[ao],[aw]])
      ))
     ))
    ))
   )/\((decide (z5<z3))=false->
    aG 22 [ai,0,ao]/\
    ∀z9:Int,0<=z9->z9<=aW->z9=ah 22 [ai,0,ao]->
    ∀ar:Int,0<=ar->ar<=1->S 503 [[z9]] [[ar]]->
    K [[z0]] [[(cond (decide (ar=1)) 1 0)]]
   ))
  )
 ))
theorem whole {z y n:Int} (hn:n=((ab z).length:Int)) (h:y=ah 22 [z,0,n]):ab y=ab z:=by
 rw[h]
 simp only[ah,dx,hn]
 rw[show((0:Int)).toNat=0 by rfl,List.drop_zero,List.take_of_length_le (by omega)]
def oy (u:cm):Bool:=ie u.dv&&(Nat.ble u.cR.length 4&&fa u.cR)
def Jg (z0:Int) (bl:List (List Int)):Prop:=∃(i:Nat) (c k:Int),bl=[[(i:Int)],[c],[(i:Int)],[k]]/\i<=(ab z0).length/\aN c=((aB z0).take i).map (·.tok)/\∀j:Nat,j<i->oy ((aB z0).getD j ch)=true
def Jh (z0:Int) (bl:List (List Int)):Nat:=(ab z0).length-((bl.getD 0 []).getD 0 0).toNat
theorem QR:CE SB (fg SB [.d .bool] 504):=by
 intro z0 a0 a1 aj _ z2 _ _ z3 _ c1 h3
 have h3:z3=((ab z0).length:Int):=h3
 have hl:=ji z0
 have bB:∀b:Bool,de (aB z0)=b->fg SB [.d .bool] 504 [[z0]] [[aS b]]:=λb h=>⟨⟨(iq _).1,(iq _).2,trivial⟩,by show aS b=aS (de (aB z0));rw[h]⟩
 refine⟨λgf=>bB false ?_,λgf=>⟨Jg z0,Jh z0,⟨0,0,-1,rfl,Nat.zero_le _,by simp[aN,kg],λj hj=>absurd hj (Nat.not_lt_zero j)⟩,?_⟩⟩
 ·have:=of_decide_eq_true gf
  unfold de
  rw[show Nat.ble (aB z0).length 16=false from by
   cases h:Nat.ble (aB z0).length 16 with
   |false=>rfl
   |true=>have:=Nat.le_of_ble_eq_true h;omega];rfl
 have gf:=of_decide_eq_false gf
 have E8:Nat.ble (aB z0).length 16=true:=Nat.ble_eq_true_of_le (by omega)
 have kN:∀i:Nat,i<(ab z0).length->oy ((aB z0).getD i ch)=false->fg SB [.d .bool] 504 [[z0]] [[aS false]]:=λi hi h=>bB false (by
  unfold de
  rw[E8,Bool.true_and]
  cases hp:(aB z0).all (λu=>ie u.dv&&(Nat.ble u.cR.length 4&&fa u.cR))with
  |false=>rfl
  |true=>
   have:=List.all_eq_true.1 hp ((aB z0).getD i ch) (by
    have:i<(aB z0).length:=by omega
    simp[List.getD,this])
   unfold oy at h
   rw[this]at h;cases h)
 rintro z5 d0 d1 ai b7 e1 ao f0 f1 aw g0 g1 ⟨i,c,k,e,hi,ht,aK⟩
 obtain⟨rfl,rfl,rfl,rfl⟩:z5=i/\ai=c/\ao=i/\aw=k:=by simpa using e
 have cI:(ab ai).length=i:=by
  have:=congrArg List.length ht
  rw[lP,List.length_map,List.length_take]at this
  omega
 refine⟨λhlt=>?_,λdI=>?_⟩
 ·have hlt:=of_decide_eq_true hlt
  have bW:i<(ab z0).length:=by omega
  refine⟨⟨by omega,by omega⟩,⟨by omega,by omega⟩,λz9 _ _ bt ar _ _ fM aI _ _ fN z12 _ a8 _ _ bn _ _ fO cu _ _ iv=>?_⟩
  generalize hu:(aB z0).getD i ch=u at*
  have wR:=hu
  rw[sJ bW]at wR
  have bt:J z9=u.tok:=by rw[bt,<-wR];simp only[ah,Int.toNat_natCast];rfl
  have fM:J ar=u.dv:=by rw[fM,<-wR];simp only[ah,Int.toNat_natCast];rfl
  have fN:aN aI=u.cR:=by rw[fN,<-wR];simp only[ah,Int.toNat_natCast];rfl
  have fO:bn=((ab aI).length:Int):=fO
  have Ue:(ab aI).length=u.cR.length:=by rw[<-fN,lP]
  have iv:cu=aS (ie (J ar)):=iv
  have zI:=jo iv
  rw[fM]at zI
  have kN:=kN i bW
  rw[hu]at kN
  refine⟨λhn=>kN (by unfold oy;rw[<-zI,lY hn];rfl),λhn=>⟨λh4=>kN ?_,λh4=>⟨⟨by omega,by omega,by omega⟩,λdC _ _ Lx dM _ _ jV=>?_⟩⟩⟩
  ·have h4:=of_decide_eq_true h4
   unfold oy
   rw[show Nat.ble u.cR.length 4=false from by
    cases h:Nat.ble u.cR.length 4 with
    |false=>rfl
    |true=>have:=Nat.le_of_ble_eq_true h;omega,Bool.false_and,Bool.and_false]
  ·have h4:=of_decide_eq_false h4
   have Mh:Nat.ble u.cR.length 4=true:=Nat.ble_eq_true_of_le (by omega)
   have hw:=whole fO Lx
   have NY:aN dC=u.cR:=by rw[<-fN];unfold aN;rw[hw]
   have jV:dM=aS (fa (aN dC)):=jV
   have zJ:=jo jV
   rw[NY]at zJ
   refine⟨λhq=>kN (by unfold oy;rw[<-zJ,lY hq,Bool.and_false,Bool.and_false]),λhq=>⟨?_,?_,λcP _ _ lh eg _ _ z20 x0 x1 ef fb=>⟨⟨by omega,by omega⟩,⟨i+1,cP,eg,?_,by omega,?_,λj hj=>?_⟩,?_⟩⟩⟩
   ·show(i:Int)=((ab ai).length:Int);omega
   ·show(ab ai).length+(1:Int)<=1073741824;omega
   ·rw[show(i:Int)+(-18446744073709551616)*z20+1=((i+1:Nat):Int) by omega,show(i:Int)+1=((i+1:Nat):Int) by omega]
   ·have:ab cP=ab ai++[[z9]]:=by rw[lh];simp only[ah,dx]
    have e1:aN cP=aN ai++[J z9]:=by unfold aN;rw[this];simp
    have MX:i<(aB z0).length:=by omega
    rw[e1,ht,bt,List.take_add_one,List.map_append]
    have:(aB z0)[i]?=some u:=by
     rw[<-hu];simp[List.getD,MX]
    rw[this];rfl
   ·rcases Nat.lt_or_ge j i with h|h
    ·exact aK j h
    ·obtain rfl:j=i:=by omega
     rw[hu]
     unfold oy
     rw[<-zI,kr hn,Mh,<-zJ,kr hq];rfl
   ·show(ab z0).length-((i:Int)+(-18446744073709551616)*z20+1).toNat<(ab z0).length-((i:Int)).toNat;omega
 ·have dI:=of_decide_eq_false dI
  obtain rfl:i=(ab z0).length:=by omega
  refine⟨⟨by omega,by omega,by omega⟩,λz9 _ _ bt ar _ _ fM=>?_⟩
  have hw:=whole (by rw[cI]) bt
  have fM:ar=aS (fa (aN z9)):=fM
  have Fm:=jo fM
  have N1:aN z9=(aB z0).map (·.tok):=by
   rw[show aN z9=aN ai by unfold aN;rw[hw],ht,List.take_of_length_le (by omega)]
  rw[N1]at Fm
  refine bB (decide (ar=1)) ?_
  rw[Fm]
  unfold de
  rw[E8,Bool.true_and,List.all_eq_true.2 λu hu=>?_,Bool.true_and]
  obtain⟨j,hj,rfl⟩:=List.getElem_of_mem hu
  have:=aK j (by omega)
  unfold oy at this
  simpa [List.getD,hj]using this
end Go.bD
namespace Go.bD
open Go Go.aZ
theorem w6 (a b:UInt8) (x y:al):Op.bytesLess (a::x) (b::y)=true↔a.toNat<b.toNat∨(a=b/\Op.bytesLess x y=true):=by
 simp only[Op.bytesLess,Bool.or_eq_true,Bool.and_eq_true,beq_iff_eq,decide_eq_true_eq,UInt8.lt_iff_toNat_lt]
theorem A2 (x:al):Op.bytesLess x []=false:=by cases x<;>rfl
theorem GO:∀x y:al,Op.bytesLess x y=true->Op.bytesLess y x=true->False
 |x,[],h,_=>by rw[A2]at h;cases h
 |[],_::_,_,h=>by cases h
 |a::x,b::y,h,h'=>by
  rw[w6]at h h'
  rcases h with h|⟨rfl,h⟩
  ·rcases h' with h'|⟨e,_⟩
   ·omega
   ·rw[e]at h;omega
  ·rcases h' with h'|⟨_,h'⟩
   ·omega
   ·exact GO x y h h'
theorem w7:∀x y:al,Op.bytesLess x y=true∨Op.bytesLess y x=true∨x=y
 |[],[]=> .inr (.inr rfl)
 |[],_::_=> .inl rfl
 |_::_,[]=> .inr (.inl rfl)
 |a::x,b::y=>by
  rw[w6,w6]
  rcases Nat.lt_trichotomy a.toNat b.toNat with h|h|h
  ·exact .inl (.inl h)
  ·have e:a=b:=UInt8.toNat_inj.1 h
   subst e
   rcases w7 x y with h|h|h
   ·exact .inl (.inr ⟨rfl,h⟩)
   ·exact .inr (.inl (.inr ⟨rfl,h⟩))
   ·exact .inr (.inr (by rw[h]))
  ·exact .inr (.inl (.inl h))
theorem qg:∀x y z:al,Op.bytesLess x y=true->Op.bytesLess y z=true->Op.bytesLess x z=true
 |_,[],_,h,_=>by rw[A2]at h;cases h
 |_,_::_,[],_,h=>by rw[A2]at h;cases h
 |[],_::_,_::_,_,_=>rfl
 |a::x,b::y,c::z,h,h'=>by
  rw[w6]at h h'⊢
  rcases h with h|⟨rfl,h⟩
  ·rcases h' with h'|⟨rfl,_⟩
   ·exact .inl (by omega)
   ·exact .inl h
  ·rcases h' with h'|⟨rfl,h'⟩
   ·exact .inl h'
   ·exact .inr ⟨rfl,qg x y z h h'⟩
def CH (S:Nat->List (List Int)->List (List Int)->Prop) (K:List (List Int)->List (List Int)->Prop):Prop:=
 ∀z0:Int,0<=z0->z0<=aW->∀aj:Int,0<=aj->aj<=aO->
 ∀z2:Int,0<=z2->
 ∀z3:Int,(-2)<=z3->z3<=9223372036854775807->
 ∀z4:Int,0<=z4->z4<=9223372036854775807->z4=ah 20 [z0]->
 ∃(eh:List (List Int)->Prop) (fJ:List (List Int)->Nat),eh [[0],[z4]]/\(∀ai:Int,0<=ai->ai<=9223372036854775807->∀ao:Int,0<=ao->ao<=9223372036854775807->eh [[ai],[ao]]->
  (((decide (ai<ao))=true->
   ∀aw:Int,0<=aw->aw<=1->0<=((ai+ao)+9223372036854775808)-18446744073709551616*aw->((ai+ao)+9223372036854775808)-18446744073709551616*aw<18446744073709551616->
   ∀z9:Int,(-1)<=z9->z9<=0->0<=(ai+(ao+((-18446744073709551616)*aw)))-18446744073709551616*z9->(ai+(ao+((-18446744073709551616)*aw)))-18446744073709551616*z9<18446744073709551616->
   ∀ar:Int,0<=ar->ar<=9223372036854775807->0<=(ai+(ao+(((-18446744073709551616)*aw)+((-18446744073709551616)*z9))))-2*ar->(ai+(ao+(((-18446744073709551616)*aw)+((-18446744073709551616)*z9))))-2*ar<2->
   aG 30 [ar,z4]/\
   aG 21 [z0,ar]/\
   ∀aI:Int,0<=aI->aI<=aO->aI=ah 21 [z0,ar,0]->
   ∀z12:Int,0<=z12->z12<=aO->z12=ah 21 [z0,ar,1]->
   ∀a8:Int,0<=a8->a8<=gy->a8=ah 21 [z0,ar,2]->
   ∀bn:Int,0<=bn->
   ∀cu:Int,(-2)<=cu->cu<=9223372036854775807->
   ∀dC:Int,0<=dC->dC<=140737488351232->dC=ah 20 [a8]->
   ∀dM:Int,(-1)<=dM->dM<=1->S 510 [[aI],[aj]] [[dM]]->
   (((decide (dM<0))=true->
    ∀cP:Int,0<=cP->cP<=1->0<=(ar+9223372036854775809)-18446744073709551616*cP->(ar+9223372036854775809)-18446744073709551616*cP<18446744073709551616->
    aG 39 [((ar+((-18446744073709551616)*cP))+1),0,9223372036854775807]/\
    (eh [[((ar+((-18446744073709551616)*cP))+1)],[ao]]/\fJ [[((ar+((-18446744073709551616)*cP))+1)],[ao]]<fJ [[ai],[ao]])
   )/\((decide (dM<0))=false->
    (eh [[ai],[ar]]/\fJ [[ai],[ar]]<fJ [[ai],[ao]])
   ))
  )/\((decide (ai<ao))=false->
   (((decide (ai<z4))=true->
    aG 30 [ai,z4]/\
    aG 21 [z0,ai]/\
    ∀aw:Int,0<=aw->aw<=aO->aw=ah 21 [z0,ai,0]->
    ∀z9:Int,0<=z9->z9<=aO->z9=ah 21 [z0,ai,1]->
    ∀ar:Int,0<=ar->ar<=gy->ar=ah 21 [z0,ai,2]->
    ∀aI:Int,0<=aI->
    ∀z12:Int,(-2)<=z12->z12<=9223372036854775807->
    ∀a8:Int,0<=a8->a8<=140737488351232->a8=ah 20 [ar]->
    ∀bn:Int,(-1)<=bn->bn<=1->S 510 [[aw],[aj]] [[bn]]->
    K [[z0],[aj]] [[ai],[(cond (decide (bn=0)) 1 0)]]
   )/\((decide (ai<z4))=false->
    K [[z0],[aj]] [[ai],[(cond (false) 1 0)]]
   ))
  ))
 )
theorem HW {l:List al} (hr:fa l=true) {j k:Nat} (na:j<k) (hk:k<l.length):Op.bytesLess (l.getD j []) (l.getD k [])=true:=by
 have step:∀i:Nat,i+1<l.length->Op.bytesLess (l.getD i []) (l.getD (i+1) [])=true:=λi hi=>by
  have:=List.all_eq_true.1 hr (i+1) (List.mem_range.2 hi)
  simp only[Bool.and_eq_true,Bool.or_eq_true,decide_eq_true_eq]at this
  rcases this.2 with h|h
  ·omega
  ·simpa using h
 obtain⟨d,rfl⟩:=Nat.exists_eq_add_of_lt na
 clear na
 induction d with
 |zero=>exact step j hk
 |succ d ih=>exact qg _ _ _ (ih (by omega)) (step (j+d+1) hk)
theorem IJ (l:List cm) (j:Nat):(l.map (·.tok)).getD j []=(l.getD j ch).tok:=by
 simp only[List.getD,List.getElem?_map]
 cases l[j]?<;>rfl
theorem BI {l:List cm} (hr:fa (l.map (·.tok))=true) {j k:Nat} (na:j<k) (hk:k<l.length):Op.bytesLess (l.getD j ch).tok (l.getD k ch).tok=true:=by
 have:=HW hr na (by simpa using hk)
 rwa [IJ,IJ]at this
def Jy (z0:Int) (t:al) (bl:List (List Int)):Prop:=∃lo hi:Nat,bl=[[(lo:Int)],[(hi:Int)]]/\lo<=hi/\hi<=(aB z0).length/\(fa ((aB z0).map (·.tok))=true->(∀j:Nat,j<lo->Op.bytesLess ((aB z0).getD j ch).tok t=true)/\∀j:Nat,hi<=j->j<(aB z0).length->Op.bytesLess ((aB z0).getD j ch).tok t=false)
def Jz (bl:List (List Int)):Nat:=((bl.getD 1 []).getD 0 0).toNat-((bl.getD 0 []).getD 0 0).toNat
theorem QU:CH SB (fg SB [.d (.int .i64 0 9223372036854775807),.d .bool] 505):=by
 intro z0 a0 a1 aj n0 n1 z2 _ z3 _ _ z4 b0 b1 h4
 have h4:z4=((ab z0).length:Int):=h4
 have hlen:=ji z0
 have HY:∀{z i:Int} {k:Nat},i=(k:Int)->k<(ab z0).length->z=ah 21 [z0,i,0]->J z=((aB z0).getD k ch).tok:=λhi hk h=>by
  rw[sJ hk,h,hi];rfl
 generalize ht:J aj=t
 have lp:∀{z x:Int} {k:Nat},J x=((aB z0).getD k ch).tok->SB 510 [[x],[aj]] [[z]]->z=cond (Op.bytesLess ((aB z0).getD k ch).tok t) (-1) (cond (decide (((aB z0).getD k ch).tok=t)) 0 1):=λ{z x k} hx h=>by
  have h:z=cond (Op.bytesLess (J x) (J aj)) (-1) (cond (decide (J x=J aj)) 0 1):=h
  rw[h,hx,ht]
 refine⟨Jy z0 t,Jz,⟨0,(ab z0).length,by rw[h4];rfl,Nat.zero_le _,by omega,λ_=>⟨λj h=>absurd h (Nat.not_lt_zero j),λj h h2=>by omega⟩⟩,?_⟩
 rintro ai bL c1 ao d0 d1 ⟨lo,hi,e,Ux,MT,hI⟩
 obtain⟨rfl,rfl⟩:ai=lo/\ao=hi:=by simpa using e
 refine⟨λhlt aw b7 e1 e2 e3 z9 f0 f1 f2 f3 ar g0 g1 g2 g3=>?_,λdI=>?_⟩
 ·have hlt:=of_decide_eq_true hlt
  have UG:aw+z9=0:=by omega
  have fN:ar=(((lo+hi)/2:Nat):Int):=by omega
  generalize hk:(lo+hi)/2=k at fN
  have c3:lo<=k:=by omega
  have hk2:k<hi:=by omega
  subst fN
  have pL:k<(ab z0).length:=by omega
  have dV:k<(aB z0).length:=by omega
  refine⟨⟨by omega,by omega⟩,⟨by omega,by omega⟩,λaI _ _ fN z12 _ _ _ a8 _ _ _ bn _ cu _ _ dC _ _ _ dM _ _ jV=>?_⟩
  have jV:=lp (HY (k:=k) rfl pL fN) jV
  refine⟨λhn cP i0 i1 i2 i3=>⟨⟨by omega,by omega⟩,⟨k+1,hi,by rw[show((k:Int)+(-18446744073709551616)*cP)+1=((k+1:Nat):Int) by omega],by omega,MT,λhr=>⟨λj hj=>?_,(hI hr).2⟩⟩,?_⟩,λhn=>⟨⟨lo,k,rfl,c3,by omega,λhr=>⟨(hI hr).1,λj hj hl=>?_⟩⟩,?_⟩⟩
  ·have hn:=of_decide_eq_true hn
   have hb:Op.bytesLess ((aB z0).getD k ch).tok t=true:=by
    cases hb:Op.bytesLess ((aB z0).getD k ch).tok t with
    |true=>rfl
    |false=>
     rw[hb]at jV
     cases hd:decide (((aB z0).getD k ch).tok=t)<;>rw[hd]at jV<;>simp only[cond_true,cond_false]at jV<;>omega
   rcases Nat.lt_or_ge j k with h|h
   ·exact qg _ _ _ (BI hr h dV) hb
   ·rw[show j=k by omega];exact hb
  ·show((hi:Int)).toNat-(((k:Int)+(-18446744073709551616)*cP)+1).toNat<((hi:Int)).toNat-((lo:Int)).toNat;omega
  ·have hn:=of_decide_eq_false hn
   have hb:Op.bytesLess ((aB z0).getD k ch).tok t=false:=by
    cases hb:Op.bytesLess ((aB z0).getD k ch).tok t with
    |false=>rfl
    |true=>rw[hb]at jV;simp only[cond_true]at jV;omega
   rcases Nat.lt_or_ge k j with h|h
   ·cases jx:Op.bytesLess ((aB z0).getD j ch).tok t with
    |false=>rfl
    |true=>rw[qg _ _ _ (BI hr h hl) jx]at hb;cases hb
   ·rw[show j=k by omega];exact hb
  ·show((k:Int)).toNat-((lo:Int)).toNat<((hi:Int)).toNat-((lo:Int)).toNat;omega
 ·have dI:=of_decide_eq_false dI
  have ad:hi=lo:=by omega
  subst ad
  have bB:∀f:Bool,(f=true->hi<(aB z0).length)->(fa ((aB z0).map (·.tok))=true->(f=true↔hi<(aB z0).length/\((aB z0).getD hi ch).tok=t))->fg SB [.d (.int .i64 0 9223372036854775807),.d .bool] 505 [[z0],[aj]] [[(hi:Int)],[cond f 1 0]]:=λf hf ea=>by
   refine⟨⟨by omega,c1,by cases f<;>decide,by cases f<;>decide,trivial⟩,?_⟩
   show qK (aB z0) (J aj) (hi:Int) (cond f 1 0)
   rw[ht]
   refine⟨⟨by omega,by omega⟩,?_,λhr=>⟨λj hj=>(hI hr).1 j (by omega),λj h1 h2=>(hI hr).2 j (by omega) h2,?_⟩⟩
   ·intro h
    have:f=true:=by cases f with|true=>rfl|false=>cases h
    have:=hf this;omega
   ·have h3:=ea hr
    rw[Int.toNat_natCast]
    cases f with
    |true=>exact⟨λ_=>⟨by have:=(h3.1 rfl).1;omega,(h3.1 rfl).2⟩,λ_=>rfl⟩
    |false=>exact⟨λh=>(by cases h),λh=>(by have:=h3.2 ⟨by omega,h.2⟩;cases this)⟩
  refine⟨λhl=>?_,λhl=>?_⟩
  ·have hl:=of_decide_eq_true hl
   have pL:hi<(ab z0).length:=by omega
   refine⟨⟨by omega,by omega⟩,⟨by omega,by omega⟩,λaw _ _ cz z9 _ _ _ ar _ _ _ aI _ z12 _ _ a8 _ _ _ bn _ _ fO=>?_⟩
   have fO:=lp (HY (k:=hi) rfl pL cz) fO
   refine bB (decide (bn=0)) (λ_=>by omega) λhr=>?_
   have hb:=(hI hr).2 hi (Nat.le_refl _) (by omega)
   rw[hb]at fO
   simp only[cond_false]at fO
   rw[decide_eq_true_eq]
   by_cases hd:((aB z0).getD hi ch).tok=t
   ·rw[decide_eq_true hd]at fO
    exact⟨λ_=>⟨by omega,hd⟩,λ_=>fO⟩
   ·rw[decide_eq_false hd]at fO
    simp only[cond_false]at fO
    exact⟨λh=>(by omega),λh=>(hd h.2).elim⟩
  ·have hl:=of_decide_eq_false hl
   exact bB false (λh=>by cases h) (λ_=>⟨λh=>(by cases h),λh=>(by omega)⟩)
end Go.bD
namespace Go.bD
open Go Go.aZ
def CG (S:Nat->List (List Int)->List (List Int)->Prop) (K:List (List Int)->List (List Int)->Prop):Prop:=
 ∀z0:Int,0<=z0->z0<=aW->∀aj:Int,0<=aj->aj<=aO->
 ∀z2:Int,0<=z2->
 ∀z3:Int,(-2)<=z3->z3<=9223372036854775807->
 ∀z4:Int,0<=z4->z4<=9223372036854775807->z4=ah 20 [z0]->
 aG 22 [z0,0,z4]/\
 ∀z5:Int,0<=z5->z5<=aW->z5=ah 22 [z0,0,z4]->
 ∀ai:Int,0<=ai->ai<=1->S 504 [[z5]] [[ai]]->
 ((((!(decide (ai=1))))=true->
  K [[z0],[aj]] [[0],[1]]
 )/\(((!(decide (ai=1))))=false->
  aG 22 [z0,0,z4]/\
  ∀ao:Int,0<=ao->ao<=aW->ao=ah 22 [z0,0,z4]->
  ∀aw:Int,0<=aw->aw<=9223372036854775807->∀z9:Int,0<=z9->z9<=1->S 505 [[ao],[aj]] [[aw],[z9]]->
  ((((!(decide (z9=1))))=true->
   K [[z0],[aj]] [[0],[14]]
  )/\(((!(decide (z9=1))))=false->
   K [[z0],[aj]] [[aw],[0]]
  ))
 ))
def CF (S:Nat->List (List Int)->List (List Int)->Prop) (K:List (List Int)->List (List Int)->Prop):Prop:=
 ∀z0:Int,0<=z0->z0<=aW->∀aj:Int,0<=aj->aj<=aO->
 ∀z2:Int,0<=z2->
 ∀z3:Int,(-2)<=z3->z3<=9223372036854775807->
 ∀z4:Int,0<=z4->z4<=9223372036854775807->z4=ah 20 [z0]->
 aG 22 [z0,0,z4]/\
 ∀z5:Int,0<=z5->z5<=aW->z5=ah 22 [z0,0,z4]->
 ∀ai:Int,0<=ai->ai<=9223372036854775807->∀ao:Int,0<=ao->ao<=21->S 506 [[z5],[aj]] [[ai],[ao]]->
 ((((!(decide (ao=0))))=true->
  K [[z0],[aj]] [[0],[ao]]
 )/\(((!(decide (ao=0))))=false->
  aG 30 [ai,z4]/\
  aG 21 [z0,ai]/\
  ∀aw:Int,0<=aw->aw<=aO->aw=ah 21 [z0,ai,1]->
  K [[z0],[aj]] [[aw],[0]]
 ))
theorem kk {z y n:Int} (hn:n=((ab z).length:Int)) (h:y=ah 22 [z,0,n]):aB y=aB z:=by unfold aB;rw[whole hn h]
theorem BH {l:List cm} (h:de l=true):fa (l.map (·.tok))=true:=by
 unfold de at h
 simp only[Bool.and_eq_true]at h
 exact h.2.2
theorem HD {l:List cm} {t:al} {i f:Int} (h:qK l t i f) (hr:de l=true):l.findIdx? (λu=>decide (u.tok=t))=cond (decide (f=1)) (some i.toNat) none:=by
 obtain⟨⟨h1,h2⟩,h3,h4⟩:=h
 obtain⟨h5,h6,h7⟩:=h4 (BH hr)
 by_cases hf:f=1
 ·rw[decide_eq_true hf,cond_true]
  obtain⟨g1,g2⟩:=h7.1 hf
  rw[List.findIdx?_eq_some_iff_getElem]
  refine⟨by omega,?_,λj hj=>?_⟩
  ·rw[decide_eq_true_eq,<-g2]
   have:i.toNat<l.length:=by omega
   simp[List.getD,this]
  ·have wC:j<l.length:=by omega
   have:=h5 j (by omega)
   simp only[List.getD,List.getElem?_eq_getElem wC,Option.getD_some]at this
   rw[Bool.not_eq_true,decide_eq_false_iff_not]
   intro e
   rw[e,sc]at this;cases this
 ·rw[decide_eq_false hf,cond_false]
  rw[List.findIdx?_eq_none_iff]
  intro u hu
  rw[decide_eq_false_iff_not]
  intro e
  obtain⟨j,hj,rfl⟩:=List.getElem_of_mem hu
  have hg:l.getD j ch=l[j]:=by simp[List.getD,hj]
  rcases Int.lt_or_le (j:Int) i with h|h
  ·have:=h5 j h
   rw[hg,e,sc]at this;cases this
  ·rcases Int.lt_or_eq_of_le h with h|h
   ·have hk:=BI (BH hr) (show i.toNat<j by omega) hj
    rw[hg,e]at hk
    have:=h6 i.toNat (by omega) (by omega)
    rw[this]at hk;cases hk
   ·refine hf (h7.2 ⟨by omega,?_⟩)
    rw[show i.toNat=j by omega,hg];exact e
theorem QT:CG SB (fg SB [.d (.int .i64 0 9223372036854775807),.d (.int .i64 0 21)] 506):=by
 intro z0 a0 a1 aj n0 n1 z2 _ z3 _ _ z4 b0 b1 h4
 have h4:z4=((ab z0).length:Int):=h4
 have bB:∀i e:Int,(0<=i/\i<=9223372036854775807)->(0<=e/\e<=21)->bJ (aB z0) (J aj)=(i,e)->fg SB [.d (.int .i64 0 9223372036854775807),.d (.int .i64 0 21)] 506 [[z0],[aj]] [[i],[e]]:=λi e hi he h=>⟨⟨hi.1,hi.2,he.1,he.2,trivial⟩,by show(i,e)=bJ (aB z0) (J aj);rw[h]⟩
 refine⟨⟨by omega,by omega,by omega⟩,λz5 _ _ h5 ai _ _ h6=>?_⟩
 have h6:ai=aS (de (aB z5)):=h6
 rw[kk h4 h5]at h6
 have Fq:=jo h6
 refine⟨λhn=>bB 0 1 (by decide) (by decide) (by unfold bJ;rw[<-Fq,lY hn];rfl),λhn=>⟨⟨by omega,by omega,by omega⟩,λao _ _ h7 aw bL c1 z9 _ _ bt=>?_⟩⟩
 have hr:de (aB z0)=true:=by rw[<-Fq];exact kr hn
 have bt:qK (aB ao) (J aj) aw z9:=bt
 rw[kk h4 h7]at bt
 have hf:=HD bt hr
 refine⟨λhq=>bB 0 14 (by decide) (by decide) (by unfold bJ;rw[hr,hf,lY hq];rfl),λhq=>bB aw 0 ⟨bL,c1⟩ (by decide) ?_⟩
 unfold bJ
 rw[hr,hf,kr hq]
 show(((aw.toNat:Nat):Int),(0:Int))=(aw,0)
 rw[Int.toNat_of_nonneg bL]
theorem AU {l:List cm} {t:al} (h:(bJ l t).2=0):0<=(bJ l t).1/\(bJ l t).1<l.length:=by
 unfold bJ at h⊢
 cases hr:de l with
 |false=>rw[hr]at h;cases h
 |true=>
  rw[hr]at h
  simp only[cond_true]at h⊢
  cases hf:l.findIdx? (λu=>decide (u.tok=t))with
  |none=>rw[hf]at h;cases h
  |some k=>
   have:=(List.findIdx?_eq_some_iff_getElem.1 hf).1
   simp only;omega
theorem QS:CF SB (fg SB [.d .str,.d (.int .i64 0 21)] 507):=by
 intro z0 a0 a1 aj n0 n1 z2 _ z3 _ _ z4 b0 b1 h4
 have h4:z4=((ab z0).length:Int):=h4
 refine⟨⟨by omega,by omega,by omega⟩,λz5 _ _ h5 ai _ _ ao bL c1 h7=>?_⟩
 have h7:(ai,ao)=bJ (aB z5) (J aj):=h7
 rw[kk h4 h5]at h7
 have e1:(bJ (aB z0) (J aj)).1=ai:=by rw[<-h7]
 have e2:(bJ (aB z0) (J aj)).2=ao:=by rw[<-h7]
 have Ap:J (0:Int)=[]:=by decide
 refine⟨λhn=>⟨⟨Int.le_refl _,oS,bL,c1,trivial⟩,?_⟩,λhn=>?_⟩
 ·show(J 0,ao)=fm (aB z0) (J aj)
  unfold fm
  rw[e2,lY hn,Ap];rfl
 ·have hz:ao=0:=of_decide_eq_true (kr hn)
  have hk:=AU (l:=aB z0) (t:=J aj) (by rw[e2];exact hz)
  rw[e1,ji]at hk
  refine⟨⟨by omega,by omega⟩,⟨by omega,by omega⟩,λaw d0 d1 cz=>⟨⟨d0,d1,by decide,by decide,trivial⟩,?_⟩⟩
  show(J aw,(0:Int))=fm (aB z0) (J aj)
  unfold fm
  rw[e2,e1,hz,sJ (by omega)]
  have:J aw=(sI ((ab z0).getD ai.toNat [])).dv:=by rw[cz];rfl
  rw[this];rfl
end Go.bD
namespace Go.bD
open Go Go.aZ
def CR (S:Nat->List (List Int)->List (List Int)->Prop) (K:List (List Int)->List (List Int)->Prop):Prop:=
 ∀z0:Int,0<=z0->z0<=aW->∀aj:Int,0<=aj->aj<=aO->
 ∀z2:Int,0<=z2->
 ∀z3:Int,(-2)<=z3->z3<=9223372036854775807->
 ∀z4:Int,0<=z4->z4<=9223372036854775807->z4=ah 20 [z0]->
 ∃(eh:List (List Int)->Prop) (fJ:List (List Int)->Nat),eh [[0]]/\(∀ai:Int,0<=ai->ai<=9223372036854775807->eh [[ai]]->
  (((decide (ai<z4))=true->
   aG 30 [ai,z4]/\
   aG 21 [z0,ai]/\
   ∀ao:Int,0<=ao->ao<=aO->ao=ah 21 [z0,ai,0]->
   ∀aw:Int,0<=aw->aw<=1->aw=ah 4 [aj,ao]->
   (((decide (aw=1))=true->
    K [[z0],[aj]] [[(cond (true) 1 0)]]
   )/\((decide (aw=1))=false->
    ∀z9:Int,0<=z9->z9<=1->0<=(ai+9223372036854775809)-18446744073709551616*z9->(ai+9223372036854775809)-18446744073709551616*z9<18446744073709551616->
    aG 39 [((ai+((-18446744073709551616)*z9))+1),0,9223372036854775807]/\
    (eh [[((ai+((-18446744073709551616)*z9))+1)]]/\fJ [[((ai+((-18446744073709551616)*z9))+1)]]<fJ [[ai]])
   ))
  )/\((decide (ai<z4))=false->
   K [[z0],[aj]] [[(cond (false) 1 0)]]
  ))
 )
def CD (S:Nat->List (List Int)->List (List Int)->Prop) (K:List (List Int)->List (List Int)->Prop):Prop:=
 ∀z0:Int,0<=z0->z0<=aW->∀aj:Int,0<=aj->aj<=aO->∀z2:Int,0<=z2->z2<=aW->
 ∀z3:Int,0<=z3->
 ∀z4:Int,(-2)<=z4->z4<=9223372036854775807->
 ∀z5:Int,0<=z5->z5<=9223372036854775807->z5=ah 20 [z0]->
 ∀ai:Int,0<=ai->
 ∀ao:Int,(-2)<=ao->ao<=9223372036854775807->
 ∀aw:Int,0<=aw->aw<=9223372036854775807->aw=ah 20 [z2]->
 aG 22 [z0,0,z5]/\
 ∀z9:Int,0<=z9->z9<=aW->z9=ah 22 [z0,0,z5]->
 ∀ar:Int,0<=ar->ar<=9223372036854775807->∀aI:Int,0<=aI->aI<=21->S 506 [[z9],[aj]] [[ar],[aI]]->
 ((((!(decide (aI=0))))=true->
  K [[z0],[aj],[z2]] [[aI]]
 )/\(((!(decide (aI=0))))=false->
  ∃(yd:List (List Int)->Prop) (Jb:List (List Int)->Nat),yd [[0]]/\(∀a8:Int,0<=a8->a8<=9223372036854775807->yd [[a8]]->
   (((decide (a8<aw))=true->
    aG 30 [a8,aw]/\
    aG 21 [z2,a8]/\
    ∀bn:Int,0<=bn->bn<=aO->bn=ah 21 [z2,a8,0]->
    aG 30 [ar,z5]/\
    aG 21 [z0,ar]/\
    ∀cu:Int,0<=cu->cu<=gy->cu=ah 21 [z0,ar,2]->
    ∀dC:Int,0<=dC->
    ∀dM:Int,(-2)<=dM->dM<=9223372036854775807->
    ∀cP:Int,0<=cP->cP<=140737488351232->cP=ah 20 [cu]->
    aG 22 [cu,0,cP]/\
    ∀eg:Int,0<=eg->eg<=aW->eg=ah 22 [cu,0,cP]->
    ∀z20:Int,0<=z20->z20<=1->S 512 [[eg],[bn]] [[z20]]->
    ((((!(decide (z20=1))))=true->
     K [[z0],[aj],[z2]] [[13]]
    )/\(((!(decide (z20=1))))=false->
     ∀z21:Int,0<=z21->z21<=1->0<=(a8+9223372036854775809)-18446744073709551616*z21->(a8+9223372036854775809)-18446744073709551616*z21<18446744073709551616->
     aG 39 [((a8+((-18446744073709551616)*z21))+1),0,9223372036854775807]/\
     (yd [[((a8+((-18446744073709551616)*z21))+1)]]/\Jb [[((a8+((-18446744073709551616)*z21))+1)]]<Jb [[a8]])
    ))
   )/\((decide (a8<aw))=false->
    K [[z0],[aj],[z2]] [[0]]
   ))
  )
 ))
theorem IM {z:Int} {i:Nat} (h:i<(ab z).length):(aN z).getD i []∈aN z:=by
 have:i<(aN z).length:=by rw[lP];exact h
 simp[List.getD,this]
theorem TF {z y n:Int} (hn:n=((ab z).length:Int)) (h:y=ah 22 [z,0,n]):aN y=aN z:=by unfold aN;rw[whole hn h]
def Ji (z0:Int) (t:al) (bl:List (List Int)):Prop:=∃i:Nat,bl=[[(i:Int)]]/\i<=(ab z0).length/\∀j:Nat,j<i->(aN z0).getD j []≠t
theorem Q7:CR SB (fg SB [.d .bool] 512):=by
 intro z0 a0 a1 aj n0 n1 z2 _ z3 _ _ z4 b0 b1 h4
 have h4:z4=((ab z0).length:Int):=h4
 have hl:=lP z0
 have bB:∀b:Bool,(aN z0).contains (J aj)=b->fg SB [.d .bool] 512 [[z0],[aj]] [[aS b]]:=λb h=>⟨⟨(iq _).1,(iq _).2,trivial⟩,by show aS b=aS ((aN z0).contains (J aj));rw[h]⟩
 refine⟨Ji z0 (J aj),yl z0,⟨0,rfl,Nat.zero_le _,λj hj=>absurd hj (Nat.not_lt_zero j)⟩,?_⟩
 rintro ai d0 d1 ⟨i,e,hi,hI⟩
 obtain rfl:ai=i:=by simpa using e
 refine⟨λhlt=>?_,λdI=>bB false ?_⟩
 ·have hlt:=of_decide_eq_true hlt
  have bW:i<(ab z0).length:=by omega
  refine⟨⟨by omega,by omega⟩,⟨by omega,by omega⟩,λao _ _ h7 aw _ _ cz=>?_⟩
  have h7:J ao=(aN z0).getD i []:=by rw[u7 bW,h7];simp only[ah,Int.toNat_natCast];rfl
  have cz:=ri cz
  rw[h7]at cz
  refine⟨λhq=>bB true ?_,λhq z9 x0 x1 ef fb=>⟨⟨by omega,by omega⟩,⟨i+1,by rw[show(i:Int)+(-18446744073709551616)*z9+1=((i+1:Nat):Int) by omega],by omega,λj hj=>?_⟩,?_⟩⟩
  ·rw[cz]at hq
   rw[List.contains_iff_mem,of_decide_eq_true hq];exact IM bW
  ·rcases Nat.lt_or_ge j i with h|h
   ·exact hI j h
   ·obtain rfl:j=i:=by omega
    rw[cz]at hq
    exactλe=>of_decide_eq_false hq e.symm
  ·show(ab z0).length-((i:Int)+(-18446744073709551616)*z9+1).toNat<(ab z0).length-((i:Int)).toNat;omega
 ·have:=of_decide_eq_false dI
  cases hc:(aN z0).contains (J aj)with
  |false=>rfl
  |true=>
   rw[List.contains_iff_mem]at hc
   obtain⟨j,hj,he⟩:=List.getElem_of_mem hc
   exact(hI j (by omega) (by simp[List.getD,hj,he])).elim
def Je (z2:Int) (cR:List al) (bl:List (List Int)):Prop:=∃i:Nat,bl=[[(i:Int)]]/\i<=(ab z2).length/\∀j:Nat,j<i->cR.contains ((aN z2).getD j [])=true
theorem QQ:CD SB (fg SB [.d (.int .i64 0 21)] 511):=by
 intro z0 a0 a1 aj n0 n1 z2 m0 kb z3 _ z4 _ _ z5 _ _ h5 ai _ ao _ _ aw _ c1 cz
 have h5:z5=((ab z0).length:Int):=h5
 have cz:aw=((ab z2).length:Int):=cz
 have hl:=lP z2
 have bB:∀e:Int,(0<=e/\e<=21)->nN (aB z0) (J aj) (aN z2)=e->fg SB [.d (.int .i64 0 21)] 511 [[z0],[aj],[z2]] [[e]]:=λe he h=>⟨⟨he.1,he.2,trivial⟩,by show e=nN (aB z0) (J aj) (aN z2);rw[h]⟩
 refine⟨⟨by omega,by omega,by omega⟩,λz9 _ _ bt ar _ _ aI b7 e1 fN=>?_⟩
 have fN:(ar,aI)=bJ (aB z9) (J aj):=fN
 rw[kk h5 bt]at fN
 have f1:(bJ (aB z0) (J aj)).1=ar:=by rw[<-fN]
 have f2:(bJ (aB z0) (J aj)).2=aI:=by rw[<-fN]
 refine⟨λhn=>bB aI ⟨b7,e1⟩ (by unfold nN;rw[f2,lY hn];rfl),λhn=>?_⟩
 have hz:aI=0:=of_decide_eq_true (kr hn)
 have hk:=AU (l:=aB z0) (t:=J aj) (by rw[f2];exact hz)
 rw[f1,ji]at hk
 have cY:nN (aB z0) (J aj) (aN z2)=cond ((aN z2).all λs=>((aB z0).getD ar.toNat ch).cR.contains s) 0 13:=by unfold nN;rw[f2,f1,hz];rfl
 generalize hu:((aB z0).getD ar.toNat ch).cR=cR at cY
 refine⟨Je z2 cR,yl z2,⟨0,rfl,Nat.zero_le _,λj hj=>absurd hj (Nat.not_lt_zero j)⟩,?_⟩
 rintro a8 d0 d1 ⟨i,e,hi,hI⟩
 obtain rfl:a8=i:=by simpa using e
 refine⟨λhlt=>?_,λdI=>bB 0 (by decide) ?_⟩
 ·have hlt:=of_decide_eq_true hlt
  have bW:i<(ab z2).length:=by omega
  refine⟨⟨by omega,by omega⟩,⟨by omega,by omega⟩,λbn _ _ fO=>⟨⟨by omega,by omega⟩,⟨by omega,by omega⟩,λcu _ _ iv dC _ dM _ _ cP g0 g1 lh=>?_⟩⟩
  have fO:J bn=(aN z2).getD i []:=by rw[u7 bW,fO];simp only[ah,Int.toNat_natCast];rfl
  have iv:aN cu=cR:=by rw[<-hu,sJ (by omega),iv];rfl
  have lh:cP=((ab cu).length:Int):=lh
  refine⟨⟨by omega,by omega,by omega⟩,λeg _ _ lj z20 _ _ n4=>?_⟩
  have n4:z20=aS ((aN eg).contains (J bn)):=n4
  rw[TF lh lj,iv,fO]at n4
  have Fo:=jo n4
  refine⟨λhq=>bB 13 (by decide) ?_,λhq z21 x0 x1 ef fb=>⟨⟨by omega,by omega⟩,⟨i+1,by rw[show(i:Int)+(-18446744073709551616)*z21+1=((i+1:Nat):Int) by omega],by omega,λj hj=>?_⟩,?_⟩⟩
  ·rw[cY]
   have hq:=lY hq
   rw[Fo]at hq
   cases ha:(aN z2).all λs=>cR.contains s with
   |false=>rfl
   |true=>
    have:=List.all_eq_true.1 ha _ (IM bW)
    rw[hq]at this;cases this
  ·rcases Nat.lt_or_ge j i with h|h
   ·exact hI j h
   ·obtain rfl:j=i:=by omega
    rw[<-Fo];exact kr hq
  ·show(ab z2).length-((i:Int)+(-18446744073709551616)*z21+1).toNat<(ab z2).length-((i:Int)).toNat;omega
 ·have:=of_decide_eq_false dI
  rw[cY,List.all_eq_true.2 λs hs=>?_]
  ·rfl
  ·obtain⟨j,hj,rfl⟩:=List.getElem_of_mem hs
   have:=hI j (by omega)
   simpa [List.getD,hj]using this
end Go.bD
namespace Go.bD
open Go Go.aZ
def fk (x y:al):Prop:=Op.bytesLess x y=true
theorem GX {l:List al} (h:fa l=true):l.Pairwise fk:=by
 rw[List.pairwise_iff_getElem]
 intro i j hi hj iw
 have:=HW h iw hj
 simp only[List.getD,List.getElem?_eq_getElem hi,List.getElem?_eq_getElem hj,Option.getD_some]at this
 exact this
theorem RI {l:List al} (h:l.Pairwise fk) (hs:l.all cg=true):fa l=true:=by
 rw[List.pairwise_iff_getElem]at h
 unfold fa
 rw[List.all_eq_true]
 intro i hi
 have hi:i<l.length:=List.mem_range.1 hi
 rw[Bool.and_eq_true,Bool.or_eq_true]
 have e:l.getD i []=l[i]:=by simp[List.getD,hi]
 rw[e]
 refine⟨List.all_eq_true.1 hs _ (List.getElem_mem hi),?_⟩
 by_cases h0:i=0
 ·exact .inl (decide_eq_true h0)
 ·right
  have e1:l.getD (i-1) []=l[i-1]:=by simp[List.getD,show i-1<l.length by omega]
  rw[e1]
  exact h (i-1) i (by omega) hi (by omega)
theorem Bb (s:al):∀(l:List al) (x:al),x∈gE s l↔x=s∨x∈l
 |[],x=>by simp[gE]
 |y::r,x=>by
  unfold gE
  by_cases h:y=s
  ·rw[decide_eq_true h,cond_true,<-h];simp
  ·rw[decide_eq_false h,cond_false]
   cases hb:Op.bytesLess s y with
   |true=>simp
   |false=>
    have ih:=Bb s r x
    simp only[cond_false,List.mem_cons,ih]
    constructor
    ·rintro(h|h|h)<;>simp[h]
    ·rintro(h|h|h)<;>simp[h]
theorem Gw (s:al):∀{l:List al},l.Pairwise fk->(gE s l).Pairwise fk
 |[],_=>by simp[gE]
 |y::r,h=>by
  unfold gE
  by_cases he:y=s
  ·rw[decide_eq_true he];exact h
  ·rw[decide_eq_false he,cond_false]
   have h':=List.pairwise_cons.1 h
   cases hb:Op.bytesLess s y with
   |true=>
    refine List.pairwise_cons.2 ⟨λz hz=>?_,h⟩
    rcases List.mem_cons.1 hz with rfl|hz
    ·exact hb
    ·exact qg _ _ _ hb (h'.1 z hz)
   |false=>
    refine List.pairwise_cons.2 ⟨λz hz=>?_,Gw s h'.2⟩
    rcases(Bb s r z).1 hz with rfl|hz
    ·rcases w7 z y with h|h|h
     ·rw[h]at hb;cases hb
     ·exact h
     ·exact absurd h.symm he
    ·exact h'.1 z hz
theorem IV:∀{d a:List al},a.Pairwise fk->(oJ a d).Pairwise fk
 |[],_,h=>h
 |s::d,a,h=>IV (d:=d) (a:=gE s a) (Gw s h)
theorem Bc:∀{d a:List al} (x:al),x∈oJ a d↔x∈a∨x∈d
 |[],a,x=>by simp[oJ]
 |s::d,a,x=>by
  have ih:=Bc (d:=d) (a:=gE s a) x
  show x∈oJ (gE s a) d↔_
  rw[ih,Bb]
  simp only[List.mem_cons]
  constructor
  ·rintro((h|h)|h)<;>simp[h]
  ·rintro(h|h|h)<;>simp[h]
theorem GV:∀{l aT:List al},l.Pairwise fk->aT.Pairwise fk->(∀x,x∈l↔x∈aT)->l=aT
 |[],[],_,_,_=>rfl
 |[],y::r,_,_,h=>by have:=(h y).2 (by simp);cases this
 |x::r,[],_,_,h=>by have:=(h x).1 (by simp);cases this
 |x::r,y::s,h1,h2,h=>by
  have a1:=List.pairwise_cons.1 h1
  have a2:=List.pairwise_cons.1 h2
  have e:x=y:=by
   rcases List.mem_cons.1 ((h x).1 (by simp))with e|hx
   ·exact e
   ·rcases List.mem_cons.1 ((h y).2 (by simp))with e|hy
    ·exact e.symm
    ·exact absurd (a1.1 y hy) λh=>GO _ _ h (a2.1 x hx)
  subst e
  refine congrArg _ (GV a1.2 a2.2 λz=>⟨λhz=>?_,λhz=>?_⟩)
  ·rcases List.mem_cons.1 ((h z).1 (List.mem_cons_of_mem _ hz))with e|h'
   ·subst e
    have:=a1.1 z hz
    unfold fk at this;rw[sc]at this;cases this
   ·exact h'
  ·rcases List.mem_cons.1 ((h z).2 (List.mem_cons_of_mem _ hz))with e|h'
   ·subst e
    have:=a2.1 z hz
    unfold fk at this;rw[sc]at this;cases this
   ·exact h'
end Go.bD
namespace Go.bD
open Go Go.aZ
theorem RH (l:List al):fa l=true↔l.Pairwise fk/\∀s∈l,cg s=true:=by
 refine⟨λh=>⟨GX h,λs hs=>?_⟩,λh=>RI h.1 (List.all_eq_true.2 h.2)⟩
 unfold fa at h
 rw[List.all_eq_true]at h
 obtain⟨j,hj,rfl⟩:=List.getElem_of_mem hs
 have:=h j (List.mem_range.2 hj)
 rw[Bool.and_eq_true]at this
 have h:=this.1
 simp only[List.getD,List.getElem?_eq_getElem hj,Option.getD_some]at h
 exact h
def Cr (u:cm):Prop:=ie u.dv=true/\u.cR.length<=4/\u.cR.Pairwise fk/\(∀s∈u.cR,cg s=true)/\cg u.tok=true
theorem sA (l:List cm):de l=true↔l.length<=16/\(∀u∈l,Cr u)/\l.Pairwise (λa b=>fk a.tok b.tok):=by
 unfold de
 simp only[Bool.and_eq_true,List.all_eq_true,RH,List.pairwise_map,List.mem_map]
 constructor
 ·rintro⟨h1,h2,h3,h4⟩
  exact⟨Nat.le_of_ble_eq_true h1,λu hu=>⟨(h2 u hu).1,Nat.le_of_ble_eq_true (h2 u hu).2.1,(h2 u hu).2.2.1,(h2 u hu).2.2.2,h4 _ ⟨u,hu,rfl⟩⟩,h3⟩
 ·rintro⟨h1,h2,h3⟩
  refine⟨Nat.ble_eq_true_of_le h1,λu hu=>⟨(h2 u hu).1,Nat.ble_eq_true_of_le (h2 u hu).2.1,(h2 u hu).2.2.1,(h2 u hu).2.2.2.1⟩,h3,?_⟩
  rintro s ⟨u,hu,rfl⟩
  exact(h2 u hu).2.2.2.2
theorem GW {x y:al} (h:fk x y):x≠y:=λe=>by subst e;unfold fk at h;rw[sc]at h;cases h
theorem Cn {l:List cm} (hl:l.Pairwise (λa b=>fk a.tok b.tok)) {i j:Nat} (hi:i<l.length) (hj:j<l.length) (h:l[i].tok=l[j].tok):i=j:=by
 rw[List.pairwise_iff_getElem]at hl
 rcases Nat.lt_trichotomy i j with iw|iw|iw
 ·exact absurd h (GW (hl i j hi hj iw))
 ·exact iw
 ·exact absurd h.symm (GW (hl j i hj hi iw))
theorem OS {l:List cm} {u:cm} {t:al} (hr:de l=true) (hu:u∈l) (ht:u.tok=t):∃k:Nat,bJ l t=((k:Int),0)/\k<l.length/\l.getD k ch=u:=by
 have hp:=((sA l).1 hr).2.2
 unfold bJ
 rw[hr,cond_true]
 cases hf:l.findIdx? (λu=>decide (u.tok=t))with
 |none=>
  rw[List.findIdx?_eq_none_iff]at hf
  have:=hf u hu
  rw[decide_eq_true ht]at this;cases this
 |some k=>
  obtain⟨h1,h2,_⟩:=List.findIdx?_eq_some_iff_getElem.1 hf
  have h2:=of_decide_eq_true h2
  obtain⟨j,hj,rfl⟩:=List.getElem_of_mem hu
  have:=Cn hp h1 hj (h2.trans ht.symm)
  subst this
  exact⟨k,rfl,h1,by simp[List.getD,h1]⟩
theorem OT {l:List cm} {t:al} (hr:de l=true) (h:∀u∈l,u.tok≠t):bJ l t=(0,14):=by
 unfold bJ
 rw[hr,cond_true]
 rw[List.findIdx?_eq_none_iff.2 λu hu=>decide_eq_false (h u hu)]
theorem OU {l:List cm} {t:al} (h:(bJ l t).2=0):de l=true/\∃k:Nat,bJ l t=((k:Int),0)/\k<l.length/\(l.getD k ch).tok=t/\l.getD k ch∈l:=by
 unfold bJ at h⊢
 cases hr:de l with
 |false=>rw[hr]at h;cases h
 |true=>
  rw[hr]at h
  simp only[cond_true]at h⊢
  cases hf:l.findIdx? (λu=>decide (u.tok=t))with
  |none=>rw[hf]at h;cases h
  |some k=>
   obtain⟨h1,h2,_⟩:=List.findIdx?_eq_some_iff_getElem.1 hf
   have h2:=of_decide_eq_true h2
   exact⟨trivial,k,rfl,h1,by simp only[List.getD,List.getElem?_eq_getElem h1,Option.getD_some];exact h2,by simp only[List.getD,List.getElem?_eq_getElem h1,Option.getD_some];exact List.getElem_mem h1⟩
theorem KK {l:List cm} (hr:de l=true) {k:Nat} (hk:k<l.length):de (l.take k++l.drop (k+1))=true/\(∀u∈l.take k++l.drop (k+1),u.tok≠(l.getD k ch).tok)/\(l.take k++l.drop (k+1)).length+1=l.length/\∀u,u.tok≠(l.getD k ch).tok->(u∈l↔u∈l.take k++l.drop (k+1)):=by
 obtain⟨h1,h2,h3⟩:=(sA l).1 hr
 have kH:(l.take k++l.drop (k+1)).Sublist l:=by
  have e:l=l.take k++l.drop k:=(List.take_append_drop k l).symm
  conv=>rhs;rw[e]
  exact List.Sublist.append (List.Sublist.refl _) (by rw[<-List.drop_drop];exact List.drop_sublist _ _)
 have hlen:(l.take k++l.drop (k+1)).length+1=l.length:=by rw[List.length_append,List.length_take,List.length_drop];omega
 have hg:l.getD k ch=l[k]:=by simp[List.getD,hk]
 have hne:∀u∈l.take k++l.drop (k+1),u.tok≠l[k].tok:=λu hu e=>by
  rcases List.mem_append.1 hu with hu|hu
  ·obtain⟨j,hj,rfl⟩:=List.getElem_of_mem hu
   rw[List.length_take]at hj
   rw[List.getElem_take]at e
   have:=Cn h3 (show j<l.length by omega) hk e
   omega
  ·obtain⟨j,hj,rfl⟩:=List.getElem_of_mem hu
   rw[List.length_drop]at hj
   rw[List.getElem_drop]at e
   have:=Cn h3 (show k+1+j<l.length by omega) hk e
   omega
 rw[hg]
 refine⟨(sA _).2 ⟨by omega,λu hu=>h2 u (kH.subset hu),h3.sublist kH⟩,hne,hlen,λu hu=>⟨λh=>?_,λh=>kH.subset h⟩⟩
 obtain⟨j,hj,rfl⟩:=List.getElem_of_mem h
 rw[List.mem_append]
 rcases Nat.lt_trichotomy j k with na|na|na
 ·exact .inl (List.mem_take_iff_getElem.2 ⟨j,by omega,rfl⟩)
 ·subst na;exact absurd rfl hu
 ·right
  rw[List.mem_drop_iff_getElem]
  exact⟨j-(k+1),by omega,by congr 1;omega⟩
def nq (l:List cm) (u:cm):List cm:=l.takeWhile (λx=>Op.bytesLess x.tok u.tok)++u::l.dropWhile (λx=>Op.bytesLess x.tok u.tok)
theorem Ox {l:List cm} {u:cm} (hr:de l=true) (hu:Cr u) (hn:∀x∈l,x.tok≠u.tok) (gf:l.length≠16):de (nq l u)=true/\(nq l u).length=l.length+1/\(∀x,x∈nq l u↔x=u∨x∈l):=by
 obtain⟨h1,h2,h3⟩:=(sA l).1 hr
 have e0:l.takeWhile (λx=>Op.bytesLess x.tok u.tok)++l.dropWhile (λx=>Op.bytesLess x.tok u.tok)=l:=List.takeWhile_append_dropWhile
 have gj:∀x,x∈nq l u↔x=u∨x∈l:=λx=>by
  have:x∈l↔x∈l.takeWhile (λx=>Op.bytesLess x.tok u.tok)∨x∈l.dropWhile (λx=>Op.bytesLess x.tok u.tok):=by rw[<-List.mem_append,e0]
  rw[this]
  unfold nq
  simp only[List.mem_append,List.mem_cons]
  constructor
  ·rintro(h|h|h)<;>simp[h]
  ·rintro(h|h|h)<;>simp[h]
 have hlen:(nq l u).length=l.length+1:=by
  have:=congrArg List.length e0
  rw[List.length_append]at this
  unfold nq
  rw[List.length_append,List.length_cons];omega
 have m2:=h3
 rw[<-e0,List.pairwise_append]at m2
 obtain⟨a1,a2,a3⟩:=m2
 have t1:∀x∈l.takeWhile (λx=>Op.bytesLess x.tok u.tok),fk x.tok u.tok:=λx hx=>by
  have:=List.all_takeWhile (p:=λx:cm=>Op.bytesLess x.tok u.tok) (l:=l)
  exact List.all_eq_true.1 this x hx
 have t2:∀x∈l.dropWhile (λx=>Op.bytesLess x.tok u.tok),fk u.tok x.tok:=λx hx=>by
  have UE:x∈l:=by rw[<-e0];exact List.mem_append.2 (.inr hx)
  cases hd:l.dropWhile (λx=>Op.bytesLess x.tok u.tok)with
  |nil=>rw[hd]at hx;simp at hx
  |cons y r=>
   have hy:Op.bytesLess y.tok u.tok=false:=by
    have:=List.head?_dropWhile_not (λx:cm=>Op.bytesLess x.tok u.tok) l
    rw[hd]at this
    simpa using this
   have Oe:y∈l:=by rw[<-e0,hd];simp
   have Gc:fk u.tok y.tok:=by
    rcases w7 u.tok y.tok with h|h|h
    ·exact h
    ·rw[h]at hy;cases hy
    ·exact absurd h.symm (hn y Oe)
   rw[hd]at hx a2
   rcases List.mem_cons.1 hx with rfl|hx
   ·exact Gc
   ·exact qg _ _ _ Gc ((List.pairwise_cons.1 a2).1 x hx)
 refine⟨(sA _).2 ⟨by omega,λx hx=>?_,?_⟩,hlen,gj⟩
 ·rcases(gj x).1 hx with rfl|hx
  ·exact hu
  ·exact h2 x hx
 ·unfold nq
  refine List.pairwise_append.2 ⟨a1,List.pairwise_cons.2 ⟨t2,a2⟩,λx hx y hy=>?_⟩
  rcases List.mem_cons.1 hy with rfl|hy
  ·exact t1 x hx
  ·exact a3 x hx y hy
theorem I3 (l:List cm) (t:al):(fm l t).2=(bJ l t).2:=by
 unfold fm
 by_cases h:(bJ l t).2=0
 ·rw[decide_eq_true h,cond_true,h]
 ·rw[decide_eq_false h,cond_false]
theorem Pt (l:List cm) (t:al):(iD l t).2=(bJ l t).2:=by
 unfold iD
 by_cases h:(bJ l t).2=0
 ·rw[decide_eq_true h,cond_true,h]
 ·rw[decide_eq_false h,cond_false]
theorem Lt {l:List cm} {t:al} (h:(bJ l t).2=0):(fm (iD l t).1 t).2=14/\(iF (iD l t).1 t (fm l t).1).2=0/\fm (iF (iD l t).1 t (fm l t).1).1 t=((fm l t).1,0)/\(iF (iD l t).1 t (fm l t).1).1.length=l.length:=by
 obtain⟨hr,k,hk,pL,wP,gj⟩:=OU h
 obtain⟨h1,h2,h3⟩:=(sA l).1 hr
 have aK:=h2 _ gj
 obtain⟨c1,av,bg,bw⟩:=KK hr pL
 rw[wP]at av
 have ix:(iD l t).1=l.take k++l.drop (k+1):=by unfold iD;rw[hk];rfl
 have N9:(fm l t).1=(l.getD k ch).dv:=by unfold fm;rw[hk];rfl
 rw[ix,N9]
 obtain⟨m,hm⟩:∃m,m=l.take k++l.drop (k+1):=⟨_,rfl⟩
 rw[<-hm]at c1 av bg⊢
 have F4:cg t=true:=by rw[<-wP];exact aK.2.2.2.2
 have j5:=OT c1 av
 have hu:Cr ⟨t,(l.getD k ch).dv,[]⟩:=⟨aK.1,Nat.zero_le _,List.Pairwise.nil,λ_ h=>by simp at h,F4⟩
 have gf:m.length≠16:=by omega
 have NJ:iF m t (l.getD k ch).dv=(nq m ⟨t,(l.getD k ch).dv,[]⟩,0):=by
  unfold iF
  rw[c1,F4,aK.1]
  have:m.findIdx? (λu=>decide (u.tok=t))=none:=List.findIdx?_eq_none_iff.2 λu hu=>decide_eq_false (av u hu)
  rw[this]
  simp only[Bool.and_self,cond_true,Option.isSome_none,cond_false,decide_eq_false gf]
  rfl
 obtain⟨i1,i2,i3⟩:=Ox c1 hu av gf
 obtain⟨aD,q1,q2,q3⟩:=OS i1 ((i3 ⟨t,(l.getD k ch).dv,[]⟩).2 (.inl rfl)) rfl
 rw[NJ]
 refine⟨by rw[I3,j5],rfl,?_,by rw[i2];omega⟩
 unfold fm
 simp only at q1
 rw[q1]
 simp only[Int.toNat_natCast,q3]
 rfl
end Go.bD
namespace Go.bD
open Go Go.aZ
def CX (S:Nat->List (List Int)->List (List Int)->Prop) (K:List (List Int)->List (List Int)->Prop):Prop:=
 ∀z0:Int,0<=z0->z0<=aW->∀aj:Int,0<=aj->aj<=21->S 509 [[0],[117],[1786254407]] [[z0],[aj]]->
 ∀z2:Int,0<=z2->
 ∀z3:Int,(-2)<=z3->z3<=9223372036854775807->
 ∀z4:Int,0<=z4->z4<=9223372036854775807->z4=ah 20 [z0]->
 aG 22 [z0,0,z4]/\
 ∀z5:Int,0<=z5->z5<=aW->z5=ah 22 [z0,0,z4]->
 ∀ai:Int,0<=ai->ai<=aW->ai=ah 23 [0,35265235555321605]->
 ∀ao:Int,0<=ao->ao<=21->S 511 [[z5],[117],[ai]] [[ao]]->
 ∀aw:Int,0<=aw->aw<=aW->aw=ah 23 [0,35265235555321605]->
 aG 22 [z0,0,z4]/\
 ∀z9:Int,0<=z9->z9<=aW->z9=ah 22 [z0,0,z4]->
 aG 22 [aw,0,1]/\
 ∀ar:Int,0<=ar->ar<=aW->ar=ah 22 [aw,0,1]->
 aG 84 [z9,117,ar]/\
 ∀aI:Int,0<=aI->aI<=aW->∀z12:Int,0<=z12->z12<=21->S 513 [[z9],[117],[ar]] [[aI],[z12]]->
 ∀a8:Int,0<=a8->
 ∀bn:Int,(-2)<=bn->bn<=9223372036854775807->
 ∀cu:Int,0<=cu->cu<=9223372036854775807->cu=ah 20 [aI]->
 aG 22 [aI,0,cu]/\
 ∀dC:Int,0<=dC->dC<=aW->dC=ah 22 [aI,0,cu]->
 ∀dM:Int,0<=dM->dM<=aO->∀cP:Int,0<=cP->cP<=21->S 507 [[dC],[117]] [[dM],[cP]]->
 (((decide (aj=0))=true->
  (((decide (ao=13))=true->
   (((decide (z12=0))=true->
    (((decide (cP=0))=true->
     ∀eg:Int,0<=eg->eg<=1->eg=ah 4 [dM,1786254407]->
     (((decide (eg=1))=true->
      aG 22 [aI,0,cu]/\
      ∀z20:Int,0<=z20->z20<=aW->z20=ah 22 [aI,0,cu]->
      ∀z21:Int,0<=z21->z21<=aW->z21=ah 23 [0,35265235555321605]->
      ∀iK:Int,0<=iK->iK<=21->S 511 [[z20],[117],[z21]] [[iK]]->
      K [] [[(cond (decide (iK=0)) 1 0)]]
     )/\((decide (eg=1))=false->
      K [] [[(cond (false) 1 0)]]
     ))
    )/\((decide (cP=0))=false->
     K [] [[(cond (false) 1 0)]]
    ))
   )/\((decide (z12=0))=false->
    K [] [[(cond (false) 1 0)]]
   ))
  )/\((decide (ao=13))=false->
   K [] [[(cond (false) 1 0)]]
  ))
 )/\((decide (aj=0))=false->
  K [] [[(cond (false) 1 0)]]
 ))
def CO (S:Nat->List (List Int)->List (List Int)->Prop) (K:List (List Int)->List (List Int)->Prop):Prop:=
 ∀z0:Int,0<=z0->z0<=aW->∀aj:Int,0<=aj->aj<=aO->
 ∀z2:Int,0<=z2->
 ∀z3:Int,(-2)<=z3->z3<=9223372036854775807->
 ∀z4:Int,0<=z4->z4<=9223372036854775807->z4=ah 20 [z0]->
 ∀z5:Int,0<=z5->z5<=1->S 520 [] [[z5]]->
 ((((!(decide (z5=1))))=true->
  K [[z0],[aj]] [[(cond (false) 1 0)]]
 )/\(((!(decide (z5=1))))=false->
  aG 22 [z0,0,z4]/\
  ∀ai:Int,0<=ai->ai<=aW->ai=ah 22 [z0,0,z4]->
  ∀ao:Int,0<=ao->ao<=1->S 500 [[ai]] [[ao]]->
  (((decide (ao=1))=true->
   K [[z0],[aj]] [[(cond (true) 1 0)]]
  )/\((decide (ao=1))=false->
   aG 22 [z0,0,z4]/\
   ∀aw:Int,0<=aw->aw<=aW->aw=ah 22 [z0,0,z4]->
   ∀z9:Int,0<=z9->z9<=aO->∀ar:Int,0<=ar->ar<=21->S 507 [[aw],[aj]] [[z9],[ar]]->
   aG 22 [z0,0,z4]/\
   ∀aI:Int,0<=aI->aI<=aW->aI=ah 22 [z0,0,z4]->
   ∀z12:Int,0<=z12->z12<=aW->∀a8:Int,0<=a8->a8<=21->S 508 [[aI],[aj]] [[z12],[a8]]->
   ∀bn:Int,0<=bn->
   ∀cu:Int,(-2)<=cu->cu<=9223372036854775807->
   ∀dC:Int,0<=dC->dC<=9223372036854775807->dC=ah 20 [z12]->
   ((((!(decide (ar=a8))))=true->
    K [[z0],[aj]] [[(cond (false) 1 0)]]
   )/\(((!(decide (ar=a8))))=false->
    ((((!(decide (ar=0))))=true->
     K [[z0],[aj]] [[(cond (true) 1 0)]]
    )/\(((!(decide (ar=0))))=false->
     aG 22 [z12,0,dC]/\
     ∀dM:Int,0<=dM->dM<=aW->dM=ah 22 [z12,0,dC]->
     ∀cP:Int,0<=cP->cP<=aO->∀eg:Int,0<=eg->eg<=21->S 507 [[dM],[aj]] [[cP],[eg]]->
     aG 22 [z12,0,dC]/\
     ∀z20:Int,0<=z20->z20<=aW->z20=ah 22 [z12,0,dC]->
     ∀z21:Int,0<=z21->z21<=aW->∀iK:Int,0<=iK->iK<=21->S 509 [[z20],[aj],[z9]] [[z21],[iK]]->
     ∀I7:Int,0<=I7->
     ∀z24:Int,(-2)<=z24->z24<=9223372036854775807->
     ∀nG:Int,0<=nG->nG<=9223372036854775807->nG=ah 20 [z21]->
     aG 22 [z21,0,nG]/\
     ∀sM:Int,0<=sM->sM<=aW->sM=ah 22 [z21,0,nG]->
     ∀sN:Int,0<=sN->sN<=aO->∀z28:Int,0<=z28->z28<=21->S 507 [[sM],[aj]] [[sN],[z28]]->
     (((decide (eg=14))=true->
      (((decide (iK=0))=true->
       (((decide (z28=0))=true->
        ∀qD:Int,0<=qD->qD<=1->qD=ah 4 [sN,z9]->
        (((decide (qD=1))=true->
         K [[z0],[aj]] [[(cond (decide (nG=z4)) 1 0)]]
        )/\((decide (qD=1))=false->
         K [[z0],[aj]] [[(cond (false) 1 0)]]
        ))
       )/\((decide (z28=0))=false->
        K [[z0],[aj]] [[(cond (false) 1 0)]]
       ))
      )/\((decide (iK=0))=false->
       K [[z0],[aj]] [[(cond (false) 1 0)]]
      ))
     )/\((decide (eg=14))=false->
      K [[z0],[aj]] [[(cond (false) 1 0)]]
     ))
    ))
   ))
  ))
 ))
theorem Tn:aB 0=[]:=by unfold aB;rw[kg];rfl
theorem SI {z y n:Int} (hn:n=((ab z).length:Int)) (h:y=ah 22 [z,0,n]):ab y=ab z:=whole hn h
theorem Hk {z c:Int} (h:z=ah 23 [0,c]):ab z=[[c]]:=by
 rw[h]
 show ab (rc (ab 0++[[c]]))=_
 rw[dx,kg];rfl
def sr:al:=[112,114,105,118,97,99,121]
theorem Bx {z:Int} (h:z=ah 23 [0,35265235555321605]):aN z=[sr]:=by
 unfold aN
 rw[Hk h]
 have:J 35265235555321605=sr:=by decide
 show [J 35265235555321605]=_
 rw[this]
theorem Re:CX SB (fg SB [.d .bool] 520):=by
 intro z0 a0 a1 aj _ _ h1 z2 _ z3 _ _ z4 _ _ h4
 have s1:J 117=[116]:=by decide
 have s2:J 1786254407=[64,97,58,104]:=by decide
 have h1:(aB z0,aj)=iF (aB 0) (J 117) (J 1786254407):=h1
 rw[Tn,s1,s2]at h1
 have r1:iF [] [116] [64,97,58,104]=([⟨[116],[64,97,58,104],[]⟩],0):=by decide
 rw[r1]at h1
 injection h1 with e1 e2
 have h4:z4=((ab z0).length:Int):=h4
 have kL:aG 22 [z0,0,z4]:=⟨by omega,by omega,by omega⟩
 refine⟨kL,λz5 _ _ h5 ai _ _ h6 ao _ _ h7 aw _ _ cz=>⟨kL,λz9 _ _ bt=>?_⟩⟩
 have UM:(ab aw).length=1:=by rw[Hk cz];rfl
 refine⟨⟨by omega,by omega,by omega⟩,λar _ _ fM=>?_⟩
 have tg:ab ar=ab aw:=SI (by omega) fM
 refine⟨by show(ab ar).length<=100000000;rw[tg];omega,λaI _ _ z12 _ _ jU a8 _ bn _ _ cu _ _ iv=>?_⟩
 have iv:cu=((ab aI).length:Int):=iv
 have k1:aG 22 [aI,0,cu]:=⟨by omega,by omega,by omega⟩
 refine⟨k1,λdC _ _ gf dM _ _ cP _ _ lh=>?_⟩
 have h7:ao=nN (aB z5) (J 117) (aN ai):=h7
 rw[kk h4 h5,e1,s1,Bx h6]at h7
 have h7:ao=13:=by rw[h7];decide
 have jU:(aB aI,z12)=mN (aB z9) (J 117) (aN ar):=jU
 have t10:aN ar=[sr]:=by unfold aN;rw[tg];exact Bx cz
 rw[kk h4 bt,e1,s1,t10]at jU
 have r2:mN [⟨[116],[64,97,58,104],[]⟩] [116] [sr]=([⟨[116],[64,97,58,104],[sr]⟩],0):=by decide
 rw[r2]at jU
 injection jU with e3 dG
 have lh:(J dM,cP)=fm (aB dC) (J 117):=lh
 rw[kk iv gf,e3,s1]at lh
 have dK:fm [⟨[116],[64,97,58,104],[sr]⟩] [116]=([64,97,58,104],0):=by decide
 rw[dK]at lh
 injection lh with l6 mY
 subst h7 e2 dG mY
 have bad:∀{p:Prop},decide ((0:Int)=0)=false->p:=λh=>absurd h (by decide)
 refine⟨λ_=>⟨λ_=>⟨λ_=>⟨λ_ eg _ _ lj=>?_,λh=>bad h⟩,λh=>bad h⟩,λh=>absurd h (by decide)⟩,λh=>bad h⟩
 have lj:=ri lj
 rw[l6,s2]at lj
 refine⟨λ_=>⟨k1,λz20 _ _ n4 z21 _ _ Ly iK _ _ kB=>?_⟩,λh=>by rw[lj]at h;exact absurd h (by decide)⟩
 have kB:iK=nN (aB z20) (J 117) (aN z21):=kB
 rw[kk iv n4,e3,s1,Bx Ly]at kB
 have kB:iK=0:=by rw[kB];decide
 subst kB
 exact⟨⟨by decide,by decide,trivial⟩,rfl⟩
theorem Q2:CO SB (fg SB [.d .bool] 521):=by
 intro z0 a0 a1 aj b0 b1 z2 _ z3 _ _ z4 bL c1 h4 z5 _ _ h5
 have h5:z5=1:=h5
 subst h5
 have h4:z4=((ab z0).length:Int):=h4
 have kL:aG 22 [z0,0,z4]:=⟨by omega,by omega,by omega⟩
 have yf:∀{r:Int},r=1->fg SB [.d .bool] 521 [[z0],[aj]] [[r]]:=λ{r} h=>by subst h;exact⟨⟨by decide,by decide,trivial⟩,rfl⟩
 refine⟨λh=>absurd h (by decide),λ_=>⟨kL,λai _ _ h6 ao _ _ h7=>⟨λ_=>yf rfl,λ_=>⟨kL,λaw _ _ cz z9 xO s1 ar _ _ fM=>⟨kL,λaI _ _ fN z12 _ _ a8 _ _ pw bn _ cu _ _ dC _ _ gf=>?_⟩⟩⟩⟩⟩
 obtain⟨l,hl⟩:∃l,l=aB z0:=⟨_,rfl⟩
 obtain⟨t,ht⟩:∃t,t=J aj:=⟨_,rfl⟩
 have fM:(J z9,ar)=fm (aB aw) (J aj):=fM
 rw[kk h4 cz,<-hl,<-ht]at fM
 have pw:(aB z12,a8)=iD (aB aI) (J aj):=pw
 rw[kk h4 fN,<-hl,<-ht]at pw
 have tg:ar=(bJ l t).2:=by rw[<-I3,<-fM]
 have KU:a8=(bJ l t).2:=by rw[<-Pt,<-pw]
 have nW:J z9=(fm l t).1:=by rw[<-fM]
 have Ef:aB z12=(iD l t).1:=by rw[<-pw]
 have eq:decide (ar=a8)=true:=decide_eq_true (by rw[tg,KU])
 refine⟨λh=>by rw[eq]at h;exact absurd h (by decide),λ_=>⟨λ_=>yf rfl,λh0=>?_⟩⟩
 have hz:ar=0:=of_decide_eq_true (kr h0)
 have j5:(bJ l t).2=0:=by rw[<-tg];exact hz
 obtain⟨g1,g2,g3,g4⟩:=Lt j5
 have gf:dC=((ab z12).length:Int):=gf
 have k1:aG 22 [z12,0,dC]:=⟨by omega,by omega,by omega⟩
 refine⟨k1,λdM _ _ jV cP _ _ eg _ _ lj=>⟨k1,λz20 _ _ n4 z21 _ _ iK _ _ kB I7 _ z24 _ _ nG _ _ wh=>?_⟩⟩
 have lj:(J cP,eg)=fm (aB dM) (J aj):=lj
 rw[kk gf jV,Ef,<-ht]at lj
 have KV:eg=14:=by rw[<-g1,<-lj]
 have kB:(aB z21,iK)=iF (aB z20) (J aj) (J z9):=kB
 rw[kk gf n4,Ef,<-ht,nW]at kB
 have KX:iK=0:=by rw[<-g2,<-kB]
 have Eg:aB z21=(iF (iD l t).1 t (fm l t).1).1:=by rw[<-kB]
 have wh:nG=((ab z21).length:Int):=wh
 refine⟨⟨by omega,by omega,by omega⟩,λsM _ _ Lz sN _ _ z28 _ _ wi=>?_⟩
 have wi:(J sN,z28)=fm (aB sM) (J aj):=wi
 rw[kk wh Lz,Eg,<-ht,g3]at wi
 injection wi with KY KZ
 subst KV KX KZ
 have bad:∀{p:Prop} {a:Int},decide (a=a)=false->p:=λh=>by simp at h
 refine⟨λ_=>⟨λ_=>⟨λ_ qD _ _ rA=>?_,bad⟩,bad⟩,bad⟩
 have rA:=ri rA
 rw[KY,<-nW]at rA
 have rA:decide (qD=1)=true:=by rw[rA];exact decide_eq_true rfl
 refine⟨λ_=>yf ?_,λh=>by rw[rA]at h;cases h⟩
 have e:nG=z4:=by rw[wh,h4,<-ji,<-ji,Eg,g4,hl]
 rw[decide_eq_true e];rfl
end Go.bD
namespace Go.bD
open Go Go.aZ
end Go.bD
namespace Go.bD
open Go Go.aZ Go.Proofs
theorem S7:kn Tryd.prog [] om (eZ [] [oo]) mn mo [1] CK:=λ_ _=>by kernel_rfl
theorem Ta:kn Tryd.prog [] mm (eZ [] [oo]) Ph PE [1,1] CN:=λ_ _=>by kernel_rfl
theorem Th:kn Tryd.prog [] r9 (eZ [] []) Pm PI [1] CU:=λ_ _=>by kernel_rfl
theorem Ti:kn Tryd.prog [] sa (eZ [] []) Pn PJ [1] CV:=λ_ _=>by kernel_rfl
theorem Tg:kn Tryd.prog [] r8 (eZ [] []) Pl PH [1] CT:=λ_ _=>by kernel_rfl
theorem S9:kn Tryd.prog [] r4 (eZ [xw] [sa,r9,mm]) mn mo [1] CM:=λ_ _=>by kernel_rfl
theorem Tf:kn Tryd.prog [] r7 (eZ [] [om,r4,r8,mm]) mn mo [1] CS:=λ_ _=>by kernel_rfl
theorem Tj:kn Tryd.prog [] sb (eZ [] []) Po PK [1] CW:=λ_ _=>by kernel_rfl
theorem Tl:kn Tryd.prog [] oq (eZ [] [om,sb,mm,r7]) mn mo [1] CY:=λ_ _=>by kernel_rfl
theorem Td:kn Tryd.prog [] r5 (eZ [] []) Pj PF [1] CQ:=λ_ _=>by kernel_rfl
end Go.bD
namespace Go.bD
open Go Go.aZ Go.Proofs
theorem S8 (S K):jL sh PD S K [1] (cw qd.args) qd.res (qd.tree (jO []) Tryd.prog [] (eZ [] []) Pg 600 6)=CL S K:=by kernel_rfl
theorem S6:kn Tryd.prog [] r3 (eZ [] [oo]) mn mo [1] CJ:=λ_ _=>by kernel_rfl
theorem Tc:kn Tryd.prog [] ns (eZ [] [r5,r3]) mn mo [1] CP:=λ_ _=>by kernel_rfl
theorem S5 (S K):jL sh PC S K [1] (cw r0.args) r0.res (r0.tree (jO []) Tryd.prog [] (eZ [] [ns]) Pf 600 6)=CI S K:=by kernel_rfl
theorem S1 (S K):jL sh PA S K [1] (cw qb.args) qb.res (qb.tree (jO [r0]) Tryd.prog [] (eZ [] [oq]) Pd 600 6)=CE S K:=by kernel_rfl
theorem S4 (S K):jL sh PB S K [1,1] (cw qc.args) qc.res (qc.tree (jO []) Tryd.prog [] (eZ [] [wY]) Pe 600 6)=CH S K:=by kernel_rfl
theorem S3 (S K):jL sh mo S K [1,1] (cw ml.args) ml.res (ml.tree (jO [qb,qc]) Tryd.prog [] (eZ [] []) mn 600 6)=CG S K:=by kernel_rfl
theorem S2 (S K):jL sh mo S K [1,1] (cw nr.args) nr.res (nr.tree (jO [ml]) Tryd.prog [] (eZ [] []) mn 600 6)=CF S K:=by kernel_rfl
theorem Te (S K):jL sh PG S K [1,1] (cw r6.args) r6.res (r6.tree (jO []) Tryd.prog [] (eZ [] []) Pk 600 6)=CR S K:=by kernel_rfl
theorem S0 (S K):jL sh Pz S K [1,1,1] (cw qa.args) qa.res (qa.tree (jO [ml,r6]) Tryd.prog [] (eZ [] []) Pc 600 6)=CD S K:=by kernel_rfl
end Go.bD
namespace Go.bD
open Go Go.aZ Go.Proofs
theorem Tk (S K):jL sh mo S K [] (cw qe.args) qe.res (qe.tree (jO [mj,qa,oj,nr]) Tryd.prog [] (eZ [] []) mn 600 6)=CX S K:=by kernel_rfl
theorem Tb (S K):jL sh mo S K [1,1] (cw uv.args) uv.res (uv.tree (jO [qe,qd,nr,uu,mj]) Tryd.prog [] (eZ [] []) mn 600 6)=CO S K:=by kernel_rfl
end Go.bD
namespace Go.bD
open Go Go.aZ Go.Proofs
end Go.bD
namespace Go.bD
open Go Go.aZ Go.Proofs
abbrev cV (wb:World) (k:cj):Prop:=k.nL Tryd.prog wb (dc sh SB k.id)
abbrev yi (wb:World) (q:kp):Prop:=q.Ok Tryd.prog wb (dc sh SB q.c.id)
abbrev cM (wb:World) (k:cB):Prop:=k.Ok Tryd.prog wb (dc sh SB k.id)
theorem dv:Tryd.prog.follows .mixedOrders=true:=by kernel_rfl
theorem bY {α:Type} {p:α->Prop}:∀x∈([]:List α),p x:=λ_ h=>by cases h
theorem dj {α:Type} {p:α->Prop} {a:α} {l:List α} (h:p a) (hl:∀x∈l,p x):∀x∈a::l,p x:=λx hx=>by
 rcases List.mem_cons.1 hx with rfl|hx
 ·exact h
 ·exact hl x hx
abbrev eU (wb:World):Prop:=ey [] ⟨wb,wb,λ_=>False,λ_=>False,[]⟩
theorem p5 {a b:Int} (h:[[a]]=[[b]]):a=b:=by simpa using h
section
variable {wb:World} {lT:Nat->List (List Int)->List (List Int)->Prop} {aL:dp} {li:FuncId->Nat->Option dh} {n d:Nat} {cJ:Nat->List Nat} {lens:List Nat} {B:(Nat->List (List Int)->List (List Int)->Prop)->(List (List Int)->List (List Int)->Prop)->Prop}
theorem kP {c:cj} (bV:∀r ex ro,fr (dc sh lT) Tryd.prog [] ⟨wb,r,ex,ro,[]⟩ aL) (hg:eU wb) (hf:ru Tryd.prog c.f=true) (hu:gM c.args c.res (dc sh lT c.id)) (hl:lens=(sh c.id).1) (hd:ox c.res=(sh c.id).2)
 (e:∀S K,sX sh cJ S K lens (cN c.args) c.res (c.tree Tryd.prog [] aL li n d)=B S K) (hp:B lT (cC lT c.res c.id)):c.nL Tryd.prog wb (dc sh lT c.id):=
 cj.Ok.f (QD dv bV hg hf hu hl hd (by rw[e];exact hp))
theorem mu {c:cB} {eY:lS} (bV:∀r ex ro,fr (dc sh lT) Tryd.prog [] ⟨wb,r,ex,ro,[]⟩ aL) (hg:eU wb) (kE:∀(L:V->Env->Prop) (r:World) (ro:Nat->Prop),qG (dc sh lT) L ⟨wb,r,λ_=>False,ro,[]⟩ Tryd.prog eY) (hf:ru Tryd.prog c.f=true) (hl:lens=(sh c.id).1) (hd:qk c.res=(sh c.id).2)
 (e:∀S K,jL sh cJ S K lens (cw c.args) c.res (c.tree eY Tryd.prog [] aL li n d)=B S K) (hp:B lT (fg lT c.res c.id)):c.Ok Tryd.prog wb (dc sh lT c.id):=
 Kc dv bV hg kE hf hl hd (by rw[e];exact hp)
end
theorem RY {a0 a1 a2 b0 b1 b2:Int} (h0:J a0=J b0) (h1:J a1=J b1) (h2:a2=b2):fE [.str,.str,.bool] [a0,a1,a2]=fE [.str,.str,.bool] [b0,b1,b2]:=by
 show(.tuple #[.string (aF (J a0)),.string (aF (J a1)),.bool (decide (a2=1))]:Value)=(.tuple #[.string (aF (J b0)),.string (aF (J b1)),.bool (decide (b2=1))]:Value)
 rw[h0,h1,h2]
theorem qz {a0 b0:Int} (h0:a0=b0):fE [.bool] [a0]=fE [.bool] [b0]:=by
 show(.bool (decide (a0=1)):Value)=(.bool (decide (b0=1)):Value)
 rw[h0]
theorem xM {a0 b0:Int} (h0:J a0=J b0):fE [.str] [a0]=fE [.str] [b0]:=by
 show(.string (aF (J a0)):Value)=(.string (aF (J b0)):Value)
 rw[h0]
theorem TA {A R:List D} {spec:List Int->List Int->Prop} (hl:(cN A).length=2) (hr:(cN R).length=1) (hv:∀a b:Int,a=b->fE R [a]=fE R [b]) (h:∀z0 aj a b:Int,spec [z0,aj] [a]->spec [z0,aj] [b]->a=b):gM A R spec:=λzs rs kh hz h1 h2 h3 h4=>by
 match zs,rs,kh,(gD hz).trans hl,(gD h1).trans hr,(gD h2).trans hr,h3,h4 with
 |[z0,aj],[a],[b],_,_,_,h3,h4=>exact hv a b (h z0 aj a b h3 h4)
theorem xX {A R:List D} {spec:List Int->List Int->Prop} (hl:(cN A).length=1) (hr:(cN R).length=1) (hv:∀a b:Int,J a=J b->fE R [a]=fE R [b]) (h:∀z0 a b:Int,spec [z0] [a]->spec [z0] [b]->J a=J b):gM A R spec:=λzs rs kh hz h1 h2 h3 h4=>by
 match zs,rs,kh,(gD hz).trans hl,(gD h1).trans hr,(gD h2).trans hr,h3,h4 with
 |[z0],[a],[b],_,_,_,h3,h4=>exact hv a b (h z0 a b h3 h4)
theorem sK {A R:List D} {spec:List Int->List Int->Prop} (hl:(cN A).length=1) (hr:(cN R).length=1) (hv:∀a b:Int,a=b->fE R [a]=fE R [b]) (h:∀z0 a b:Int,spec [z0] [a]->spec [z0] [b]->a=b):gM A R spec:=λzs rs kh hz h1 h2 h3 h4=>by
 match zs,rs,kh,(gD hz).trans hl,(gD h1).trans hr,(gD h2).trans hr,h3,h4 with
 |[z0],[a],[b],_,_,_,h3,h4=>exact hv a b (h z0 a b h3 h4)
theorem Tp:gM om.args om.res (dc sh SB 126):=by
 intro zs rs kh hz hr Al h h'
 match zs,rs,kh,hz,hr,Al,h,h' with
 |[z0],[a0,a1,a2],[b0,b1,b2],_,_,_,h,h'=>
  have e:(J a0,J a1,a2)=(J b0,J b1,b2):=Eq.trans h (Eq.symm h')
  simp only[Prod.mk.injEq]at e
  exact RY e.1 e.2.1 e.2.2
theorem Qn {wb:World} (hg:eU wb) (tA:cV wb oo):cV wb om:=kP (λ_ _ _=>fu bY (dj tA bY)) hg (by kernel_rfl) Tp rfl rfl S7 QY
theorem Tr:gM mm.args mm.res (dc sh SB 65):=TA rfl rfl (λ_ _=>qz) λ_ _ _ _ h h'=>by first|exact Eq.trans h (Eq.symm h')|exact p5 (Eq.trans h (Eq.symm h'))
theorem Qr {wb:World} (hg:eU wb) (tA:cV wb oo):cV wb mm:=kP (λ_ _ _=>fu bY (dj tA bY)) hg (by kernel_rfl) Tr rfl rfl Ta Q1
theorem Tw:gM r9.args r9.res (dc sh SB 122):=xX rfl rfl (λ_ _=>xM) λ_ _ _ h h'=>Eq.trans h (Eq.symm h')
theorem Qy {wb:World} (hg:eU wb):cV wb r9:=kP (λ_ _ _=>fu bY bY) hg (by kernel_rfl) Tw rfl rfl Th Ra
theorem Tx:gM sa.args sa.res (dc sh SB 123):=xX rfl rfl (λ_ _=>xM) λ_ _ _ h h'=>Eq.trans h (Eq.symm h')
theorem Qz {wb:World} (hg:eU wb):cV wb sa:=kP (λ_ _ _=>fu bY bY) hg (by kernel_rfl) Tx rfl rfl Ti Rb
theorem Tv:gM r8.args r8.res (dc sh SB 124):=xX rfl rfl (λ_ _=>xM) λ_ _ _ h h'=>Eq.trans h (Eq.symm h')
theorem Qx {wb:World} (hg:eU wb):cV wb r8:=kP (λ_ _ _=>fu bY bY) hg (by kernel_rfl) Tv rfl rfl Tg Q9
theorem Tq:gM r4.args r4.res (dc sh SB 47):=sK rfl rfl (λ_ _=>qz) λ_ _ _ h h'=>by first|exact Eq.trans h (Eq.symm h')|exact p5 (Eq.trans h (Eq.symm h'))
theorem Qp {wb:World} (hg:eU wb) (LU:yi wb xw) (L5:cV wb sa) (L4:cV wb r9) (tB:cV wb mm):cV wb r4:=kP (λ_ _ _=>fu (dj LU bY) (dj L5 (dj L4 (dj tB bY)))) hg (by kernel_rfl) Tq rfl rfl S9 Q0
theorem Tu:gM r7.args r7.res (dc sh SB 27):=sK rfl rfl (λ_ _=>qz) λ_ _ _ h h'=>by first|exact Eq.trans h (Eq.symm h')|exact p5 (Eq.trans h (Eq.symm h'))
theorem Qw {wb:World} (hg:eU wb) (zv:cV wb om) (LX:cV wb r4) (L3:cV wb r8) (tB:cV wb mm):cV wb r7:=kP (λ_ _ _=>fu bY (dj zv (dj LX (dj L3 (dj tB bY))))) hg (by kernel_rfl) Tu rfl rfl Tf Q8
theorem Ty:gM sb.args sb.res (dc sh SB 202):=xX rfl rfl (λ_ _=>xM) λ_ _ _ h h'=>Eq.trans h (Eq.symm h')
theorem QA {wb:World} (hg:eU wb):cV wb sb:=kP (λ_ _ _=>fu bY bY) hg (by kernel_rfl) Ty rfl rfl Tj Rc
theorem Tz:gM oq.args oq.res (dc sh SB 200):=sK rfl rfl (λ_ _=>qz) λ_ _ _ h h'=>by first|exact Eq.trans h (Eq.symm h')|exact p5 (Eq.trans h (Eq.symm h'))
theorem QC {wb:World} (hg:eU wb) (zv:cV wb om) (L6:cV wb sb) (tB:cV wb mm) (L1:cV wb r7):cV wb oq:=kP (λ_ _ _=>fu bY (dj zv (dj L6 (dj tB (dj L1 bY))))) hg (by kernel_rfl) Tz rfl rfl Tl Rf
theorem Tt:gM r5.args r5.res (dc sh SB 400):=sK rfl rfl (λ_ _=>qz) λ_ _ _ h h'=>by first|exact Eq.trans h (Eq.symm h')|exact p5 (Eq.trans h (Eq.symm h'))
theorem Qu {wb:World} (hg:eU wb):cV wb r5:=kP (λ_ _ _=>fu bY bY) hg (by kernel_rfl) Tt rfl rfl Td Q6
theorem Qo {wb:World} (hg:eU wb):cM wb qd:=mu (λ_ _ _=>fu bY bY) hg (λ_ _ _=>(ld bY)) (by kernel_rfl) rfl rfl S8 QZ
theorem To:gM r3.args r3.res (dc sh SB 501):=sK rfl rfl (λ_ _=>qz) λ_ _ _ h h'=>by first|exact Eq.trans h (Eq.symm h')|exact p5 (Eq.trans h (Eq.symm h'))
theorem Qm {wb:World} (hg:eU wb) (tA:cV wb oo):cV wb r3:=kP (λ_ _ _=>fu bY (dj tA bY)) hg (by kernel_rfl) To rfl rfl S6 QW
theorem Ts:gM ns.args ns.res (dc sh SB 502):=sK rfl rfl (λ_ _=>qz) λ_ _ _ h h'=>by first|exact Eq.trans h (Eq.symm h')|exact p5 (Eq.trans h (Eq.symm h'))
theorem Qt {wb:World} (hg:eU wb) (LZ:cV wb r5) (LW:cV wb r3):cV wb ns:=kP (λ_ _ _=>fu bY (dj LZ (dj LW bY))) hg (by kernel_rfl) Ts rfl rfl Tc Q5
theorem Qj {wb:World} (hg:eU wb) (LY:cV wb ns):cM wb r0:=mu (λ_ _ _=>fu bY (dj LY bY)) hg (λ_ _ _=>(ld bY)) (by kernel_rfl) rfl rfl S5 QV
theorem Qf {wb:World} (hg:eU wb) (L7:cV wb oq) (LS:cM wb r0):cM wb qb:=mu (λ_ _ _=>fu bY (dj L7 bY)) hg (λ_ _ _=>(ld (dj LS bY))) (by kernel_rfl) rfl rfl S1 QR
theorem Qi {wb:World} (hg:eU wb) (LV:cV wb wY):cM wb qc:=mu (λ_ _ _=>fu bY (dj LV bY)) hg (λ_ _ _=>(ld bY)) (by kernel_rfl) rfl rfl S4 QU
theorem Qh {wb:World} (hg:eU wb) (LQ:cM wb qb) (LR:cM wb qc):cM wb ml:=mu (λ_ _ _=>fu bY bY) hg (λ_ _ _=>(ld (dj LQ (dj LR bY)))) (by kernel_rfl) rfl rfl S3 QT
theorem Qg {wb:World} (hg:eU wb) (zu:cM wb ml):cM wb nr:=mu (λ_ _ _=>fu bY bY) hg (λ_ _ _=>(ld (dj zu bY))) (by kernel_rfl) rfl rfl S2 QS
theorem Qv {wb:World} (hg:eU wb):cM wb r6:=mu (λ_ _ _=>fu bY bY) hg (λ_ _ _=>(ld bY)) (by kernel_rfl) rfl rfl Te Q7
theorem Qc {wb:World} (hg:eU wb) (zu:cM wb ml) (L0:cM wb r6):cM wb qa:=mu (λ_ _ _=>fu bY bY) hg (λ_ _ _=>(ld (dj zu (dj L0 bY)))) (by kernel_rfl) rfl rfl S0 QQ
theorem QB {wb:World} (hg:eU wb) (h_aReg:cM wb mj) (LP:cM wb qa) (LO:cM wb oj) (h_aWhose:cM wb nr):cM wb qe:=mu (λ_ _ _=>fu bY bY) hg (λ_ _ _=>(ld (dj h_aReg (dj LP (dj LO (dj h_aWhose bY)))))) (by kernel_rfl) rfl rfl Tk Re
theorem Qs {wb:World} (hg:eU wb) (h_u17alive:cM wb qe) (h_gt:cM wb qd) (h_aWhose:cM wb nr) (h_aLogout:cM wb uu) (h_aReg:cM wb mj):cM wb uv:=mu (λ_ _ _=>fu bY bY) hg (λ_ _ _=>(ld (dj h_u17alive (dj h_gt (dj h_aWhose (dj h_aLogout (dj h_aReg bY))))))) (by kernel_rfl) rfl rfl Tb Q2
end Go.bD
namespace Go.Proofs
open Go.Shelf Go.RowKit
shelf_lay Lays.n137 Nm 137 at Tryd as Tryd.O5
theorem Tryd.strings_IndexByte (s:ByteArray) (c:Int) (w:World):
 Calls Tryd.prog 86 #[.string s,.int .u8 c] w λe w'=>e= .returned (.int .i64 (Lib.indexByte s.data.toList c.toNat.toUInt8))/\w'=w:=Any.strings_IndexByte Tryd.O5 s c w
shelf_lay Lays.n144 Nm 144 at Tryd as Tryd.O6
theorem Tryd.strings_Contains (s sub:ByteArray) (m:Int) (w:World) (hs:s.size<4294967281) (hm:w.cell? ⟨0,0,none⟩=some (.int .i64 m)):
 Calls Tryd.prog 29 #[.string s,.string sub] w λe w'=>e= .returned (.bool (Lib.contains s.data.toList sub.data.toList))/\w'=w:=Any.strings_Contains Tryd.O6 s sub m w hs hm
end Go.Proofs
namespace Go.bD
open Go Go.aZ Go.Proofs Go.RowKit
theorem Qq {wb:World}:cV wb oo:=by
 intro zs hz
 obtain⟨rs,h1,h2,h3⟩:=Oo (wb:=wb) (f:=87) (id:=73) Tryd.func87 (by kernel_rfl) (by kernel_rfl) (by kernel_rfl) (by kernel_rfl) zs hz
 match zs,hz with
 |[s,c],hz=>
  refine⟨rs,h1,?_,h3⟩
  subst h2
  rfl
theorem KN (b:UInt8) (l:al):dd (b::l)=((b==46&&l.getD 0 0==46)||dd l):=by
 unfold dd
 rw[List.length_cons,List.range_succ_eq_map,List.any_cons,List.any_map]
 rfl
theorem D3:∀l:al,Lib.contains l [46,46]=dd l
 |[]=>rfl
 |b::l=>by
  have ih:=D3 l
  unfold Lib.contains at ih⊢
  rw[KN,<-ih]
  have sym:∀x:UInt8,((46:UInt8)==x)=(x==46):=λx=>by rw[Bool.eq_iff_iff,beq_iff_eq,beq_iff_eq];exact eq_comm
  have hp:([46,46]:al).isPrefixOf (b::l)=(b==46&&l.getD 0 0==46):=by
   cases l with
   |nil=>
    show((46:UInt8)==b&&false)=(b==46&&((0:UInt8)==46))
    rw[sym];rfl
   |cons c r=>
    show((46:UInt8)==b&&((46:UInt8)==c&&true))=(b==46&&c==46)
    rw[sym,sym,Bool.and_true]
  have he:Lib.index (b::l) [46,46]=if([46,46]:al).isPrefixOf (b::l)=true then 0 else if(Lib.index l [46,46]==-1)=true then-1 else Lib.index l [46,46]+1:=rfl
  rw[he,hp]
  cases(b==46&&l.getD 0 0==46)with
  |true=>rfl
  |false=>
   rw[if_neg (by decide),Bool.false_or]
   by_cases he:(Lib.index l [46,46]==-1)=true
   ·rw[if_pos he]
    have:=beq_iff_eq.1 he
    rw[this]
   ·rw[if_neg he]
    have he:¬Lib.index l [46,46]=-1:=λe=>he (beq_iff_eq.2 e)
    have:=Lib.index_ge [46,46] l
    rw[Bool.eq_iff_iff,decide_eq_true_eq,decide_eq_true_eq]
    omega
theorem Qk {wb:World} (hc:∃m,wb.cell? ⟨0,0,none⟩=some (.int .i64 m)) (h0:0<wb.heap.size):yi wb xw:=by
 intro zs hz hp
 match zs,hz with
 |[z],hz=>
  refine⟨[aS (dd (J z))],⟨(iq _).1,(iq _).2,trivial⟩,rfl,λw hw=> .inr ⟨enters (by kernel_rfl) _ _,?_⟩⟩
  obtain⟨m,hm⟩:=hc
  have nd:w.cell? ⟨0,0,none⟩=some (.int .i64 m):=by rw[hw.cell ⟨0,0,none⟩ h0];exact hm
  have hl:(J z).length<=4294967280:=hp
  refine(Tryd.strings_Contains (aF (J z)) (aF [46,46]) m w (by show(J z).toArray.size<_;simp;omega) nd).mono ?_
  rintro e w' ⟨rfl,rfl⟩
  refine⟨?_,World.Extends.refl _⟩
  have e1:(aF (J z)).data.toList=J z:=by simp[aF]
  have e2:(aF [46,46]).data.toList=[46,46]:=rfl
  rw[e1,e2,D3]
  show _=Ending.returned (Value.bool (decide (aS (dd (J z))=1)))
  rw[s3]
end Go.bD
namespace Go.bD
open Go Go.aZ Go.Proofs Go.RowKit
theorem Ql {wb:World}:cV wb wY:=by
 intro zs hz
 obtain⟨rs,h1,h2,h3⟩:=Kx (wb:=wb) (f:=72) (id:=510) Tryd.func72 (by kernel_rfl) (by kernel_rfl) (by kernel_rfl) (by kernel_rfl) zs hz
 match zs,hz with
 |[a,b],hz=>
  refine⟨rs,h1,?_,h3⟩
  subst h2
  show cmpL (J a) (J b)=cond (Op.bytesLess (J a) (J b)) (-1) (cond (decide (J a=J b)) 0 1)
  have hb:=yU (J a) (J b)
  have⟨h1,h2⟩:=DT (J a) (J b)
  cases hl:Op.bytesLess (J a) (J b)with
  |true=>exact h1.2 hl
  |false=>
   have n1:cmpL (J a) (J b)≠-1:=λh=>by rw[h1.1 h]at hl;cases hl
   by_cases h:J a=J b
   ·rw[decide_eq_true h];exact h2.2 h
   ·have n0:cmpL (J a) (J b)≠0:=λh'=>h (h2.1 h')
    rw[decide_eq_false h]
    show cmpL (J a) (J b)=1
    omega
end Go.bD
namespace Go.Proofs
open Go.RowKit Go.aZ
section
variable {P:Program}
theorem Sw {ops:Array Oper} {o:Oper} {a:Act} {w:World} {K:Act->World->Prop} {Q:Exit->Act->World->Prop} {E:Prop}
 (hg:o.guard=none) (s x:Operand) (t t':TypeId) (hop:o.op=Op.call {callee:=Callee.builtin Builtin.append,args:=#[s,x],argTypes:=#[t,t']}) (u v:Value) (hs:a.eval s=u) (hx:a.eval x=v) {r:Value} {w':World}
 (hr:(Builtin.append_ #[t,t'] o.type #[u,v]).run P w= .ok r w') (hK:K (a.put o.dst r) w'):if Region.wanted o (yielded ops a.tmps)=true then Oper.wp P o a w K Q else E:=by
 have hw:Region.wanted o (yielded ops a.tmps)=true:=by simp[Region.wanted,hg]
 rw[if_pos hw]
 unfold Oper.wp
 simp[execOp,hop,resolve,invoke,builtin,hs,hx,hr,Result.andThen]
 exact hK
theorem RR (w:World) (t e ty:TypeId) (z:Value) (ht:P.underlying t=some (.slice e)) (hv:∀w,(zeroValue e).run P w= .ok z w) (h1:∀v∈z.cells.toList,v.oneCell'=true) (g o n c:Nat) (hn:0<n) (cur:Array Value) (pk:TypeId) (hg:w.heap[g]?=some (.cells cur pk (0,0))) (j3:o+n*z.cells.size<=cur.size):
 (Builtin.clear_ #[t] ty #[.slice (some ⟨g,o,none⟩) n c]).run P w= .ok (.tuple #[]) (w.setRow g (cur.toList.take o++(Builtin.zeroCells z.cells n).toList++cur.toList.drop (o+n*z.cells.size)).toArray):=by
 have hzs:(Builtin.zeroCells z.cells n).toList.length=n*z.cells.size:=by rw[Array.length_toList,qE]
 have hst:=run_storeCells_at P g o pk (Builtin.zeroCells z.cells n).toList 0 cur w hg (by rw[hzs];omega) (λv hv'=>by
  simp only[Builtin.zeroCells]at hv'
  have hm:v∈z.cells.toList:=by
   simp at hv'
   obtain⟨k,c3,hk⟩:=hv'
   have hs:0<z.cells.size:=by
    rcases Nat.eq_zero_or_pos z.cells.size with h|h
    ·rw[h,Nat.mul_zero]at c3;omega
    ·exact h
   rw[getElem!_pos z.cells (k% z.cells.size) (Nat.mod_lt _ hs)]at hk
   rw[<-hk]
   exact Array.getElem_mem_toList _
  exact h1 v hm)
 rw[Nat.add_zero,hzs]at hst
 obtain⟨m,rfl⟩:∃m,n=m+1:=⟨n-1,by omega⟩
 simp[Builtin.clear_,run_underlying ht,hv,hst]
end
theorem mB (w:World) (g:Nat) (a:Array Value):eX w (w.setRow g a) (some g):=
 ⟨rfl,rfl,rfl,by simp[World.setRow],λk hk hne=>setRow_other w g k a (λe=>hne (by rw[e]))⟩
theorem Si (w:World) (g:Nat) (a b:Array Value):eX w ((w.drew.setRow g a).setRow g b) (some g):=by
 obtain⟨h1,h2,h3,h4,h5⟩:=mB w.drew g a
 obtain⟨k1,k2,k3,k4,lH⟩:=mB (w.drew.setRow g a) g b
 exact⟨k1.trans h1,k2.trans h2,k3.trans h3,Nat.le_trans h4 k4,λk hk hne=>(lH k (Nat.lt_of_lt_of_le hk h4) hne).trans (h5 k hk hne)⟩
set_option maxHeartbeats 4000000 in
set_option maxRecDepth 1000000 in
theorem Tryd.KP (g cap n i j:Nat) (cur:Array Value) (w:World) (hg:w.heap[g]?=some (.cells cur 39 (0,0))) (hsz:cur.size=cap*3) (hn:n<=cap) (bp:cap<=9223372036854775807) (iw:i<j) (hj:j<=n) (one:∀v∈(cur.toList.drop (j*3)).take ((n-j)*3),v.oneCell'=true):
 Calls Tryd.prog 20 #[.slice (some ⟨g,0,none⟩) n cap,.int .i64 i,.int .i64 j] w λe w'=>e= .returned (.slice (some ⟨g,0,none⟩) (i+(n-j)) cap)/\∃cur':Array Value,w'.heap[g]?=some (.cells cur' 39 (0,0))/\cur'.size=cap*3/\cur'.toList.take ((i+(n-j))*3)=cur.toList.take (i*3)++(cur.toList.drop (j*3)).take ((n-j)*3)/\eX w w' (some g):=by
 have Ut:i<=cap:=by omega
 have Uv:j<=cap:=by omega
 obtain⟨i0,eE,zU⟩:∃i0,Tryd.prog.info? 39=some i0/\i0.size=3:=⟨_,rfl,by kernel_rfl⟩
 obtain⟨news,hnews⟩:∃news,news=(cur.toList.drop (j*3)).take ((n-j)*3):=⟨_,rfl⟩
 have cI:cur.toList.length=cap*3:=by rw[Array.length_toList];exact hsz
 have hlen:news.length=(n-j)*3:=by rw[hnews,List.length_take,List.length_drop,cI];omega
 obtain⟨A,hA,mh⟩:∃A:Addr,(if cap=j then some (⟨g,0,none⟩:Addr)else some ⟨g,j*3,none⟩)=some A/\Hid (∀t u,news[t]?=some u->w.drew.cell? (A.add t)=some u):=by
  by_cases h:cap=j
  ·refine⟨⟨g,0,none⟩,by simp[h],λt u hu=>?_⟩
   have h0:news.length=0:=by rw[hlen];omega
   rw[List.length_eq_zero_iff.1 h0]at hu
   simp at hu
  ·refine⟨⟨g,j*3,none⟩,by simp[h],λt u hu=>?_⟩
   have ht:=(List.getElem?_eq_some_iff.1 hu).1
   rw[hlen]at ht
   rw[hnews,List.getElem?_take,if_pos ht,List.getElem?_drop]at hu
   rw[Addr.add_lit]
   show w.cell? _=_
   rw[Lib.cell_of_heap hg,<-Array.getElem?_toList];exact hu
 obtain⟨c1,hc1⟩:∃c1:Array Value,c1=(cur.toList.take (i*3)++news++cur.toList.drop (i*3+news.length)).toArray:=⟨_,rfl⟩
 have pE:c1.size=cap*3:=by rw[hc1];simp[hlen,cI];omega
 obtain⟨W1,hW1⟩:∃W1,W1=w.drew.setRow g c1:=⟨_,rfl⟩
 have hgd:w.drew.heap[g]?=some (.cells cur 39 (0,0)):=hg
 have ek:Hid (∀ty,(Builtin.append_ #[22,22] ty #[.slice (some ⟨g,0,none⟩) i cap,.slice (some A) (n-j) (cap-j)]).run Tryd.prog w.drew= .ok (.slice (some ⟨g,0,none⟩) (i+(n-j)) cap) W1):=λty=>by
  have:=sB (P:=Tryd.prog) w.drew 22 22 ty 39 i0 Tryd.underlying22 eE g i cap cur 39 hgd (.slice (some A) (n-j) (cap-j)) (n-j) news (Src.ofSlice _ Tryd.underlying22 A (n-j) (cap-j) news (by rw[zU];exact hlen) mh (λu hu=>by
   rw[hnews]at hu
   exact one u hu)) (by omega) (by rw[zU,hlen,hsz];omega)
  rw[this,hW1,hc1,zU]
 have hg1:W1.heap[g]?=some (.cells c1 39 (0,0)):=by rw[hW1];exact setRow_heap w.drew g _ _ _ _ hgd
 obtain⟨z,hz,gm,hz1⟩:∃z:Value,(∀w,(zeroValue 39).run Tryd.prog w= .ok z w)/\z.cells.size=3/\∀v∈z.cells.toList,v.oneCell'=true:=⟨_,Tryd.zeroValue39,by kernel_rfl,by decide⟩
 obtain⟨av,hc2⟩:∃av:Array Value,av=(c1.toList.take ((i+(n-j))*3)++(Builtin.zeroCells z.cells (n-(i+(n-j)))).toList++c1.toList.drop ((i+(n-j))*3+(n-(i+(n-j)))*z.cells.size)).toArray:=⟨_,rfl⟩
 obtain⟨W2,hW2⟩:∃W2,W2=W1.setRow g av:=⟨_,rfl⟩
 have Uo:∀ty,(Builtin.clear_ #[22] ty #[.slice (some ⟨g,(i+(n-j))*3,none⟩) (n-(i+(n-j))) (cap-(i+(n-j)))]).run Tryd.prog W1= .ok (.tuple #[]) W2:=λty=>by
  rw[RR W1 22 39 ty z Tryd.underlying22 hz hz1 g ((i+(n-j))*3) (n-(i+(n-j))) _ (by omega) c1 39 hg1 (by rw[gm,pE];omega),hW2,hc2]
 have hg2:W2.heap[g]?=some (.cells av 39 (0,0)):=by rw[hW2];exact setRow_heap W1 g _ _ _ _ hg1
 have zC:c1.toList.length=cap*3:=by rw[Array.length_toList];exact pE
 have fin:Hid (∃cur':Array Value,W2.heap[g]?=some (.cells cur' 39 (0,0))/\cur'.size=cap*3/\cur'.toList.take ((i+(n-j))*3)=cur.toList.take (i*3)++(cur.toList.drop (j*3)).take ((n-j)*3)/\eX w W2 (some g)):=by
  refine⟨av,hg2,?_,?_,?_⟩
  ·rw[hc2];simp[qE,gm,zC];omega
  ·rw[hc2]
   simp only
   rw[List.append_assoc,List.take_append_of_le_length (by rw[List.length_take,zC];omega),List.take_of_length_le (by rw[List.length_take];omega),hc1]
   simp only
   rw[List.take_append_of_le_length (by rw[List.length_append,List.length_take,hlen,cI];omega),List.take_of_length_le (by rw[List.length_append,List.length_take,hlen,cI];omega),hnews]
  ·rw[hW2,hW1];exact Si w g _ _
 clear hnews hlen mh hc1 pE hW1 hgd hg1 hz gm hz1 hc2 hW2 hg2 zC cI hg hsz one
 go_enter Tryd.func20,Tryd.ntmps20
 go_wp2_with fail
 go_region_law (refine Sw rfl (.tmp 22) (.tmp 25) 22 22 rfl (.slice (some ⟨g,0,none⟩) i cap) (.slice (some A) (n-j) (cap-j)) (by simp[Act.eval,Act.put]) (by simp[Act.eval,Act.put]) (ek.out _) ?_)
 go_wp2
 go_ret
 exact⟨rfl,fin.out⟩
end Go.Proofs
namespace Go.Proofs
open Go.RowKit Go.aZ
section
variable {P:Program}
theorem xK (w:World) (D2 R2 ty e:TypeId) (i:TypeInfo) (hu:P.underlying D2=some (.slice e)) (hi:P.info? e=some i) (g o vS KL:Nat) (a:Addr) (cr gK:Nat) (cur:Array Value) (t:TypeId) (cs:List Value)
 (hg:w.heap[g]?=some (.cells cur t (0,0))) (hn:cs.length=Nat.min cr vS*i.size) (mh:∀j v,cs[j]?=some v->w.cell? (a.add j)=some v) (j3:o+cs.length<=cur.size) (h1:∀v∈cs,v.oneCell'=true):
 (Builtin.copy_ #[D2,R2] ty #[.slice (some ⟨g,o,none⟩) vS KL,.slice (some a) cr gK]).run P w= .ok (goInt (Nat.min cr vS)) (w.setRow g (cur.toList.take o++cs++cur.toList.drop (o+cs.length)).toArray):=by
 have hst:=run_storeCells_at P g o t cs 0 cur w hg (by simpa using j3) h1
 rw[Nat.add_zero]at hst
 have hf:=run_firstCells_some (P:=P) w i.size (Nat.min cr vS) a cr gK cs hn mh
 simp[Builtin.copy_,run_underlying hu,Builtin.lenOf,sizeOf,typeInfo,hi,hf,hst]
theorem Iz {ops:Array Oper} {o:Oper} {a:Act} {w:World} {K:Act->World->Prop} {Q:Exit->Act->World->Prop} {E:Prop}
 (hg:o.guard=none) (s x:Operand) (t t':TypeId) (hop:o.op=Op.call {callee:=Callee.builtin Builtin.copy,args:=#[s,x],argTypes:=#[t,t']}) (u v:Value) (hs:a.eval s=u) (hx:a.eval x=v) {r:Value} {w':World}
 (hr:(Builtin.copy_ #[t,t'] o.type #[u,v]).run P w= .ok r w') (hK:K (a.put o.dst r) w'):if Region.wanted o (yielded ops a.tmps)=true then Oper.wp P o a w K Q else E:=by
 have hw:Region.wanted o (yielded ops a.tmps)=true:=by simp[Region.wanted,hg]
 rw[if_pos hw]
 unfold Oper.wp
 simp[execOp,hop,resolve,invoke,builtin,hs,hx,hr,Result.andThen]
 exact hK
theorem oL {w:World} {ops:Array Oper} {rest:List Oper} {o:Oper} {a:Act} {Q:Exit->Act->World->Prop} (hgd:o.guard=none) (s x:Operand) (t t':TypeId)
 (ho:o.op= .call {callee:= .builtin .append,args:=#[s,x],argTypes:=#[t,t']}) (u v:Value) (hs:a.eval s=u) (hx:a.eval x=v) {r:Value} {w':World}
 (hr:(Builtin.append_ #[t,t'] o.type #[u,v]).run P w= .ok r w') (h:wpList P ops Q rest (a.put o.dst r) w'):wpList P ops Q (o::rest) a w:=by
 refine wpList_plain hgd λK hK=>?_
 unfold Oper.wp
 simp[execOp,ho,resolve,invoke,builtin,hs,hx,hr,Result.andThen]
 exact hK _ _ h
end
set_option maxHeartbeats 4000000 in
set_option maxRecDepth 1000000 in
theorem Tryd.Gx (g n cap:Nat) (A:Addr) (vc:Nat) (r:Value) (w W1:World) (hn:n<=cap) (bp:cap<=9223372036854775807)
 (ek:∀ty,(Builtin.append_ #[22,22] ty #[.slice (some ⟨g,0,none⟩) n cap,.slice (some A) 1 vc]).run Tryd.prog w= .ok r W1):
 Calls Tryd.prog 24 #[.slice (some ⟨g,0,none⟩) n cap,.int .i64 n,.slice (some A) 1 vc] w λe w'=>e= .returned r/\w'=W1:=by
 obtain⟨B,hB⟩:∃B,(if cap=n then some (⟨g,0,none⟩:Addr)else some ⟨g,n*3,none⟩)=B:=⟨_,rfl⟩
 go_enter Tryd.func24,Tryd.ntmps24
 go_wp2_with (at_builtin;refine oL rfl (.tmp 23) (.tmp 24) 22 22 rfl _ _ rfl rfl (ek _) ?_)
 go_wp2
 all_goals (go_ret;exact⟨rfl,rfl⟩)
set_option maxHeartbeats 4000000 in
set_option maxRecDepth 1000000 in
theorem Tryd.insert_nil (A:Addr) (vc:Nat) (r:Value) (w W1:World)
 (ek:∀ty,(Builtin.append_ #[22,22] ty #[.slice none 0 0,.slice (some A) 1 vc]).run Tryd.prog w= .ok r W1):
 Calls Tryd.prog 24 #[.slice none 0 0,.int .i64 0,.slice (some A) 1 vc] w λe w'=>e= .returned r/\w'=W1:=by
 go_enter Tryd.func24,Tryd.ntmps24
 go_wp2_with (at_builtin;refine oL rfl (.tmp 23) (.tmp 24) 22 22 rfl _ _ rfl rfl (ek _) ?_)
 go_wp2
 all_goals (go_ret;exact⟨rfl,rfl⟩)
set_option maxHeartbeats 4000000 in
set_option maxRecDepth 1000000 in
theorem Tryd.OA (g n cap i G C:Nat) (A:Addr) (vc:Nat) (r1 r2:Value) (w W1 W2 W3:World) (bU:i<n) (hn:n<=cap) (hroom:cap<n+1) (hC:n+1<=C) (bX:n<=1073741824)
 (ek:∀ty,(Builtin.append_ #[22,3] ty #[.slice (some ⟨g,0,none⟩) i cap,.int .i64 ((n:Int)+1-(i:Int))]).run Tryd.prog w= .ok (.slice (some ⟨G,0,none⟩) (n+1) C) W1)
 (ma:∀ty,(Builtin.copy_ #[22,22] ty #[.slice (some ⟨G,i*3,none⟩) (n+1-i) (C-i),.slice (some A) 1 vc]).run Tryd.prog W1= .ok r1 W2)
 (pF:∀ty,(Builtin.copy_ #[22,22] ty #[.slice (some ⟨G,(i+1)*3,none⟩) (n+1-(i+1)) (C-(i+1)),.slice (some ⟨g,i*3,none⟩) (n-i) (cap-i)]).run Tryd.prog W2.drew= .ok r2 W3):
 Calls Tryd.prog 24 #[.slice (some ⟨g,0,none⟩) n cap,.int .i64 i,.slice (some A) 1 vc] w λe w'=>e= .returned (.slice (some ⟨G,0,none⟩) (n+1) C)/\w'=W3:=by
 have f1:¬cap=i:=by omega
 have f2:¬C=i:=by omega
 have f3:¬C=i+1:=by omega
 have f4:i<=cap:=by omega
 have f5:¬((i:Int)=(n:Int)):=by omega
 have f6:(cap:Int)<(n:Int)+1:=by omega
 have f7:i<=C:=by omega
 have f8:i+1<=C:=by omega
 have f9:((i:Int)+1).toNat=i+1:=by omega
 have f10:(0:Int)<=(i:Int)+1:=by omega
 have f11:(i:Int)+1<=(n:Int)+1:=by omega
 have f12:i<=n:=by omega
 have f13:IntKind.i64.wrap ((i:Int)+1)=(i:Int)+1:=by rw[IntKind.wrap_i64];omega
 go_enter Tryd.func24,Tryd.ntmps24
 go_wp2_with (first
  |(at_builtin;refine oL rfl (.tmp 34) (.tmp 39) 22 3 rfl _ _ rfl rfl (ek _) ?_)
  |(at_builtin;refine TG rfl (.tmp 43) (.tmp 44) 22 22 rfl _ _ rfl rfl (ma _) ?_))
 go_region_law (refine Iz rfl (.tmp 50) (.tmp 53) 22 22 rfl (.slice (some ⟨G,(i+1)*3,none⟩) (n+1-(i+1)) (C-(i+1))) (.slice (some ⟨g,i*3,none⟩) (n-i) (cap-i)) (by simp[Act.eval,Act.put]) (by simp[Act.eval,Act.put]) (pF _) ?_)
 go_wp2
 go_ret
 exact⟨rfl,rfl⟩
set_option maxHeartbeats 4000000 in
set_option maxRecDepth 1000000 in
theorem Tryd.OB (g n cap i:Nat) (A:Addr) (vc:Nat) (r1 r2:Value) (w W1 W2:World) (bU:i<n) (hn:n+1<=cap) (bX:n<=1073741824)
 (FV:(callFunc 38 #[.slice (some A) 1 vc,.slice (some ⟨g,(i+1)*3,none⟩) (n-i) (cap-(i+1))]).run Tryd.prog w= .ok (.value (.bool false)) w)
 (ma:∀ty,(Builtin.copy_ #[22,22] ty #[.slice (some ⟨g,(i+1)*3,none⟩) (n+1-(i+1)) (cap-(i+1)),.slice (some ⟨g,i*3,none⟩) (n+1-i) (cap-i)]).run Tryd.prog w.drew= .ok r1 W1)
 (pF:∀ty,(Builtin.copy_ #[22,22] ty #[.slice (some ⟨g,i*3,none⟩) (n+1-i) (cap-i),.slice (some A) 1 vc]).run Tryd.prog W1= .ok r2 W2):
 Calls Tryd.prog 24 #[.slice (some ⟨g,0,none⟩) n cap,.int .i64 i,.slice (some A) 1 vc] w λe w'=>e= .returned (.slice (some ⟨g,0,none⟩) (n+1) cap)/\w'=W2:=by
 have f1:¬cap=i:=by omega
 have f3:¬cap=i+1:=by omega
 have f4:i<=cap:=by omega
 have f5:¬((i:Int)=(n:Int)):=by omega
 have f6:¬(cap:Int)<(n:Int)+1:=by omega
 have f8:i+1<=cap:=by omega
 have f9:((i:Int)+1).toNat=i+1:=by omega
 have f10:(0:Int)<=(i:Int)+1:=by omega
 have f11:(i:Int)+1<=(n:Int)+1:=by omega
 have f12:i<=n:=by omega
 have f13:IntKind.i64.wrap ((i:Int)+1)=(i:Int)+1:=by rw[IntKind.wrap_i64];omega
 have f14:((n:Int)+1).toNat=n+1:=by omega
 have f15:(n:Int)+1<=(cap:Int):=by omega
 have f16:i<=n+1:=by omega
 have f17:(i:Int)<=(n:Int)+1:=by omega
 go_enter Tryd.func24,Tryd.ntmps24
 go_wp2
 go_region_law (refine Iz rfl (.tmp 73) (.tmp 76) 22 22 rfl (.slice (some ⟨g,(i+1)*3,none⟩) (n+1-(i+1)) (cap-(i+1))) (.slice (some ⟨g,i*3,none⟩) (n+1-i) (cap-i)) (by simp[Act.eval,Act.put]) (by simp[Act.eval,Act.put]) (ma _) ?_)
 go_wp2_with (at_builtin;refine TG rfl (.tmp 80) (.tmp 81) 22 22 rfl _ _ rfl rfl (pF _) ?_)
 go_wp2
 go_ret
 exact⟨rfl,rfl⟩
end Go.Proofs
namespace Go.bD
open Go Go.aZ Go.Proofs Go.RowKit
theorem uZ (w:World) (o:Obj) (own:Option Nat):eX w (w.drew.alloc o) own:=
 have h:=(World.Extends.refl w.drew).alloc o
 ⟨h.os,h.tape,h.output,h.size,λk hk _=>h.block k hk⟩
theorem eX.u6 {w w1 w2:World} {own:Option Nat} {g:Nat} (h:eX w w1 own) (h2:eX w1 w2 (some g)) (hg:own=some g∨w.heap.size<=g):eX w w2 own:=by
 obtain⟨a1,a2,a3,a4,a5⟩:=h
 obtain⟨b1,b2,b3,b4,o9⟩:=h2
 refine⟨b1.trans a1,b2.trans a2,b3.trans a3,Nat.le_trans a4 b4,λk hk hne=>?_⟩
 rw[o9 k (Nat.lt_of_lt_of_le hk a4) (λe=>?_),a5 k hk hne]
 cases e
 rcases hg with hg|hg
 ·exact hne hg
 ·omega
theorem eX.KS {w w1:World} {own:Option Nat} (h:eX w w1 own):eX w w1.drew own:=h
theorem RX {P:Program} (w:World) (u3 SK e:TypeId) (ht:P.underlying u3=some (.slice e)) (size:Nat) (hz:∀w,(Go.sizeOf e).run P w= .ok size w)
 (a b:Addr) (la ca lb cb:Nat) (hne:a.block≠b.block) (tc DI:Array Value) (u2 IF:TypeId) (Lf:Nat×Nat)
 (hA:w.heap[a.block]?=some (.cells tc u2 Lf)) (hB:w.heap[b.block]?=some (.cells DI IF (0,0))) (h0:tc.size≠0):
 (Extern.SlicesOverlaps.overlaps #[u3,u3] #[SK] #[.slice (some a) la ca,.slice (some b) lb cb]).run P w= .ok (.bool false) w:=by
 have Nn:(a.block != b.block)=true:=by simpa using hne
 have No:(a.block==b.block)=false:=by simpa using hne
 have F3:w.shape? a.block=some (u2,tc.size):=by unfold World.shape?;rw[hA]
 have wM:w.shape? b.block=some (IF,DI.size):=by unfold World.shape?;rw[hB]
 have MJ:∀o,w.frozen? ⟨b.block,o,none⟩=false:=λo=>by unfold World.frozen?;simp only[hB];simp
 have MK:w.frozen? b=false:=by unfold World.frozen?;simp only[hB];simp
 change Sem.run P (α:=Value) (do
  let some t:=(#[u3,u3]:Array TypeId)[0]?|stuck "slices.overlaps: no parameter types"
  let .slice elem<-underlying t|stuck "slices.overlaps: slice type expected"
  let size<-Go.sizeOf elem
  match(some a:Option Addr),(some b:Option Addr)with
  |some a,some b=>
   if la=0∨lb=0∨size=0 then pure (Value.bool false)
   else if a.block != b.block&&(<-frozen a)&&(<-frozen b)then unsupported .addressObserved
   else do
    if a.block != b.block then do
     noView a;noView b
     if<-mayBeOne a b then return Value.bool ((<-choose (.extern "sameAddr.stringBytes" 2))==1)
    pure (Value.bool (a.block==b.block&&a.off<b.off+lb*size&&b.off<a.off+la*size))
  |_,_=>pure (Value.bool false)) w=_
 by_cases hl:la=0∨lb=0∨size=0
 ·simp[run_underlying ht,hz,hl]
 ·obtain⟨OJ,M3⟩:∃k,tc.size=k+1:=⟨tc.size-1,by omega⟩
  rw[M3]at F3
  cases h1:w.frozen? a<;>cases h2:w.frozen? ⟨a.block,OJ+1,none⟩<;>simp[run_underlying ht,hz,hl,Nn,No,frozen,noView,viewAt,mayBeOne,stringish,shape,Sem.run,F3,wM,MJ,MK,h1,h2]
theorem RJ {α:Type} {cells eV L2 N rest:List α} {x y z:Nat} (h:cells=eV++L2++rest) (h1:eV.length=x) (hy:z<=cells.length) (hN:N=N) (hz:z=x+y):
 (cells.take z++L2++cells.drop (z+L2.length)).toArray.toList.take x++N++(cells.take z++L2++cells.drop (z+L2.length)).toArray.toList.drop (x+y)=eV++N++L2++cells.drop (z+L2.length):=by
 simp only
 have e1:(cells.take z++L2++cells.drop (z+L2.length)).take x=eV:=by
  rw[List.append_assoc,List.take_append_of_le_length (by rw[List.length_take];omega),List.take_take,Nat.min_eq_left (by omega),h,List.append_assoc,List.take_append_of_le_length (by omega),List.take_of_length_le (by omega)]
 have e2:(cells.take z++L2++cells.drop (z+L2.length)).drop (x+y)=L2++cells.drop (z+L2.length):=by
  rw[List.append_assoc,<-hz]
  have:(cells.take z).length=z:=by rw[List.length_take];omega
  conv=>lhs;arg 1;rw[<-this]
  rw[List.drop_left]
 rw[e1,e2]
 simp
theorem Lu {α:Type} {eV L2 N D:List α} {x y:Nat} (h1:eV.length=x) (hN:N.length=y):
 (eV++N++D).toArray.toList.take (x+y)++L2++(eV++N++D).toArray.toList.drop (x+y+L2.length)=eV++N++L2++(eV++N++D).toArray.toList.drop (x+y+L2.length):=by
 congr 2
 simp only
 rw[List.take_append_of_le_length (by rw[List.length_append];omega),List.take_of_length_le (by rw[List.length_append];omega)]
set_option maxHeartbeats 4000000 in
theorem Oz (p:Option Addr) (A:Addr) (vc:Nat) (r:Value) (w W1:World)
 (ek:∀ty,(Builtin.append_ #[22,22] ty #[.slice p 0 0,.slice (some A) 1 vc]).run Tryd.prog w= .ok r W1):
 Calls Tryd.prog 24 #[.slice p 0 0,.int .i64 0,.slice (some A) 1 vc] w λe w'=>e= .returned r/\w'=W1:=by
 go_enter Tryd.func24,Tryd.ntmps24
 go_wp2_with (at_builtin;refine oL rfl (.tmp 23) (.tmp 24) 22 22 rfl _ _ rfl rfl (ek _) ?_)
 go_wp2
 all_goals (go_ret;exact⟨rfl,rfl⟩)
theorem Oy (w:World) (v0:Value) (a n:Nat) (eV L2 N:List Value) (eA gH vc:Nat) (vK:Array Value) (u2:TypeId) (EI:Nat×Nat)
 (p1:a<=n) (bx:n+1<=1073741824) (fR:eV.length=a*3) (hl2:L2.length=(n-a)*3) (iX:N.length=3)
 (UQ:∀u∈eV,u.oneCell'=true) (Hj:∀u∈L2,u.oneCell'=true) (Bl:∀u∈N,u.oneCell'=true)
 (zP:w.heap[eA]?=some (.cells vK u2 EI)) (FX:∀(j:Nat) (u:Value),N[j]?=some u->vK[gH+j]?=some u)
 (ho:(∃p,v0= .slice p 0 0/\n=0)∨∃(g cap:Nat) (cells:Array Value) (rest:List Value),v0= .slice (some ⟨g,0,none⟩) n cap/\(n<=cap/\(cap:Int)<=9223372036854775807)/\w.heap[g]?=some (.cells cells 39 (0,0))/\cells.toList=eV++L2++rest/\cells.size=cap*3/\0<cap/\eA≠g):
 Calls Tryd.prog 24 #[v0,.int .i64 a,.slice (some ⟨eA,gH,none⟩) 1 vc] w λe w'=>eX w w' (ql v0)/\∃(G C:Nat) (cells:Array Value) (post:List Value),e= .returned (.slice (some ⟨G,0,none⟩) (n+1) C)/\w'.heap[G]?=some (.cells cells 39 (0,0))/\cells.toList=eV++N++L2++post/\n+1<=C/\(C:Int)<=9223372036854775807/\(ql v0=some G∨w.heap.size<=G):=by
 obtain⟨i0,eE,gU,z,pJ,uk,oc⟩:∃i0,Tryd.prog.info? 39=some i0/\i0.size=3/\∃z,i0.zero=some z/\z.cells.size=3/\i0.bytes<=131072:=⟨_,rfl,by kernel_rfl,_,rfl,by kernel_rfl,by decide+kernel⟩
 have Nh:eA<w.heap.size:=(Array.getElem?_eq_some_iff.1 zP).1
 have LA:vK.size≠0:=by
  have LJ:0<N.length:=by rw[iX];decide
  have:=FX 0 _ (List.getElem?_eq_getElem LJ)
  have:=(Array.getElem?_eq_some_iff.1 this).1
  omega
 have mh:∀w1:World,w1.heap[eA]?=w.heap[eA]?->∀j u,N[j]?=some u->w1.cell? ((⟨eA,gH,none⟩:Addr).add j)=some u:=λw1 h1 j u hu=>by
  rw[Addr.add_lit]
  have:=FX j u hu
  simp only[World.cell?,h1,zP,Option.isSome_none,Bool.false_eq_true,if_false]
  exact this
 have Ar:∀w1:World,w1.heap[eA]?=w.heap[eA]?->Src Tryd.prog i0.size 22 (.slice (some ⟨eA,gH,none⟩) 1 vc) 1 N w1:=λw1 h1=>
  Src.ofSlice w1 Tryd.underlying22 ⟨eA,gH,none⟩ 1 vc _ (by rw[iX,gU]) (mh w1 h1) Bl
 rcases ho with⟨p,hv0,h0⟩|⟨g,cap,cells,rest,hv0,⟨Mq,zE⟩,hg,jZ,hsz,Un,hne⟩
 ·
  have ha0:a=0:=by omega
  subst h0 ha0
  have m4:eV=[]:=List.eq_nil_of_length_eq_zero (by omega)
  have hL2:L2=[]:=List.eq_nil_of_length_eq_zero (by omega)
  subst m4 hL2
  have hC:=ps w (0+1) 0 39 (by omega)
  have ek:∀ty,(Builtin.append_ #[22,22] ty #[.slice p 0 0,.slice (some ⟨eA,gH,none⟩) 1 vc]).run Tryd.prog w=_:=λty=>
   run_append_grow_src w 22 22 ty 39 i0 z Tryd.underlying22 eE pJ p 0 0 [] (tj _ _ _ _) _ 1 _ (Ar w rfl) (by omega) (by omega) (growslice_fits (by omega) (by omega))
  rw[hv0]
  refine(Oz p ⟨eA,gH,none⟩ vc _ w _ ek).mono ?_
  rintro e w' ⟨rfl,rfl⟩
  exact⟨uZ w _ _,w.heap.size,grownCap w (0+1) 0 39,_,(Builtin.zeroCells z.cells (grownCap w (0+1) 0 39-(0+1))).toList,rfl,heap_alloc_new w.drew _,by simp,hC.1,by omega,.inr (Nat.le_refl _)⟩
 ·have cI:cells.toList.length=cap*3:=by rw[Array.length_toList];exact hsz
  have hown:ql v0=some g:=by
   obtain⟨c',rfl⟩:∃c',cap=c'+1:=⟨cap-1,by omega⟩
   rw[hv0];rfl
  have hlt:g<w.heap.size:=(Array.getElem?_eq_some_iff.1 hg).1
  have hl0:(eV++L2).length=n*3:=by rw[List.length_append,fR,hl2,<-Nat.add_mul];congr 1;omega
  have hcell:∀(w1:World) (o:Nat) (l:List Value) (pre post:List Value),w1.heap[g]?=w.heap[g]?->cells.toList=pre++l++post->pre.length=o->∀j u,l[j]?=some u->w1.cell? ((⟨g,o,none⟩:Addr).add j)=some u:=λw1 o l pre post h1 h2 h3 j u hu=>by
   rw[Addr.add_lit]
   simp only[World.cell?,h1,hg,Option.isSome_none,Bool.false_eq_true,if_false]
   have hlt:=(List.getElem?_eq_some_iff.1 hu).1
   rw[<-Array.getElem?_toList,h2,List.append_assoc,List.getElem?_append_right (by omega),List.getElem?_append_left (by omega),<-h3]
   rw[show pre.length+j-pre.length=j by omega];exact hu
  by_cases rE:a=n
  ·
   subst rE
   have hL2:L2=[]:=List.eq_nil_of_length_eq_zero (by rw[hl2];omega)
   subst hL2
   simp only[List.append_nil]at jZ hl0⊢
   by_cases hroom:a+1<=cap
   ·have ek:∀ty,(Builtin.append_ #[22,22] ty #[.slice (some ⟨g,0,none⟩) a cap,.slice (some ⟨eA,gH,none⟩) 1 vc]).run Tryd.prog w=_:=λty=>
     sB (P:=Tryd.prog) w 22 22 ty 39 i0 Tryd.underlying22 eE g a cap cells 39 hg _ 1 _ (Ar w rfl) hroom (by rw[gU,iX,hsz];omega)
    rw[hv0]
    refine(Tryd.Gx g a cap ⟨eA,gH,none⟩ vc _ w _ (by omega) (by omega) ek).mono ?_
    rintro e w' ⟨rfl,rfl⟩
    rw[<-hv0]
    refine⟨by rw[hown];exact mB w g _,g,cap,_,cells.toList.drop (a*3+3),rfl,setRow_heap w g _ _ _ _ hg,?_,hroom,zE,.inl hown⟩
    rw[gU,iX]
    simp only[jZ]
    rw[List.take_append_of_le_length (by omega),List.take_of_length_le (by omega)]
   ·have hC:=ps w (a+1) cap 39 (by omega)
    have ek:∀ty,(Builtin.append_ #[22,22] ty #[.slice (some ⟨g,0,none⟩) a cap,.slice (some ⟨eA,gH,none⟩) 1 vc]).run Tryd.prog w=_:=λty=>
     run_append_grow_src w 22 22 ty 39 i0 z Tryd.underlying22 eE pJ (some ⟨g,0,none⟩) a cap eV (run_firstCells_some w.drew i0.size a ⟨g,0,none⟩ a cap _ (by rw[fR,gU]) (hcell w.drew 0 _ [] rest rfl (by rw[jZ];rfl) rfl)) _ 1 _ (Ar w rfl) (by omega) (by omega) (growslice_fits (by omega) (by
      have:=Nat.mul_le_mul (show a+1<=1073741824 by omega) oc
      omega))
    rw[hv0]
    refine(Tryd.Gx g a cap ⟨eA,gH,none⟩ vc _ w _ (by omega) (by omega) ek).mono ?_
    rintro e w' ⟨rfl,rfl⟩
    rw[<-hv0]
    exact⟨uZ w _ _,w.heap.size,grownCap w (a+1) cap 39,_,(Builtin.zeroCells z.cells (grownCap w (a+1) cap 39-(a+1))).toList,rfl,heap_alloc_new w.drew _,by simp,hC.1,by omega,.inr (Nat.le_refl _)⟩
  ·have rE:a<n:=by omega
   by_cases hroom:n+1<=cap
   ·
    have hcs:cells.toList=eV++L2++rest:=jZ
    have ma:∀ty,(Builtin.copy_ #[22,22] ty #[.slice (some ⟨g,(a+1)*3,none⟩) (n+1-(a+1)) (cap-(a+1)),.slice (some ⟨g,a*3,none⟩) (n+1-a) (cap-a)]).run Tryd.prog w.drew=_:=λty=>
     xK w.drew 22 22 ty 39 i0 Tryd.underlying22 eE g ((a+1)*3) (n+1-(a+1)) (cap-(a+1)) ⟨g,a*3,none⟩ (n+1-a) (cap-a) cells 39 L2 hg
      (by rw[hl2,gU,show Nat.min (n+1-a) (n+1-(a+1))=n-a by show min _ _=_;omega]) (hcell w.drew (a*3) _ eV rest rfl hcs fR) (by rw[hl2,hsz];omega) Hj
    obtain⟨c1,hc1⟩:∃c1,c1=(cells.toList.take ((a+1)*3)++L2++cells.toList.drop ((a+1)*3+L2.length)).toArray:=⟨_,rfl⟩
    rw[<-hc1]at ma
    have hg1:(w.drew.setRow g c1).heap[g]?=some (.cells c1 39 (0,0)):=setRow_heap w.drew g _ _ _ _ hg
    have pE:c1.size=cap*3:=by
     rw[hc1];simp only[List.size_toArray,List.length_append,List.length_take,List.length_drop,cI,hl2];omega
    have pF:∀ty,(Builtin.copy_ #[22,22] ty #[.slice (some ⟨g,a*3,none⟩) (n+1-a) (cap-a),.slice (some ⟨eA,gH,none⟩) 1 vc]).run Tryd.prog (w.drew.setRow g c1)=_:=λty=>
     xK (w.drew.setRow g c1) 22 22 ty 39 i0 Tryd.underlying22 eE g (a*3) (n+1-a) (cap-a) ⟨eA,gH,none⟩ 1 vc c1 39 N hg1
      (by rw[iX,gU,show Nat.min 1 (n+1-a)=1 by show min _ _=_;omega]) (mh _ (setRow_other w.drew g eA c1 hne)) (by rw[iX,pE];omega) Bl
    have FV:(callFunc 38 #[.slice (some ⟨eA,gH,none⟩) 1 vc,.slice (some ⟨g,(a+1)*3,none⟩) (n-a) (cap-(a+1))]).run Tryd.prog w= .ok (.value (.bool false)) w:=by
     rw[run_callFunc_extern Tryd.func38 (by kernel_rfl) (by kernel_rfl) (by kernel_rfl) (e:=Extern.SlicesOverlaps.overlaps #[22,22] #[4]) (by kernel_rfl)]
     rw[RX w 22 4 39 Tryd.underlying22 i0.size (λw=>by simp[Go.sizeOf,typeInfo,eE]) ⟨eA,gH,none⟩ ⟨g,(a+1)*3,none⟩ 1 vc (n-a) (cap-(a+1)) hne vK cells u2 39 EI zP hg LA]
     rfl
    rw[hv0]
    refine(Tryd.OB g n cap a ⟨eA,gH,none⟩ vc _ _ w _ _ rE hroom (by omega) FV ma pF).mono ?_
    rintro e w' ⟨rfl,rfl⟩
    rw[<-hv0]
    refine⟨by rw[hown];exact eX.u6 (w:=w) (w1:=w.drew.setRow g c1) (mB w.drew g c1) (mB _ g _) (.inl rfl),g,cap,_,cells.toList.drop ((a+1)*3+L2.length),rfl,setRow_heap _ g _ _ _ _ hg1,?_,hroom,zE,.inl hown⟩
    simp only[iX]
    rw[hc1]
    exact RJ hcs fR (by simp only[cI];omega) rfl (by rw[Nat.succ_mul])
   ·
    have hka:a+(n+1-a)=n+1:=by omega
    have z7:((n:Int)+1-(a:Int))=((n+1-a:Nat):Int):=by omega
    have hC:=ps w (n+1) cap 39 (by omega)
    have wk:=λty=>Lib.run_append_grow_zeros (P:=Tryd.prog) w 22 3 ty 39 i0 z .i64 .i64 Tryd.underlying22 Tryd.underlying3 eE pJ (some ⟨g,0,none⟩) a cap eV
     (run_firstCells_some w.drew i0.size a ⟨g,0,none⟩ a cap _ (by rw[fR,gU]) (hcell w.drew 0 _ [] (L2++rest) rfl (by rw[jZ,List.nil_append,List.append_assoc]) rfl)) (n+1-a) (by omega) (by rw[gU];decide) (by omega) (by omega)
     (by
       have:=Nat.mul_le_mul (show n+1-a<=1073741824 by omega) oc
       omega)
     (growslice_fits (by omega) (by
       have:=Nat.mul_le_mul (show a+(n+1-a)<=1073741824 by omega) oc
       omega))
    rw[hka]at wk
    obtain⟨C,zl⟩:∃C,C=grownCap w (n+1) cap 39:=⟨_,rfl⟩
    rw[<-zl]at wk hC
    obtain⟨bL,hc0⟩:∃bL:Array Value,bL=eV.toArray++Builtin.zeroCells z.cells (n+1-a)++Builtin.zeroCells z.cells (C-(n+1)):=⟨_,rfl⟩
    rw[<-hc0,<-z7]at wk
    have Fh:bL.size=C*3:=by
     rw[hc0];simp only[Array.size_append,List.size_toArray,fR,qE,uk];omega
    have Mp:bL.toList.take (a*3)=eV:=by
     rw[hc0,Array.toList_append,Array.toList_append,List.append_assoc,List.take_append_of_le_length (by simp only[fR];omega),List.take_of_length_le (by simp only[fR];omega)]
    have EW:(w.drew.alloc (.cells bL 39)).heap[w.heap.size]?=some (.cells bL 39 (0,0)):=heap_alloc_new w.drew _
    have hold:∀k:Nat,k<w.heap.size->(w.drew.alloc (.cells bL 39)).heap[k]?=w.heap[k]?:=λk hk=>((World.Extends.refl w.drew).alloc _).block k hk
    have ma:∀ty,(Builtin.copy_ #[22,22] ty #[.slice (some ⟨w.heap.size,a*3,none⟩) (n+1-a) (C-a),.slice (some ⟨eA,gH,none⟩) 1 vc]).run Tryd.prog (w.drew.alloc (.cells bL 39))=_:=λty=>
     xK _ 22 22 ty 39 i0 Tryd.underlying22 eE w.heap.size (a*3) (n+1-a) (C-a) ⟨eA,gH,none⟩ 1 vc bL 39 N EW
      (by rw[iX,gU,show Nat.min 1 (n+1-a)=1 by show min _ _=_;omega]) (mh _ (hold eA Nh)) (by rw[iX,Fh];omega) Bl
    obtain⟨c1,hc1⟩:∃c1,c1=(bL.toList.take (a*3)++N++bL.toList.drop (a*3+N.length)).toArray:=⟨_,rfl⟩
    rw[<-hc1]at ma
    have pE:c1.size=C*3:=by
     rw[hc1];simp only[List.size_toArray,List.length_append,List.length_take,List.length_drop,Array.length_toList,Fh,iX];omega
    obtain⟨W2,hW2⟩:∃W2,W2=(w.drew.alloc (.cells bL 39)).setRow w.heap.size c1:=⟨_,rfl⟩
    have zn:W2.heap[w.heap.size]?=some (.cells c1 39 (0,0)):=by rw[hW2];exact setRow_heap _ _ _ _ _ _ EW
    have Nw:W2.drew.heap[g]?=w.heap[g]?:=by
     rw[hW2]
     show((w.drew.alloc (.cells bL 39)).setRow w.heap.size c1).heap[g]?=_
     rw[setRow_other _ _ _ _ (by omega),hold g hlt]
    have pF:∀ty,(Builtin.copy_ #[22,22] ty #[.slice (some ⟨w.heap.size,(a+1)*3,none⟩) (n+1-(a+1)) (C-(a+1)),.slice (some ⟨g,a*3,none⟩) (n-a) (cap-a)]).run Tryd.prog W2.drew=_:=λty=>
     xK W2.drew 22 22 ty 39 i0 Tryd.underlying22 eE w.heap.size ((a+1)*3) (n+1-(a+1)) (C-(a+1)) ⟨g,a*3,none⟩ (n-a) (cap-a) c1 39 L2 zn
      (by rw[hl2,gU,show Nat.min (n-a) (n+1-(a+1))=n-a by show min _ _=_;omega]) (hcell W2.drew (a*3) _ eV rest Nw jZ fR) (by rw[hl2,pE];omega) Hj
    rw[<-hW2]at ma
    rw[hv0]
    refine(Tryd.OA g n cap a w.heap.size C ⟨eA,gH,none⟩ vc _ _ w _ W2 _ rE Mq (by omega) hC.1 (by omega) wk ma pF).mono ?_
    rintro e w' ⟨rfl,rfl⟩
    rw[<-hv0]
    refine⟨?_,w.heap.size,C,_,c1.toList.drop ((a+1)*3+L2.length),rfl,setRow_heap _ _ _ _ _ _ zn,?_,hC.1,by omega,.inr (Nat.le_refl _)⟩
    ·rw[hW2]
     have s1:=eX.u6 (uZ w (.cells bL 39) (ql v0)) (mB _ w.heap.size c1) (.inr (Nat.le_refl _))
     exact eX.u6 (eX.KS s1) (mB _ w.heap.size _) (.inr (Nat.le_refl _))
    ·simp only
     rw[hc1,iX]
     simp only
     rw[Mp,Nat.succ_mul]
     exact Lu fR iX
end Go.bD
namespace Go.bD
open Go Go.aZ Go.Proofs Go.RowKit
def x9 (w w':World) (n:Nat) (vs:List Value) (x:Value):Prop:=
 (n=0/\∃p,x= .slice p 0 0)∨(0<n/\∃(g C:Nat) (cells:Array Value) (rest:List Value),x= .slice (some ⟨g,0,none⟩) n C/\w.heap.size<=g/\w'.heap[g]?=some (.cells cells 39 (0,0))/\cells.toList=vs++rest/\cells.size=C*3/\n<=C/\(C:Int)<=9223372036854775807)
set_option maxHeartbeats 4000000 in
theorem Kv (w:World):Calls Tryd.prog 19 #[.slice none 0 0] w λe w'=>e= .returned (.slice none 0 0)/\w'=w:=by
 have h0:=BU w Tryd.underlying22 none 0 0
 go_enter Tryd.func19,Tryd.ntmps19
 go_wp2
 all_goals (go_ret;exact⟨rfl,rfl⟩)
set_option maxHeartbeats 4000000 in
theorem DS (w:World) (a:Addr) (n c:Nat) (r:Value) (W1:World)
 (ek:∀ty,(Builtin.append_ #[22,22] ty #[.slice (some ⟨w.heap.size,0,none⟩) 0 0,.slice (some a) n c]).run Tryd.prog (w.alloc (.cells #[] 39))= .ok r W1):
 Calls Tryd.prog 19 #[.slice (some a) n c] w λe w'=>e= .returned r/\w'=W1:=by
 have h0:=BU w Tryd.underlying22 (some a) n c
 go_enter Tryd.func19,Tryd.ntmps19
 go_wp2_with (at_builtin;refine oL rfl (.tmp 5) (.tmp 6) 22 22 rfl _ _ rfl rfl (ek _) ?_)
 go_wp2
 all_goals (go_ret;exact⟨rfl,rfl⟩)
theorem Sh (w:World) (o:Obj) (own:Option Nat):eX w (w.alloc o) own:=
 have h:=(World.Extends.refl w).alloc o
 ⟨h.os,h.tape,h.output,h.size,λk hk _=>h.block k hk⟩
theorem yT (w:World) (v:Value) (n:Nat) (vs:List Value) (hn:n<=1073741824) (hl:vs.length=n*3) (one:∀u∈vs,u.oneCell'=true)
 (hv:(∃p,v= .slice p 0 0/\n=0)∨∃(a:Addr) (c:Nat),v= .slice (some a) n c/\∀(j:Nat) (u:Value),vs[j]?=some u->(a.add j).block<w.heap.size/\w.cell? (a.add j)=some u):
 Calls Tryd.prog 19 #[v] w λe w'=>w.Extends w'/\∃x,e= .returned x/\x9 w w' n vs x:=by
 obtain⟨i0,eE,gU,z,pJ,uk,oc⟩:∃i0,Tryd.prog.info? 39=some i0/\i0.size=3/\∃z,i0.zero=some z/\z.cells.size=3/\i0.bytes<=131072:=⟨_,rfl,by kernel_rfl,_,rfl,by kernel_rfl,by decide+kernel⟩
 have main:∀(a:Addr) (c:Nat),v= .slice (some a) n c->(∀(j:Nat) (u:Value),vs[j]?=some u->(a.add j).block<w.heap.size/\w.cell? (a.add j)=some u)->Calls Tryd.prog 19 #[v] w λe w'=>w.Extends w'/\∃x,e= .returned x/\x9 w w' n vs x:=λa c hv hc=>by
  subst hv
  have hg0:(w.alloc (.cells #[] 39)).heap[w.heap.size]?=some (.cells #[] 39 (0,0)):=heap_alloc_new w _
  by_cases h0:n=0
  ·subst h0
   have hz:vs=[]:=List.eq_nil_of_length_eq_zero (by omega)
   subst hz
   have ek:∀ty,(Builtin.append_ #[22,22] ty #[.slice (some ⟨w.heap.size,0,none⟩) 0 0,.slice (some a) 0 c]).run Tryd.prog (w.alloc (.cells #[] 39))=_:=λty=>
    sB (P:=Tryd.prog) _ 22 22 ty 39 i0 Tryd.underlying22 eE w.heap.size 0 0 #[] 39 hg0 _ 0 [] (Src.Bi _ Tryd.underlying22 (some a) c) (by omega) (by simp)
   refine(DS w a 0 c _ _ ek).mono ?_
   rintro e w' ⟨rfl,rfl⟩
   exact⟨(eX.u6 (Sh w (.cells #[] 39) none) (mB _ w.heap.size _) (.inr (Nat.le_refl _))).ext,_,rfl,.inl ⟨rfl,_,rfl⟩⟩
  ·have mh:Src Tryd.prog i0.size 22 (.slice (some a) n c) n vs (w.alloc (.cells #[] 39)):=
    Src.ofSlice _ Tryd.underlying22 a n c vs (by rw[hl,gU]) (λj u hu=>by
     obtain⟨h1,h2⟩:=hc j u hu
     rw[((World.Extends.refl w).alloc (.cells #[] 39)).cell _ h1];exact h2) one
   have hC:=ps (w.alloc (.cells #[] 39)) (0+n) 0 39 (by omega)
   have ek:∀ty,(Builtin.append_ #[22,22] ty #[.slice (some ⟨w.heap.size,0,none⟩) 0 0,.slice (some a) n c]).run Tryd.prog (w.alloc (.cells #[] 39))=_:=λty=>
    run_append_grow_src _ 22 22 ty 39 i0 z Tryd.underlying22 eE pJ (some ⟨w.heap.size,0,none⟩) 0 0 [] (tj _ _ _ _) _ n vs mh (by omega) (by omega) (growslice_fits (by omega) (by
     have:=Nat.mul_le_mul (show 0+n<=1073741824 by omega) oc
     omega))
   refine(DS w a n c _ _ ek).mono ?_
   rintro e w' ⟨rfl,rfl⟩
   have hx:w.Extends (w.alloc (.cells #[] 39)):=(World.Extends.refl w).alloc _
   refine⟨hx.trans (uZ _ _ none).ext,_,rfl,.inr ⟨by omega,(w.alloc (.cells #[] 39)).heap.size,grownCap (w.alloc (.cells #[] 39)) (0+n) 0 39,_,(Builtin.zeroCells z.cells (grownCap (w.alloc (.cells #[] 39)) (0+n) 0 39-(0+n))).toList,by rw[Nat.zero_add],hx.size,heap_alloc_new (w.alloc (.cells #[] 39)).drew _,by simp,?_,by have:=hC.1;omega,by omega⟩⟩
   simp only[Array.size_append,List.size_toArray,List.nil_append,hl,qE,uk]
   have:=hC.1
   omega
 rcases hv with⟨p,hv,h0⟩|⟨a,c,hv,hc⟩
 ·cases p with
  |none=>
   subst hv
   refine(Kv w).mono ?_
   rintro e w' ⟨rfl,rfl⟩
   exact⟨World.Extends.refl _,_,rfl,.inl ⟨h0,none,rfl⟩⟩
  |some a=>
   refine main a 0 (by rw[hv,h0]) λj u hu=>?_
   have hz:vs=[]:=List.eq_nil_of_length_eq_zero (by omega)
   rw[hz]at hu;simp at hu
 ·exact main a c hv hc
end Go.bD
namespace Go.bD
open Go Go.aZ Go.Proofs Go.RowKit
theorem rk {w w2 w3:World} {G:Nat} (h:w.Extends w2) (h2:eX w2 w3 (some G)) (hG:w.heap.size<=G):w.Extends w3:=
 (eX.u6 (w:=w) (w1:=w2) (own:=none) ⟨h.os,h.tape,h.output,h.size,λk hk _=>h.block k hk⟩ h2 (.inr hG)).ext
set_option maxHeartbeats 4000000 in
theorem Pu (v0 v1:Value) (w:World) (i dH:Int) (he:¬dH=0) (hk:Calls Tryd.prog 12 #[v0,v1] w λe w1=>w.Extends w1/\e= .returned (.tuple #[.int .i64 i,.int .i64 dH])):
 Calls Tryd.prog 8 #[v0,v1] w λe w1=>w.Extends w1/\e= .returned (.tuple #[v0,.int .i64 dH]):=by
 go_enter Tryd.func8,Tryd.ntmps8
 go_wp2_with (go_at_call 12;refine hk.mono ?_)
 rintro e w1 ⟨hx,rfl⟩
 go_wp2
 all_goals (go_ret2;exact⟨hx,rfl⟩)
set_option maxHeartbeats 4000000 in
theorem Pv (v0 v1:Value) (w:World) (i:Nat) (hi:i<=1073741824) (D Q:World->Value->Prop) (hk:Calls Tryd.prog 12 #[v0,v1] w λe w1=>w.Extends w1/\e= .returned (.tuple #[.int .i64 i,.int .i64 0]))
 (hc:∀w1,w.Extends w1->Calls Tryd.prog 19 #[v0] w1 λe w2=>∃x,e= .returned x/\D w2 x)
 (hd:∀w2 x,D w2 x->Calls Tryd.prog 20 #[x,.int .i64 i,.int .i64 ((i:Int)+1)] w2 λe w3=>∃y,e= .returned y/\Q w3 y):
 Calls Tryd.prog 8 #[v0,v1] w λe w'=>∃y,e= .returned (.tuple #[y,.int .i64 0])/\Q w' y:=by
 have f13:IntKind.i64.wrap ((i:Int)+1)=(i:Int)+1:=by rw[IntKind.wrap_i64];omega
 go_enter Tryd.func8,Tryd.ntmps8
 go_wp2_with (go_at_call 12;refine hk.mono ?_)
 rintro e w1 ⟨hx,rfl⟩
 go_wp2_with (go_at_call 19;refine(hc _ hx).mono ?_)
 rintro e w2 ⟨x,rfl,hD⟩
 go_wp2_with (go_at_call 20;refine(hd _ _ hD).mono ?_)
 rintro e w3 ⟨y,rfl,hQ⟩
 go_wp2
 go_ret2
 exact⟨y,rfl,hQ⟩
set_option maxHeartbeats 4000000 in
theorem Rw (v0 v1 v2:Value) (w:World) (b1 b2 b3:Bool) (hb:(b1&&(b2&&b3))=false)
 (hR:Calls Tryd.prog 21 #[v0] w λe w1=>w.Extends w1/\e= .returned (.bool b1))
 (jt:∀w1,w.Extends w1->Calls Tryd.prog 15 #[v1] w1 λe w2=>w.Extends w2/\e= .returned (.bool b2))
 (hU:∀w1,w.Extends w1->Calls Tryd.prog 22 #[v2] w1 λe w2=>w.Extends w2/\e= .returned (.bool b3)):
 Calls Tryd.prog 9 #[v0,v1,v2] w λe w1=>w.Extends w1/\e= .returned (.tuple #[v0,.int .i64 1]):=by
 cases b1 with
 |false=>
  go_enter Tryd.func9,Tryd.ntmps9
  go_wp2_with (go_at_call 21;refine hR.mono ?_)
  rintro e w1 ⟨hx,rfl⟩
  go_wp2
  go_ret2
  exact⟨hx,rfl⟩
 |true=>
  cases b2 with
  |false=>
   go_enter Tryd.func9,Tryd.ntmps9
   go_wp2_with (go_at_call 21;refine hR.mono ?_)
   rintro e w1 ⟨hx,rfl⟩
   go_wp2_with (go_at_call 15;refine(jt _ hx).mono ?_)
   rintro e w2 ⟨hx2,rfl⟩
   go_wp2
   go_ret2
   exact⟨hx2,rfl⟩
  |true=>
   have:b3=false:=by simpa using hb
   subst this
   go_enter Tryd.func9,Tryd.ntmps9
   go_wp2_with (go_at_call 21;refine hR.mono ?_)
   rintro e w1 ⟨hx,rfl⟩
   go_wp2_with (go_at_call 15;refine(jt _ hx).mono ?_)
   rintro e w2 ⟨hx2,rfl⟩
   go_wp2_with (go_at_call 22;refine(hU _ hx2).mono ?_)
   rintro e w3 ⟨hx3,rfl⟩
   go_wp2
   go_ret2
   exact⟨hx3,rfl⟩
set_option maxHeartbeats 4000000 in
theorem Ry (v0 v1 v2:Value) (w:World) (i:Int)
 (hR:Calls Tryd.prog 21 #[v0] w λe w1=>w.Extends w1/\e= .returned (.bool true))
 (jt:∀w1,w.Extends w1->Calls Tryd.prog 15 #[v1] w1 λe w2=>w.Extends w2/\e= .returned (.bool true))
 (hU:∀w1,w.Extends w1->Calls Tryd.prog 22 #[v2] w1 λe w2=>w.Extends w2/\e= .returned (.bool true))
 (hL:∀w1,w.Extends w1->Calls Tryd.prog 23 #[v0,v1] w1 λe w2=>w.Extends w2/\e= .returned (.tuple #[.int .i64 i,.bool true])):
 Calls Tryd.prog 9 #[v0,v1,v2] w λe w1=>w.Extends w1/\e= .returned (.tuple #[v0,.int .i64 6]):=by
 go_enter Tryd.func9,Tryd.ntmps9
 go_wp2_with (go_at_call 21;refine hR.mono ?_)
 rintro e w1 ⟨hx,rfl⟩
 go_wp2_with (go_at_call 15;refine(jt _ hx).mono ?_)
 rintro e w2 ⟨hx2,rfl⟩
 go_wp2_with (go_at_call 22;refine(hU _ hx2).mono ?_)
 rintro e w3 ⟨hx3,rfl⟩
 go_wp2_with (go_at_call 23;refine(hL _ hx3).mono ?_)
 rintro e w4 ⟨ug,rfl⟩
 go_wp2
 go_ret2
 exact⟨ug,rfl⟩
set_option maxHeartbeats 4000000 in
theorem Rx (p:Option Addr) (c:Nat) (v1 v2:Value) (w:World) (i:Int)
 (hR:Calls Tryd.prog 21 #[.slice p 16 c] w λe w1=>w.Extends w1/\e= .returned (.bool true))
 (jt:∀w1,w.Extends w1->Calls Tryd.prog 15 #[v1] w1 λe w2=>w.Extends w2/\e= .returned (.bool true))
 (hU:∀w1,w.Extends w1->Calls Tryd.prog 22 #[v2] w1 λe w2=>w.Extends w2/\e= .returned (.bool true))
 (hL:∀w1,w.Extends w1->Calls Tryd.prog 23 #[.slice p 16 c,v1] w1 λe w2=>w.Extends w2/\e= .returned (.tuple #[.int .i64 i,.bool false])):
 Calls Tryd.prog 9 #[.slice p 16 c,v1,v2] w λe w1=>w.Extends w1/\e= .returned (.tuple #[.slice p 16 c,.int .i64 10]):=by
 go_enter Tryd.func9,Tryd.ntmps9
 go_wp2_with (go_at_call 21;refine hR.mono ?_)
 rintro e w1 ⟨hx,rfl⟩
 go_wp2_with (go_at_call 15;refine(jt _ hx).mono ?_)
 rintro e w2 ⟨hx2,rfl⟩
 go_wp2_with (go_at_call 22;refine(hU _ hx2).mono ?_)
 rintro e w3 ⟨hx3,rfl⟩
 go_wp2_with (go_at_call 23;refine(hL _ hx3).mono ?_)
 rintro e w4 ⟨ug,rfl⟩
 go_wp2
 go_ret2
 exact⟨ug,rfl⟩
set_option maxHeartbeats 4000000 in
theorem Rz (p:Option Addr) (n c:Nat) (s1 s2:ByteArray) (w:World) (i:Nat) (hn:¬(n:Int)=16) (D Q:World->Value->Prop)
 (hR:Calls Tryd.prog 21 #[.slice p n c] w λe w1=>w.Extends w1/\e= .returned (.bool true))
 (jt:∀w1,w.Extends w1->Calls Tryd.prog 15 #[.string s1] w1 λe w2=>w.Extends w2/\e= .returned (.bool true))
 (hU:∀w1,w.Extends w1->Calls Tryd.prog 22 #[.string s2] w1 λe w2=>w.Extends w2/\e= .returned (.bool true))
 (hL:∀w1,w.Extends w1->Calls Tryd.prog 23 #[.slice p n c,.string s1] w1 λe w2=>w.Extends w2/\e= .returned (.tuple #[.int .i64 i,.bool false]))
 (hc:∀w1,w.Extends w1->Calls Tryd.prog 19 #[.slice p n c] w1 λe w2=>∃x,e= .returned x/\D w2 x)
 (hd:∀w2 x,D w2 x->Calls Tryd.prog 24 #[x,.int .i64 i,.slice (some ⟨w2.heap.size,0,none⟩) 1 1] (w2.alloc (.cells #[.string s1,.string s2,.slice none 0 0] 39)) λe w3=>∃y,e= .returned y/\Q w3 y):
 Calls Tryd.prog 9 #[.slice p n c,.string s1,.string s2] w λe w'=>∃y,e= .returned (.tuple #[y,.int .i64 0])/\Q w' y:=by
 go_enter Tryd.func9,Tryd.ntmps9
 go_wp2_with (go_at_call 21;refine hR.mono ?_)
 rintro e w1 ⟨hx,rfl⟩
 go_wp2_with (go_at_call 15;refine(jt _ hx).mono ?_)
 rintro e w2 ⟨hx2,rfl⟩
 go_wp2_with (go_at_call 22;refine(hU _ hx2).mono ?_)
 rintro e w3 ⟨hx3,rfl⟩
 go_wp2_with (go_at_call 23;refine(hL _ hx3).mono ?_)
 rintro e w4 ⟨ug,rfl⟩
 go_wp2_with (go_at_call 19;refine(hc _ ug).mono ?_)
 rintro e xZ ⟨x,rfl,hD⟩
 go_wp2_with (go_at_call 24;refine(hd _ _ hD).mono ?_)
 rintro e I0 ⟨y,rfl,hQ⟩
 go_wp2
 go_ret2
 exact⟨y,rfl,hQ⟩
end Go.bD
namespace Go.bD
open Go Go.aZ Go.Proofs Go.RowKit
set_option maxHeartbeats 4000000 in
theorem Ku (s:al) (w:World) (hq:Calls Tryd.prog 15 #[.string (aF s)] w λe w2=>w.Extends w2/\e= .returned (.bool (cg s))):
 Calls Tryd.prog 14 #[.string (aF s)] w λe w2=>w.Extends w2/\e= .returned (.bool !cg s):=by
 go_enter Tryd.func14,Tryd.ntmps14
 go_wp2_with (go_at_call 15;refine hq.mono ?_)
 rintro e w2 ⟨hx,rfl⟩
 go_wp2
 go_ret
 exact⟨hx,rfl⟩
def ye (l:List al) (r:Int):Prop:=(0<=r↔l.all cg=false)/\-1<=r
set_option maxHeartbeats 4000000 in
theorem Ow (l:List al) (p:Option Addr) (g o cap:Nat) (w:World) (hl:l.length<=1073741824) (hp:0<l.length->p=some ⟨g,o,none⟩)
 (hc:∀w1,w.Extends w1->∀j,j<l.length->w1.cell? ⟨g,o+j,none⟩=some (.string (aF (l.getD j []))))
 (hq:∀w1,w.Extends w1->∀s∈l,Calls Tryd.prog 15 #[.string (aF s)] w1 λe w2=>w1.Extends w2/\e= .returned (.bool (cg s))):
 Calls Tryd.prog 27 #[.slice p l.length cap,.func (.func 14) #[] #[]] w λe w'=>w.Extends w'/\∃r:Int,e= .returned (.int .i64 r)/\ye l r:=by
 go_enter Tryd.func27,Tryd.ntmps27
 go_wp2
 go_loopw [8] (λvi wr=>∃i:Nat,vi= .int .i64 i/\i<=l.length/\Hid ((l.take i).all cg=true)/\w.Extends wr) (λvi _=>l.length-(RowKit.intOf vi).toNat)
 case atStart=>exact⟨0,rfl,Nat.zero_le _,by simp[Hid],World.Extends.refl _⟩
 case round=>
  obtain⟨i,rfl,hi,hI,hx⟩:=hrel
  by_cases hlt:i<l.length
  ·have Uy:(i:Int)<(l.length:Int):=by omega
   have pN:¬((i:Int)<0):=by omega
   have hcell:=hc _ hx i hlt
   have hs:l.getD i []∈l:=by simp only[List.getD,List.getElem?_eq_getElem hlt,Option.getD_some];exact List.getElem_mem hlt
   have pQ:=hp (by omega)
   subst pQ
   have Ae:cg (l.getD i [])=true->Hid ((l.take (i+1)).all cg=true):=λhb=>by
    have hI':(l.take i).all cg=true:=hI
    have wP:l.take (i+1)=l.take i++[l.getD i []]:=by
     rw[List.take_add_one,List.getElem?_eq_getElem hlt]
     simp[List.getD,hlt]
    show(l.take (i+1)).all cg=true
    rw[wP,List.all_append,hI'];simp only[List.all_cons,hb,List.all_nil];rfl
   obtain⟨s,j6⟩:∃s,s=l.getD i []:=⟨_,rfl⟩
   rw[<-j6]at hcell hs
   have rU:=Ku _ _ (hq _ hx _ hs)
   have Ae:cg s=true->Hid ((l.take (i+1)).all cg=true):=λhb=>Ae (by rw[<-j6];exact hb)
   have j2:cg s=false->ye l i:=λhb=>⟨⟨λ_=>by rw[List.all_eq_false];exact⟨_,hs,by rw[hb];decide⟩,λ_=>by omega⟩,by omega⟩
   clear hc hq j6 hp hI hs
   go_wp2_with (go_at_call 14;refine rU.mono ?_)
   rintro e w2 hx2 rfl
   cases hb:cg s with
   |true=>
    go_wp2
    go_roundw
    case rel=>exact⟨i+1,by simp,by omega,Ae hb,hx.trans hx2⟩
    case measure=>simp[RowKit.intOf];omega
   |false=>
    go_wp2
    go_ret
    exact⟨hx.trans hx2,_,rfl,j2 hb⟩
  ·have dI:¬(i:Int)<(l.length:Int):=by omega
   have hI':(l.take i).all cg=true:=hI
   rw[List.take_of_length_le (by omega)]at hI'
   have j2:ye l (-1):=⟨⟨λh=>by omega,λh=>by rw[hI']at h;cases h⟩,by omega⟩
   clear hI hI' hc hq
   go_wp2
   go_ret
   exact⟨hx,_,rfl,j2⟩
set_option maxHeartbeats 4000000 in
theorem KG (l:List al) (p:Option Addr) (g o cap:Nat) (w:World) (hl:l.length<=1073741824) (hp:0<l.length->p=some ⟨g,o,none⟩)
 (hc:∀w1,w.Extends w1->∀j,j<l.length->w1.cell? ⟨g,o+j,none⟩=some (.string (aF (l.getD j []))))
 (hq:∀w1,w.Extends w1->∀s∈l,Calls Tryd.prog 15 #[.string (aF s)] w1 λe w2=>w1.Extends w2/\e= .returned (.bool (cg s))):
 Calls Tryd.prog 13 #[.slice p l.length cap,.func (.func 14) #[] #[]] w λe w'=>w.Extends w'/\e= .returned (.bool !l.all cg):=by
 have h:=Ow l p g o cap w hl hp hc hq
 clear hc hq hp
 go_enter Tryd.func13,Tryd.ntmps13
 go_wp2_with (go_at_call 27;refine h.mono ?_)
 rintro e w2 ⟨hx,r,rfl,hr⟩
 obtain⟨b,hb,hd⟩:∃b:Bool,b=(!l.all cg)/\((0<=r)↔b=true):=⟨_,rfl,by rw[hr.1];cases l.all cg<;>decide⟩
 have Up:decide (0<=r)=b:=by
  cases b with
  |true=>exact decide_eq_true (hd.2 rfl)
  |false=>exact decide_eq_false λh=>by have:=hd.1 h;cases this
 clear hr hd
 go_wp2
 go_ret
 exact⟨hx,rfl⟩
end Go.bD
namespace Go.bD
open Go Go.aZ Go.Proofs Go.RowKit
theorem Ib {P:Program} (w:World) (t fY ty e:TypeId) (i:TypeInfo) (ht:P.underlying t=some (.slice e)) (hi:P.info? e=some i) (x:Value) (hs:Src P i.size fY x 0 [] w):
 (Builtin.append_ #[t,fY] ty #[.slice none 0 0,x]).run P w= .ok (.slice none 0 0) w:=by
 have hc:=hs.cells
 rcases hs.kind with⟨e',hk⟩|hk<;>simp[Builtin.append_,run_underlying ht,run_underlying hk,sizeOf,typeInfo,hi,hs.len,hc]
set_option maxHeartbeats 4000000 in
theorem Lw (w:World):Calls Tryd.prog 30 #[.slice none 0 0,.int .i64 0] w λe w'=>e= .returned (.slice none 0 0)/\w'=w:=by
 go_enter Tryd.func30,Tryd.ntmps30
 go_wp2
 go_ret
 exact⟨rfl,rfl⟩
set_option maxHeartbeats 4000000 in
theorem Lv (w:World) (n G C:Nat) (hn:0<n) (bX:n<=1073741824) (W1:World)
 (ek:∀ty,(Builtin.append_ #[37,3] ty #[.slice none 0 0,.int .i64 n]).run Tryd.prog w= .ok (.slice (some ⟨G,0,none⟩) n C) W1):
 Calls Tryd.prog 30 #[.slice none 0 0,.int .i64 n] w λe w'=>e= .returned (.slice (some ⟨G,0,none⟩) 0 C)/\w'=W1:=by
 have f1:¬(n:Int)<0:=by omega
 have f2:(0:Int)<n:=by omega
 go_enter Tryd.func30,Tryd.ntmps30
 go_wp2_with (at_builtin;refine oL rfl (.tmp 20) (.tmp 21) 37 3 rfl _ _ rfl rfl (ek _) ?_)
 go_wp2
 go_ret
 exact⟨rfl,rfl⟩
set_option maxHeartbeats 8000000 in
theorem DW (A n0 n1 bL c1:Nat) (p0 p1:Option Addr) (g0 g1 g2:Value) (w W0 W1 W2:World) (hn:n0+n1<=1073741824)
 (a0:w.cell? ⟨A,0,none⟩=some (.slice p0 n0 bL)) (a1:w.cell? ⟨A,1,none⟩=some (.slice p1 n1 c1))
 (b0:W0.cell? ⟨A,0,none⟩=some (.slice p0 n0 bL)) (b1:W1.cell? ⟨A,1,none⟩=some (.slice p1 n1 c1))
 (hG:Calls Tryd.prog 30 #[.slice none 0 0,.int .i64 ((n0:Int)+(n1:Int))] w λe w'=>e= .returned g0/\w'=W0)
 (h0:∀ty,(Builtin.append_ #[37,37] ty #[g0,.slice p0 n0 bL]).run Tryd.prog W0= .ok g1 W1)
 (h1:∀ty,(Builtin.append_ #[37,37] ty #[g1,.slice p1 n1 c1]).run Tryd.prog W1= .ok g2 W2):
 Calls Tryd.prog 16 #[.slice (some ⟨A,0,none⟩) 2 2] w λe w'=>e= .returned g2/\w'=W2:=by
 have f0:IntKind.i64.wrap (0+(n0:Int))=(n0:Int):=by rw[IntKind.wrap_i64];omega
 have f1:IntKind.i64.wrap ((n0:Int)+(n1:Int))=(n0:Int)+(n1:Int):=by rw[IntKind.wrap_i64];omega
 have f2:¬(n0:Int)<0:=by omega
 have f3:¬(n0:Int)+(n1:Int)<0:=by omega
 go_enter Tryd.func16,Tryd.ntmps16
 go_wp2
 go_loopw [11,3] (λvi vs wr=>wr=w/\((vi= .int .i64 0/\vs= .int .i64 0)∨(vi= .int .i64 1/\vs= .int .i64 n0)∨(vi= .int .i64 2/\vs= .int .i64 ((n0:Int)+(n1:Int))))) (λvi _ _=>2-(RowKit.intOf vi).toNat)
 case atStart=>exact⟨rfl,.inl ⟨rfl,rfl⟩⟩
 case round=>
  obtain⟨rfl,h⟩:=hrel
  rcases h with⟨rfl,rfl⟩|⟨rfl,rfl⟩|⟨rfl,rfl⟩
  ·clear h0 h1 hG
   go_wp2
   go_roundw
   case rel=>simp
   case measure=>simp[RowKit.intOf]
  ·clear h0 h1 hG
   go_wp2
   go_roundw
   case rel=>simp
   case measure=>simp[RowKit.intOf]
  ·go_wp2_with (go_at_call 30;refine hG.mono ?_)
   rintro e w2 ⟨rfl,rfl⟩
   go_wp2
   go_loopw [27,6] (λvi vs wr=>(vi= .int .i64 0/\vs=g0/\wr=w2)∨(vi= .int .i64 1/\vs=g1/\wr=W1)∨(vi= .int .i64 2/\vs=g2/\wr=W2)) (λvi _ _=>2-(RowKit.intOf vi).toNat)
   case atStart=>exact .inl ⟨rfl,rfl,rfl⟩
   case round=>
    rcases hrel with⟨rfl,rfl,rfl⟩|⟨rfl,rfl,rfl⟩|⟨rfl,rfl,rfl⟩
    ·go_wp2_with (at_builtin;refine oL rfl (.tmp 31) (.tmp 32) 37 37 rfl _ _ rfl rfl (h0 _) ?_)
     go_roundw
     case rel=>simp
     case measure=>simp[RowKit.intOf]
    ·go_wp2_with (at_builtin;refine oL rfl (.tmp 31) (.tmp 32) 37 37 rfl _ _ rfl rfl (h1 _) ?_)
     go_roundw
     case rel=>simp
     case measure=>simp[RowKit.intOf]
    ·go_wp2
     go_ret
     exact⟨rfl,rfl⟩
end Go.bD
namespace Go.Proofs
open Go.RowKit Go.Shelf Go.Sort
shelf_lay Lays.n190 Nm 190 at Tryd as Tryd.GI
shelf_lay Lays.n194 Nm 194 at Tryd as Tryd.GH
theorem Tryd.Sn (c9 off cap:Nat) (zs:List (List UInt8)) (w:World) (hH:Holds encStr w c9 off zs.toArray) (jY:c9<w.heap.size) (hsz:zs.length<4611686018427387904):
 Calls Tryd.prog 17 #[.slice (some ⟨c9,off,none⟩) zs.length cap] w λe w'=>
  e= .returned (.tuple #[])/\∃n os,w'=grow (putRow encStr (Sort.ahead w n) c9 off (zs.mergeSort λx y=>decide (x<=y)).toArray) os:=
 calls_of_every_depth λD=>AnyS.slices_Sort_string_alone Tryd.GI D c9 off cap zs w hH jY hsz
theorem Tryd.Sp (p:Option Addr) (cap:Nat) (w:World):Calls Tryd.prog 17 #[.slice p 0 cap] w λe w'=>e= .returned (.tuple #[])/\w'=w:=
 calls_of_every_depth λD=>AnyS.slices_Sort_string_none_alone Tryd.GI D p cap w
theorem Tryd.Kz (c9 off cap:Nat) (zs:List (List UInt8)) (w:World) (hH:Holds encStr w c9 off zs.toArray) (hsz:zs.length<=9223372036854775807) (bp:zs.length<=cap):
 Calls Tryd.prog 18 #[.slice (some ⟨c9,off,none⟩) zs.length cap] w λe w'=>e= .returned (.slice (some ⟨c9,off,none⟩) (Lib.compact zs).length cap)/\∃q,w'=putRow encStr (Sort.ahead w q) c9 off (Lib.compact zs++List.replicate (zs.length-(Lib.compact zs).length) []).toArray:=
 calls_of_every_depth λD=>AnyS.slices_Compact_string_in Tryd.GH D c9 off cap zs w hH hsz bp
theorem Tryd.KA (a:Option Addr) (cap:Nat) (w:World):Calls Tryd.prog 18 #[.slice a 0 cap] w λe w'=>e= .returned (.slice a 0 cap)/\w'=w:=
 calls_of_every_depth λD=>AnyS.slices_Compact_string_empty_in Tryd.GH D a cap w
end Go.Proofs
namespace Go.bD
open Go Go.aZ Go.Proofs Go.RowKit
def fh (w0 w:World) (l:List al) (x:Value):Prop:=
 w0.Extends w/\((l=[]/\x= .slice none 0 0)∨∃(G C:Nat) (cells:Array Value) (rest:List Value),x= .slice (some ⟨G,0,none⟩) l.length C/\w0.heap.size<=G/\w.heap[G]?=some (.cells cells 9 (0,0))/\cells.toList=l.map (λt=>Value.string (aF t))++rest/\l.length<=C/\C<=9223372036854775807)
theorem IP {l:List al} {cells:Array Value} {rest:List Value} (h:cells.toList=l.map (λt=>Value.string (aF t))++rest):cells.toList.take l.length=l.map encStr:=by
 rw[h,List.take_append_of_le_length (by simp),List.take_of_length_le (by simp)];rfl
theorem ES {w0 w w':World} {G:Nat} (h:w0.Extends w) (h2:w.grownBy w' (some G)) (hG:w0.heap.size<=G):w0.Extends w':=
 rk h ⟨h2.os,h2.tape,h2.output,h2.size,λk hk hne=>h2.block k hk λe=>hne e.symm⟩ hG
theorem Sq {w0 w:World} {l:List al} {x:Value} (h:fh w0 w l x) (hl:l.length<=1073741824):Calls Tryd.prog 17 #[x] w λe w'=>e= .returned (.tuple #[])/\fh w0 w' (l.mergeSort λx y=>decide (x<=y)) x:=by
 obtain⟨hx,⟨h1,h2⟩|⟨G,C,cells,rest,h1,h2,h3,h4,h5,h6⟩⟩:=h
 ·subst h1 h2
  refine(Tryd.Sp none 0 w).mono ?_
  rintro e w' ⟨rfl,rfl⟩
  exact⟨rfl,hx,.inl ⟨by simp,rfl⟩⟩
 ·subst h1
  have hlt:=(Array.getElem?_eq_some_iff.1 h3).1
  refine(Tryd.Sn G 0 C l w (holds_of_block h3 (IP h4)) hlt (by omega)).mono ?_
  rintro e w' ⟨rfl,n,os,rfl⟩
  have hl2:(l.mergeSort λx y=>decide (x<=y)).length=l.length:=List.length_mergeSort _
  have hcs:l.length<=cells.size:=by
   have:=congrArg List.length h4
   simp only[Array.length_toList,List.length_append,List.length_map]at this
   omega
  refine⟨rfl,ES hx (grownBy_sorted _) h2,.inr ⟨G,C,_,(Go.Sort.putCells encStr 0 (l.mergeSort λx y=>decide (x<=y)).toArray cells).toList.drop l.length,by rw[hl2],h2,heap_sorted _ h3,?_,by omega,h6⟩⟩
  have:=take_putCells cells (l.mergeSort λx y=>decide (x<=y)) (by omega)
  rw[hl2]at this
  rw[show(l.mergeSort λx y=>decide (x<=y)).map (λt=>Value.string (aF t))=(l.mergeSort λx y=>decide (x<=y)).map encStr from rfl,<-this,List.take_append_drop]
theorem KC {w0 w:World} {l:List al} {x:Value} (h:fh w0 w l x) (hl:l.length<=1073741824) (cI:(Lib.compact l).length<=l.length) (hc0:Lib.compact ([]:List al)=[]):Calls Tryd.prog 18 #[x] w λe w'=>∃y,e= .returned y/\fh w0 w' (Lib.compact l) y:=by
 obtain⟨hx,⟨h1,h2⟩|⟨G,C,cells,rest,h1,h2,h3,h4,h5,h6⟩⟩:=h
 ·subst h1 h2
  refine(Tryd.KA none 0 w).mono ?_
  rintro e w' ⟨rfl,rfl⟩
  exact⟨_,rfl,hx,.inl ⟨hc0,rfl⟩⟩
 ·subst h1
  have hlt:=(Array.getElem?_eq_some_iff.1 h3).1
  refine(Tryd.Kz G 0 C l w (holds_of_block h3 (IP h4)) (by omega) h5).mono ?_
  rintro e w' ⟨rfl,q,rfl⟩
  have hcs:l.length<=cells.size:=by
   have:=congrArg List.length h4
   simp only[Array.length_toList,List.length_append,List.length_map]at this
   omega
  obtain⟨ts,e5⟩:∃ts,ts=Lib.compact l++List.replicate (l.length-(Lib.compact l).length) []:=⟨_,rfl⟩
  have F9:ts.length=l.length:=by rw[e5];simp;omega
  rw[<-e5]
  have hb:=heap_sorted (n:=q) (os:=#[]) ts.toArray h3
  have hg:=grownBy_sorted (w:=w) (g:=G) (n:=q) (os:=#[]) ts.toArray
  rw[Go.Sort.grow_empty]at hb hg
  refine⟨_,rfl,ES hx hg h2,.inr ⟨G,C,_,(List.replicate (l.length-(Lib.compact l).length) []).map encStr++(Go.Sort.putCells encStr 0 ts.toArray cells).toList.drop l.length,rfl,h2,hb,?_,by omega,h6⟩⟩
  have:=take_putCells cells ts (by omega)
  rw[F9]at this
  rw[<-List.append_assoc,show(Lib.compact l).map (λt=>Value.string (aF t))=(Lib.compact l).map encStr from rfl,<-List.map_append,<-e5,<-this,List.take_append_drop]
end Go.bD
namespace Go.bD
open Go Go.aZ Go.Proofs Go.RowKit
abbrev lO (l:List al):List Value:=l.map λt=>Value.string (aF t)
def yn (w:World) (x:Value) (l:List al):Prop:=
 ∃p c,x= .slice p l.length c/\∀w1,w.Extends w1->Src Tryd.prog 1 37 x l.length (lO l) w1
theorem KE {w:World} {A:Nat} {x0 x1:Value} {l0 l1:List al} (hA:A<w.heap.size) (a0:w.cell? ⟨A,0,none⟩=some x0) (a1:w.cell? ⟨A,1,none⟩=some x1) (h0:yn w x0 l0) (h1:yn w x1 l1) (hn:l0.length+l1.length<=1073741824):
 Calls Tryd.prog 16 #[.slice (some ⟨A,0,none⟩) 2 2] w λe w'=>∃y,e= .returned y/\fh w w' (l0++l1) y:=by
 obtain⟨i0,eE,gU,z,pJ,uk,oc⟩:∃i0,Tryd.prog.info? 9=some i0/\i0.size=1/\∃z,i0.zero=some z/\z.cells.size=1/\i0.bytes<=131072:=⟨_,rfl,by kernel_rfl,_,rfl,by kernel_rfl,by decide+kernel⟩
 obtain⟨p0,bL,rfl,xO⟩:=h0
 obtain⟨p1,c1,rfl,s1⟩:=h1
 rw[<-gU]at xO s1
 have hcell:∀{w1:World} {o:Nat} {v:Value},w.Extends w1->w.cell? ⟨A,o,none⟩=some v->w1.cell? ⟨A,o,none⟩=some v:=λhx h=>by rw[hx.cell _ hA];exact h
 by_cases hz:l0.length+l1.length=0
 ·have b7:l0=[]:=List.eq_nil_of_length_eq_zero (by omega)
  have e1:l1=[]:=List.eq_nil_of_length_eq_zero (by omega)
  subst b7 e1
  have q0:=λty=>Ib w 37 37 ty 9 i0 Tryd.underlying37 eE _ (xO w (World.Extends.refl w))
  have q1:=λty=>Ib w 37 37 ty 9 i0 Tryd.underlying37 eE _ (s1 w (World.Extends.refl w))
  refine(DW A 0 0 bL c1 p0 p1 (.slice none 0 0) (.slice none 0 0) (.slice none 0 0) w w w w (by omega) a0 a1 a0 a1 (Lw w) q0 q1).mono ?_
  rintro e w' ⟨rfl,rfl⟩
  exact⟨_,rfl,World.Extends.refl _,.inl ⟨rfl,rfl⟩⟩
 ·obtain⟨k,hk⟩:∃k,k=l0.length+l1.length:=⟨_,rfl⟩
  have z7:((l0.length:Int)+(l1.length:Int))=((k:Nat):Int):=by omega
  have hC:=ps w (0+k) 0 9 (by omega)
  have ek:=λty=>Lib.run_append_grow_zeros (P:=Tryd.prog) w 37 3 ty 9 i0 z .i64 .i64 Tryd.underlying37 Tryd.underlying3 eE pJ none 0 0 []
   (tj w.drew i0.size none 0) k (by omega) (by rw[gU];decide) (by omega) (by omega)
   (by
     have:=Nat.mul_le_mul (show k<=1073741824 by omega) oc
     omega)
   (growslice_fits (by omega) (by
     have:=Nat.mul_le_mul (show 0+k<=1073741824 by omega) oc
     omega))
  obtain⟨C,zl⟩:∃C,C=grownCap w (0+k) 0 9:=⟨_,rfl⟩
  rw[<-zl]at ek hC
  obtain⟨mX,gT⟩:∃mX:Array Value,mX=([]:List Value).toArray++Builtin.zeroCells z.cells k++Builtin.zeroCells z.cells (C-(0+k)):=⟨_,rfl⟩
  rw[<-gT,Nat.zero_add]at ek
  rw[Nat.zero_add]at hC gT
  have Fl:mX.size=C:=by rw[gT];simp only[Array.size_append,List.size_toArray,List.length_nil,qE,uk];omega
  obtain⟨W0,zt⟩:∃W0,W0=w.drew.alloc (.cells mX 9):=⟨_,rfl⟩
  rw[<-zt]at ek
  have hx0:w.Extends W0:=by rw[zt];exact(uZ w _ none).ext
  have hg0:W0.heap[w.heap.size]?=some (.cells mX 9 (0,0)):=by rw[zt];exact heap_alloc_new w.drew _
  have hl0:(lO l0).length=l0.length:=by simp
  have fR:(lO l1).length=l1.length:=by simp
  have q0:=λty=>sB (P:=Tryd.prog) W0 37 37 ty 9 i0 Tryd.underlying37 eE w.heap.size 0 C mX 9 hg0 _ l0.length _ (xO W0 hx0) (by omega) (by rw[gU,hl0,Fl];omega)
  obtain⟨ca,Fi⟩:∃ca,ca=(mX.toList.take (0*i0.size)++lO l0++mX.toList.drop (0*i0.size+(lO l0).length)).toArray:=⟨_,rfl⟩
  obtain⟨W1,hW1⟩:∃W1,W1=W0.setRow w.heap.size ca:=⟨_,rfl⟩
  rw[<-Fi,<-hW1,Nat.zero_add]at q0
  have ni:w.Extends W1:=by rw[hW1];exact rk hx0 (mB W0 _ _) (Nat.le_refl _)
  have hg1:W1.heap[w.heap.size]?=some (.cells ca 9 (0,0)):=by rw[hW1];exact setRow_heap W0 _ _ _ _ _ hg0
  have Fj:ca.toList=lO l0++mX.toList.drop l0.length:=by rw[Fi];simp
  have Mr:ca.size=C:=by
   have:=congrArg List.length Fj
   simp only[Array.length_toList,List.length_append,List.length_drop,List.length_map,Fl]at this
   omega
  have q1:=λty=>sB (P:=Tryd.prog) W1 37 37 ty 9 i0 Tryd.underlying37 eE w.heap.size l0.length C ca 9 hg1 _ l1.length _ (s1 W1 ni) (by omega) (by rw[gU,fR,Mr];omega)
  obtain⟨cb,iU⟩:∃cb,cb=(ca.toList.take (l0.length*i0.size)++lO l1++ca.toList.drop (l0.length*i0.size+(lO l1).length)).toArray:=⟨_,rfl⟩
  rw[<-iU]at q1
  refine(DW A l0.length l1.length bL c1 p0 p1 (.slice (some ⟨w.heap.size,0,none⟩) 0 C) (.slice (some ⟨w.heap.size,0,none⟩) l0.length C) _ w W0 W1 _ hn a0 a1 (hcell hx0 a0) (hcell ni a1) (by rw[z7];exact Lv w k w.heap.size C (by omega) (by omega) W0 ek) q0 q1).mono ?_
  rintro e w' ⟨rfl,rfl⟩
  refine⟨_,rfl,rk ni (mB W1 _ _) (Nat.le_refl _),.inr ⟨w.heap.size,C,cb,ca.toList.drop (l0.length*i0.size+(lO l1).length),by rw[List.length_append],Nat.le_refl _,setRow_heap W1 _ _ _ _ _ hg1,?_,by rw[List.length_append];omega,by omega⟩⟩
  rw[iU]
  simp only[gU,Nat.mul_one]
  rw[show ca.toList.take l0.length=lO l0 by rw[Fj,List.take_append_of_le_length (by omega),List.take_of_length_le (by omega)]]
  simp
end Go.bD
namespace Go.bD
open Go Go.aZ Go.Proofs Go.RowKit
set_option maxHeartbeats 4000000 in
theorem JQ (v0 v1 v2:Value) (w:World) (i dH:Int) (he:¬dH=0) (hk:Calls Tryd.prog 12 #[v0,v1] w λe w1=>w.Extends w1/\e= .returned (.tuple #[.int .i64 i,.int .i64 dH])):
 Calls Tryd.prog 7 #[v0,v1,v2] w λe w1=>w.Extends w1/\e= .returned (.tuple #[v0,.int .i64 dH]):=by
 go_enter Tryd.func7,Tryd.ntmps7
 go_wp2_with (go_at_call 12;refine hk.mono ?_)
 rintro e w1 ⟨hx,rfl⟩
 go_wp2
 all_goals (go_ret2;exact⟨hx,rfl⟩)
set_option maxHeartbeats 4000000 in
theorem JO (v0 v1 v2:Value) (w:World) (i:Int) (hk:Calls Tryd.prog 12 #[v0,v1] w λe w1=>w.Extends w1/\e= .returned (.tuple #[.int .i64 i,.int .i64 0]))
 (hf:∀w1,w.Extends w1->Calls Tryd.prog 13 #[v2,.func (.func 14) #[] #[]] w1 λe w2=>w.Extends w2/\e= .returned (.bool true)):
 Calls Tryd.prog 7 #[v0,v1,v2] w λe w1=>w.Extends w1/\e= .returned (.tuple #[v0,.int .i64 1]):=by
 go_enter Tryd.func7,Tryd.ntmps7
 go_wp2_with (go_at_call 12;refine hk.mono ?_)
 rintro e w1 ⟨hx,rfl⟩
 go_wp2_with (go_at_call 13;refine(hf _ hx).mono ?_)
 rintro e w2 ⟨hx2,rfl⟩
 go_wp2
 all_goals (go_ret2;exact⟨hx2,rfl⟩)
set_option maxHeartbeats 4000000 in
theorem JP (g o n cap i m uC te qi iN:Nat) (ke qm:Option Addr) (v1:Value) (w:World) (bU:i<n) (hn:n<=1073741824) (hm:(4:Int)<m) (nI nJ:World->Value->Prop)
 (hk:Calls Tryd.prog 12 #[.slice (some ⟨g,o,none⟩) n cap,v1] w λe w1=>w.Extends w1/\e= .returned (.tuple #[.int .i64 i,.int .i64 0]))
 (hf:∀w1,w.Extends w1->Calls Tryd.prog 13 #[.slice qm qi iN,.func (.func 14) #[] #[]] w1 λe w2=>w.Extends w2/\e= .returned (.bool false))
 (hcell:∀w1,w.Extends w1->w1.cell? ⟨g,o+i*3+2,none⟩=some (.slice ke uC te))
 (rH:∀w1,w.Extends w1->Calls Tryd.prog 16 #[.slice (some ⟨w1.heap.size,0,none⟩) 2 2] (w1.alloc (.cells #[.slice ke uC te,.slice qm qi iN] 37)) λe w2=>∃y,e= .returned y/\nI w2 y)
 (wN:∀w1 y,nI w1 y->Calls Tryd.prog 17 #[y] w1 λe w2=>e= .returned (.tuple #[])/\nJ w2 y)
 (m6:∀w1 y,nJ w1 y->Calls Tryd.prog 18 #[y] w1 λe w2=>∃p c,e= .returned (.slice p m c)/\w.Extends w2):
 Calls Tryd.prog 7 #[.slice (some ⟨g,o,none⟩) n cap,v1,.slice qm qi iN] w λe w1=>w.Extends w1/\e= .returned (.tuple #[.slice (some ⟨g,o,none⟩) n cap,.int .i64 10]):=by
 have f1:(i:Int)<(n:Int):=by omega
 have f2:¬(i:Int)<0:=by omega
 go_enter Tryd.func7,Tryd.ntmps7
 go_wp2_with (go_at_call 12;refine hk.mono ?_)
 first|rintro e w1 ⟨hx,rfl⟩|rintro e w1 hx rfl
 go_wp2_with (go_at_call 13;refine(hf _ hx).mono ?_)
 first|rintro e w2 ⟨hx2,rfl⟩|rintro e w2 hx2 rfl
 have hce:=hcell _ hx2
 clear hcell
 go_wp2_with (go_at_call 16;refine(rH _ hx2).mono ?_)
 first|rintro e w3 ⟨y,rfl,tx⟩|rintro e w3 y rfl tx
 go_wp2_with (go_at_call 17;refine(wN _ _ tx).mono ?_)
 first|rintro e w4 ⟨rfl,tz⟩|rintro e w4 rfl tz
 go_wp2_with (go_at_call 18;refine(m6 _ _ tz).mono ?_)
 first|rintro e xZ ⟨p,c,rfl,Gf⟩|rintro e xZ p c rfl Gf
 go_wp2
 all_goals (go_ret2;exact⟨Gf,rfl⟩)
set_option maxHeartbeats 4000000 in
theorem JR (g o n cap i m uC te qi iN:Nat) (ke qm:Option Addr) (v1:Value) (w:World) (bU:i<n) (hn:n<=1073741824) (hm:¬(4:Int)<m) (nI nJ sQ:World->Value->Prop) (C0:World->Nat->Value->Value->Prop) (Q:World->Value->Prop)
 (hk:Calls Tryd.prog 12 #[.slice (some ⟨g,o,none⟩) n cap,v1] w λe w1=>w.Extends w1/\e= .returned (.tuple #[.int .i64 i,.int .i64 0]))
 (hf:∀w1,w.Extends w1->Calls Tryd.prog 13 #[.slice qm qi iN,.func (.func 14) #[] #[]] w1 λe w2=>w.Extends w2/\e= .returned (.bool false))
 (hcell:∀w1,w.Extends w1->w1.cell? ⟨g,o+i*3+2,none⟩=some (.slice ke uC te))
 (rH:∀w1,w.Extends w1->Calls Tryd.prog 16 #[.slice (some ⟨w1.heap.size,0,none⟩) 2 2] (w1.alloc (.cells #[.slice ke uC te,.slice qm qi iN] 37)) λe w2=>∃y,e= .returned y/\nI w2 y)
 (wN:∀w1 y,nI w1 y->Calls Tryd.prog 17 #[y] w1 λe w2=>e= .returned (.tuple #[])/\nJ w2 y)
 (m6:∀w1 y,nJ w1 y->Calls Tryd.prog 18 #[y] w1 λe w2=>∃p c,e= .returned (.slice p m c)/\sQ w2 (.slice p m c))
 (cI:∀w1 y,sQ w1 y->Calls Tryd.prog 19 #[.slice (some ⟨g,o,none⟩) n cap] w1 λe w2=>∃G C,e= .returned (.slice (some ⟨G,0,none⟩) n C)/\(∃u,w2.cell? ⟨G,i*3+2,none⟩=some u)/\w2.frozen? ⟨G,i*3+2,none⟩=false/\C0 w2 G (.slice (some ⟨G,0,none⟩) n C) y)
 (hst:∀w1 G z y,C0 w1 G z y->Q (w1.setCell ⟨G,i*3+2,none⟩ y) z):
 Calls Tryd.prog 7 #[.slice (some ⟨g,o,none⟩) n cap,v1,.slice qm qi iN] w λe w1=>∃z,e= .returned (.tuple #[z,.int .i64 0])/\Q w1 z:=by
 have f1:(i:Int)<(n:Int):=by omega
 have f2:¬(i:Int)<0:=by omega
 go_enter Tryd.func7,Tryd.ntmps7
 go_wp2_with (go_at_call 12;refine hk.mono ?_)
 first|rintro e w1 ⟨hx,rfl⟩|rintro e w1 hx rfl
 go_wp2_with (go_at_call 13;refine(hf _ hx).mono ?_)
 first|rintro e w2 ⟨hx2,rfl⟩|rintro e w2 hx2 rfl
 have hce:=hcell _ hx2
 clear hcell
 go_wp2_with (go_at_call 16;refine(rH _ hx2).mono ?_)
 first|rintro e w3 ⟨y,rfl,tx⟩|rintro e w3 y rfl tx
 go_wp2_with (go_at_call 17;refine(wN _ _ tx).mono ?_)
 first|rintro e w4 ⟨rfl,tz⟩|rintro e w4 rfl tz
 go_wp2_with (go_at_call 18;refine(m6 _ _ tz).mono ?_)
 first|rintro e xZ ⟨p,c,rfl,EU⟩|rintro e xZ p c rfl EU
 go_wp2_with (go_at_call 19;refine(cI _ _ EU).mono ?_)
 first|rintro e I0 ⟨G,C,rfl,⟨u,hu⟩,tL,EV⟩|rintro e I0 G C rfl ⟨u,hu⟩ tL EV
 have hQ:=hst _ _ _ _ EV
 clear hst cI m6 wN rH hf hk
 go_wp2
 all_goals (go_ret2;exact⟨_,rfl,hQ⟩)
end Go.bD
namespace Go.bD
open Go Go.aZ
theorem DV (d:Array al) (hs:∀i j,i<j->j<d.size->d[i]! =d[j]! ∨fk d[i]! d[j]!):∀m,m<=d.size->(Lib.compactUpTo d m).Pairwise fk/\∀x,x∈Lib.compactUpTo d m↔∃j,j<m/\d[j]! =x
 |0,_=>by simp[Lib.compactUpTo]
 |m+1,hm=>by
  obtain⟨h1,h2⟩:=DV d hs m (by omega)
  rw[Lib.compactUpTo_succ]
  by_cases hk:m=0∨d[m]! ≠d[m-1]!
  ·have M6:Lib.keeps d m=true:=by unfold Lib.keeps;exact decide_eq_true hk
   rw[if_pos M6]
   refine⟨List.pairwise_append.2 ⟨h1,by simp,λx hx y hy=>?_⟩,λx=>?_⟩
   ·simp at hy
    subst hy
    obtain⟨j,hj,rfl⟩:=(h2 x).1 hx
    have FN:m≠0:=by omega
    have hne:d[m]! ≠d[m-1]! :=hk.resolve_left FN
    have hl:fk d[m-1]! d[m]! :=(hs (m-1) m (by omega) (by omega)).resolve_left λe=>hne e.symm
    by_cases MY:j=m-1
    ·rw[MY];exact hl
    ·rcases hs j (m-1) (by omega) (by omega)with e|h
     ·rw[e];exact hl
     ·exact qg _ _ _ h hl
   ·rw[List.mem_append,h2 x]
    simp only[List.mem_singleton]
    constructor
    ·rintro(⟨j,hj,e⟩|e)
     ·exact⟨j,by omega,e⟩
     ·exact⟨m,by omega,e.symm⟩
    ·rintro⟨j,hj,e⟩
     by_cases h:j=m
     ·subst h;exact .inr e.symm
     ·exact .inl ⟨j,by omega,e⟩
  ·have j5:Lib.keeps d m=false:=by unfold Lib.keeps;exact decide_eq_false hk
   rw[j5]
   have FN:m≠0:=λe=>hk (.inl e)
   have he:d[m]! =d[m-1]! :=Classical.byContradiction λe=>hk (.inr e)
   rw[if_neg (by decide),List.append_nil]
   refine⟨h1,λx=>?_⟩
   rw[h2 x]
   constructor
   ·rintro⟨j,hj,e⟩;exact⟨j,by omega,e⟩
   ·rintro⟨j,hj,e⟩
    by_cases h:j=m
    ·subst h;exact⟨j-1,by omega,by rw[<-he];exact e⟩
    ·exact⟨j,by omega,e⟩
theorem KB {a d:List al} (ha:a.Pairwise fk):Lib.compact ((a++d).mergeSort λx y=>decide (x<=y))=oJ a d:=by
 obtain⟨l,hl⟩:∃l,l=(a++d).mergeSort λx y=>decide (x<=y):=⟨_,rfl⟩
 have SO:∀a b c:al,decide (a<=b)=true->decide (b<=c)=true->decide (a<=c)=true:=λa b c h1 h2=>by simp only[decide_eq_true_eq]at*;exact List.le_trans h1 h2
 have to:∀a b:al,(decide (a<=b)||decide (b<=a))=true:=λa b=>by simp only[Bool.or_eq_true,decide_eq_true_eq];exact List.le_total a b
 have hp:=List.pairwise_mergeSort SO to (a++d)
 have hm:∀x,x∈l↔x∈a∨x∈d:=λx=>by rw[hl,(List.mergeSort_perm (a++d) _).mem_iff,List.mem_append]
 rw[<-hl]at hp⊢
 rw[List.pairwise_iff_getElem]at hp
 have hg:∀i,i<l.length->l.toArray[i]! =l.getD i []:=λi hi=>by simp[List.getD,hi]
 obtain⟨h1,h2⟩:=DV l.toArray (λi j iw hj=>by
  have hj:j<l.length:=by simpa using hj
  have:=hp i j (by omega) hj iw
  simp only[decide_eq_true_eq]at this
  rw[hg i (by omega),hg j hj]
  simp only[List.getD,List.getElem?_eq_getElem hj,List.getElem?_eq_getElem (show i<l.length by omega),Option.getD_some]
  rcases w7 l[i] l[j]with h|h|h
  ·exact .inr h
  ·exfalso
   rw[Go.Proofs.bytesLess_eq]at h
   exact List.not_le.2 (of_decide_eq_true h) this
  ·exact .inl h) l.length (by simp)
 refine GV h1 (IV ha) λx=>?_
 unfold Lib.compact
 rw[h2 x,Bc,<-hm x]
 constructor
 ·rintro⟨j,hj,e⟩
  rw[hg j hj]at e
  rw[<-e]
  simp only[List.getD,List.getElem?_eq_getElem hj,Option.getD_some]
  exact List.getElem_mem hj
 ·intro hx
  obtain⟨j,hj,e⟩:=List.getElem_of_mem hx
  exact⟨j,hj,by rw[hg j hj,<-e];simp[List.getD,hj]⟩
end Go.bD
namespace Go.bD
open Go Go.aZ Go.Proofs Go.RowKit
theorem dR.ext {F F':Nat->Prop} {w w':World} {sh:List ag} {rows:List (List Int)} {v:Value} (h:dR F w sh rows v) (hF:∀g,F g->F' g) (hx:w.Extends w'):dR F' w' sh rows v:=by
 rcases h with h|⟨g,o,cap,cells,t,fz,h1,h2,h3,h4,h5⟩
 ·exact .inl h
 ·exact .inr ⟨g,o,cap,cells,t,fz,h1,h2,hF g h3,by rw[hx.block g (Array.getElem?_eq_some_iff.1 h4).1];exact h4,h5.mono (Fr.ext hF hx)⟩
theorem GF {l:List cm} {t:al} {i e:Int} (h:(i,e)=bJ l t) (he:e=0):l.length<=16/\0<=i/\i<l.length:=by
 have h2:(bJ l t).2=0:=by rw[<-h];exact he
 have hk:=AU h2
 rw[<-h]at hk
 refine⟨?_,hk⟩
 unfold bJ at h2
 cases hr:de l with
 |false=>rw[hr]at h2;cases h2
 |true=>
  unfold de at hr
  simp only[Bool.and_eq_true]at hr
  exact Nat.le_of_ble_eq_true hr.1
theorem Ct {F:Nat->Prop} {w:World} {sh:List ag} {rows:List (List Int)} {v:Value} (h:dR F w sh rows v):∃vs,cZ F w sh rows vs/\(∀row∈rows,aR sh row)/\((∃p,v= .slice p 0 0/\rows.length=0)∨∃(a:Addr) (c:Nat),v= .slice (some a) rows.length c/\∀w1,w.Extends w1->∀(j:Nat) (u:Value),vs[j]?=some u->(a.add j).block<w1.heap.size/\w1.cell? (a.add j)=some u):=by
 rcases h with⟨⟨p,h⟩,hr⟩|⟨g,o,cap,cells,t,fz,h1,h2,h3,h4,h5⟩
 ·exact⟨[],by rw[hr];rfl,by rw[hr];intro _ h;simp at h,.inl ⟨p,h,by rw[hr];rfl⟩⟩
 ·obtain⟨vs,k1,k2⟩:=h5.vs
  refine⟨vs,k1,h5.1,.inr ⟨⟨g,o,none⟩,cap,h1,λw1 hx j u hu=>?_⟩⟩
  have hlt:=(Array.getElem?_eq_some_iff.1 h4).1
  rw[Addr.add_lit]
  refine⟨Nat.lt_of_lt_of_le hlt hx.size,?_⟩
  simp only[World.cell?,hx.block g hlt,h4,Option.isSome_none,Bool.false_eq_true,if_false]
  exact k2 j u hu
theorem EG {P:Program} {f:FuncId} {args:Array Value} {w:World} {val:Value} (he:(callFunc f args).run P w= .ok (.enter f args) w) (h:qJ P f args w val):Calls P f args w λe w'=>e= .returned val/\w.Extends w':=by
 rcases h with h|⟨_,h⟩
 ·rw[he]at h;cases h
 ·exact h
theorem HE {wb:World} (hp:cV wb ns) {c:Int} (h:0<=c/\c<=aO) {w:World} (hw:wb.Extends w):Calls Tryd.prog 15 #[.string (aF (J c))] w λe w2=>w.Extends w2/\e= .returned (.bool (cg (J c))):=by
 obtain⟨rs,h1,h2,h3⟩:=hp [c] ⟨h.1,h.2,trivial⟩
 match rs,h1 with
 |[r],h1=>
  have h2:r=aS (cg (J c)):=h2
  refine(EG (enters (by kernel_rfl) _ _) (h3 w hw)).mono ?_
  rintro e w2 ⟨he,hx⟩
  refine⟨hx,?_⟩
  rw[he]
  show Ending.returned (.bool (decide (r=1)))=_
  rw[h2,s3]
theorem Qd {wb:World} (j5:cM wb ml):cM wb uu:=by
 refine⟨λargs w=>enters (by kernel_rfl) _ _,λF w vs zs hw hz hV hat=>?_⟩
 match zs,hz,vs,hat with
 |[z,t],hz,[v0,v1],hat=>
  obtain⟨h0,h1,_⟩:=hat
  have h0:dR F w [.str,.str,.sub 1] (ab z) v0:=h0
  have j5:=j5.2 F w [v0,v1] [z,t] hw hz trivial ⟨h0,h1,trivial⟩
  have h1:v1= .string (aF (J t)):=h1
  have hk:Calls Tryd.prog 12 #[v0,v1] w λe w1=>w.Extends w1/\e= .returned (.tuple #[.int .i64 (bJ (aB z) (J t)).1,.int .i64 (bJ (aB z) (J t)).2]):=by
   refine j5.mono ?_
   rintro e w1 ⟨hx,rs,us,hb,hs,ha,rfl⟩
   match rs,hb,us,ha with
   |[i,dH],hb,[u0,nF],ha=>
    have hs:(i,dH)=bJ (aB z) (J t):=hs
    obtain⟨a0,a1,_⟩:=ha
    have a0:u0= .int .i64 i:=a0
    have a1:nF= .int .i64 dH:=a1
    subst a0 a1
    exact⟨hx,by rw[<-hs];rfl⟩
  have hzb:0<=z/\z<=aW:=⟨hz.1,hz.2.1⟩
  obtain⟨i,dH,gi⟩:∃i dH,bJ (aB z) (J t)=(i,dH):=⟨_,_,rfl⟩
  rw[gi]at hk
  by_cases he:dH=0
  ·subst he
   obtain⟨hn,eE,j4⟩:=GF gi.symm rfl
   rw[ji]at hn j4
   obtain⟨a,rfl⟩:∃a:Nat,i=a:=⟨i.toNat,by omega⟩
   obtain⟨vs,dJ,cO,hval⟩:=Ct h0
   have hl:=dJ.len
   have hl:vs.length=(ab z).length*3:=hl
   obtain⟨p,c,hv⟩:∃p c,v0= .slice (some p) (ab z).length c/\∀w1,w.Extends w1->∀(j:Nat) (u:Value),vs[j]?=some u->(p.add j).block<w1.heap.size/\w1.cell? (p.add j)=some u:=by
    rcases hval with⟨_,_,h⟩|⟨p,c,h⟩
    ·omega
    ·exact⟨p,c,h⟩
   have one:∀u∈vs,u.oneCell'=true:=uV dJ
   have fS:∀row∈(ab z).take a++(ab z).drop (a+1),aR [.str,.str,.sub 1] row:=λrow hr=>(List.mem_append.1 hr).elim (λh=>cO row (List.mem_of_mem_take h)) λh=>cO row (List.mem_of_mem_drop h)
   have lx:((ab z).take a++(ab z).drop (a+1)).length=a+((ab z).length-(a+1)):=by rw[List.length_append,List.length_take,List.length_drop,Nat.min_eq_left (by omega)]
   have hR:cZ F w [.str,.str,.sub 1] ((ab z).take a++(ab z).drop (a+1)) (vs.take (a*3)++vs.drop ((a+1)*3)):=oD (dJ.split a).1 (dJ.split (a+1)).2
   refine(Pv v0 v1 w a (by omega) (λw2 x=>w.Extends w2/\∃(G C:Nat) (cells:Array Value) (rest:List Value),x= .slice (some ⟨G,0,none⟩) (ab z).length C/\w.heap.size<=G/\w2.heap[G]?=some (.cells cells 39 (0,0))/\cells.toList=vs++rest/\cells.size=C*3/\(ab z).length<=C/\(C:Int)<=9223372036854775807)
    (λw3 y=>w.Extends w3/\dR (λg=>F g∨w.heap.size<=g) w3 [.str,.str,.sub 1] ((ab z).take a++(ab z).drop (a+1)) y) hk (λw1 hx=>?_) (λw2 x hD=>?_)).mono ?_
   ·refine(yT w1 v0 (ab z).length vs (by omega) hl one (.inr ⟨p,c,hv.1,hv.2 w1 hx⟩)).mono ?_
    rintro e w2 ⟨hx2,x,rfl,cI⟩
    refine⟨x,rfl,hx.trans hx2,?_⟩
    rcases cI with⟨h,_⟩|⟨_,G,C,cells,rest,c1,av,bg⟩
    ·omega
    ·exact⟨G,C,cells,rest,c1,Nat.le_trans hx.size av,bg⟩
   ·obtain⟨hx,G,C,cells,rest,rfl,hG,hg,jZ,hsz,Nl,hC⟩:=hD
    have t1:cells.toList.take (a*3)=vs.take (a*3):=by rw[jZ,List.take_append_of_le_length (by omega)]
    have t2:(cells.toList.drop ((a+1)*3)).take (((ab z).length-(a+1))*3)=vs.drop ((a+1)*3):=by
     rw[jZ,List.drop_append_of_le_length (by omega),List.take_append_of_le_length (by rw[List.length_drop];omega),List.take_of_length_le (by rw[List.length_drop];omega)]
    refine(Tryd.KP G C (ab z).length a (a+1) cells w2 hg hsz Nl (by omega) (by omega) (by omega) (by rw[t2];exactλu hu=>one u (List.mem_of_mem_drop hu))).mono ?_
    rintro e w3 ⟨rfl,cur',g1,g2,g3,g4⟩
    have hx3:=rk hx g4 hG
    refine⟨_,rfl,hx3,.inr ⟨G,0,C,cur',_,_,by rw[lx],⟨by rw[lx];omega,hC⟩,.inr hG,g1,fS,[],_,cur'.toList.drop ((a+((ab z).length-(a+1)))*3),?_,rfl,hR.mono (Fr.ext (λg h=> .inl h) hx3)⟩⟩
    rw[t1,t2]at g3
    rw[<-g3,List.nil_append,List.take_append_drop]
   ·rintro e w3 ⟨y,rfl,hx3,hy⟩
    refine⟨hx3,[rc ((ab z).take a++(ab z).drop (a+1)),0],[y,.int .i64 0],⟨cE _,k8 (by kernel_rfl) (by rw[lx];omega) fS,by decide,by decide,trivial⟩,?_,⟨?_,rfl,trivial⟩,rfl⟩
    ·show(aB (rc _),(0:Int))=iD (aB z) (J t)
     unfold iD
     rw[gi]
     simp only[aB,dx,List.map_append,List.map_take,List.map_drop,Int.toNat_natCast]
     rfl
    ·show dR _ _ _ (ab (rc _)) _
     rw[dx];exact hy
  ·refine(Pu v0 v1 w i dH he hk).mono ?_
   rintro e w1 ⟨hx,rfl⟩
   have hb:0<=dH/\dH<=21:=by
    have:dH=(bJ (aB z) (J t)).2:=by rw[gi]
    rw[this]
    unfold bJ
    cases de (aB z)<;>simp only[cond_true,cond_false]
    ·decide
    ·cases(aB z).findIdx? (λu=>decide (u.tok=J t))with
     |none=>decide
     |some k=>exact(show(0:Int)<=0/\(0:Int)<=21 by decide)
   refine⟨hx,[z,dH],[v0,.int .i64 dH],⟨hzb.1,hzb.2,hb.1,hb.2,trivial⟩,?_,⟨dR.ext h0 (λg h=> .inl h) hx,rfl,trivial⟩,rfl⟩
   show(aB z,dH)=iD (aB z) (J t)
   unfold iD
   rw[gi]
   simp only[decide_eq_false he,cond_false]
theorem Tm {wb:World} (hp:cV wb oq) {c:Int} (h:0<=c/\c<=aO) {w:World} (hw:wb.Extends w):Calls Tryd.prog 22 #[.string (aF (J c))] w λe w2=>w.Extends w2/\e= .returned (.bool (ie (J c))):=by
 obtain⟨rs,h1,h2,h3⟩:=hp [c] ⟨h.1,h.2,trivial⟩
 match rs,h1 with
 |[r],h1=>
  have h2:r=aS (ie (J c)):=h2
  refine(EG (enters (by kernel_rfl) _ _) (h3 w hw)).mono ?_
  rintro e w2 ⟨he,hx⟩
  refine⟨hx,?_⟩
  rw[he]
  show Ending.returned (.bool (decide (r=1)))=_
  rw[h2,s3]
theorem IG {α:Type} (p:α->Bool):∀(l:List α) (k:Nat),(∀j (h:j<l.length),j<k->p l[j]=true)->(∀(h:k<l.length),p l[k]=false)->k<=l.length->l.takeWhile p=l.take k/\l.dropWhile p=l.drop k
 |[],k,_,_,_=>by simp
 |x::r,0,_,h2,_=>by
  have:=h2 (by simp)
  simp only[List.getElem_cons_zero]at this
  simp[List.takeWhile,List.dropWhile,this]
 |x::r,k+1,h1,h2,hk=>by
  have h0:=h1 0 (by simp) (by omega)
  simp only[List.getElem_cons_zero]at h0
  have ih:=IG p r k (λj h hj=>by
   have:=h1 (j+1) (by simpa using h) (by omega)
   simpa using this) (λh=>by
   have:=h2 (by simpa using h)
   simpa using this) (by simpa using hk)
  simp[List.takeWhile,List.dropWhile,h0,ih.1,ih.2]
theorem Rl {l:List cm} {t:al} {i f:Int} (h:qK l t i f) (hr:de l=true):(0<=i/\i<=l.length)/\l.takeWhile (λu=>Op.bytesLess u.tok t)=l.take i.toNat/\l.dropWhile (λu=>Op.bytesLess u.tok t)=l.drop i.toNat/\(l.findIdx? (λu=>decide (u.tok=t))).isSome=decide (f=1):=by
 have hf:=HD h hr
 obtain⟨⟨h1,h2⟩,h3,h4⟩:=h
 obtain⟨h5,h6,h7⟩:=h4 (BH hr)
 have hg:∀j (hj:j<l.length),l.getD j ch=l[j]:=λj hj=>by simp[List.getD,hj]
 have ht:=IG (λu:cm=>Op.bytesLess u.tok t) l i.toNat (λj hj fQ=>by rw[<-hg j hj];exact h5 j (by omega)) (λhi=>by rw[<-hg _ hi];exact h6 _ (by omega) hi) (by omega)
 refine⟨⟨h1,h2⟩,ht.1,ht.2,?_⟩
 rw[hf]
 cases decide (f=1)<;>rfl
theorem Qe {wb:World} (hR:cM wb qb) (hp:cV wb ns) (hu:cV wb oq) (hl:cM wb qc):cM wb mj:=by
 refine⟨λargs w=>enters (by kernel_rfl) _ _,λF w vs zs hw hz hV hat=>?_⟩
 match zs,hz,vs,hat with
 |[z,t,s],hz,[v0,v1,v2],hat=>
  obtain⟨h0,h1,h2,_⟩:=hat
  have h0:dR F w [.str,.str,.sub 1] (ab z) v0:=h0
  have m1:v1= .string (aF (J t)):=h1
  have h2:v2= .string (aF (J s)):=h2
  have hzb:0<=z/\z<=aW:=⟨hz.1,hz.2.1⟩
  have rX:0<=t/\t<=aO:=⟨hz.2.2.1,hz.2.2.2.1⟩
  have wM:0<=s/\s<=aO:=⟨hz.2.2.2.2.1,hz.2.2.2.2.2.1⟩
  have same:∀{w1:World} {x:Int},w.Extends w1->0<=x->x<=21->(aB z,x)=iF (aB z) (J t) (J s)->w.Extends w1/\∃rs us,bb (cw mj.res) rs/\dc sh SB mj.id [z,t,s] rs/\ft (λg=>F g∨w.heap.size<=g) (λg=>w.heap.size<=g) w1 mj.res rs us/\Ending.returned (.tuple #[v0,.int .i64 x])= .returned (mE us):=λ{w1 x} hx x0 x1 hs=>
   ⟨hx,[z,x],[v0,.int .i64 x],⟨hzb.1,hzb.2,x0,x1,trivial⟩,hs,⟨dR.ext h0 (λg h=> .inl h) hx,rfl,trivial⟩,rfl⟩
  have pc:Calls Tryd.prog 21 #[v0] w λe w1=>w.Extends w1/\e= .returned (.bool (de (aB z))):=by
   refine(hR.2 F w [v0] [z] hw ⟨hzb.1,hzb.2,trivial⟩ trivial ⟨h0,trivial⟩).mono ?_
   rintro e w1 ⟨hx,rs,us,hb,hs,ha,rfl⟩
   match rs,hb,us,ha with
   |[r],hb,[u],ha=>
    have hs:r=aS (de (aB z)):=hs
    have ha:u= .bool (decide (r=1)):=ha.1
    refine⟨hx,?_⟩
    show Ending.returned u=_
    rw[ha,hs,s3]
  have qY:∀w1,w.Extends w1->Calls Tryd.prog 15 #[v1] w1 λe w2=>w.Extends w2/\e= .returned (.bool (cg (J t))):=λw1 hx=>by
   rw[m1]
   exact(HE hp rX (hw.trans hx)).mono λe w2 ⟨a,b⟩=>⟨hx.trans a,b⟩
  have qZ:∀w1,w.Extends w1->Calls Tryd.prog 22 #[v2] w1 λe w2=>w.Extends w2/\e= .returned (.bool (ie (J s))):=λw1 hx=>by
   rw[h2]
   exact(Tm hu wM (hw.trans hx)).mono λe w2 ⟨a,b⟩=>⟨hx.trans a,b⟩
  cases hb:(de (aB z)&&(cg (J t)&&ie (J s)))with
  |false=>
   refine(Rw v0 v1 v2 w _ _ _ hb pc qY qZ).mono ?_
   rintro e w1 ⟨hx,rfl⟩
   refine same hx (by decide) (by decide) ?_
   unfold iF
   rw[hb];rfl
  |true=>
  have hb':=hb
  simp only[Bool.and_eq_true]at hb'
  obtain⟨b1,b2,b3⟩:=hb'
  rw[b1]at pc;rw[b2]at qY;rw[b3]at qZ
  have Nk:(aB z).length<=16:=by
   unfold de at b1
   simp only[Bool.and_eq_true]at b1
   exact Nat.le_of_ble_eq_true b1.1
  rw[ji]at Nk
  have ei:∀w1,w.Extends w1->Calls Tryd.prog 23 #[v0,v1] w1 λe w2=>w.Extends w2/\e= .returned (.tuple #[.int .i64 ((aB z).takeWhile (λu=>Op.bytesLess u.tok (J t))).length,.bool ((aB z).findIdx? (λu=>decide (u.tok=J t))).isSome]):=λw1 hx=>by
   refine(hl.2 F w1 [v0,v1] [z,t] (hw.trans hx) ⟨hzb.1,hzb.2,rX.1,rX.2,trivial⟩ trivial ⟨dR.ext h0 (λg h=>h) hx,h1,trivial⟩).mono ?_
   rintro e w2 ⟨hx2,rs,us,hb,hs,ha,rfl⟩
   match rs,hb,us,ha with
   |[i,f],hb,[u0,nF],ha=>
    have hs:qK (aB z) (J t) i f:=hs
    obtain⟨a0,a1,_⟩:=ha
    have a0:u0= .int .i64 i:=a0
    have a1:nF= .bool (decide (f=1)):=a1
    obtain⟨q1,q2,q3,q4⟩:=Rl hs b1
    refine⟨hx.trans hx2,?_⟩
    rw[a0,a1,q2,q4,List.length_take]
    have:((min i.toNat (aB z).length:Nat):Int)=i:=by omega
    rw[this];rfl
  obtain⟨a,ha⟩:∃a,a=((aB z).takeWhile (λu=>Op.bytesLess u.tok (J t))).length:=⟨_,rfl⟩
  rw[<-ha]at ei
  cases hf:((aB z).findIdx? (λu=>decide (u.tok=J t))).isSome with
  |true=>
   rw[hf]at ei
   refine(Ry v0 v1 v2 w a pc qY qZ ei).mono ?_
   rintro e w1 ⟨hx,rfl⟩
   refine same hx (by decide) (by decide) ?_
   unfold iF
   rw[hb,hf];rfl
  |false=>
  rw[hf]at ei
  obtain⟨vs,dJ,cO,hval⟩:=Ct h0
  have hlv:vs.length=(ab z).length*3:=dJ.len
  have one:∀u∈vs,u.oneCell'=true:=uV dJ
  obtain⟨p,c,hv0⟩:∃p c,v0= .slice p (ab z).length c:=by
   rcases hval with⟨p,h,h'⟩|⟨p,c,h,_⟩
   ·exact⟨p,0,by rw[h,h']⟩
   ·exact⟨_,c,h⟩
  by_cases gf:(ab z).length=16
  ·rw[hv0,gf]at pc ei
   have:=Rx p c v1 v2 w a pc qY qZ ei
   rw[<-gf,<-hv0]at this
   refine this.mono ?_
   rintro e w1 ⟨hx,rfl⟩
   refine same hx (by decide) (by decide) ?_
   unfold iF
   rw[hb,hf,ji,gf];rfl
  ·have Gb:(aB z).takeWhile (λu=>Op.bytesLess u.tok (J t))=(aB z).take a:=by
    conv=>rhs;rw[<-List.takeWhile_append_dropWhile (p:=λu:cm=>Op.bytesLess u.tok (J t)) (l:=aB z),ha]
    rw[List.take_left]
   have MC:(aB z).dropWhile (λu=>Op.bytesLess u.tok (J t))=(aB z).drop a:=by
    conv=>rhs;rw[<-List.takeWhile_append_dropWhile (p:=λu:cm=>Op.bytesLess u.tok (J t)) (l:=aB z),ha]
    rw[List.drop_left]
   have rE:a<=(ab z).length:=by
    have:=congrArg List.length Gb
    rw[<-ha,List.length_take,ji]at this
    omega
   obtain⟨bu,lC⟩:∃bu,bu=(ab z).take a++([[t,s,rc []]]++(ab z).drop a):=⟨_,rfl⟩
   have pP:∀r∈bu,aR [.str,.str,.sub 1] r:=λr hr=>by
    rw[lC]at hr
    rcases List.mem_append.1 hr with hr|hr
    ·exact cO r (List.mem_of_mem_take hr)
    ·rcases List.mem_append.1 hr with hr|hr
     ·simp at hr;subst hr
      exact⟨rX,wM,⟨cE _,yj (l:=[]) (by simp) (by simp)⟩,trivial⟩
     ·exact cO r (List.mem_of_mem_drop hr)
   have lx:bu.length=(ab z).length+1:=by rw[lC];simp;omega
   have fR:(vs.take (a*3)).length=a*3:=by rw[List.length_take,hlv];omega
   have hl2:(vs.drop (a*3)).length=((ab z).length-a)*3:=by rw[List.length_drop,hlv,Nat.sub_mul]
   have hf':∀g,F g->F g∨w.heap.size<=g:=λg h=> .inl h
   rw[hv0,m1]at ei
   rw[m1]at qY
   rw[h2]at qZ
   rw[hv0]at pc
   have:=Rz p (ab z).length c (aF (J t)) (aF (J s)) w a (by omega)
    (λw2 x=>w.Extends w2/\x9 w w2 (ab z).length vs x)
    (λw3 y=>w.Extends w3/\dR (λg=>F g∨w.heap.size<=g) w3 [.str,.str,.sub 1] bu y) pc qY qZ ei (λw1 hx=>?_) (λw2 x hD=>?_)
   ·rw[m1,h2,hv0]
    refine this.mono ?_
    rintro e w3 ⟨y,rfl,hx3,hy⟩
    refine⟨hx3,[rc bu,0],[y,.int .i64 0],⟨cE _,k8 (by kernel_rfl) (by rw[lx];omega) pP,by decide,by decide,trivial⟩,?_,⟨?_,rfl,trivial⟩,rfl⟩
    ·show(aB (rc bu),(0:Int))=iF (aB z) (J t) (J s)
     unfold iF
     rw[hb,hf,ji,decide_eq_false gf,Gb,MC]
     simp only[cond_true,cond_false]
     congr 1
     unfold aB
     rw[dx,lC]
     simp only[List.map_append,List.map_take,List.map_drop,List.map_cons,List.map_nil,List.singleton_append]
     congr 2
    ·show dR _ _ _ (ab (rc _)) _
     rw[dx];exact hy
   ·refine(yT w1 (.slice p (ab z).length c) (ab z).length vs (by omega) hlv one ?_).mono ?_
    ·rw[hv0]at hval
     rcases hval with⟨q,h,h'⟩|⟨q,c',h,h'⟩
     ·exact .inl ⟨q,h,h'⟩
     ·exact .inr ⟨q,c',h,h' w1 hx⟩
    ·rintro e w2 ⟨hx2,x,rfl,cI⟩
     refine⟨x,rfl,hx.trans hx2,?_⟩
     rcases cI with h|⟨q0,G,C,cells,rest,q1,q2,q3⟩
     ·exact .inl h
     ·exact .inr ⟨q0,G,C,cells,rest,q1,Nat.le_trans hx.size q2,q3⟩
   ·obtain⟨hx,cI⟩:=hD
    have nj:=hx.trans ((World.Extends.refl w2).alloc (.cells #[.string (aF (J t)),.string (aF (J s)),.slice none 0 0] 39))
    have hbl:=heap_alloc_new w2 (.cells #[.string (aF (J t)),.string (aF (J s)),.slice none 0 0] 39)
    have hown:∀g,ql x=some g->w.heap.size<=g:=λg hg=>by
     rcases cI with⟨_,q,hx0⟩|⟨_,G,C,cells,rest,q1,q2,_⟩
     ·rw[hx0]at hg
      cases q<;>cases hg
     ·rw[q1]at hg
      unfold ql at hg
      split at hg
      ·rename_i heq
       injection heq with e1 e2 e3
       injection e1 with e1
       rw[<-e1]at hg
       cases hg;exact q2
      ·cases hg
    refine(Oy (w2.alloc (.cells #[.string (aF (J t)),.string (aF (J s)),.slice none 0 0] 39)) x a (ab z).length (vs.take (a*3)) (vs.drop (a*3)) [.string (aF (J t)),.string (aF (J s)),.slice none 0 0] w2.heap.size 0 1 _ _ _ rE (by omega) fR hl2 rfl (λu hu=>one u (List.mem_of_mem_take hu)) (λu hu=>one u (List.mem_of_mem_drop hu)) (λu hu=>by
     simp only[List.mem_cons,List.not_mem_nil,or_false]at hu
     rcases hu with rfl|rfl|rfl<;>rfl) hbl (λj u hu=>by rw[Nat.zero_add];simpa using hu) ?_).mono ?_
    ·rcases cI with⟨ET,q,hx0⟩|⟨ET,G,C,cells,rest,q1,q2,q3,q4,q5,q6,kf⟩
     ·exact .inl ⟨q,hx0,ET⟩
     ·have LC:=(Array.getElem?_eq_some_iff.1 q3).1
      refine .inr ⟨G,C,cells,rest,q1,⟨q6,kf⟩,?_,by rw[q4,List.take_append_drop],q5,by omega,by omega⟩
      rw[((World.Extends.refl w2).alloc (.cells #[.string (aF (J t)),.string (aF (J s)),.slice none 0 0] 39)).block G LC];exact q3
    ·rintro e w3 ⟨fC,G,C,cells,post,rfl,g1,g2,g3,g4,g5⟩
     have hx3:w.Extends w3:=by
      cases ho:ql x with
      |none=>rw[ho]at fC;exact nj.trans fC.ext
      |some g=>rw[ho]at fC;exact rk nj fC (hown g ho)
     have hG:w.heap.size<=G:=by
      rcases g5 with h|h
      ·exact hown G h
      ·exact Nat.le_trans nj.size h
     refine⟨_,rfl,hx3,.inr ⟨G,0,C,cells,_,_,by rw[lx],⟨by rw[lx];exact g3,g4⟩,.inr hG,g1,pP,[],vs.take (a*3)++([.string (aF (J t)),.string (aF (J s)),.slice none 0 0]++vs.drop (a*3)),post,by rw[g2];simp,rfl,?_⟩⟩
     rw[lC]
     refine oD ((dJ.split a).1.mono (Fr.ext hf' hx3)) (oD ⟨[.string (aF (J t)),.string (aF (J s)),.slice none 0 0],[],by simp,⟨rfl,rfl,?_,trivial⟩,rfl⟩ ((dJ.split a).2.mono (Fr.ext hf' hx3)))
     exact .inl ⟨⟨none,rfl⟩,dx []⟩
end Go.bD
namespace Go.bD
open Go Go.aZ Go.Proofs Go.RowKit
theorem iL.sl {F:Nat->Prop} {w:World} {rows:List (List Int)} {v:Value} (h:iL F w [.str] rows v):dR F w [.str] rows v:=by
 rcases h with h|⟨g,o,cap,cells,t,fz,h1,⟨h2,px,_⟩,h3,h4,h5⟩
 ·exact .inl h
 ·exact .inr ⟨g,o,cap,cells,t,fz,h1,⟨h2,px⟩,h3,h4,(hM rfl).2 h5⟩
theorem IN {F:Nat->Prop} {w:World} {d:Int} {v:Value} (h:dR F w [.str] (ab d) v):∃(p:Option Addr) (g o cap:Nat),v= .slice p (aN d).length cap/\(0<(aN d).length->p=some ⟨g,o,none⟩)/\(∀w1,w.Extends w1->∀j,j<(aN d).length->w1.cell? ⟨g,o+j,none⟩=some (.string (aF ((aN d).getD j []))))/\∀row∈ab d,aR [.str] row:=by
 rcases h with⟨⟨p,h⟩,hr⟩|⟨g,o,cap,cells,t,fz,h1,h2,h3,h4,h5⟩
 ·have h0:(aN d).length=0:=by rw[lP,hr];rfl
  exact⟨p,0,0,0,by rw[h,h0],λh=>by omega,λ_ _ j hj=>by omega,by rw[hr];intro _ h;simp at h⟩
 ·have h5:=(hM (sh:=[.str]) rfl).1 h5
  refine⟨_,g,o,cap,by rw[h1,lP],λ_=>rfl,λw1 hx j hj=>?_,h5.1⟩
  have hj':j<(ab d).length:=by rw[lP]at hj;exact hj
  have hrow:=List.getElem?_eq_getElem hj'
  obtain⟨z,z0,aj,z2,z3⟩:=(h5.1 _ (List.getElem_mem hj')).get (j:=0) (c:= .str) rfl
  have hc:=h5.get hrow z3
  have hlt:=(Array.getElem?_eq_some_iff.1 h4).1
  simp only[World.cell?,hx.block g hlt,h4,Option.isSome_none,Bool.false_eq_true,if_false]
  rw[u7 hj']
  have e:((ab d).getD j []).getD 0 0=z:=by simp only[List.getD,hrow,Option.getD_some,z0]
  rw[e]
  have hc:cells[o+j]?=some (.string (aF (J z))):=by simpa [ag.val]using hc
  exact hc
theorem IL {w:World} {l:List al} {p:Option Addr} {g o cap:Nat} (hp:0<l.length->p=some ⟨g,o,none⟩) (hc:∀w1,w.Extends w1->∀j,j<l.length->w1.cell? ⟨g,o+j,none⟩=some (.string (aF (l.getD j [])))):yn w (.slice p l.length cap) l:=by
 refine⟨p,cap,rfl,λw1 hx=>?_⟩
 by_cases h0:l.length=0
 ·have hl:l=[]:=List.eq_nil_of_length_eq_zero h0
  subst hl
  exact Src.Bi w1 Tryd.underlying37 p cap
 ·rw[hp (by omega)]
  refine Src.ofSlice w1 Tryd.underlying37 ⟨g,o,none⟩ l.length cap _ (by simp) (λj u hu=>?_) (λu hu=>by obtain⟨_,_,rfl⟩:=List.mem_map.1 hu;rfl)
  have hj:j<l.length:=by have:=(List.getElem?_eq_some_iff.1 hu).1;simpa using this
  rw[Addr.add_lit,hc w1 hx j hj]
  rw[<-hu]
  simp[List.getD,hj]
theorem fh.base {w W w':World} {l:List al} {x:Value} (hx:w.Extends W) (h:fh W w' l x):fh w w' l x:=by
 obtain⟨h1,h2⟩:=h
 refine⟨hx.trans h1,h2.imp id ?_⟩
 rintro⟨G,C,cells,rest,k1,k2,k3⟩
 exact⟨G,C,cells,rest,k1,Nat.le_trans hx.size k2,k3⟩
theorem fh.form {w w':World} {l:List al} {x:Value} (h:fh w w' l x):∃p c,x= .slice p l.length c:=by
 rcases h.2 with⟨h1,h2⟩|⟨G,C,_,_,h1,_⟩
 ·exact⟨none,0,by rw[h1,h2];rfl⟩
 ·exact⟨_,_,h1⟩
def jQ (l:List al):List (List Int):=l.map λt=>[dz t]
theorem Ln (l:List al):bz [.str] (jQ l)=lO l:=by
 induction l with
 |nil=>rfl
 |cons t r ih=>
  show bM [.str] [dz t]++bz [.str] (jQ r)=_
  rw[ih]
  simp[bM,ag.val,gu]
theorem DP {l:List al} (h:∀t∈l,t.length<=64):∀row∈jQ l,aR [.str] row:=λrow hr=>by
 obtain⟨t,ht,rfl⟩:=List.mem_map.1 hr
 exact⟨⟨ku _,jI (by have:=h t ht;unfold eu;omega)⟩,trivial⟩
theorem SR (l:List al):aN (rc (jQ l))=l:=by
 unfold aN
 rw[dx]
 unfold jQ
 rw[List.map_map]
 conv=>rhs;rw[<-List.map_id l]
 exact List.map_congr_left λt _=>by simp[gu]
theorem fh.sub {F:Nat->Prop} {w w' w3:World} {l:List al} {x:Value} (h:fh w w' l x) (hl:l.length<=1073741824) (tw:∀t∈l,t.length<=64) (he:∀G C,x= .slice (some ⟨G,0,none⟩) l.length C->w.heap.size<=G->w3.heap[G]?=w'.heap[G]?):iL (λg=>F g∨w.heap.size<=g) w3 [.str] (jQ l) x:=by
 have cI:(jQ l).length=l.length:=by simp[jQ]
 rcases h.2 with⟨h1,h2⟩|⟨G,C,cells,rest,h1,h2,h3,h4,h5,h6⟩
 ·subst h1 h2
  exact .inl ⟨⟨_,rfl⟩,rfl⟩
 ·exact .inr ⟨G,0,C,cells,_,_,by rw[h1,cI],⟨by rw[cI];exact h5,by omega,by rw[cI];omega⟩,.inr h2,by rw[he G C h1 h2];exact h3,DP tw,[],rest,by rw[Ln,h4];rfl,rfl⟩
theorem Ir (w:World) (g k:Nat) (v:Value):eX w (w.setCell ⟨g,k,none⟩ v) (some g):=by
 rw[Go.Sort.setCell_eq]
 refine⟨rfl,rfl,rfl,by simp[Go.Sort.mapBlock],λi hi hne=>?_⟩
 have:g≠i:=λe=>hne (by rw[e])
 simp[Go.Sort.mapBlock,Array.getElem?_modify,this]
theorem heap_setCell {w:World} {g k:Nat} {v:Value} {cells:Array Value} {t:TypeId} {fz:Nat×Nat} (h:w.heap[g]?=some (.cells cells t fz)):(w.setCell ⟨g,k,none⟩ v).heap[g]?=some (.cells (cells.setIfInBounds k v) t fz):=by
 rw[Go.Sort.setCell_eq]
 simp[Go.Sort.mapBlock,Array.getElem?_modify,h,Go.Sort.onCells]
theorem Qb {wb:World} (j5:cM wb ml) (hpl:cV wb ns):cM wb oj:=by
 refine⟨λargs w=>enters (by kernel_rfl) _ _,λF w vs zs hw hz hV hat=>?_⟩
 match zs,hz,vs,hat with
 |[z,t,d],hz,[v0,v1,v2],hat=>
  obtain⟨h0,h1,h2,_⟩:=hat
  have h0:dR F w [.str,.str,.sub 1] (ab z) v0:=h0
  have h2:dR F w [.str] (ab d) v2:=h2
  have hV:(ab d).length<=100000000:=hV
  have j5:=j5.2 F w [v0,v1] [z,t] hw ⟨hz.1,hz.2.1,hz.2.2.1,hz.2.2.2.1,trivial⟩ trivial ⟨h0,h1,trivial⟩
  have h1:v1= .string (aF (J t)):=h1
  have hk:Calls Tryd.prog 12 #[v0,v1] w λe w1=>w.Extends w1/\e= .returned (.tuple #[.int .i64 (bJ (aB z) (J t)).1,.int .i64 (bJ (aB z) (J t)).2]):=by
   refine j5.mono ?_
   rintro e w1 ⟨hx,rs,us,hb,hs,ha,rfl⟩
   match rs,hb,us,ha with
   |[i,dH],hb,[u0,nF],ha=>
    have hs:(i,dH)=bJ (aB z) (J t):=hs
    obtain⟨a0,a1,_⟩:=ha
    have a0:u0= .int .i64 i:=a0
    have a1:nF= .int .i64 dH:=a1
    subst a0 a1
    exact⟨hx,by rw[<-hs];rfl⟩
  have hzb:0<=z/\z<=aW:=⟨hz.1,hz.2.1⟩
  obtain⟨i,dH,gi⟩:∃i dH,bJ (aB z) (J t)=(i,dH):=⟨_,_,rfl⟩
  rw[gi]at hk
  have same:∀{w1:World} {x:Int},w.Extends w1->0<=x->x<=21->(aB z,x)=mN (aB z) (J t) (aN d)->w.Extends w1/\∃rs us,bb (cw oj.res) rs/\dc sh SB oj.id [z,t,d] rs/\ft (λg=>F g∨w.heap.size<=g) (λg=>w.heap.size<=g) w1 oj.res rs us/\Ending.returned (.tuple #[v0,.int .i64 x])= .returned (mE us):=λ{w1 x} hx x0 x1 hs=>
   ⟨hx,[z,x],[v0,.int .i64 x],⟨hzb.1,hzb.2,x0,x1,trivial⟩,hs,⟨dR.ext h0 (λg h=> .inl h) hx,rfl,trivial⟩,rfl⟩
  by_cases he:dH=0
  rotate_left
  ·refine(JQ v0 v1 v2 w i dH he hk).mono ?_
   rintro e w1 ⟨hx,rfl⟩
   have hb:0<=dH/\dH<=21:=by
    have:dH=(bJ (aB z) (J t)).2:=by rw[gi]
    rw[this]
    unfold bJ
    cases de (aB z)<;>simp only[cond_true,cond_false]
    ·decide
    ·cases(aB z).findIdx? (λu=>decide (u.tok=J t))with
     |none=>decide
     |some k=>exact(show(0:Int)<=0/\(0:Int)<=21 by decide)
   refine same hx hb.1 hb.2 ?_
   unfold mN
   rw[gi]
   simp only[decide_eq_false he,cond_false]
  subst he
  obtain⟨hn,eE,j4⟩:=GF gi.symm rfl
  have NM:de (aB z)=true:=by
   cases hr:de (aB z)with
   |true=>rfl
   |false=>unfold bJ at gi;rw[hr]at gi;cases gi
  rw[ji]at hn j4
  obtain⟨a,rfl⟩:∃a:Nat,i=a:=⟨i.toNat,by omega⟩
  have hai:a<(ab z).length:=by omega
  obtain⟨bc,g2,o2,kv,hv2,rS,hc2,pU⟩:=IN h2
  have hq:∀w1,w.Extends w1->∀s∈aN d,Calls Tryd.prog 15 #[.string (aF s)] w1 λe w2=>w1.Extends w2/\e= .returned (.bool (cg s)):=λw1 hx s hs=>by
   obtain⟨row,hr,rfl⟩:=List.mem_map.1 hs
   have:=pU row hr
   match row,this with
   |[c],this=>exact HE hpl this.1 (hw.trans hx)
  have F9:(aN d).length<=100000000:=by rw[lP];exact hV
  have l9:∀w1,w.Extends w1->Calls Tryd.prog 13 #[v2,.func (.func 14) #[] #[]] w1 λe w2=>w.Extends w2/\e= .returned (.bool !(aN d).all cg):=λw1 hx=>by
   rw[hv2]
   refine(KG (aN d) bc g2 o2 kv w1 (by omega) rS (λw' et=>hc2 w' (hx.trans et)) λw' et=>hq w' (hx.trans et)).mono ?_
   rintro e w2 ⟨hx2,rfl⟩
   exact⟨hx.trans hx2,rfl⟩
  cases hall:(aN d).all cg with
  |false=>
   rw[hall]at l9
   refine(JO v0 v1 v2 w a hk l9).mono ?_
   rintro e w1 ⟨hx,rfl⟩
   refine same hx (by decide) (by decide) ?_
   unfold mN
   rw[gi,hall];rfl
  |true=>
  rw[hall]at l9
  obtain⟨vs,dJ,cO,hval⟩:=Ct h0
  have hl:vs.length=(ab z).length*3:=dJ.len
  have one:∀u∈vs,u.oneCell'=true:=uV dJ
  obtain⟨g,o,cap,hv0,hc0⟩:∃g o cap,v0= .slice (some ⟨g,o,none⟩) (ab z).length cap/\∀w1,w.Extends w1->∀(j:Nat) (u:Value),vs[j]?=some u->((⟨g,o,none⟩:Addr).add j).block<w1.heap.size/\w1.cell? ((⟨g,o,none⟩:Addr).add j)=some u:=by
   rcases h0 with⟨_,h⟩|⟨g,o,cap,cells,tt,fz,q1,q2,q3,q4,q5⟩
   ·rw[h]at hai;simp at hai
   ·rcases hval with⟨_,_,h⟩|⟨p,c,h,h'⟩
    ·omega
    ·rw[q1]at h
     injection h with e1 e2 e3
     injection e1 with e1
     subst e1
     exact⟨g,o,cap,q1,h'⟩
  obtain⟨row,hrow⟩:∃row,row=(ab z).getD a []:=⟨_,rfl⟩
  have hrow':(ab z)[a]?=some row:=by rw[hrow];simp[List.getD,hai]
  have er:=dJ.get hrow'
  have eQ:([.str,.str,.sub 1]:List ag).length=3:=rfl
  rw[eQ]at er
  have mg:=cO row (List.mem_of_getElem? hrow')
  obtain⟨bL,c1,av,rfl⟩:∃bL c1 av,row=[bL,c1,av]:=by
   match row,mg with
   |[bL,c1,av],_=>exact⟨bL,c1,av,rfl⟩
  obtain⟨x0,x1,qC,hx3⟩:∃x0 x1 qC,(vs.drop (a*3)).take 3=[x0,x1,qC]:=by
   match(vs.drop (a*3)).take 3,er with
   |[x0,x1,qC],_=>exact⟨x0,x1,qC,rfl⟩
  rw[hx3]at er
  have hu:(aB z).getD a ch=sI [bL,c1,av]:=by rw[sJ hai,<-hrow]
  have ua:vs=vs.take (a*3)++([x0,x1,qC]++vs.drop ((a+1)*3)):=by
   rw[<-hx3,show(a+1)*3=a*3+3 by omega,<-List.drop_drop,List.take_append_drop,List.take_append_drop]
  have nj:vs[a*3+2]?=some qC:=by
   have fR:(vs.take (a*3)).length=a*3:=by rw[List.length_take,hl];omega
   rw[ua,List.getElem?_append_right (by omega),fR]
   rw[show a*3+2-a*3=2 by omega];rfl
  have kH:iL F w [.str] (ab av) qC:=er.2.2.1
  obtain⟨p1,g1,o1,pd,jc,pQ,hc1,UC⟩:=IN (iL.sl kH)
  have Am:=NM
  unfold de at Am
  simp only[Bool.and_eq_true]at Am
  have Av:=List.all_eq_true.1 Am.2.1 (sI [bL,c1,av]) (by
   rw[<-hu]
   have:a<(aB z).length:=by rw[ji];exact hai
   simp only[List.getD,List.getElem?_eq_getElem this,Option.getD_some]
   exact List.getElem_mem this)
  simp only[Bool.and_eq_true]at Av
  have cY:(sI [bL,c1,av]).cR=aN av:=rfl
  have Uk:(aN av).length<=4:=by rw[<-cY];exact Nat.le_of_ble_eq_true Av.2.1
  have wj:fa (aN av)=true:=Av.2.2
  have Md:=GX wj
  have Me:∀s∈aN av,cg s=true:=λs hs=>by
   unfold fa at wj
   rw[List.all_eq_true]at wj
   obtain⟨j,hj,rfl⟩:=List.getElem_of_mem hs
   have:=wj j (List.mem_range.2 hj)
   rw[Bool.and_eq_true]at this
   have h:=this.1
   simp only[List.getD,List.getElem?_eq_getElem hj,Option.getD_some]at h
   exact h
  obtain⟨U,hU⟩:∃U,U=oJ (aN av) (aN d):=⟨_,rfl⟩
  have hcs:=KB (a:=aN av) (d:=aN d) Md
  rw[<-hU]at hcs
  have E2:∀s∈U,s.length<=64:=λs hs=>by
   have:cg s=true:=by
    rw[hU,Bc]at hs
    rcases hs with h|h
    ·exact Me s h
    ·exact List.all_eq_true.1 hall s h
   unfold cg at this
   simp only[Bool.and_eq_true]at this
   exact Nat.le_of_ble_eq_true this.2.1
  have M8:((aN av++aN d).mergeSort λx y=>decide (x<=y)).length<=1073741824:=by rw[List.length_mergeSort,List.length_append];omega
  have M9:U.length<=((aN av++aN d).mergeSort λx y=>decide (x<=y)).length:=by
   rw[<-hcs]
   unfold Lib.compact Lib.compactUpTo
   rw[List.length_map]
   refine Nat.le_trans (List.length_filter_le _ _) ?_
   rw[List.length_range]
   exact Nat.le_refl _
  have nI:∀w1,w.Extends w1->Calls Tryd.prog 16 #[.slice (some ⟨w1.heap.size,0,none⟩) 2 2] (w1.alloc (.cells #[.slice p1 (aN av).length pd,.slice bc (aN d).length kv] 37)) λe w2=>∃y,e= .returned y/\fh w w2 (aN av++aN d) y:=λw1 hx=>by
   have nj:=hx.trans ((World.Extends.refl w1).alloc (.cells #[.slice p1 (aN av).length pd,.slice bc (aN d).length kv] 37))
   have hb:=heap_alloc_new w1 (.cells #[.slice p1 (aN av).length pd,.slice bc (aN d).length kv] 37)
   refine(KE (l0:=aN av) (l1:=aN d) (Array.getElem?_eq_some_iff.1 hb).1 (x0:= .slice p1 (aN av).length pd) (x1:= .slice bc (aN d).length kv) (by simp only[World.cell?,hb];rfl) (by simp only[World.cell?,hb];rfl) (IL pQ λw' et=>hc1 w' (nj.trans et)) (IL rS λw' et=>hc2 w' (nj.trans et)) (by omega)).mono ?_
   rintro e w2 ⟨y,rfl,hy⟩
   exact⟨y,rfl,hy.base nj⟩
  have nJ:∀w1 y,fh w w1 (aN av++aN d) y->Calls Tryd.prog 17 #[y] w1 λe w2=>e= .returned (.tuple #[])/\fh w w2 ((aN av++aN d).mergeSort λx y=>decide (x<=y)) y:=λw1 y hy=>Sq hy (by rw[List.length_append];omega)
  have sQ:∀w1 y,fh w w1 ((aN av++aN d).mergeSort λx y=>decide (x<=y)) y->Calls Tryd.prog 18 #[y] w1 λe w2=>∃p c,e= .returned (.slice p U.length c)/\fh w w2 U (.slice p U.length c):=λw1 y hy=>by
   refine(KC hy M8 (by rw[hcs];exact M9) rfl).mono ?_
   rintro e w2 ⟨y,rfl,hy⟩
   rw[hcs]at hy
   obtain⟨p,c,rfl⟩:=hy.form
   exact⟨p,c,rfl,hy⟩
  have hce:∀w1,w.Extends w1->w1.cell? ⟨g,o+a*3+2,none⟩=some (.slice p1 (aN av).length pd):=λw1 hx=>by
   have:=(hc0 w1 hx _ _ nj).2
   rw[Addr.add_lit,<-Nat.add_assoc]at this
   rw[this,jc]
  rw[hv2]at l9
  by_cases hm:(4:Int)<(U.length:Nat)
  ·have FC:=JP g o (ab z).length cap a U.length (aN av).length pd (aN d).length kv p1 bc v1 w hai (by omega) hm (λw1 y=>fh w w1 (aN av++aN d) y) (λw1 y=>fh w w1 ((aN av++aN d).mergeSort λx y=>decide (x<=y)) y) (by rw[<-hv0];exact hk) l9 hce nI nJ λw1 y hy=>(sQ w1 y hy).mono λe w2 ⟨p,c,h1,h2⟩=>⟨p,c,h1,h2.1⟩
   rw[<-hv0,<-hv2]at FC
   refine FC.mono ?_
   rintro e w1 ⟨hx,rfl⟩
   refine same hx (by decide) (by decide) ?_
   unfold mN
   rw[gi,hall]
   simp only[Int.toNat_natCast,hu,cY,<-hU]
   rw[show Nat.ble U.length 4=false from by
    cases h:Nat.ble U.length 4 with
    |false=>rfl
    |true=>have:=Nat.le_of_ble_eq_true h;omega]
   rfl
  ·obtain⟨bu,lC⟩:∃bu,bu=(ab z).take a++([[bL,c1,rc (jQ U)]]++(ab z).drop (a+1)):=⟨_,rfl⟩
   have LM:U.length<=4:=by omega
   have Ms:(jQ U).length=U.length:=by simp[jQ]
   have pP:∀r∈bu,aR [.str,.str,.sub 1] r:=λr hr=>by
    rw[lC]at hr
    rcases List.mem_append.1 hr with hr|hr
    ·exact cO r (List.mem_of_mem_take hr)
    ·rcases List.mem_append.1 hr with hr|hr
     ·simp at hr;subst hr
      exact⟨mg.1,mg.2.1,⟨cE _,yk (k:=1) (by rw[Ms];omega) (DP E2)⟩,trivial⟩
     ·exact cO r (List.mem_of_mem_drop hr)
   have lx:bu.length=(ab z).length:=by rw[lC];simp;omega
   have Gh:=JR g o (ab z).length cap a U.length (aN av).length pd (aN d).length kv p1 bc v1 w hai (by omega) hm (λw1 y=>fh w w1 (aN av++aN d) y) (λw1 y=>fh w w1 ((aN av++aN d).mergeSort λx y=>decide (x<=y)) y) (λw1 y=>fh w w1 U y)
    (λw2 G z' y=>w.Extends w2/\w.heap.size<=G/\(∃w1,fh w w1 U y/\(∀H:Nat,H<w1.heap.size->w2.heap[H]?=w1.heap[H]?)/\w1.heap.size<=G)/\∃(C:Nat) (cells:Array Value) (rest:List Value),z'= .slice (some ⟨G,0,none⟩) (ab z).length C/\w2.heap[G]?=some (.cells cells 39 (0,0))/\cells.toList=vs++rest/\(ab z).length<=C/\(C:Int)<=9223372036854775807)
    (λw3 z'=>w.Extends w3/\dR (λg=>F g∨w.heap.size<=g) w3 [.str,.str,.sub 1] bu z') (by rw[<-hv0];exact hk) l9 hce nI nJ sQ (λw1 y hy=>?_) (λw2 G z' y hD=>?_)
   ·rw[<-hv0,<-hv2]at Gh
    refine Gh.mono ?_
    rintro e w3 ⟨y,rfl,hx3,hy⟩
    refine⟨hx3,[rc bu,0],[y,.int .i64 0],⟨cE _,k8 (by kernel_rfl) (by rw[lx];omega) pP,by decide,by decide,trivial⟩,?_,⟨?_,rfl,trivial⟩,rfl⟩
    ·show(aB (rc bu),(0:Int))=mN (aB z) (J t) (aN d)
     unfold mN
     rw[gi,hall]
     simp only[Int.toNat_natCast,hu,cY,<-hU]
     rw[show Nat.ble U.length 4=true from Nat.ble_eq_true_of_le LM]
     show _=((aB z).set a _,(0:Int))
     congr 1
     rw[List.set_eq_take_append_cons_drop,if_pos (by rw[ji];exact hai)]
     unfold aB
     rw[dx,lC]
     simp only[List.map_append,List.map_take,List.map_drop,List.map_cons,List.map_nil,List.singleton_append]
     congr 2
     show(⟨J bL,J c1,aN (rc (jQ U))⟩:cm)=_
     rw[SR];rfl
    ·show dR _ _ _ (ab (rc _)) _
     rw[dx];exact hy
   ·refine(yT w1 (.slice (some ⟨g,o,none⟩) (ab z).length cap) (ab z).length vs (by omega) hl one (.inr ⟨_,_,rfl,hc0 w1 hy.1⟩)).mono ?_
    rintro e w2 ⟨hx2,x,rfl,cI⟩
    rcases cI with⟨h,_⟩|⟨_,G,C,cells,rest,q1,q2,q3,q4,q5,q6,kf⟩
    ·omega
    ·have hk2:a*3+2<cells.size:=by
      have:=congrArg List.length q4
      rw[Array.length_toList,List.length_append,hl]at this
      omega
     subst q1
     exact⟨G,C,rfl,⟨cells[a*3+2],by simp[World.cell?,q3,hk2]⟩,by simp[World.frozen?,q3],hy.1.trans hx2,Nat.le_trans hy.1.size q2,⟨w1,hy,λH hH=>hx2.block H hH,q2⟩,C,cells,rest,rfl,q3,q4,q6,kf⟩
   ·obtain⟨hx2,hG,⟨w1,hy,Aq,zn⟩,C,cells,rest,rfl,q3,q4,q6,kf⟩:=hD
    have hx3:=rk hx2 (Ir w2 G (a*3+2) y) hG
    have hf:∀g,F g->F g∨w.heap.size<=g:=λg h=> .inl h
    refine⟨hx3,.inr ⟨G,0,C,_,_,_,by rw[lx],⟨by rw[lx];exact q6,kf⟩,.inr hG,heap_setCell q3,pP,[],vs.take (a*3)++([x0,x1,y]++vs.drop ((a+1)*3)),rest,?_,rfl,?_⟩⟩
    ·have fR:(vs.take (a*3)).length=a*3:=by rw[List.length_take,hl];omega
     rw[Array.toList_setIfInBounds,q4]
     conv=>lhs;rw[ua]
     rw[List.append_assoc,List.set_append_right _ _ (by omega),fR,show a*3+2-a*3=2 by omega]
     simp
    ·rw[lC]
     refine oD ((dJ.split a).1.mono (Fr.ext hf hx3)) (oD ⟨[x0,x1,y],[],by simp,⟨er.1,er.2.1,?_,trivial⟩,rfl⟩ ((dJ.split (a+1)).2.mono (Fr.ext hf hx3)))
     show iL _ _ [.str] (ab (rc (jQ U))) y
     rw[dx]
     refine hy.sub (by omega) E2 λH C' he hH=>?_
     have hlt:H<w1.heap.size:=by
      rcases hy.2 with⟨h1,h2⟩|⟨TX,TW,cc,Ia,h1,h2,h3,_⟩
      ·rw[h2]at he;cases he
      ·rw[h1]at he
       injection he with e1
       injection e1 with e1
       injection e1 with e1
       rw[<-e1]
       exact(Array.getElem?_eq_some_iff.1 h3).1
     have Uh:=(Array.getElem?_eq_some_iff.1 q3).1
     rw[(Ir w2 G (a*3+2) y).2.2.2.2 H (by omega) (λe=>by injection e with e;omega),Aq H hlt]
end Go.bD
namespace Go.Proofs.YtejjagiggkgdmaaDoor
open Go Go.aZ Go.bD Go.ChangeShapes Go.RowKit
theorem own:ownKnob Tryd.prog.godebug=none:=by kernel_rfl
theorem Pr:laidOutB Tryd.prog=true:=by kernel_rfl
def laid:List (String×DataW Unit):=[("unicode/utf8.acceptRanges",Rows.laid_unicode_utf8_acceptRanges),("unicode/utf8.first",Rows.laid_unicode_utf8_first)]
theorem EO (W:World):ey [] ⟨W,W,λ_=>False,λ_=>False,[]⟩:=λg cs hm=>by cases hm
theorem O2:(laid.filter λx=>x.2.handleName?.isNone)=laid:=by kernel_rfl
theorem KR (os:Os) (args:Array Value):laidMetH Tryd.prog laid ((World.laidAll Tryd.prog os laid).forCall (λ_ _=>0) ⟨#[],args,[]⟩).memory:=
 laidMetH_of_parts3 (fuel:=8) (by rw[O2];exact laidMet_laidAll args (by kernel_rfl) (by kernel_rfl)) (by kernel_rfl) (by kernel_rfl)
theorem SW:vd Tryd.prog 9 (.d (.str)):=Tryd.underlying9
theorem SV:vd Tryd.prog 22 (.rd [.str,.str,.sub 1]):=⟨39,Tryd.underlying22,by kernel_rfl,by kernel_rfl,by decide⟩
theorem cell0 {W:World} (h:W.ShapedOpen Tryd.prog):∃m,W.cell? ⟨0,0,none⟩=some (.int .i64 m):=
 cell_of_shapedOpen_int (zero:=#[.int .i64 0]) (t:=3) h (of_decide_eq_true (by kernel_rfl)) (by kernel_rfl) rfl (by kernel_rfl) (by kernel_rfl) Tryd.underlying3
theorem MF {W:World} {m:Int} (h:W.cell? ⟨0,0,none⟩=some (.int .i64 m)):0<W.heap.size:=by
 rcases Nat.lt_or_ge 0 W.heap.size with h0|h0
 ·exact h0
 ·have:W.heap[(0:Nat)]?=none:=Array.getElem?_eq_none h0
  simp[World.cell?,this]at h
theorem QF {id:Nat} (hid:id=521∨id=522) (a:List (List Int)) (z:Int) (h:SB id a [[z]]):z=1:=by
 rcases hid with rfl|rfl
 all_goals
  match a,h with
  |[],h=>first|exact h|exact h.elim
  |[_],h=>first|exact h|exact h.elim
  |[_,_],h=>first|exact h|exact h.elim
  |[_,_,_],h=>first|exact h|exact h.elim
  |_::_::_::_::_,h=>exact h.elim
structure Jf (W:World):Prop where
 Cp:cM W qe
 zg:cM W qd
 vk:cM W nr
 yq:cM W uu
 vj:cM W mj
 yo:cM W oj
 yp:cM W qa
theorem JW {W:World} (h:W.ShapedOpen Tryd.prog):Jf W:=by
 have hg:=EO W
 obtain⟨m,hm⟩:=cell0 h
 have AG:cV W oo:=Qq
 have D1:=Qn hg AG
 have AL:=Qr hg AG
 have Kl:yi W xw:=Qk ⟨m,hm⟩ (MF hm)
 have SM:=Qy hg
 have SN:=Qz hg
 have SL:=Qx hg
 have Nx:=Qp hg Kl SN SM AL
 have Sa:=Qw hg D1 Nx SL AL
 have SQ:=QA hg
 have IY:=QC hg D1 SQ AL Sa
 have Rm:=Qu hg
 have Kw:cV W wY:=Ql
 have zg:=Qo hg
 have KI:=Qm hg AG
 have Bw:=Qt hg Rm KI
 have J5:=Qj hg Bw
 have Dh:=Qf hg IY J5
 have Dq:=Qi hg Kw
 have vn:=Qh hg Dh Dq
 have vk:=Qg hg vn
 have yq:cM W uu:=Qd vn
 have vj:cM W mj:=Qe Dh Bw IY Dq
 have R3:=Qv hg
 have yp:=Qc hg vn R3
 have yo:cM W oj:=Qb vn Bw
 have Cp:=QB hg vj yp yo vk
 exact⟨Cp,zg,vk,yq,vj,yo,yp⟩
end Go.Proofs.YtejjagiggkgdmaaDoor
