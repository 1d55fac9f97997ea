/- The address seat: what each function says,on texts. -/
import Derived.Test.YtejjagiggkgdmaaGreatDoorPac

set_option linter.unusedVariables false
set_option linter.unusedSimpArgs false
namespace Go.bG
open Go Go.bo
abbrev aI:=List UInt8
def u8 (z:Int):UInt8:=UInt8.ofNat z.toNat
def aT (b:Bool):Int:=cond b 1 0
def jD (p:UInt8->Bool) (l:aI):aI:=l.dropWhile p
def hW (p:UInt8->Bool) (l:aI):aI:=(l.reverse.dropWhile p).reverse
def iB (p:UInt8->Bool) (l:aI):aI:=jD p (hW p l)
def dd (l:aI):Bool:=(List.range l.length).any λi=>l.getD i 0==46&&l.getD (i+1) 0==46
def jS (c:UInt8):Bool:=Nat.ble 97 c.toNat&&Nat.ble c.toNat 122
def lZ (c:UInt8):Bool:=Nat.ble 65 c.toNat&&Nat.ble c.toNat 90
def dW (c:UInt8):Bool:=Nat.ble 48 c.toNat&&Nat.ble c.toNat 57
def Xz:aI:=[33,35,36,37,38,39,42,43,47,61,63,94,95,96,123,124,125,126,45]
def Sx (c:UInt8):Bool:=jS c||lZ c||dW c||Xz.contains c||c==46
def iF (c:UInt8):Bool:=c==46||c==45
def ji (c:UInt8):Bool:=jS c||lZ c||dW c||iF c
def p8 (inn fP:UInt8->Bool) (s:aI):Bool:=(List.range s.length).all λi=>
 inn (s.getD i 0)&&(!fP (s.getD i 0)||(Nat.blt 0 i&&Nat.blt (i+1) s.length))&& !(s.getD i 0==46&&Nat.blt 0 i&&s.getD (i-1) 0==46)
def DV (s:aI):Bool:=Nat.blt 0 s.length&&Nat.ble s.length 64&&p8 Sx (·==46) s
def gg (s:aI):Bool:=Nat.blt 0 s.length&&Nat.ble s.length 230&&p8 ji iF s
def nG (s:aI):Bool:=Nat.blt 0 s.length&&Nat.ble s.length 5&&s.all dW
def kC (c:Int) (s:aI):aI×aI×Int:=cond (decide (0<=idx c s)) (s.take (idx c s).toNat,s.drop ((idx c s).toNat+1),1) (s,[],0)
def hX (s:aI):Bool:=gg (kC 58 s).1&&(decide ((kC 58 s).2.2=0)||nG (kC 58 s).2.1)
def lo (c:UInt8):UInt8:=cond (lZ c) (UInt8.ofNat (c.toNat+32)) c
def lower (s:aI):aI:=s.map lo
def O0 (t:aI):aI×Int:=
 cond (decide (0<=idx 64 t)&&Nat.ble t.length 254&&DV (t.take (idx 64 t).toNat)&&gg (t.drop ((idx 64 t).toNat+1))&&(t.drop ((idx 64 t).toNat+1)).contains 46) (lower t,0) ([],2)
def BP (s:aI):aI×Int:=O0 (iB (·==32) s)
def Xr:aI:=[32,45,46,40,41]
def vg:aI->aI->Bool->Option (aI×Bool)
 |[],d,p=>some (d,p)
 |c::r,d,p=>cond (dW c) (vg r (d++[c]) p) (cond (c==43&&d.isEmpty&& !p) (vg r d true) (cond (Xr.contains c) (vg r d p) none))
def BE (w:aI):Option (aI×aI):=
 cond (w==[]) (some ([],[])) (cond (w==[71,66]) (some ([52,52],[48])) (cond (w==[85,83]) (some ([49],[])) (cond (w==[68,69]) (some ([52,57],[48])) (cond (w==[70,82]) (some ([51,51],[48])) (cond (w==[67,72]) (some ([52,49],[48])) none)))))
def Wu (w code qm d:aI) (p:Bool):aI:=cond (!p&& !(w==[])) (code++cond (qm.isPrefixOf d) (d.drop qm.length) d) d
def Wt (n:aI):aI×Int:=cond (Nat.blt n.length 6||Nat.blt 15 n.length||n.getD 0 0==48) ([],2) (n,0)
def En (w s:aI):aI×Int:=match BE w with
 |none=>([],7)
 |some (code,qm)=>match vg s [] false with
  |none=>([],2)
  |some (d,p)=>Wt (Wu w code qm d p)
def DQ (a b c d:aI):Bool:=cond (a==c) (Op.bytesLess b d) (Op.bytesLess a c)
def OZ:aI:=[101,109,97,105,108]
def Um:aI:=[109,115,105,115,100,110]
def KJ (m:aI) (p:aI×Int):aI×aI×Int:=cond (decide (p.2=0)) (m,p.1,0) ([],[],p.2)
def wT (m w:aI):aI×aI×Int:=cond (m==OZ) (KJ m (BP w)) (cond (m==Um) (KJ m (En [] w)) ([],[],1))
def xg (m w:aI):Bool:=decide ((wT m w).2.2=0)&&(m==(wT m w).1)&&(w==(wT m w).2.1)
def nt (c:UInt8):Bool:=jS c||dW c||([46,95,61,47,43,45]:aI).contains c
def JZ (c:UInt8):Bool:=jS c||lZ c||dW c
def gS (k:UInt8) (s:aI):aI×aI×Int:=
 cond (Nat.blt 0 s.length&&Nat.ble s.length 255&&s.getD 0 0==k&&decide (0<=idx 58 s)&&hX (s.drop ((idx 58 s).toNat+1))) ((s.take (idx 58 s).toNat).drop 1,s.drop ((idx 58 s).toNat+1),1) ([],[],0)
def kN (k:UInt8) (inn:UInt8->Bool) (most:Nat) (s:aI):Bool:=
 decide ((gS k s).2.2=1)&&Nat.blt 0 (gS k s).1.length&&Nat.ble (gS k s).1.length most&&(gS k s).1.all inn
def gp (s:aI):Bool:=kN 64 nt 200 s
def zT (s:aI):Bool:=kN 33 JZ 64 s
def Mg (s:aI):aI×aI×Int:=cond (gp s||zT s) ((s.take (idx 58 s).toNat).drop 1,s.drop ((idx 58 s).toNat+1),0) ([],[],2)
def A5:aI:=[65,66,67,68,69,70,71,72,73,74,75,76,77,78,79,80,81,82,83,84,85,86,87,88,89,90,97,98,99,100,101,102,103,104,105,106,107,108,109,110,111,112,113,114,115,116,117,118,119,120,121,122,48,49,50,51,52,53,54,55,56,57,45,95]
def eF (c:UInt8):Int:=idx (c.toNat:Int) A5
def oO (n:Nat):UInt8:=A5.getD n 0
def Em:aI->aI
 |[]=>[]
 |[a]=>[oO (a.toNat/4),oO (a.toNat% 4*16)]
 |[a,b]=>[oO (a.toNat/4),oO (a.toNat% 4*16+b.toNat/16),oO (b.toNat% 16*4)]
 |a::b::c::r=>oO (a.toNat/4)::oO (a.toNat% 4*16+b.toNat/16)::oO (b.toNat% 16*4+c.toNat/64)::oO (c.toNat% 64)::Em r
def pn (a b c d:Int):Int:=262144*a+(4096*b+(64*c+d))
def zJ:aI->aI->Option aI
 |out,[]=>some out
 |_,[_]=>none
 |out,[a,b]=>cond (decide (0<=eF a)&&decide (0<=eF b)&&decide (pn (eF a) (eF b) 0 0% 65536=0)) (some (out++[u8 (pn (eF a) (eF b) 0 0/65536)])) none
 |out,[a,b,c]=>cond (decide (0<=eF a)&&decide (0<=eF b)&&decide (0<=eF c)&&decide (pn (eF a) (eF b) (eF c) 0% 256=0)) (some (out++[u8 (pn (eF a) (eF b) (eF c) 0/65536)]++[u8 (pn (eF a) (eF b) (eF c) 0/256% 256)])) none
 |out,a::b::c::d::r=>cond (decide (0<=eF a)&&decide (0<=eF b)&&decide (0<=eF c)&&decide (0<=eF d)) (zJ (out++[u8 (pn (eF a) (eF b) (eF c) (eF d)/65536)]++[u8 (pn (eF a) (eF b) (eF c) (eF d)/256% 256)]++[u8 (pn (eF a) (eF b) (eF c) (eF d)% 256)]) r) none
def qN (r:Int):aI:=(ae r).map λrow=>UInt8.ofNat (row.getD 0 0).toNat
def HS (s:aI):Bool:=decide (s.length=44)&&s.getD 0 0==36&&(zJ [] (s.drop 1)).isSome
abbrev jL:=(aI×aI)×aI×Int
def vh:jL:=(([],[]),[],0)
def mb (r:List Int):aI×aI:=(ab (r.getD 0 0),ab (r.getD 1 0))
def mq (r:List Int):jL:=(mb r,ab (r.getD 2 0),r.getD 3 0)
def bds (z:Int):List jL:=(ae z).map mq
def As (z:Int):List (aI×aI):=(ae z).map mb
def x5 (b:jL):Bool:=decide (0<=b.2.2)&&(decide (b.2.2<=1099511627776)&&(xg b.1.1 b.1.2&&gp b.2.1))
def zn (a b:aI×aI):Bool:=DQ a.1 a.2 b.1 b.2
def yl (a b:aI×aI):Int:=cond (a==b) 0 (cond (zn a b) (-1) 1)
def Mf:List jL->Bool
 |[]=>true
 |[_]=>true
 |a::b::r=>zn a.1 b.1&&Mf (b::r)
def sv (l:List jL):Bool:=Nat.ble l.length 64&&l.all x5&&Mf l
def HV (l:List jL) (w:aI×aI):Option jL:=cond (sv l) (l.find? (λb=>b.1==w)) none
def KV (l:List jL) (x:aI):List (aI×aI):=cond (sv l) ((l.filter (·.2.1==x)).map (·.1)) []
def GZ (l:List jL) (w:jL):List jL×Int:=cond (x5 w&&sv l) (cond (l.any (·.1==w.1)) (l.map (λb=>cond (b.1==w.1) w b),0) (cond (decide (l.length=64)) (l,10) (l.filter (λb=>zn b.1 w.1)++w::l.filter (λb=>zn w.1 b.1),0))) (l,1)
def MA (l:List jL) (w:jL):List jL×Int:=cond (sv l) (match l.find? (·.1==w.1)with|none=>(l,7)|some b=>cond (b.2.1==w.2.1) (l.filter (λb=> !(b.1==w.1)),0) (l,14)) (l,1)
def Ni (l:List jL) (w:aI×aI) (i f:Int):Prop:=(0<=i/\i<=l.length)/\(f=1->i<l.length)/\(sv l=true->(∀j:Nat,(j:Int)<i->yl (l.getD j vh).1 w<0)/\(∀j:Nat,i<=j->j<l.length->0<=yl (l.getD j vh).1 w)/\(f=1↔i<l.length/\yl (l.getD i.toNat vh).1 w=0))
structure ez where
 id:Int
 sec:aI
 j1:aI×aI
 tok:aI
 qK:Int
 since:Int
 uR:Int
 shown:Int
 EX:Int
deriving DecidableEq
def mS:ez:=⟨0,[],([],[]),[],0,0,0,0,0⟩
def jY (r:List Int):ez:=⟨r.getD 0 0,ab (r.getD 1 0),(ab (r.getD 2 0),ab (r.getD 3 0)),ab (r.getD 4 0),r.getD 5 0,r.getD 6 0,r.getD 7 0,r.getD 8 0,r.getD 9 0⟩
def ft (z:Int):List ez:=(ae z).map jY
def nH (t:aI):Bool:=t.all λc=>Nat.ble 32 c.toNat&&Nat.ble c.toNat 126
def b8 (t:aI):Bool:= !t.isEmpty&&(Nat.ble t.length 64&&(nH t&& !t.contains 32))
def xw (n:Int):Bool:=decide (0<=n)&&decide (n<=1099511627776)
def Ab (s:ez):Bool:=(decide (1<=s.id)&&decide (s.id<=1099511627776))&&(xw s.since&&xw s.EX)&&(decide (1<=s.qK)&&decide (s.qK<=1000)&&(decide (0<=s.uR)&&decide (s.uR<=3)))&&(decide (s.shown=1)||decide (s.EX=0))&&(b8 s.sec&&(b8 s.tok&&xg s.j1.1 s.j1.2))
def GM (a b:ez):Bool:=decide (a.sec=b.sec)&&decide (a.j1=b.j1)
def Ol (x s:ez):Bool:=GM x s||(decide (x.tok=s.tok)||decide (s.id<=x.id))
def qe (l:List ez):Bool:=Nat.ble l.length 16&&(List.range l.length).all λi=>Ab (l.getD i mS)&&(l.take i).all λx=> !Ol x (l.getD i mS)
def Zp (x:Int):Int:=(x+9223372036854775808)% 18446744073709551616-9223372036854775808
def zC (s:ez) (now:Int):Bool:=decide (86400<Zp (now-s.since))
def sm (l:List ez) (now:Int):List ez:=l.filter λs=> !zC s now
def HX (l:List ez) (id:Int):Option ez:=cond (qe l) (l.find? λs=>decide (s.id=id)) none
def nE (l:List ez) (now:Int) (w:ez):Nat×Int:=cond (xw now&&qe l) (match l.findIdx? (λs=>decide (s.id=w.id))with
 |some i=>cond (decide ((l.getD i mS).sec=w.sec)&& !zC (l.getD i mS) now) (i,0) (0,11)
 |none=>(0,11)) (0,1)
def L8 (l:List ez) (now:Int) (w:ez):(aI×aI)×Int:=cond (decide ((nE l now w).2=0)) (cond (decide ((l.getD (nE l now w).1 mS).shown=1)) ((l.getD (nE l now w).1 mS).j1,0) (([],[]),14)) (([],[]),(nE l now w).2)
def X2 (l:List ez) (now:Int) (w:ez) (i:Nat) (s:ez):List ez×Int:=cond (decide (s.uR=3)) (l,16) (cond (decide (s.tok=w.tok)) (cond (decide (s.shown=1)) (l,0) (l.set i {s with shown:=1,EX:=now},0)) (l.set i {s with uR:=s.uR+1},12))
def Mo (l:List ez) (now:Int) (w:ez):List ez×Int:=cond (decide ((nE l now w).2=0)) (X2 l now w (nE l now w).1 (l.getD (nE l now w).1 mS)) (l,(nE l now w).2)
def WO (live:List ez) (w:ez) (i:Nat) (s:ez):List ez×Int×Int×Int:=(live.set i {s with qK:=max s.qK w.qK},s.id,aT (decide (s.qK<w.qK)),0)
def WQ (l live:List ez) (w:ez):List ez×Int×Int×Int:=cond (live.any (λs=>decide (s.id=w.id))||live.any (λs=>decide (s.tok=w.tok))) (l,0,0,6) (cond (decide (live.length=16)) (l,0,0,10) (live.filter (λs=>decide (s.id<w.id))++w::live.filter (λs=>decide (w.id<s.id)),w.id,1,0))
def Lw (l:List ez) (w:ez):List ez×Int×Int×Int:=cond (Ab w&&(decide (w.uR<=0)&&(!decide (w.shown=1)&&qe l))) (match(sm l w.since).findIdx? (λs=>GM s w)with
 |some i=>WO (sm l w.since) w i ((sm l w.since).getD i mS)
 |none=>WQ l (sm l w.since) w) (l,0,0,1)
def Ng (l:List ez) (n i f:Int):Prop:=(0<=i/\i<=l.length)/\(f=1->i<l.length)/\(qe l=true->(∀j:Nat,(j:Int)<i->(l.getD j mS).id<n)/\(∀j:Nat,i<=j->j<l.length->n<=(l.getD j mS).id)/\(f=1↔i<l.length/\(l.getD i.toNat mS).id=n))
def NX:List Int:=[5,116,477315081741,437051401625,117,1,100,0,0,0]
structure c2 where
 tok:aI
 dq:aI
 bg:List aI
deriving DecidableEq
def bR:c2:=⟨[],[],[]⟩
def aG (z:Int):List aI:=(ae z).map λr=>ab (r.getD 0 0)
def gV (r:List Int):c2:=⟨ab (r.getD 0 0),ab (r.getD 1 0),aG (r.getD 2 0)⟩
def aB (z:Int):List c2:=(ae z).map gV
def ql (l:List c2):Nat:=l.length+(l.map λu=>u.bg.length).sum
def er (l:List aI):Bool:=(List.range l.length).all λi=>b8 (l.getD i [])&&(decide (i=0)||Op.bytesLess (l.getD (i-1) []) (l.getD i []))
def cO (l:List c2):Bool:=Nat.ble l.length 16&&(l.all (λu=>gp u.dq&&(Nat.ble u.bg.length 4&&er u.bg))&&er (l.map (·.tok)))
def sJ (l:List c2) (t:aI) (i f:Int):Prop:=(0<=i/\i<=l.length)/\(f=1->i<l.length)/\(er (l.map (·.tok))=true->(∀j:Nat,(j:Int)<i->Op.bytesLess (l.getD j bR).tok t=true)/\(∀j:Nat,i<=j->j<l.length->Op.bytesLess (l.getD j bR).tok t=false)/\(f=1↔i<l.length/\(l.getD i.toNat bR).tok=t))
def cB (l:List c2) (t:aI):Int×Int:=cond (cO l) (match l.findIdx? (λu=>decide (u.tok=t))with|some k=>((k:Int),0)|none=>(0,14)) (0,1)
def kU (l:List c2) (t:aI):aI×Int:=cond (decide ((cB l t).2=0)) ((l.getD (cB l t).1.toNat bR).dq,0) ([],(cB l t).2)
def ib (l:List c2) (t:aI) (d:List aI):Int:=cond (decide ((cB l t).2=0)) (cond (d.all λs=>(l.getD (cB l t).1.toNat bR).bg.contains s) 0 13) (cB l t).2
def nB (l:List c2) (t:aI):List c2×Int:=cond (decide ((cB l t).2=0)) (l.take (cB l t).1.toNat++l.drop ((cB l t).1.toNat+1),0) (l,(cB l t).2)
def kq (l:List c2) (t m:aI):List c2×Int:=cond (cO l&&(b8 t&&gp m)) (cond (l.findIdx? (λu=>decide (u.tok=t))).isSome (l,6) (cond (decide (l.length=16)) (l,10) (l.takeWhile (λu=>Op.bytesLess u.tok t)++⟨t,m,[]⟩::l.dropWhile (λu=>Op.bytesLess u.tok t),0))) (l,1)
def eD (s:aI):List aI->List aI
 |[]=>[s]
 |x::r=>cond (decide (x=s)) (x::r) (cond (Op.bytesLess s x) (s::x::r) (x::eD s r))
def gz (a d:List aI):List aI:=d.foldl (λl s=>eD s l) a
def hE (l:List c2) (t:aI) (d:List aI):List c2×Int:=cond (decide ((cB l t).2=0)) (cond (d.all b8) (cond (Nat.ble (gz (l.getD (cB l t).1.toNat bR).bg d).length 4) (l.set (cB l t).1.toNat ⟨(l.getD (cB l t).1.toNat bR).tok,(l.getD (cB l t).1.toNat bR).dq,gz (l.getD (cB l t).1.toNat bR).bg d⟩,0) (l,10)) (l,1)) (l,(cB l t).2)
structure jN where
 tok:aI
 j1:aI×aI
 room:aI
 Xq:aI
 Xm:aI
 sV:aI
deriving DecidableEq
def w8:jN:=⟨[],([],[]),[],[],[],[]⟩
def sk (r:List Int):jN:=⟨ab (r.getD 0 0),(ab (r.getD 1 0),ab (r.getD 2 0)),ab (r.getD 3 0),ab (r.getD 4 0),ab (r.getD 5 0),ab (r.getD 6 0)⟩
def jF (z:Int):List jN:=(ae z).map sk
def zK (p:jN):Bool:=b8 p.tok&&(b8 p.Xm&&(xg p.j1.1 p.j1.2&&(zT p.room&&(gp p.Xq&&(p.sV.isEmpty||gp p.sV)))))
def LC (l:List jN):Bool:=(List.range l.length).all λi=>decide (i=0)||Op.bytesLess (l.getD (i-1) w8).tok (l.getD i w8).tok
def xh (l:List jN):Bool:=Nat.ble l.length 32&&(l.all zK&&LC l)
def Nh (l:List jN) (t:aI) (i f:Int):Prop:=(0<=i/\i<=l.length)/\(f=1->i<l.length)/\(LC l=true->(∀j:Nat,(j:Int)<i->Op.bytesLess (l.getD j w8).tok t=true)/\(∀j:Nat,i<=j->j<l.length->Op.bytesLess (l.getD j w8).tok t=false)/\(f=1↔i<l.length/\(l.getD i.toNat w8).tok=t))
def HW (l:List jN) (t:aI):Option jN:=cond (xh l) (l.find? λp=>decide (p.tok=t)) none
def Mk (l:List jN) (w:jN):List jN×Int:=cond (zK w&&(w.sV.isEmpty&&xh l)) (cond (l.any λp=>decide (p.tok=w.tok)) (l,6) (cond (decide (l.length=32)) (l,10) (l.filter (λp=>Op.bytesLess p.tok w.tok)++w::l.filter (λp=>Op.bytesLess w.tok p.tok),0))) (l,1)
def MI (j1:aI×aI) (p:jN):Bool:=decide (p.j1=j1)&&p.sV.isEmpty
def L6 (l:List jN) (j1:aI×aI) (dq:aI):List jN×List jN×Int:=cond (gp dq&&xh l) (l.map (λp=>cond (MI j1 p) {p with sV:=dq} p),(l.filter (MI j1)).map (λp=>{p with sV:=dq}),0) (l,[],1)
def NL:aI:=[65,66,67,68,69,70,71,72,73,74,75,76,77,78,79,80,81,82,83,84,85,86,87,88,89,90,97,98,99,100,101,102,103,104,105,106,107,108,109,110,111,112,113,114,115,116,117,118,119,120,121,122,48,49,50,51,52,53,54,55,56,57,43,47]
def oP (n:Nat):UInt8:=NL.getD n 0
def Lh:aI->aI
 |[]=>[]
 |[a]=>[oP (a.toNat/4),oP (a.toNat% 4*16)]
 |[a,b]=>[oP (a.toNat/4),oP (a.toNat% 4*16+b.toNat/16),oP (b.toNat% 16*4)]
 |a::b::c::r=>oP (a.toNat/4)::oP (a.toNat% 4*16+b.toNat/16)::oP (b.toNat% 16*4+c.toNat/64)::oP (c.toNat% 64)::Lh r
def Vt:List Int:=[117,477315081741,437051401625,1786258745,1786259033,1721197221,0]
def Nq:Nat->List (List Int)->List (List Int)->Prop
 |600,[[z]],[[r]]=>r=aT (b8 (ab z))
 |601,[r],[[z]]=>z=aT (zK (sk r))
 |602,[[z]],[[r]]=>r=aT (xh (jF z))
 |603,[[z],[t]],[[i],[f]]=>Nh (jF z) (ab t) i f
 |604,[[z],[t]],[r,[f]]=>match HW (jF z) (ab t)with
  |some b=>sk r=b/\f=1
  |none=>r=[0,0,0,0,0,0,0]/\f=0
 |605,[[c],[i],[r]],[[y]]=>ae y=(ae c).take i.toNat++ae r++(ae c).drop i.toNat
 |606,[[z],r],[[y],[e]]=>(jF y,e)=Mk (jF z) (sk r)
 |607,[[z],a,[m]],[[y],[d],[e]]=>(jF y,jF d,e)=L6 (jF z) (mb a) (ab m)
 |608,[],[r]=>r=Vt
 |612,[r],[[z]]=>z=aT (zK (sk r))
 |613,[[z]],[[r]]=>r=aT (xh (jF z))
 |614,[[z],[t]],[r,[f]]=>match HW (jF z) (ab t)with
  |some b=>sk r=b/\f=1
  |none=>r=[0,0,0,0,0,0,0]/\f=0
 |615,[[z],r],[[y],[e]]=>(jF y,e)=Mk (jF z) (sk r)
 |616,[[z],a,[m]],[[y],[d],[e]]=>(jF y,jF d,e)=L6 (jF z) (mb a) (ab m)
 |617,[[a],[b]],[[r]]=>r=aT (decide (jF a=jF b))
 |618,[[r]],[[z]]=>ab z=Lh (qN r)
 |619,[[z]],[[r]]=>ae r=ae z
 |_,_,_=>False
def Nr:Nat->List (List Int)->List (List Int)->Prop
 |500,[[z]],[[r]]=>r=aT (decide (200<ql (aB z)))
 |501,[[z]],[[r]]=>r=aT ((ab z).contains 32)
 |502,[[z]],[[r]]=>r=aT (b8 (ab z))
 |503,[[z]],[[r]]=>r=aT (er (aG z))
 |504,[[z]],[[r]]=>r=aT (cO (aB z))
 |505,[[z],[t]],[[i],[f]]=>sJ (aB z) (ab t) i f
 |506,[[z],[t]],[[i],[e]]=>(i,e)=cB (aB z) (ab t)
 |507,[[z],[t]],[[s],[e]]=>(ab s,e)=kU (aB z) (ab t)
 |508,[[z],[t]],[[y],[e]]=>(aB y,e)=nB (aB z) (ab t)
 |509,[[z],[t],[m]],[[y],[e]]=>(aB y,e)=kq (aB z) (ab t) (ab m)
 |511,[[z],[t],[d]],[[e]]=>e=ib (aB z) (ab t) (aG d)
 |513,[[z],[t],[d]],[[y],[e]]=>(aB y,e)=hE (aB z) (ab t) (aG d)
 |530,[[z]],[[r]]=>r=aT (cO (aB z))
 |531,[[z],[t]],[[i]]=>i=match(aB z).findIdx? (λu=>decide (u.tok=ab t))with|some k=>(k:Int)|none=>-1
 |532,[[z],[t],[m]],[[y],[e]]=>(aB y,e)=kq (aB z) (ab t) (ab m)
 |533,[[z],[t]],[[y],[e]]=>(aB y,e)=nB (aB z) (ab t)
 |534,[[z],[t]],[[s],[e]]=>(ab s,e)=kU (aB z) (ab t)
 |535,[[z],[s]],[[y]]=>(aG z).Pairwise (λa b=>Op.bytesLess a b=true)->aG y=eD (ab s) (aG z)
 |536,[[z],[t],[d]],[[y],[e]]=>(aB y,e)=hE (aB z) (ab t) (aG d)
 |537,[[z],[t],[d]],[[e]]=>e=ib (aB z) (ab t) (aG d)
 |538,[[a],[b]],[[r]]=>r=aT (decide (aB a=aB b))
 |539,[[z]],[[y]]=>aB y=aB z
 |540,[_,_,_],[[r]]=>r=1
 |541,[_,_,_],[[r]]=>r=1
 |520,[],[[r]]=>r=1
 |521,[_,_],[[r]]=>r=1
 |522,[_,_,_],[[r]]=>r=1
 |512,[[z],[t]],[[r]]=>r=aT ((aG z).contains (ab t))
 |510,[[a],[b]],[[r]]=>r=cond (Op.bytesLess (ab a) (ab b)) (-1) (cond (decide (ab a=ab b)) 0 1)
 |n,a,b=>Nq n a b
def Np:Nat->List (List Int)->List (List Int)->Prop
 |400,[[z]],[[r]]=>r=aT (nH (ab z))
 |401,[[z]],[[r]]=>r=aT (b8 (ab z))
 |402,[r],[[z]]=>z=aT (Ab (jY r))
 |403,[[z]],[[r]]=>r=aT (qe (ft z))
 |404,[[z],[n]],[[i],[f]]=>Ng (ft z) n i f
 |417,[r,[n]],[[z]]=>z=aT (zC (jY r) n)
 |405,[[z],[n]],[r,[f]]=>match HX (ft z) n with
  |some b=>jY r=b/\f=1
  |none=>r=[0,0,0,0,0,0,0,0,0,0]/\f=0
 |406,[[z],[n],r],[[i],[e]]=>(i,e)=(((nE (ft z) n (jY r)).1:Int),(nE (ft z) n (jY r)).2)
 |407,[[z],[n],r],[a,[e]]=>(mb a,e)=L8 (ft z) n (jY r)
 |408,[[z],[n],r],[[y],[e]]=>(ft y,e)=Mo (ft z) n (jY r)
 |409,[[z],[n]],[[y]]=>ft y=sm (ft z) n
 |410,[[z],[n]],[[y]]=>ft y=cond (xw n&&qe (ft z)) (sm (ft z) n) []
 |411,[[c],[i],[r]],[[y]]=>ae y=(ae c).take i.toNat++ae r++(ae c).drop i.toNat
 |412,[[z],r],[[y],[i],[s],[e]]=>(ft y,i,s,e)=Lw (ft z) (jY r)
 |416,[[a],[b]],[[r]]=>r=aT (decide (ft a=ft b))
 |418,[],[r]=>r=NX
 |413,[],[[r]]=>r=1
 |414,[_],[[r]]=>r=1
 |415,[_,_],[[r]]=>r=1
 |420,[[z]],[[r]]=>r=aT (b8 (ab z))
 |422,[r],[[z]]=>z=aT (Ab (jY r))
 |423,[[z]],[[r]]=>r=aT (qe (ft z))
 |424,[[z],[n]],[[y]]=>ft y=cond (xw n&&qe (ft z)) (sm (ft z) n) []
 |425,[[z],[n]],[r,[f]]=>match HX (ft z) n with
  |some b=>jY r=b/\f=1
  |none=>r=[0,0,0,0,0,0,0,0,0,0]/\f=0
 |426,[[z],[n],r],[[i]]=>i=match(ft z).findIdx? (λs=>decide (s.id=(jY r).id)&&(decide (s.sec=(jY r).sec)&& !zC s n))with
  |some k=>(k:Int)
  |none=>-1
 |427,[[z],[n],r],[[y],[e]]=>(ft y,e)=Mo (ft z) n (jY r)
 |428,[[z],[n],r],[a,[e]]=>(mb a,e)=L8 (ft z) n (jY r)
 |429,[[z],r],[[y],[i],[s],[e]]=>(ft y,i,s,e)=Lw (ft z) (jY r)
 |430,[_,_],[[r]]=>r=1
 |431,[_,_,_],[[r]]=>r=1
 |n,a,b=>Nr n a b
def No:Nat->List (List Int)->List (List Int)->Prop
 |300,[r],[[z]]=>z=aT (x5 (mq r))
 |301,[r,a],[[z]]=>z=yl (mb r) (mb a)
 |302,[[z],a],[[i],[f]]=>Ni (bds z) (mb a) i f
 |303,[[z]],[[r]]=>r=aT (sv (bds z))
 |304,[[z],a],[r,[f]]=>match HV (bds z) (mb a)with
  |some b=>mq r=b/\f=1
  |none=>mq r=vh/\f=0
 |305,[[z],[x]],[[y]]=>As y=KV (bds z) (ab x)
 |306,[[c],[i],[r]],[[y]]=>ae y=(ae c).take i.toNat++ae r++(ae c).drop i.toNat
 |307,[[c],[i],[j]],[[y]]=>ae y=(ae c).take i.toNat++(ae c).drop j.toNat
 |308,[[z],r],[[y],[e]]=>(bds y,e)=GZ (bds z) (mq r)
 |309,[[z],r],[[y],[e]]=>(bds y,e)=MA (bds z) (mq r)
 |310,[],[[r]]=>r=1
 |311,[_,_],[[r]]=>r=1
 |312,[_],[[r]]=>r=1
 |320,[r],[[z]]=>z=aT (x5 (mq r))
 |321,[[z]],[[r]]=>r=aT (sv (bds z))
 |322,[[z],a],[r,[f]]=>match HV (bds z) (mb a)with
  |some b=>mq r=b/\f=1
  |none=>mq r=vh/\f=0
 |323,[[z],a],[[y]]=>bds y=(bds z).filter (λb=> !(b.1==mb a))
 |324,[[z],r],[[y],[e]]=>(bds y,e)=GZ (bds z) (mq r)
 |325,[[z],r],[[y],[e]]=>(bds y,e)=MA (bds z) (mq r)
 |326,[[z],[x]],[[y]]=>As y=KV (bds z) (ab x)
 |327,[[a],[b]],[[r]]=>r=aT (decide (bds a=bds b))
 |328,[[a],[b]],[[r]]=>r=aT (decide (As a=As b))
 |329,[_,_,_],[[r]]=>r=1
 |n,a,b=>Np n a b
def SB:Nat->List (List Int)->List (List Int)->Prop
 |73,[[z],[b]],[[r]]=>r=idx b (ab z)
 |36,[[z],[b]],[[r]]=>ab r=jD (·==u8 b) (ab z)
 |37,[[z],[b]],[[r]]=>ab r=hW (·==u8 b) (ab z)
 |120,[[z]],[[r]]=>ab r=iB (·==32) (ab z)
 |121,[[z]],[[r]]=>ab r=iB (·==46) (ab z)
 |122,[[z]],[[r]]=>ab r=iB iF (ab z)
 |123,[[z]],[[r]]=>ab r=iB ji (ab z)
 |124,[[z]],[[r]]=>ab r=iB dW (ab z)
 |125,[[z]],[[a],[b],[c]]=>(ab a,ab b,c)=kC 64 (ab z)
 |126,[[z]],[[a],[b],[c]]=>(ab a,ab b,c)=kC 58 (ab z)
 |127,[[z]],[[r]]=>r=aT ((ab z).contains 46)
 |128,[[z]],[[r]]=>r=aT (dd (ab z))
 |44,[[s],[b]],[[r]]=>r=aT ((ab s).all λc=>(ab b).contains c)
 |65,[[s],[b]],[[r]]=>r=aT ((ab s).all λc=>(ab b).contains c)
 |28,[[z]],[[r]]=>ab r=lower (ab z)
 |17,[[z]],[[r]]=>ab r=lower (ab z)
 |31,[[z],[c]],[[r]]=>r=aT ((ab z).contains (u8 c))
 |47,[[z]],[[r]]=>r=aT (gg (ab z))
 |30,[[z]],[[r]]=>r=aT (gg (ab z))
 |27,[[z]],[[r]]=>r=aT (hX (ab z))
 |24,[[z]],[[r]]=>r=aT (DV (ab z))
 |29,[[z]],[[r]]=>r=aT (DV (ab z))
 |50,[[c]],[[r]]=>r=aT (jS (u8 c))
 |51,[[c]],[[r]]=>r=aT (lZ (u8 c))
 |52,[[c]],[[r]]=>r=aT (dW (u8 c))
 |10,[[z]],[[a],[e]]=>(ab a,e)=BP (ab z)
 |11,[[z]],[[a],[e]]=>(ab a,e)=BP (ab z)
 |35,[[w]],[[c],[t],[o]]=>match BE (ab w)with
  |some (code,qm)=>ab c=code/\t=aT (!qm.isEmpty)/\o=1
  |none=>ab c=[]/\t=0/\o=0
 |32,[[w]],[[c,t],[o]]=>match BE (ab w)with
  |some (code,qm)=>ab c=code/\ab t=qm/\o=1
  |none=>o=0/\ab c=[]/\ab t=[]
 |33,[[s]],[[d],[p],[o]]=>match vg (ab s) [] false with
  |some (BF,bV)=>ab d=BF/\p=aT bV/\o=1
  |none=>ab d=[]/\p=0/\o=0
 |34,[[s],[t]],[[r]]=>ab r=cond ((ab t).isPrefixOf (ab s)) ((ab s).drop (ab t).length) (ab s)
 |12,[[w],[s]],[[a],[e]]=>(ab a,e)=En (ab w) (ab s)
 |13,[[w],[s]],[[a],[e]]=>(ab a,e)=En (ab w) (ab s)
 |14,[[a,b],[c,d]],[[r]]=>r=aT (DQ (ab a) (ab b) (ab c) (ab d))
 |21,[[a,b],[c,d]],[[r]]=>r=aT (DQ (ab a) (ab b) (ab c) (ab d))
 |15,[[m],[w]],[[a,b],[e]]=>(ab a,ab b,e)=wT (ab m) (ab w)
 |18,[[m],[w]],[[a,b],[e]]=>(ab a,ab b,e)=wT (ab m) (ab w)
 |16,[[m,w]],[[r]]=>r=aT (xg (ab m) (ab w))
 |19,[[m,w]],[[r]]=>r=aT (xg (ab m) (ab w))
 |20,[[m,w]],[[r]]=>ab r=ab m++[32]++ab w
 |202,[[z]],[[r]]=>ab r=iB nt (ab z)
 |203,[[z]],[[r]]=>ab r=iB JZ (ab z)
 |200,[[z]],[[r]]=>r=aT (gp (ab z))
 |207,[[z]],[[r]]=>r=aT (gp (ab z))
 |201,[[z]],[[r]]=>r=aT (zT (ab z))
 |208,[[z]],[[r]]=>r=aT (zT (ab z))
 |204,[[z]],[[r]]=>r=idx 58 (ab z)
 |205,[[z]],[[r]]=>r=aT (hX (ab z))
 |206,[[z],[k]],[[a],[b],[c]]=>(ab a,ab b,c)=gS (u8 k) (ab z)
 |211,[[z],[k]],[[a],[b],[c]]=>(ab a,ab b,c)=gS (u8 k) (ab z)
 |209,[[z]],[[a],[b],[e]]=>(ab a,ab b,e)=Mg (ab z)
 |210,[[z]],[[a],[b],[e]]=>(ab a,ab b,e)=Mg (ab z)
 |220,[[z]],[[r],[e]]=>match zJ [] (ab z)with
  |some l=>qN r=l/\e=0
  |none=>qN r=[]/\e=2
 |221,[[z]],[[r],[e]]=>match zJ [] (ab z)with
  |some l=>qN r=l/\e=0
  |none=>qN r=[]/\e=2
 |222,[[r]],[[z]]=>ab z=Em (qN r)
 |225,[[r]],[[z]]=>ab z=Em (qN r)
 |223,[[z]],[[r]]=>r=aT (HS (ab z))
 |224,[[z]],[[r]]=>r=aT (HS (ab z))
 |230,[[c]],[[r]]=>r=idx c A5
 |226,[],[[r]]=>r=1
 |227,[_],[[r]]=>r=1
 |228,[_],[[r]]=>r=1
 |229,[_,_],[[r]]=>r=1
 |9,[],[[r]]=>r=1
 |3,[_],[[r]]=>r=1
 |4,[_,_],[[r]]=>r=1
 |5,[_],[[r]]=>r=1
 |6,[_,_,_],[[r]]=>r=1
 |7,[_,_],[[r]]=>r=1
 |8,[_,_],[[r]]=>r=1
 |n,a,b=>No n a b
theorem uQ (b:UInt8):u8 (b.toNat:Int)=b:=by simp[u8]
theorem xy {b:UInt8} {z:Int} (h0:0<=z) (h1:z<=255):((b.toNat:Int)=z)↔(b==u8 z)=true:=by
 rw[beq_iff_eq,<-UInt8.toNat_inj]
 unfold u8
 simp
 omega
theorem wJ {c:Int} (h0:0<=c) (h1:c<=255):∀l:aI,(idx c l=-1/\u8 c∉l)∨(0<=idx c l/\(idx c l).toNat<l.length/\l.getD (idx c l).toNat 0=u8 c/\u8 c∈l/\∀j,j<(idx c l).toNat->l.getD j 0≠u8 c)
 |[]=> .inl ⟨rfl,by simp⟩
 |b::r=>by
  have hb:=xy (b:=b) h0 h1
  have ih:=wJ h0 h1 r
  by_cases he:(b.toNat:Int)=c
  ·have hb':b=u8 c:=by simpa using hb.1 he
   right
   have:idx c (b::r)=0:=by simp[idx,he]
   rw[this]
   refine⟨Int.le_refl _,by simp,by simp[hb'],by simp[hb'],λj hj=>by simp at hj⟩
  ·have hb':¬b=u8 c:=λe=>he (hb.2 (by simpa using e))
   rcases ih with⟨h2,h3⟩|⟨h2,h3,h4,h5,h6⟩
   ·left
    exact⟨by simp[idx,he,h2],by simp[h3];exactλe=>hb' e.symm⟩
   ·right
    have e:idx c (b::r)=idx c r+1:=by
     show(if(b.toNat:Int)=c then 0 else if idx c r<0 then-1 else idx c r+1)=_
     rw[if_neg he,if_neg (by omega)]
    have qY:(idx c (b::r)).toNat=(idx c r).toNat+1:=by omega
    rw[qY]
    refine⟨by omega,by simp;omega,by simpa using h4,by simp[h5],λj hj=>?_⟩
    cases j with
    |zero=>simpa using hb'
    |succ j=>simpa using h6 j (by omega)
theorem JR {c:Int} (h0:0<=c) (h1:c<=255) (l:aI):decide (0<=idx c l)=l.contains (u8 c):=by
 rcases wJ h0 h1 l with⟨h2,h3⟩|⟨h2,_,_,h3,_⟩
 ·rw[h2];simp[h3]
 ·simp[h2,h3]
theorem ic (b:Bool):0<=aT b/\aT b<=1:=by cases b<;>decide
theorem vf (b:Bool):decide (aT b=1)=b:=by cases b<;>rfl
theorem Ak {z:Int} (h0:0<=z) (h1:z<=255):((u8 z).toNat:Int)=z:=by unfold u8;simp;omega
theorem Fi (l:aI) (i:Nat) (h:i<l.length):l.take (i+1)=l.take i++[l.getD i 0]:=by
 rw[List.take_add_one];simp[List.getD,h]
theorem r8 {z:Int} (h:z<=aD):((ab z).length:Int)<=9223372036854775807:=by
 have:=qx h;unfold fs at this;omega
theorem zZ (p:UInt8->Bool) (l:aI) (x:UInt8):hW p (l++[x])=cond (p x) (hW p l) (l++[x]):=by
 unfold hW
 simp only[List.reverse_append,List.reverse_cons,List.reverse_nil,List.nil_append,List.singleton_append,List.dropWhile_cons]
 cases p x<;>simp
end Go.bG
set_option maxRecDepth 100000
namespace Go.bG
open Go Go.bo
def jU:FuncId->Nat->Option c0:=λ_ _=>none
def jV:Nat->List Nat:=λ_=>[]
def yt:D:= .int .u8 0 255
def HE:D:= .int .i64 (-1) 9223372036854775807
def mr:D:= .int .i64 0 21
def S0:D:= .jl [32]
def SP:D:= .jl [46,46]
def SR:D:= .jl [46,45]
def SO:D:= .jl [58]
def SU:D:= .jl [97,98,99,100,101,102,103,104,105,106,107,108,109,110,111,112,113,114,115,116,117,118,119,120,121,122,65,66,67,68,69,70,71,72,73,74,75,76,77,78,79,80,81,82,83,84,85,86,87,88,89,90,48,49,50,51,52,53,54,55,56,57,46,45]
def SQ:D:= .jl [48,49,50,51,52,53,54,55,56,57]
def S1:D:= .jl [97,98,99,100,101,102,103,104,105,106,107,108,109,110,111,112,113,114,115,116,117,118,119,120,121,122,48,49,50,51,52,53,54,55,56,57,46,95,61,47,43,45]
def d64:D:= .int .u8 64 64
def OJ:D:= .int .i64 (-1) 1
def HG:D:= .int .i64 0 9223372036854775807
def ON:D:= .int .i64 (-9223372036854775808) 9223372036854775807
def fB:bN:= .rd [.str,.str,.sub 1]
def oN:bN:= .rd [.str]
def pV:cC:=⟨75,204,[.str],[HE]⟩
def Ti:FuncId->Nat->Option c0:=λf r=>match f,r with
 |75,2=>some ⟨[0],[(3,0,9223372036854775807)],[],[],[],[],[]⟩
 |_,_=>none
def TQ:Nat->List Nat:=λn=>[1]
def pZ:cC:=⟨54,50,[yt],[.bool]⟩
def tX:cC:=⟨105,51,[yt],[.bool]⟩
def ny:cC:=⟨55,52,[yt],[.bool]⟩
def uc:cC:=⟨91,30,[.str],[.bool]⟩
def Tu:FuncId->Nat->Option c0:=λf r=>match f,r with
 |91,4=>some ⟨[0],[(3,0,9223372036854775807)],[],[],[],[],[]⟩
 |_,_=>none
def T2:Nat->List Nat:=λn=>[1]
def ud:cC:=⟨76,205,[.str],[.bool]⟩
def Tv:FuncId->Nat->Option c0:=λf r=>match f,r with
 |76,6=>some ⟨[0,3,4],[(5,0,9223372036854775807)],[],[],[],[],[]⟩
 |_,_=>none
def T3:Nat->List Nat:=λn=>[1]
def ua:cC:=⟨53,206,[.str,d64],[.str,.str,.bool]⟩
def pY:cC:=⟨38,207,[.str],[.bool]⟩
def Tw:FuncId->Nat->Option c0:=λf r=>match f,r with
 |38,3=>some ⟨[3,5],[(6,0,9223372036854775807)],[],[],[],[],[]⟩
 |_,_=>none
def T4:Nat->List Nat:=λn=>[1]
def nA:cC:=⟨30,420,[.str],[.bool]⟩
def TC:FuncId->Nat->Option c0:=λf r=>match f,r with
 |30,2=>some ⟨[0],[(3,0,9223372036854775807)],[],[],[],[],[]⟩
 |_,_=>none
def Ua:Nat->List Nat:=λn=>[1]
def pX:cC:=⟨106,73,[.str,yt],[HE]⟩
def pW:cC:=⟨69,126,[.str,SO],[.str,.str,.bool]⟩
def nz:cC:=⟨87,65,[.str,.str],[.bool]⟩
def Tk:FuncId->Nat->Option c0:=λf r=>match f,r with
 |87,2=>some ⟨[0,1,7],[(8,0,9223372036854775807)],[],[],[],[],[]⟩
 |_,_=>none
def TS:Nat->List Nat:=λn=>[1]
def SN:cC:=⟨42,128,[.str,SP],[.bool]⟩
def zN:lH:=⟨SN,41⟩
def uh:cC:=⟨86,122,[.str,SR],[.str]⟩
def Tz:FuncId->Nat->Option c0:=λf r=>match f,r with
 |100,1=>some ⟨[1],[(0,0,0)],[],[],[],[],[]⟩
 |101,1=>some ⟨[1],[(0,0,0)],[],[],[],[],[]⟩
 |_,_=>none
def T7:Nat->List Nat:=λn=>[1]
def ui:cC:=⟨86,123,[.str,SU],[.str]⟩
def TA:FuncId->Nat->Option c0:=λf r=>match f,r with
 |100,1=>some ⟨[1],[(0,0,0)],[],[],[],[],[]⟩
 |101,1=>some ⟨[1],[(0,0,0)],[],[],[],[],[]⟩
 |_,_=>none
def T8:Nat->List Nat:=λn=>[1]
def ug:cC:=⟨86,124,[.str,SQ],[.str]⟩
def Ty:FuncId->Nat->Option c0:=λf r=>match f,r with
 |100,1=>some ⟨[1],[(0,0,0)],[],[],[],[],[]⟩
 |101,1=>some ⟨[1],[(0,0,0)],[],[],[],[],[]⟩
 |_,_=>none
def T6:Nat->List Nat:=λn=>[1]
def tY:cC:=⟨88,47,[.str],[.bool]⟩
def uf:cC:=⟨72,27,[.str],[.bool]⟩
def uj:cC:=⟨86,202,[.str,S1],[.str]⟩
def TB:FuncId->Nat->Option c0:=λf r=>match f,r with
 |100,1=>some ⟨[1],[(0,0,0)],[],[],[],[],[]⟩
 |101,1=>some ⟨[1],[(0,0,0)],[],[],[],[],[]⟩
 |_,_=>none
def T9:Nat->List Nat:=λn=>[1]
def p2:cC:=⟨34,200,[.str],[.bool]⟩
def ub:cC:=⟨41,400,[.str],[.bool]⟩
def Tt:FuncId->Nat->Option c0:=λf r=>match f,r with
 |41,2=>some ⟨[0,5],[(6,0,9223372036854775807)],[],[],[],[],[]⟩
 |_,_=>none
def T1:Nat->List Nat:=λn=>[1]
def zh:cC:=⟨89,510,[.str,.str],[OJ]⟩
def rZ:cM:=⟨6,500,[fB],[.d .bool],0⟩
def Tj:FuncId->Nat->Option c0:=λf r=>match f,r with
 |6,3=>some ⟨[0],[(3,0,9223372036854775807),(4,0,9223372036854775807)],[],[],[],[],[]⟩
 |_,_=>none
def TR:Nat->List Nat:=λn=>[1,1]
def tW:cC:=⟨42,501,[.str,S0],[.bool]⟩
def oK:cC:=⟨24,502,[.str],[.bool]⟩
def tV:cM:=⟨35,503,[oN],[.d .bool],0⟩
def Th:FuncId->Nat->Option c0:=λf r=>match f,r with
 |35,2=>some ⟨[0,5,6],[(7,0,9223372036854775807)],[],[],[],[],[]⟩
 |_,_=>none
def TP:Nat->List Nat:=λn=>[1]
def nw:cM:=⟨13,504,[fB],[.d .bool],0⟩
def Tf:FuncId->Nat->Option c0:=λf r=>match f,r with
 |13,5=>some ⟨[0,9,10],[(11,0,9223372036854775807)],[],[],[(3,[.str],9)],[],[]⟩
 |_,_=>none
def TN:Nat->List Nat:=λn=>[1,1,1,1]
def rY:cM:=⟨36,505,[fB,.d .str],[.d HG,.d .bool],0⟩
def Tg:FuncId->Nat->Option c0:=λf r=>match f,r with
 |48,3=>some ⟨[0,1,2,8],[(9,0,9223372036854775807),(10,0,9223372036854775807)],[],[],[],[],[]⟩
 |_,_=>none
def TO:Nat->List Nat:=λn=>[1,1]
def nx:cM:=⟨21,506,[fB,.d .str],[.d HG,.d mr],0⟩
def rX:cM:=⟨18,507,[fB,.d .str],[.d .str,.d mr],0⟩
def DC:cM:=⟨16,508,[fB,.d .str],[fB,.d mr],0⟩
def pU:cM:=⟨14,509,[fB,.d .str,.d .str],[fB,.d mr],0⟩
def ue:cM:=⟨33,512,[oN,.d .str],[.d .bool],0⟩
def Tx:FuncId->Nat->Option c0:=λf r=>match f,r with
 |46,2=>some ⟨[0,1,7],[(8,0,9223372036854775807)],[],[],[],[],[]⟩
 |_,_=>none
def T5:Nat->List Nat:=λn=>[1]
def oJ:cM:=⟨11,511,[fB,.d .str,oN],[.d mr],0⟩
def Te:FuncId->Nat->Option c0:=λf r=>match f,r with
 |40,2=>some ⟨[0,1,7],[(8,0,9223372036854775807)],[],[],[],[],[]⟩
 |_,_=>none
def TM:Nat->List Nat:=λn=>[1]
def nv:cM:=⟨8,513,[fB,.d .str,oN],[fB,.d mr],84⟩
def r6:cM:=⟨5,520,[],[.d .bool],0⟩
def kp:cM:=⟨20,530,[fB],[.d .bool],0⟩
def Tp:FuncId->Nat->Option c0:=λf r=>match f,r with
 |20,4=>some ⟨[0],[(3,0,9223372036854775807)],[],[],[],[],[]⟩
 |20,10=>some ⟨[0,3,4],[(5,0,9223372036854775807)],[],[],[],[],[]⟩
 |_,_=>none
def TX:Nat->List Nat:=λn=>[1]
def kL:cM:=⟨29,531,[fB,.d .str],[.d ON],0⟩
def Tr:FuncId->Nat->Option c0:=λf r=>match f,r with
 |29,2=>some ⟨[0,1],[(5,0,9223372036854775807)],[],[],[],[],[]⟩
 |_,_=>none
def TZ:Nat->List Nat:=λn=>[1]
def wM:cM:=⟨15,532,[fB,.d .str,.d .str],[fB,.d mr],0⟩
def To:FuncId->Nat->Option c0:=λf r=>match f,r with
 |15,8=>some ⟨[0,1,2],[(8,0,9223372036854775807)],[],[],[],[],[]⟩
 |_,_=>none
def TW:Nat->List Nat:=λn=>[1]
def wL:cM:=⟨17,533,[fB,.d .str],[fB,.d mr],0⟩
def wN:cM:=⟨19,534,[fB,.d .str],[.d .str,.d mr],0⟩
def tZ:cM:=⟨31,535,[oN,.d .str],[oN],66⟩
def Ts:FuncId->Nat->Option c0:=λf r=>match f,r with
 |31,4=>some ⟨[0,1],[(7,0,9223372036854775807)],[],[6],[(5,[.str],9)],[],[]⟩
 |_,_=>none
def T0:Nat->List Nat:=λn=>[1,1,1,1,1]
def r0:cM:=⟨9,536,[fB,.d .str,oN],[fB,.d mr],84⟩
def Tl:FuncId->Nat->Option c0:=λf r=>match f,r with
 |9,8=>some ⟨[0,1,2,8],[(10,0,9223372036854775807)],[],[],[],[],[(9,[.str])]⟩
 |_,_=>none
def TT:Nat->List Nat:=λn=>[1,1,1,1]
def r3:cM:=⟨12,537,[fB,.d .str,oN],[.d mr],0⟩
def Tm:FuncId->Nat->Option c0:=λf r=>match f,r with
 |12,7=>some ⟨[0,2,7],[(8,0,9223372036854775807)],[],[],[],[],[]⟩
 |12,11=>some ⟨[0,2,7,8],[(10,0,9223372036854775807)],[],[9],[],[],[]⟩
 |_,_=>none
def TU:Nat->List Nat:=λn=>cond (Nat.beq n 15) [1,1] [1]
def r5:cM:=⟨10,538,[fB,fB],[.d .bool],0⟩
def Tq:FuncId->Nat->Option c0:=λf r=>match f,r with
 |10,4=>some ⟨[0,1],[(5,0,9223372036854775807)],[],[],[],[],[]⟩
 |10,9=>some ⟨[0,1,5],[(6,0,9223372036854775807)],[],[],[],[],[]⟩
 |_,_=>none
def TY:Nat->List Nat:=λn=>[1]
def r4:cM:=⟨7,539,[fB],[fB],85⟩
def Tn:FuncId->Nat->Option c0:=λf r=>match f,r with
 |7,3=>some ⟨[0],[(4,0,9223372036854775807)],[],[],[(3,[.str,.str,.sub 1],39)],[],[]⟩
 |_,_=>none
def TV:Nat->List Nat:=λn=>[1,1,1,1]
def wO:cM:=⟨3,541,[fB,.d .str,oN],[.d .bool],0⟩
def sh:Nat->List Nat×List Nat
 |204=>([1],[1])
 |50=>([1],[1])
 |51=>([1],[1])
 |52=>([1],[1])
 |30=>([1],[1])
 |205=>([1],[1])
 |206=>([1,1],[1,1,1])
 |207=>([1],[1])
 |420=>([1],[1])
 |73=>([1,1],[1])
 |126=>([1],[1,1,1])
 |65=>([1,1],[1])
 |128=>([1],[1])
 |122=>([1],[1])
 |123=>([1],[1])
 |124=>([1],[1])
 |47=>([1],[1])
 |27=>([1],[1])
 |202=>([1],[1])
 |200=>([1],[1])
 |400=>([1],[1])
 |510=>([1,1],[1])
 |500=>([1],[1])
 |501=>([1],[1])
 |502=>([1],[1])
 |503=>([1],[1])
 |504=>([1],[1])
 |505=>([1,1],[1,1])
 |506=>([1,1],[1,1])
 |507=>([1,1],[1,1])
 |508=>([1,1],[1,1])
 |509=>([1,1,1],[1,1])
 |512=>([1,1],[1])
 |511=>([1,1,1],[1])
 |513=>([1,1,1],[1,1])
 |520=>([],[1])
 |530=>([1],[1])
 |531=>([1,1],[1])
 |532=>([1,1,1],[1,1])
 |533=>([1,1],[1,1])
 |534=>([1,1],[1,1])
 |535=>([1,1],[1])
 |536=>([1,1,1],[1,1])
 |537=>([1,1,1],[1])
 |538=>([1,1],[1])
 |539=>([1],[1])
 |540=>([1,1,1],[1])
 |541=>([1,1,1],[1])
 |_=>([],[])
abbrev gZ (P:Program) (gl:dt) (c:cC) (bd:ey) (li:FuncId->Nat->Option c0) (dx:Nat->List Nat) (lens:List Nat) (B:(Nat->List (List Int)->List (List Int)->Prop)->(List (List Int)->List (List Int)->Prop)->Prop):Prop:=∀S K,u9 sh dx S K lens (dD c.args) c.res (c.tree P gl bd li 600 6)=B S K
end Go.bG
namespace Go.bG
open Go Go.bo
theorem E4 {l:aI} (h:l≠[]):∃r x,l=r++[x]:=⟨_,_,(List.dropLast_concat_getLast h).symm⟩
theorem Xj:ab 0=[]:=rfl
theorem eq_nil {z af:Int} (h:af=aa 4 [z,0]):decide (af=1)=(ab z==[]):=by
 rw[h];simp only[aa,Xj]
 cases hz:ab z with
 |nil=>rfl
 |cons x r=>simp
def FL (S:Nat->List (List Int)->List (List Int)->Prop) (K:List (List Int)->List (List Int)->Prop):Prop:=
 ∀z0:Int,0<=z0->z0<=aD->
 ∀af:Int,0<=af->af<=1->af=aa 4 [59,z0]->
 (((decide (af=1))=true->
  ad 2 [z0,0,0]/\
  ∀z2:Int,0<=z2->z2<=aD->z2=aa 2 [z0,0,0]->
  ∀z3:Int,0<=z3->z3<=9223372036854775807->z3=aa 0 [z0]->
  ad 2 [z0,1,z3]/\
  ∀z4:Int,0<=z4->z4<=aD->z4=aa 2 [z0,1,z3]->
  K [[z0]] [[z2],[z4],[(cond (true) 1 0)]]
 )/\((decide (af=1))=false->
  ∀z2:Int,(-1)<=z2->z2<=9223372036854775807->S 73 [[z0],[58]] [[z2]]->
  (((decide (0<=z2))=true->
   ad 2 [z0,0,z2]/\
   ∀z3:Int,0<=z3->z3<=aD->z3=aa 2 [z0,0,z2]->
   ∀z4:Int,0<=z4->z4<=1->0<=(z2+9223372036854775809)-18446744073709551616*z4->(z2+9223372036854775809)-18446744073709551616*z4<18446744073709551616->
   ∀z5:Int,0<=z5->z5<=9223372036854775807->z5=aa 0 [z0]->
   ad 2 [z0,((z2+((-18446744073709551616)*z4))+1),z5]/\
   ∀ak:Int,0<=ak->ak<=aD->ak=aa 2 [z0,((z2+((-18446744073709551616)*z4))+1),z5]->
   K [[z0]] [[z3],[ak],[(cond (true) 1 0)]]
  )/\((decide (0<=z2))=false->
   K [[z0]] [[z0],[0],[(cond (false) 1 0)]]
  ))
 ))
def FQ (S:Nat->List (List Int)->List (List Int)->Prop) (K:List (List Int)->List (List Int)->Prop):Prop:=
 ∀z0:Int,0<=z0->z0<=aD->∀af:Int,0<=af->af<=aD->
 ∀z2:Int,0<=z2->z2<=9223372036854775807->z2=aa 0 [z0]->
 ∃(eX:List (List Int)->Prop) (dn:List (List Int)->Nat),eX [[0]]/\(∀z4:Int,0<=z4->z4<=9223372036854775807->eX [[z4]]->
  (((decide (z4<z2))=true->
   ad 1 [z0,z4]/\
   ∀z5:Int,0<=z5->z5<=255->z5=aa 1 [z0,z4]->
   ∀ak:Int,(-1)<=ak->ak<=9223372036854775807->S 73 [[af],[z5]] [[ak]]->
   (((decide (ak<0))=true->
    K [[z0],[af]] [[(cond (false) 1 0)]]
   )/\((decide (ak<0))=false->
    ∀aq:Int,0<=aq->aq<=1->0<=(z4+9223372036854775809)-18446744073709551616*aq->(z4+9223372036854775809)-18446744073709551616*aq<18446744073709551616->
    ad 39 [((z4+((-18446744073709551616)*aq))+1),0,9223372036854775807]/\
    (eX [[((z4+((-18446744073709551616)*aq))+1)]]/\dn [[((z4+((-18446744073709551616)*aq))+1)]]<dn [[z4]])
   ))
  )/\((decide (z4<z2))=false->
   K [[z0],[af]] [[(cond (true) 1 0)]]
  ))
 )
theorem VO {c n:Int} (h0:0<=c) (h1:c<=255) (hn:ab n=[u8 c]) {id:Nat} (hid:∀z a b r,SB id [[z]] [[a],[b],[r]]=((ab a,ab b,r)=kC c (ab z))):
 (∀z0:Int,0<=z0->z0<=aD->
 ∀af:Int,0<=af->af<=1->af=aa 4 [n,z0]->
 (((decide (af=1))=true->
  ad 2 [z0,0,0]/\
  ∀z2:Int,0<=z2->z2<=aD->z2=aa 2 [z0,0,0]->
  ∀z3:Int,0<=z3->z3<=9223372036854775807->z3=aa 0 [z0]->
  ad 2 [z0,1,z3]/\
  ∀z4:Int,0<=z4->z4<=aD->z4=aa 2 [z0,1,z3]->
  b6 SB [.str,.str,.bool] id [[z0]] [[z2],[z4],[(cond (true) 1 0)]]
 )/\((decide (af=1))=false->
  ∀z2:Int,(-1)<=z2->z2<=9223372036854775807->SB 73 [[z0],[c]] [[z2]]->
  (((decide (0<=z2))=true->
   ad 2 [z0,0,z2]/\
   ∀z3:Int,0<=z3->z3<=aD->z3=aa 2 [z0,0,z2]->
   ∀z4:Int,0<=z4->z4<=1->0<=(z2+9223372036854775809)-18446744073709551616*z4->(z2+9223372036854775809)-18446744073709551616*z4<18446744073709551616->
   ∀z5:Int,0<=z5->z5<=9223372036854775807->z5=aa 0 [z0]->
   ad 2 [z0,((z2+((-18446744073709551616)*z4))+1),z5]/\
   ∀ak:Int,0<=ak->ak<=aD->ak=aa 2 [z0,((z2+((-18446744073709551616)*z4))+1),z5]->
   b6 SB [.str,.str,.bool] id [[z0]] [[z3],[ak],[(cond (true) 1 0)]]
  )/\((decide (0<=z2))=false->
   b6 SB [.str,.str,.bool] id [[z0]] [[z0],[0],[(cond (false) 1 0)]]
  ))
 ))):=by
  intro z0 a0 a1 af b0 b1 hz1
  simp only[aa,hn]at hz1
  refine⟨λh=>?_,λh z2 bY c1 h2=>?_⟩
  ·have hs:ab z0=[u8 c]:=by
    by_cases h':[u8 c]=ab z0
    ·exact h'.symm
    ·rw[if_neg h']at hz1;subst hz1;simp at h
   refine⟨⟨by omega,by omega,by omega⟩,λz2 bY c1 h2 z3 d0 d1 h3=>?_⟩
   simp only[aa,hs,List.length_singleton]at h3
   refine⟨⟨by omega,by omega,by rw[hs];simp only[List.length_singleton];omega⟩,λz4 cy e1 h4=>⟨⟨bY,c1,cy,e1,by decide,by decide,trivial⟩,?_⟩⟩
   rw[hid]
   have e2:ab z2=[]:=by rw[h2];simp[aa,gT]
   have eo:ab z4=[]:=by rw[h4];simp[aa,gT,hs]
   have OY:idx c [u8 c]=0:=by simp[idx,Ak h0 h1]
   rw[e2,eo,hs]
   simp[kC,OY]
  ·have h2:z2=idx c (ab z0):=h2
   refine⟨λhp=>?_,λhp=>⟨⟨a0,a1,Int.le_refl _,mj,by decide,by decide,trivial⟩,?_⟩⟩
   ·have hp:0<=z2:=by simpa using hp
    have hr:=rS c (ab z0)
    have hL:=r8 a1
    refine⟨⟨by omega,by omega,by omega⟩,λz3 d0 d1 h3 z4 cy e1 e2 e3 z5 f0 f1 h5=>?_⟩
    simp only[aa]at h5
    have O6:z2+-18446744073709551616*z4+1=z2+1:=by omega
    rw[O6]
    refine⟨⟨by omega,by omega,by omega⟩,λak g0 g1 h6=>⟨⟨d0,d1,g0,g1,by decide,by decide,trivial⟩,?_⟩⟩
    rw[hid]
    have e3:ab z3=(ab z0).take z2.toNat:=by rw[h3];simp[aa,gT]
    have n9:ab ak=(ab z0).drop (z2.toNat+1):=by
     rw[h6];simp only[aa,gT]
     rw[show(z2+1).toNat=z2.toNat+1 by omega]
     exact List.take_of_length_le (by simp;omega)
    rw[e3,n9]
    unfold kC
    rw[<-h2,show decide (0<=z2)=true by simpa using hp]
    rfl
   ·rw[hid]
    unfold kC
    rw[<-h2,hp]
    rfl
theorem VP:FL SB (b6 SB [.str,.str,.bool] 126):=VO (c:=58) (n:=59) (by decide) (by decide) (by decide) λ_ _ _ _=>rfl
theorem A9 (p:UInt8->Bool) (l:aI) (i:Nat) (h:i<l.length):(l.take (i+1)).all p=((l.take i).all p&&p (l.getD i 0)):=by
 rw[Fi l i h];simp
theorem A8 (p:UInt8->Bool) (l:aI) (i:Nat) (h:i<l.length) (hp:p (l.getD i 0)=false):l.all p=false:=by
 rw[List.all_eq_false]
 refine⟨l.getD i 0,?_,λe=>by rw[hp]at e;cases e⟩
 simp[List.getD,h]
theorem Fs {z q L:Int} (h:z<L) (hL:L<=9223372036854775807) (h0:0<=z) (q0:0<=q) (e2:0<=(z+9223372036854775809)-18446744073709551616*q):z+-18446744073709551616*q+1=z+1:=by omega
theorem V7 {id:Nat} (hid:∀s b r,SB id [[s],[b]] [[r]]=(r=aT ((ab s).all λc=>(ab b).contains c))):
 (∀z0:Int,0<=z0->z0<=aD->∀af:Int,0<=af->af<=aD->
 ∀z2:Int,0<=z2->z2<=9223372036854775807->z2=aa 0 [z0]->
 ∃(eX:List (List Int)->Prop) (dn:List (List Int)->Nat),eX [[0]]/\(∀z4:Int,0<=z4->z4<=9223372036854775807->eX [[z4]]->
  (((decide (z4<z2))=true->
   ad 1 [z0,z4]/\
   ∀z5:Int,0<=z5->z5<=255->z5=aa 1 [z0,z4]->
   ∀ak:Int,(-1)<=ak->ak<=9223372036854775807->SB 73 [[af],[z5]] [[ak]]->
   (((decide (ak<0))=true->
    b6 SB [.bool] id [[z0],[af]] [[(cond (false) 1 0)]]
   )/\((decide (ak<0))=false->
    ∀aq:Int,0<=aq->aq<=1->0<=(z4+9223372036854775809)-18446744073709551616*aq->(z4+9223372036854775809)-18446744073709551616*aq<18446744073709551616->
    ad 39 [((z4+((-18446744073709551616)*aq))+1),0,9223372036854775807]/\
    (eX [[((z4+((-18446744073709551616)*aq))+1)]]/\dn [[((z4+((-18446744073709551616)*aq))+1)]]<dn [[z4]])
   ))
  )/\((decide (z4<z2))=false->
   b6 SB [.bool] id [[z0],[af]] [[(cond (true) 1 0)]]
  ))
 )):=by
  intro z0 a0 a1 af b0 b1 z2 bY c1 h2
  simp only[aa]at h2
  refine⟨λbl=>∃i:Nat,bl=[[(i:Int)]]/\i<=(ab z0).length/\((ab z0).take i).all (λc=>(ab af).contains c)=true,λbl=>(ab z0).length-((bl.getD 0 []).getD 0 0).toNat,⟨0,rfl,Nat.zero_le _,rfl⟩,?_⟩
  rintro z4 d0 d1 ⟨i,e,hi,hall⟩
  obtain rfl:z4=i:=by simpa using e
  refine⟨λhp=>?_,λhp=>⟨⟨by decide,by decide,trivial⟩,?_⟩⟩
  ·have hp:(i:Int)<z2:=by simpa using hp
   refine⟨⟨d0,by omega⟩,λz5 cy e1 h5 ak f0 f1 h6=>?_⟩
   have h6:ak=idx z5 (ab af):=h6
   simp only[aa,Int.toNat_natCast]at h5
   have hu:u8 z5=(ab z0).getD i 0:=by rw[h5,uQ]
   have hm:=JR cy e1 (ab af)
   rw[hu,<-h6]at hm
   refine⟨λhq=>⟨⟨by decide,by decide,trivial⟩,?_⟩,λhq aq g0 g1 g2 g3=>?_⟩
   ·rw[hid,A8 _ _ i (by omega) (by rw[<-hm];simpa using hq)];rfl
   ·have hq:0<=ak:=by simpa using hq
    rw[Fs (L:=z2) hp c1 d0 g0 g2]
    refine⟨⟨by omega,by omega⟩,⟨i+1,by simp,by omega,?_⟩,?_⟩
    ·rw[A9 _ _ _ (by omega),hall,<-hm];simpa using hq
    ·show(ab z0).length-((i:Int)+1).toNat<(ab z0).length-(i:Int).toNat
     omega
  ·have hp:¬(i:Int)<z2:=by simpa using hp
   rw[List.take_of_length_le (by omega)]at hall
   rw[hid,hall];rfl
theorem VU:FQ SB (b6 SB [.bool] 65):=V7 λ_ _ _=>rfl
def Ge (S:Nat->List (List Int)->List (List Int)->Prop) (K:List (List Int)->List (List Int)->Prop):Prop:=
 ∀z0:Int,0<=z0->z0<=aD->
 ∀af:Int,0<=af->af<=1->af=aa 4 [z0,0]->
 (((decide (af=1))=true->
  K [[z0]] [[z0]]
 )/\((decide (af=1))=false->
  ∃(gr:List (List Int)->Prop) (jK:List (List Int)->Nat),gr [[z0]]/\(∀z3:Int,0<=z3->z3<=aD->gr [[z3]]->
   ∀z4:Int,0<=z4->z4<=9223372036854775807->z4=aa 0 [z3]->
   (((decide (0<z4))=true->
    ∀z5:Int,0<=z5->z5<=9223372036854775807->z5=aa 0 [z3]->
    ad 1 [z3,(z5+(-1))]/\
    ∀ak:Int,0<=ak->ak<=255->ak=aa 1 [z3,(z5+(-1))]->
    ∀aq:Int,0<=aq->aq<=1->aq=aa 43 [12125,ak]->
    ((((!(decide (aq=1))))=true->
     ∃(eO:List (List Int)->Prop) (fb:List (List Int)->Nat),eO [[z3]]/\(∀z9:Int,0<=z9->z9<=aD->eO [[z9]]->
      ∀ao:Int,0<=ao->ao<=9223372036854775807->ao=aa 0 [z9]->
      (((decide (0<ao))=true->
       ad 1 [z9,0]/\
       ∀ay:Int,0<=ay->ay<=255->ay=aa 1 [z9,0]->
       ∀z12:Int,0<=z12->z12<=1->z12=aa 43 [12125,ay]->
       ((((!(decide (z12=1))))=true->
        K [[z0]] [[z9]]
       )/\(((!(decide (z12=1))))=false->
        ∀ai:Int,0<=ai->ai<=9223372036854775807->ai=aa 0 [z9]->
        ad 2 [z9,1,ai]/\
        ∀aw:Int,0<=aw->aw<=aD->aw=aa 2 [z9,1,ai]->
        (eO [[aw]]/\fb [[aw]]<fb [[z9]])
       ))
      )/\((decide (0<ao))=false->
       K [[z0]] [[z9]]
      ))
     )
    )/\(((!(decide (aq=1))))=false->
     ∀aj:Int,0<=aj->aj<=9223372036854775807->aj=aa 0 [z3]->
     ad 2 [z3,0,(aj+(-1))]/\
     ∀z9:Int,0<=z9->z9<=aD->z9=aa 2 [z3,0,(aj+(-1))]->
     (gr [[z9]]/\jK [[z9]]<jK [[z3]])
    ))
   )/\((decide (0<z4))=false->
    ∃(dC:List (List Int)->Prop) (ev:List (List Int)->Nat),dC [[z3]]/\(∀ak:Int,0<=ak->ak<=aD->dC [[ak]]->
     ∀aq:Int,0<=aq->aq<=9223372036854775807->aq=aa 0 [ak]->
     (((decide (0<aq))=true->
      ad 1 [ak,0]/\
      ∀aj:Int,0<=aj->aj<=255->aj=aa 1 [ak,0]->
      ∀z9:Int,0<=z9->z9<=1->z9=aa 43 [12125,aj]->
      ((((!(decide (z9=1))))=true->
       K [[z0]] [[ak]]
      )/\(((!(decide (z9=1))))=false->
       ∀ao:Int,0<=ao->ao<=9223372036854775807->ao=aa 0 [ak]->
       ad 2 [ak,1,ao]/\
       ∀ay:Int,0<=ay->ay<=aD->ay=aa 2 [ak,1,ao]->
       (dC [[ay]]/\ev [[ay]]<ev [[ak]])
      ))
     )/\((decide (0<aq))=false->
      K [[z0]] [[ak]]
     ))
    )
   ))
  )
 ))
def Gf (S:Nat->List (List Int)->List (List Int)->Prop) (K:List (List Int)->List (List Int)->Prop):Prop:=
 ∀z0:Int,0<=z0->z0<=aD->
 ∀af:Int,0<=af->af<=1->af=aa 4 [z0,0]->
 (((decide (af=1))=true->
  K [[z0]] [[z0]]
 )/\((decide (af=1))=false->
  ∃(gr:List (List Int)->Prop) (jK:List (List Int)->Nat),gr [[z0]]/\(∀z3:Int,0<=z3->z3<=aD->gr [[z3]]->
   ∀z4:Int,0<=z4->z4<=9223372036854775807->z4=aa 0 [z3]->
   (((decide (0<z4))=true->
    ∀z5:Int,0<=z5->z5<=9223372036854775807->z5=aa 0 [z3]->
    ad 1 [z3,(z5+(-1))]/\
    ∀ak:Int,0<=ak->ak<=255->ak=aa 1 [z3,(z5+(-1))]->
    ∀aq:Int,0<=aq->aq<=1->aq=aa 43 [8267443711659794979134808499087199072256874527605039863196959864303977456569186565734100443375465041388132907546406408792979960403300126342849461211344038,ak]->
    ((((!(decide (aq=1))))=true->
     ∃(eO:List (List Int)->Prop) (fb:List (List Int)->Nat),eO [[z3]]/\(∀z9:Int,0<=z9->z9<=aD->eO [[z9]]->
      ∀ao:Int,0<=ao->ao<=9223372036854775807->ao=aa 0 [z9]->
      (((decide (0<ao))=true->
       ad 1 [z9,0]/\
       ∀ay:Int,0<=ay->ay<=255->ay=aa 1 [z9,0]->
       ∀z12:Int,0<=z12->z12<=1->z12=aa 43 [8267443711659794979134808499087199072256874527605039863196959864303977456569186565734100443375465041388132907546406408792979960403300126342849461211344038,ay]->
       ((((!(decide (z12=1))))=true->
        K [[z0]] [[z9]]
       )/\(((!(decide (z12=1))))=false->
        ∀ai:Int,0<=ai->ai<=9223372036854775807->ai=aa 0 [z9]->
        ad 2 [z9,1,ai]/\
        ∀aw:Int,0<=aw->aw<=aD->aw=aa 2 [z9,1,ai]->
        (eO [[aw]]/\fb [[aw]]<fb [[z9]])
       ))
      )/\((decide (0<ao))=false->
       K [[z0]] [[z9]]
      ))
     )
    )/\(((!(decide (aq=1))))=false->
     ∀aj:Int,0<=aj->aj<=9223372036854775807->aj=aa 0 [z3]->
     ad 2 [z3,0,(aj+(-1))]/\
     ∀z9:Int,0<=z9->z9<=aD->z9=aa 2 [z3,0,(aj+(-1))]->
     (gr [[z9]]/\jK [[z9]]<jK [[z3]])
    ))
   )/\((decide (0<z4))=false->
    ∃(dC:List (List Int)->Prop) (ev:List (List Int)->Nat),dC [[z3]]/\(∀ak:Int,0<=ak->ak<=aD->dC [[ak]]->
     ∀aq:Int,0<=aq->aq<=9223372036854775807->aq=aa 0 [ak]->
     (((decide (0<aq))=true->
      ad 1 [ak,0]/\
      ∀aj:Int,0<=aj->aj<=255->aj=aa 1 [ak,0]->
      ∀z9:Int,0<=z9->z9<=1->z9=aa 43 [8267443711659794979134808499087199072256874527605039863196959864303977456569186565734100443375465041388132907546406408792979960403300126342849461211344038,aj]->
      ((((!(decide (z9=1))))=true->
       K [[z0]] [[ak]]
      )/\(((!(decide (z9=1))))=false->
       ∀ao:Int,0<=ao->ao<=9223372036854775807->ao=aa 0 [ak]->
       ad 2 [ak,1,ao]/\
       ∀ay:Int,0<=ay->ay<=aD->ay=aa 2 [ak,1,ao]->
       (dC [[ay]]/\ev [[ay]]<ev [[ak]])
      ))
     )/\((decide (0<aq))=false->
      K [[z0]] [[ak]]
     ))
    )
   ))
  )
 ))
def Gd (S:Nat->List (List Int)->List (List Int)->Prop) (K:List (List Int)->List (List Int)->Prop):Prop:=
 ∀z0:Int,0<=z0->z0<=aD->
 ∀af:Int,0<=af->af<=1->af=aa 4 [z0,0]->
 (((decide (af=1))=true->
  K [[z0]] [[z0]]
 )/\((decide (af=1))=false->
  ∃(gr:List (List Int)->Prop) (jK:List (List Int)->Nat),gr [[z0]]/\(∀z3:Int,0<=z3->z3<=aD->gr [[z3]]->
   ∀z4:Int,0<=z4->z4<=9223372036854775807->z4=aa 0 [z3]->
   (((decide (0<z4))=true->
    ∀z5:Int,0<=z5->z5<=9223372036854775807->z5=aa 0 [z3]->
    ad 1 [z3,(z5+(-1))]/\
    ∀ak:Int,0<=ak->ak<=255->ak=aa 1 [z3,(z5+(-1))]->
    ∀aq:Int,0<=aq->aq<=1->aq=aa 43 [284767230291263911083031,ak]->
    ((((!(decide (aq=1))))=true->
     ∃(eO:List (List Int)->Prop) (fb:List (List Int)->Nat),eO [[z3]]/\(∀z9:Int,0<=z9->z9<=aD->eO [[z9]]->
      ∀ao:Int,0<=ao->ao<=9223372036854775807->ao=aa 0 [z9]->
      (((decide (0<ao))=true->
       ad 1 [z9,0]/\
       ∀ay:Int,0<=ay->ay<=255->ay=aa 1 [z9,0]->
       ∀z12:Int,0<=z12->z12<=1->z12=aa 43 [284767230291263911083031,ay]->
       ((((!(decide (z12=1))))=true->
        K [[z0]] [[z9]]
       )/\(((!(decide (z12=1))))=false->
        ∀ai:Int,0<=ai->ai<=9223372036854775807->ai=aa 0 [z9]->
        ad 2 [z9,1,ai]/\
        ∀aw:Int,0<=aw->aw<=aD->aw=aa 2 [z9,1,ai]->
        (eO [[aw]]/\fb [[aw]]<fb [[z9]])
       ))
      )/\((decide (0<ao))=false->
       K [[z0]] [[z9]]
      ))
     )
    )/\(((!(decide (aq=1))))=false->
     ∀aj:Int,0<=aj->aj<=9223372036854775807->aj=aa 0 [z3]->
     ad 2 [z3,0,(aj+(-1))]/\
     ∀z9:Int,0<=z9->z9<=aD->z9=aa 2 [z3,0,(aj+(-1))]->
     (gr [[z9]]/\jK [[z9]]<jK [[z3]])
    ))
   )/\((decide (0<z4))=false->
    ∃(dC:List (List Int)->Prop) (ev:List (List Int)->Nat),dC [[z3]]/\(∀ak:Int,0<=ak->ak<=aD->dC [[ak]]->
     ∀aq:Int,0<=aq->aq<=9223372036854775807->aq=aa 0 [ak]->
     (((decide (0<aq))=true->
      ad 1 [ak,0]/\
      ∀aj:Int,0<=aj->aj<=255->aj=aa 1 [ak,0]->
      ∀z9:Int,0<=z9->z9<=1->z9=aa 43 [284767230291263911083031,aj]->
      ((((!(decide (z9=1))))=true->
       K [[z0]] [[ak]]
      )/\(((!(decide (z9=1))))=false->
       ∀ao:Int,0<=ao->ao<=9223372036854775807->ao=aa 0 [ak]->
       ad 2 [ak,1,ao]/\
       ∀ay:Int,0<=ay->ay<=aD->ay=aa 2 [ak,1,ao]->
       (dC [[ay]]/\ev [[ay]]<ev [[ak]])
      ))
     )/\((decide (0<aq))=false->
      K [[z0]] [[ak]]
     ))
    )
   ))
  )
 ))
theorem H9 {n z q:Int} {p:UInt8->Bool} (hn:∀c,(ab n).contains c=p c) (h:q=aa 43 [n,z]):decide (q=1)=p (u8 z):=by
 rw[h];simp only[aa]
 have:=hn (u8 z)
 unfold u8 at this⊢
 rw[<-this]
 by_cases hm:UInt8.ofNat z.toNat∈ab n
 ·simp[hm]
 ·simp[hm]
theorem zI {n:Int} {p:UInt8->Bool} (hn:∀c,(ab n).contains c=p c) {id:Nat} (hid:∀z r,SB id [[z]] [[r]]=(ab r=iB p (ab z))):
 (∀z0:Int,0<=z0->z0<=aD->
 ∀af:Int,0<=af->af<=1->af=aa 4 [z0,0]->
 (((decide (af=1))=true->
   b6 SB [.str] id [[z0]] [[z0]]
 )/\((decide (af=1))=false->
  ∃(gr:List (List Int)->Prop) (jK:List (List Int)->Nat),gr [[z0]]/\(∀z3:Int,0<=z3->z3<=aD->gr [[z3]]->
   ∀z4:Int,0<=z4->z4<=9223372036854775807->z4=aa 0 [z3]->
   (((decide (0<z4))=true->
    ∀z5:Int,0<=z5->z5<=9223372036854775807->z5=aa 0 [z3]->
    ad 1 [z3,(z5+(-1))]/\
    ∀ak:Int,0<=ak->ak<=255->ak=aa 1 [z3,(z5+(-1))]->
    ∀aq:Int,0<=aq->aq<=1->aq=aa 43 [n,ak]->
    ((((!(decide (aq=1))))=true->
     ∃(eO:List (List Int)->Prop) (fb:List (List Int)->Nat),eO [[z3]]/\(∀z9:Int,0<=z9->z9<=aD->eO [[z9]]->
      ∀ao:Int,0<=ao->ao<=9223372036854775807->ao=aa 0 [z9]->
      (((decide (0<ao))=true->
       ad 1 [z9,0]/\
       ∀ay:Int,0<=ay->ay<=255->ay=aa 1 [z9,0]->
       ∀z12:Int,0<=z12->z12<=1->z12=aa 43 [n,ay]->
       ((((!(decide (z12=1))))=true->
         b6 SB [.str] id [[z0]] [[z9]]
       )/\(((!(decide (z12=1))))=false->
        ∀ai:Int,0<=ai->ai<=9223372036854775807->ai=aa 0 [z9]->
        ad 2 [z9,1,ai]/\
        ∀aw:Int,0<=aw->aw<=aD->aw=aa 2 [z9,1,ai]->
        (eO [[aw]]/\fb [[aw]]<fb [[z9]])
       ))
      )/\((decide (0<ao))=false->
       b6 SB [.str] id [[z0]] [[z9]]
      ))
     )
    )/\(((!(decide (aq=1))))=false->
     ∀aj:Int,0<=aj->aj<=9223372036854775807->aj=aa 0 [z3]->
     ad 2 [z3,0,(aj+(-1))]/\
     ∀z9:Int,0<=z9->z9<=aD->z9=aa 2 [z3,0,(aj+(-1))]->
     (gr [[z9]]/\jK [[z9]]<jK [[z3]])
    ))
   )/\((decide (0<z4))=false->
    ∃(dC:List (List Int)->Prop) (ev:List (List Int)->Nat),dC [[z3]]/\(∀ak:Int,0<=ak->ak<=aD->dC [[ak]]->
     ∀aq:Int,0<=aq->aq<=9223372036854775807->aq=aa 0 [ak]->
     (((decide (0<aq))=true->
      ad 1 [ak,0]/\
      ∀aj:Int,0<=aj->aj<=255->aj=aa 1 [ak,0]->
      ∀z9:Int,0<=z9->z9<=1->z9=aa 43 [n,aj]->
      ((((!(decide (z9=1))))=true->
        b6 SB [.str] id [[z0]] [[ak]]
      )/\(((!(decide (z9=1))))=false->
       ∀ao:Int,0<=ao->ao<=9223372036854775807->ao=aa 0 [ak]->
       ad 2 [ak,1,ao]/\
       ∀ay:Int,0<=ay->ay<=aD->ay=aa 2 [ak,1,ao]->
       (dC [[ay]]/\ev [[ay]]<ev [[ak]])
      ))
     )/\((decide (0<aq))=false->
      b6 SB [.str] id [[z0]] [[ak]]
     ))
    )
   ))
  )
 ))):=by
  intro z0 a0 a1 af b0 b1 hz1
  rw[eq_nil hz1]
  have inner:∀z3:Int,0<=z3->z3<=aD->ab z3=hW p (ab z0)->∃(eO:List (List Int)->Prop) (fb:List (List Int)->Nat),eO [[z3]]/\(∀z9:Int,0<=z9->z9<=aD->eO [[z9]]->
   ∀ao:Int,0<=ao->ao<=9223372036854775807->ao=aa 0 [z9]->
   (((decide (0<ao))=true->
    ad 1 [z9,0]/\
    ∀ay:Int,0<=ay->ay<=255->ay=aa 1 [z9,0]->
    ∀z12:Int,0<=z12->z12<=1->z12=aa 43 [n,ay]->
    ((((!(decide (z12=1))))=true->
     b6 SB [.str] id [[z0]] [[z9]]
    )/\(((!(decide (z12=1))))=false->
     ∀ai:Int,0<=ai->ai<=9223372036854775807->ai=aa 0 [z9]->
     ad 2 [z9,1,ai]/\
     ∀aw:Int,0<=aw->aw<=aD->aw=aa 2 [z9,1,ai]->
     (eO [[aw]]/\fb [[aw]]<fb [[z9]])
    ))
   )/\((decide (0<ao))=false->
    b6 SB [.str] id [[z0]] [[z9]]
   ))):=by
   intro z3 a0 a1 h3
   refine⟨λbl=>∃z,bl=[[z]]/\jD p (ab z)=jD p (hW p (ab z0)),λbl=>(ab ((bl.getD 0 []).getD 0 0)).length,⟨z3,rfl,by rw[h3]⟩,?_⟩
   rintro z9 bY c1 ⟨z,e,hz⟩
   obtain rfl:z9=z:=by simpa using e
   intro z4 d0 d1 ir
   simp only[aa]at ir
   cases hl:ab z9 with
   |nil=>
    rw[hl]at ir hz
    simp only[List.length_nil]at ir
    subst ir
    refine⟨λhp=>by simp at hp,λ_=>⟨⟨bY,c1,trivial⟩,?_⟩⟩
    rw[hid,hl];exact hz
   |cons x r=>
    rw[hl]at ir hz
    simp only[List.length_cons]at ir
    refine⟨λ_=>⟨⟨Int.le_refl _,by rw[hl];simp only[List.length_cons];omega⟩,?_⟩,λhp=>by simp at hp;omega⟩
    intro z5 cy e1 tT
    simp only[aa,hl,Int.toNat_zero,List.getD_cons_zero]at tT
    intro ak f0 f1 oF
    rw[H9 hn oF,tT,uQ]
    refine⟨λhe=>⟨⟨bY,c1,trivial⟩,?_⟩,λhe=>?_⟩
    ·rw[hid,hl]
     have he:p x=false:=by simpa using he
     show x::r=jD p (hW p (ab z0))
     rw[<-hz]
     simp[jD,List.dropWhile_cons,he]
    ·have he:p x=true:=by simpa using he
     intro ai f0 f1 oF
     simp only[aa,hl,List.length_cons]at oF
     refine⟨⟨by omega,by omega,by rw[hl];simp only[List.length_cons];omega⟩,?_⟩
     intro aq g0 g1 wH
     have hr:ab aq=r:=by
      rw[wH];simp only[aa,gT,hl]
      rw[show(1:Int).toNat=1 from rfl,List.drop_one,List.tail_cons]
      exact List.take_of_length_le (by omega)
     refine⟨⟨aq,rfl,?_⟩,?_⟩
     ·rw[hr,<-hz];simp only[jD,List.dropWhile_cons,he,if_true]
     ·show(ab aq).length<(ab z9).length
      rw[hr,hl];simp
  refine⟨λh=>⟨⟨a0,a1,trivial⟩,?_⟩,λh=>?_⟩
  ·rw[hid]
   have:ab z0=[]:=by simpa using h
   rw[this];rfl
  ·refine⟨λbl=>∃z,bl=[[z]]/\hW p (ab z)=hW p (ab z0),λbl=>(ab ((bl.getD 0 []).getD 0 0)).length,⟨z0,rfl,rfl⟩,?_⟩
   rintro z3 bY c1 ⟨z,e,hz⟩
   obtain rfl:z3=z:=by simpa using e
   intro z4 d0 d1 ir
   simp only[aa]at ir
   by_cases hl:ab z3=[]
   ·have aas:=ir
    rw[hl]at ir
    simp only[List.length_nil]at ir
    subst ir
    refine⟨λhp=>by simp at hp,λ_=>inner z3 bY c1 ?_⟩
    rw[hl]at hz⊢
    exact hz
   ·obtain⟨r,x,hl⟩:=E4 hl
    rw[hl]at ir hz
    simp only[List.length_append,List.length_cons,List.length_nil]at ir
    refine⟨λ_=>?_,λhp=>by simp at hp;omega⟩
    intro z5 d0 d1 tT
    simp only[aa,hl,List.length_append,List.length_cons,List.length_nil]at tT
    refine⟨⟨by omega,by rw[hl];simp only[List.length_append,List.length_cons,List.length_nil];omega⟩,?_⟩
    intro ak f0 f1 oF
    have ht:(z5+-1).toNat=r.length:=by omega
    simp only[aa,hl,ht]at oF
    rw[show((r++[x]).getD r.length 0)=x by simp[List.getD]]at oF
    intro aq g0 g1 wH
    rw[H9 hn wH,oF,uQ]
    refine⟨λhe=>inner z3 bY c1 ?_,λhe=>?_⟩
    ·have he:p x=false:=by simpa using he
     rw[hl,<-hz,zZ,he,cond_false]
    ·have he:p x=true:=by simpa using he
     intro aq f0 f1 wH
     simp only[aa,hl,List.length_append,List.length_cons,List.length_nil]at wH
     have R4:(aq+-1).toNat=r.length:=by omega
     refine⟨⟨by omega,by omega,by rw[hl];simp only[List.length_append,List.length_cons,List.length_nil];omega⟩,?_⟩
     intro aj g0 g1 Sj
     have hr:ab aj=r:=by
      rw[Sj];simp only[aa,gT,hl,R4]
      simp
     refine⟨⟨aj,rfl,?_⟩,?_⟩
     ·rw[hr,<-hz,zZ,he,cond_true]
     ·show(ab aj).length<(ab z3).length
      rw[hr,hl];simp
theorem qG {q p:UInt8->Bool} (h:((List.range 256).all λi=>q (UInt8.ofNat i)==p (UInt8.ofNat i))=true) (c:UInt8):q c=p c:=by
 have:=List.all_eq_true.1 h c.toNat (List.mem_range.2 c.toNat_lt)
 simpa using this
theorem Wj:Ge SB (b6 SB [.str] 122):=zI (n:=12125) (p:=iF) (qG (by decide+kernel)) λ_ _=>rfl
theorem Wk:Gf SB (b6 SB [.str] 123):=zI (n:=8267443711659794979134808499087199072256874527605039863196959864303977456569186565734100443375465041388132907546406408792979960403300126342849461211344038) (p:=ji) (qG (by decide+kernel)) λ_ _=>rfl
theorem Wi:Gd SB (b6 SB [.str] 124):=zI (n:=284767230291263911083031) (p:=dW) (qG (by decide+kernel)) λ_ _=>rfl
end Go.bG
namespace Go.bG
open Go Go.bo
def FP (S:Nat->List (List Int)->List (List Int)->Prop) (K:List (List Int)->List (List Int)->Prop):Prop:=
 ∀z0:Int,0<=z0->z0<=aD->
 ∀af:Int,0<=af->af<=1->af=aa 4 [z0,0]->
 ((((!(decide (af=1))))=true->
  ∀z2:Int,0<=z2->z2<=9223372036854775807->z2=aa 0 [z0]->
  (((decide (z2<=230))=true->
   ∀z3:Int,0<=z3->z3<=aD->S 123 [[z0]] [[z3]]->
   ∀z4:Int,0<=z4->z4<=1->z4=aa 4 [z3,0]->
   (((decide (z4=1))=true->
    ∀z5:Int,0<=z5->z5<=1->S 65 [[z0],[3092260449727753699381237987134896180985020549865866695797500355328521677512090486983914513878993150076419119825652852662229468458769751959831595687466918]] [[z5]]->
    (((decide (z5=1))=true->
     ∀ak:Int,0<=ak->ak<=aD->S 122 [[z0]] [[ak]]->
     ∀aq:Int,0<=aq->aq<=1->aq=aa 4 [ak,z0]->
     (((decide (aq=1))=true->
      ad 41 [z0]/\
      ∀aj:Int,0<=aj->aj<=1->S 128 [[z0]] [[aj]]->
      K [[z0]] [[(cond ((!(decide (aj=1)))) 1 0)]]
     )/\((decide (aq=1))=false->
      K [[z0]] [[(cond (false) 1 0)]]
     ))
    )/\((decide (z5=1))=false->
     K [[z0]] [[(cond (false) 1 0)]]
    ))
   )/\((decide (z4=1))=false->
    K [[z0]] [[(cond (false) 1 0)]]
   ))
  )/\((decide (z2<=230))=false->
   K [[z0]] [[(cond (false) 1 0)]]
  ))
 )/\(((!(decide (af=1))))=false->
  K [[z0]] [[(cond (false) 1 0)]]
 ))
theorem zt (p:UInt8->Bool) (l:aI):(jD p l).length<=l.length:=(List.dropWhile_sublist p).length_le
theorem W8 (p:UInt8->Bool) (l:aI):(hW p l).length<=l.length:=by
 unfold hW;rw[List.length_reverse]
 have:=zt p l.reverse
 rwa [List.length_reverse]at this
theorem Ud {p:UInt8->Bool} {l:aI} (h:l.length<=(jD p l).length):jD p l=l:=(List.dropWhile_suffix p).eq_of_length (Nat.le_antisymm (zt p l) h)
theorem W7 {p:UInt8->Bool} {l:aI} (h:l.length<=(hW p l).length):hW p l=l:=by
 have:jD p l.reverse=l.reverse:=Ud (by unfold hW at h;rw[List.length_reverse]at h;rw[List.length_reverse];exact h)
 unfold hW;unfold jD at this;rw[this,List.reverse_reverse]
theorem Ik (r:aI) (x:UInt8):(r++[x]).getD r.length 0=x:=by simp[List.getD]
theorem X8 (p:UInt8->Bool) (s:aI):iB p s=s↔∀i,i<s.length->p (s.getD i 0)=true->0<i/\i+1<s.length:=by
 by_cases hs:s=[]
 ·subst hs;exact⟨λ_ i h=>by simp at h,λ_=>rfl⟩
 ·constructor
  ·intro h i hi hp
   have hl:s.length<=(iB p s).length:=by rw[h];exact Nat.le_refl _
   have h1:=zt p (hW p s)
   have hr:hW p s=s:=W7 (Nat.le_trans hl h1)
   have ht:jD p s=s:=by unfold iB at h;rwa [hr]at h
   refine⟨Nat.pos_of_ne_zero λh0=>?_,Nat.lt_of_le_of_ne hi λh0=>?_⟩
   ·subst h0
    cases s with
    |nil=>exact hs rfl
    |cons x r=>
     have hp:p x=true:=hp
     have h2:jD p (x::r)=jD p r:=by simp[jD,List.dropWhile_cons,hp]
     have:=zt p r
     rw[h2]at ht
     rw[ht]at this
     simp at this
     omega
   ·obtain⟨r,x,rfl⟩:=E4 hs
    have:i=r.length:=by simp at h0;omega
    subst this
    rw[Ik]at hp
    rw[zZ,hp,cond_true]at hr
    have:=W8 p r
    rw[hr]at this
    simp at this
    omega
  ·intro h
   have hr:hW p s=s:=by
    obtain⟨r,x,rfl⟩:=E4 hs
    rw[zZ]
    cases hx:p x with
    |false=>rfl
    |true=>have:=(h r.length (by simp) (by rw[Ik];exact hx)).2;simp at this
   unfold iB;rw[hr]
   cases s with
   |nil=>rfl
   |cons x r=>
    cases hx:p x with
    |false=>simp[jD,List.dropWhile_cons,hx]
    |true=>have:=(h 0 (by simp) hx).1;omega
theorem NM (p:UInt8->Bool) (s:aI):s.all p=true↔∀i,i<s.length->p (s.getD i 0)=true:=by
 rw[List.all_eq_true]
 constructor
 ·intro h i hi
  refine h _ ?_
  simp[List.getD,hi]
 ·intro h x hx
  obtain⟨i,hi,rfl⟩:=List.getElem_of_mem hx
  have:=h i hi
  simpa [List.getD,hi]using this
theorem OL (s:aI):dd s=false↔∀i,i<s.length->¬(s.getD i 0=46/\s.getD (i+1) 0=46):=by
 unfold dd
 rw[List.any_eq_false]
 constructor
 ·intro h i hi al
  exact h i (List.mem_range.2 hi) (by rw[al.1,al.2];rfl)
 ·intro h i hi al
  rw[Bool.and_eq_true,beq_iff_eq,beq_iff_eq]at al
  exact h i (List.mem_range.1 hi) al
theorem KY (inn fP:UInt8->Bool) (s:aI):p8 inn fP s=true↔∀i,i<s.length->inn (s.getD i 0)=true/\(fP (s.getD i 0)=true->0<i/\i+1<s.length)/\¬(s.getD i 0=46/\0<i/\s.getD (i-1) 0=46):=by
 unfold p8
 rw[List.all_eq_true]
 constructor
 ·intro h i hi
  have:=h i (List.mem_range.2 hi)
  simp only[Bool.and_eq_true,Bool.or_eq_true,Bool.not_eq_true',Nat.blt_eq,Bool.and_eq_false_iff,beq_eq_false_iff_ne]at this
  refine⟨this.1.1,λhe=>?_,λal=>?_⟩
  ·rcases this.1.2 with h1|h1
   ·rw[h1]at he;cases he
   ·exact h1
  ·have h3:Nat.blt 0 i=true:=by rw[Nat.blt_eq];exact al.2.1
   rcases this.2 with(h1|h1)|h1
   ·exact h1 al.1
   ·rw[h3]at h1;cases h1
   ·exact h1 al.2.2
 ·intro h i hi
  obtain⟨h1,h2,h3⟩:=h i (List.mem_range.1 hi)
  simp only[Bool.and_eq_true,Bool.or_eq_true,Bool.not_eq_true',Nat.blt_eq,Bool.and_eq_false_iff,beq_eq_false_iff_ne]
  refine⟨⟨h1,?_⟩,?_⟩
  ·cases he:fP (s.getD i 0)with
   |false=>exact .inl rfl
   |true=>exact .inr (h2 he)
  ·by_cases e1:s.getD i 0=46
   ·by_cases e2:s.getD (i-1) 0=46
    ·left;right
     cases hb:Nat.blt 0 i with
     |false=>rfl
     |true=>rw[Nat.blt_eq]at hb;exact absurd ⟨e1,hb,e2⟩ h3
    ·exact .inr e2
   ·exact .inl (.inl e1)
theorem zB (inn fP:UInt8->Bool) (s:aI):p8 inn fP s=(s.all inn&&decide (iB fP s=s)&& !dd s):=by
 rw[Bool.eq_iff_iff,KY,Bool.and_eq_true,Bool.and_eq_true,NM,decide_eq_true_eq,X8,Bool.not_eq_true',OL]
 constructor
 ·intro h
  refine⟨⟨λi hi=>(h i hi).1,λi hi=>(h i hi).2.1⟩,λi hi al=>?_⟩
  by_cases hj:i+1<s.length
  ·exact(h (i+1) hj).2.2 ⟨al.2,by omega,by simpa using al.1⟩
  ·have:s.getD (i+1) 0=0:=by simp[List.getD,show s.length<=i+1 by omega]
   rw[this]at al;exact absurd al.2 (by decide)
 ·rintro⟨⟨h1,h2⟩,h3⟩ i hi
  refine⟨h1 i hi,h2 i hi,λal=>?_⟩
  exact h3 (i-1) (by omega) ⟨al.2.2,by rw[show i-1+1=i by omega];exact al.1⟩
theorem HH {p:UInt8->Bool}:∀{l:aI},l.all p=true->l.dropWhile p=[]
 |[],_=>rfl
 |x::r,h=>by
  simp only[List.all_cons,Bool.and_eq_true]at h
  rw[List.dropWhile_cons,if_pos h.1]
  exact HH h.2
theorem Fk {p:UInt8->Bool} {s:aI} (h:s.all p=true):iB p s=[]:=by
 have:hW p s=[]:=by
  unfold hW
  have:s.reverse.all p=true:=by rw[List.all_reverse];exact h
  rw[HH this];rfl
 unfold iB;rw[this];rfl
theorem mv {z a b:Int} (h:z=aa 4 [a,b]):decide (z=1)=decide (ab a=ab b):=by
 rw[h];simp only[aa]
 by_cases e:ab a=ab b<;>simp[e]
theorem zy {z a:Int} (h:z=aa 4 [a,0]):(!decide (z=1))=Nat.blt 0 (ab a).length:=by
 rw[eq_nil h]
 cases ab a with
 |nil=>rfl
 |cons x r=>simp
theorem uk {z a n:Int} (m:Nat) (hm:n=(m:Int)) (h:z=aa 0 [a]):decide (z<=n)=Nat.ble (ab a).length m:=by
 rw[h,hm];simp only[aa]
 rw[Bool.eq_iff_iff,decide_eq_true_eq,Nat.ble_eq];omega
theorem DO {z a n:Int} (m:Nat) (hm:n=(m:Int)) (h:z=aa 0 [a]):decide (n<z)= !Nat.ble (ab a).length m:=by
 rw[h,hm];simp only[aa]
 rw[Bool.eq_iff_iff,decide_eq_true_eq,Bool.not_eq_true',<-Bool.not_eq_true,Nat.ble_eq];omega
theorem ee {z:Int} {b:Bool} (h:z=aT b):decide (z=1)=b:=by rw[h,vf]
theorem lB {id:Nat} {zs:List (List Int)} {b:Bool} (h:SB id zs [[aT b]]):b6 SB [.bool] id zs [[aT b]]:=⟨⟨(ic b).1,(ic b).2,trivial⟩,h⟩
theorem Vx (s:aI) {n:Int} (hn:∀c,(ab n).contains c=ji c):(s.all λc=>(ab n).contains c)=s.all ji:=by
 congr 1;funext c;exact hn c
theorem VT:FP SB (b6 SB [.bool] 47):=by
 intro z0 a0 a1 af b0 b1 h1
 have bc:∀b:Bool,gg (ab z0)=b->b6 SB [.bool] 47 [[z0]] [[aT b]]:=λb h=>lB (by show aT b=aT (gg (ab z0));rw[h])
 refine⟨λhp z2 bY c1 h2=>⟨λhq z3 d0 d1 h3 z4 cy e1 h4=>⟨λhr z5 f0 f1 h5=>?_,λhr=>bc false ?_⟩,λhq=>bc false ?_⟩,λhp=>bc false ?_⟩
 ·rw[zy h1]at hp
  rw[uk (n:=230) 230 rfl h2]at hq
  have h5:z5=aT ((ab z0).all λc=>(ab _).contains c):=h5
  rw[Vx (ab z0) (qG (by decide+kernel))]at h5
  rw[ee h5]
  refine⟨λhs ak g0 g1 h6 aq i0 i1 h7=>?_,λhs=>bc false ?_⟩
  ·have h6:ab ak=iB iF (ab z0):=h6
   rw[mv h7,h6]
   refine⟨λht=>⟨?_,λaj pR gQ bw=>?_⟩,λht=>bc false ?_⟩
   ·show(ab z0).length<=4294967280
    rw[Nat.ble_eq]at hq;omega
   ·have bw:aj=aT (dd (ab z0)):=bw
    rw[ee bw]
    refine bc _ ?_
    unfold gg;rw[hp,hq,zB,hs,ht];rfl
   ·unfold gg;rw[zB,ht];simp
  ·unfold gg;rw[zB,hs];simp
 ·have h3:ab z3=iB ji (ab z0):=h3
  rw[eq_nil h4,h3]at hr
  unfold gg;rw[zB]
  cases ha:(ab z0).all ji with
  |false=>simp
  |true=>rw[Fk ha]at hr;simp at hr
 ·rw[uk (n:=230) 230 rfl h2]at hq
  unfold gg;rw[hq];simp
 ·rw[zy h1]at hp
  unfold gg;rw[hp];rfl
def Gb (S:Nat->List (List Int)->List (List Int)->Prop) (K:List (List Int)->List (List Int)->Prop):Prop:=
 ∀z0:Int,0<=z0->z0<=aD->
 ∀af:Int,0<=af->af<=aD->∀z2:Int,0<=z2->z2<=aD->∀z3:Int,0<=z3->z3<=1->S 126 [[z0]] [[af],[z2],[z3]]->
 ∀z4:Int,0<=z4->z4<=1->S 47 [[af]] [[z4]]->
 (((decide (z4=1))=true->
  ((((!(decide (z3=1))))=true->
   K [[z0]] [[(cond (true) 1 0)]]
  )/\(((!(decide (z3=1))))=false->
   ∀z5:Int,0<=z5->z5<=1->z5=aa 4 [z2,0]->
   ((((!(decide (z5=1))))=true->
    ∀ak:Int,0<=ak->ak<=9223372036854775807->ak=aa 0 [z2]->
    (((decide (ak<=5))=true->
     ∀aq:Int,0<=aq->aq<=aD->S 124 [[z2]] [[aq]]->
     ∀aj:Int,0<=aj->aj<=1->aj=aa 4 [aq,0]->
     (((decide (aj=1))=true->
      ∀z9:Int,0<=z9->z9<=1->S 65 [[z2],[284767230291263911083031]] [[z9]]->
      K [[z0]] [[(cond (decide (z9=1)) 1 0)]]
     )/\((decide (aj=1))=false->
      K [[z0]] [[(cond (false) 1 0)]]
     ))
    )/\((decide (ak<=5))=false->
     K [[z0]] [[(cond (false) 1 0)]]
    ))
   )/\(((!(decide (z5=1))))=false->
    K [[z0]] [[(cond (false) 1 0)]]
   ))
  ))
 )/\((decide (z4=1))=false->
  K [[z0]] [[(cond (false) 1 0)]]
 ))
def Gc (S:Nat->List (List Int)->List (List Int)->Prop) (K:List (List Int)->List (List Int)->Prop):Prop:=
 ∀z0:Int,0<=z0->z0<=255->
 (((decide (97<=z0))=true->
  K [[z0]] [[(cond (decide (z0<=122)) 1 0)]]
 )/\((decide (97<=z0))=false->
  K [[z0]] [[(cond (false) 1 0)]]
 ))
def FN (S:Nat->List (List Int)->List (List Int)->Prop) (K:List (List Int)->List (List Int)->Prop):Prop:=
 ∀z0:Int,0<=z0->z0<=255->
 (((decide (65<=z0))=true->
  K [[z0]] [[(cond (decide (z0<=90)) 1 0)]]
 )/\((decide (65<=z0))=false->
  K [[z0]] [[(cond (false) 1 0)]]
 ))
def FM (S:Nat->List (List Int)->List (List Int)->Prop) (K:List (List Int)->List (List Int)->Prop):Prop:=
 ∀z0:Int,0<=z0->z0<=255->
 (((decide (48<=z0))=true->
  K [[z0]] [[(cond (decide (z0<=57)) 1 0)]]
 )/\((decide (48<=z0))=false->
  K [[z0]] [[(cond (false) 1 0)]]
 ))
theorem Xt {s:aI} (h:idx 58 s<0):hX s=gg s:=by
 have:decide (0<=idx 58 s)=false:=by simpa using h
 unfold hX kC
 rw[this]
 simp
theorem Wg:Gb SB (b6 SB [.bool] 27):=by
 intro z0 a0 a1 af b0 b1 z2 bY c1 z3 d0 d1 e5 z4 cy e1 h4
 have e5:(ab af,ab z2,z3)=kC 58 (ab z0):=e5
 have h4:z4=aT (gg (ab af)):=h4
 have hv:hX (ab z0)=(gg (ab af)&&(decide (z3=0)||nG (ab z2))):=by unfold hX;rw[<-e5]
 have bc:∀b:Bool,hX (ab z0)=b->b6 SB [.bool] 27 [[z0]] [[aT b]]:=λb h=>lB (by show aT b=aT (hX (ab z0));rw[h])
 have h3:(!decide (z3=1))=decide (z3=0):=by
  rcases(show z3=0∨z3=1 by omega)with rfl|rfl<;>rfl
 rw[ee h4,h3]
 refine⟨λhp=>⟨λhq=>bc true ?_,λhq z5 f0 f1 h5=>?_⟩,λhp=>bc false ?_⟩
 ·rw[hv,hp,hq];rfl
 ·have hn:=zy h5
  refine⟨λhr ak g0 g1 h6=>⟨λhs aq i0 i1 h7 aj pR gQ bw=>?_,λhs=>bc false ?_⟩,λhr=>bc false ?_⟩
  ·rw[hr]at hn
   rw[uk (n:=5) 5 rfl h6]at hs
   have h7:ab aq=iB dW (ab z2):=h7
   rw[eq_nil bw,h7]
   refine⟨λht z9 c9 k1 bk=>?_,λht=>bc false ?_⟩
   ·have bk:z9=aT ((ab z2).all λc=>(ab 284767230291263911083031).contains c):=bk
    have e:((ab z2).all λc=>(ab 284767230291263911083031).contains c)=(ab z2).all dW:=congrArg (List.all (ab z2)) (funext (qG (p:=dW) (by decide+kernel)))
    rw[e]at bk
    rw[ee bk]
    refine bc _ ?_
    rw[hv,hp,hq];unfold nG;rw[<-hn,hs];simp
   ·rw[hv,hp,hq];unfold nG
    cases ha:(ab z2).all dW with
    |false=>simp
    |true=>rw[Fk ha]at ht;simp at ht
  ·rw[uk (n:=5) 5 rfl h6]at hs
   rw[hv,hp,hq];unfold nG;rw[hs];simp
  ·rw[hr]at hn
   rw[hv,hp,hq];unfold nG;rw[<-hn];rfl
 ·rw[hv,hp];rfl
theorem Dv {lo hi:Nat} {z:Int} (h0:0<=z) (h1:z<=255):(Nat.ble lo (u8 z).toNat&&Nat.ble (u8 z).toNat hi)=(decide ((lo:Int)<=z)&&decide (z<=(hi:Int))):=by
 have:=Ak h0 h1
 rw[Bool.eq_iff_iff]
 simp[Nat.ble_eq]
 omega
theorem Wh:Gc SB (b6 SB [.bool] 50):=by
 intro z0 a0 a1
 have e:=Dv (lo:=97) (hi:=122) a0 a1
 have bc:∀b:Bool,jS (u8 z0)=b->b6 SB [.bool] 50 [[z0]] [[aT b]]:=λb h=>lB (by show aT b=aT (jS (u8 z0));rw[h])
 refine⟨λh=>bc _ ?_,λh=>bc false ?_⟩
 ·unfold jS;rw[e];have h:decide (((97:Nat):Int)<=z0)=true:=h;rw[h];rfl
 ·unfold jS;rw[e];have h:decide (((97:Nat):Int)<=z0)=false:=h;rw[h];rfl
theorem VR:FN SB (b6 SB [.bool] 51):=by
 intro z0 a0 a1
 have e:=Dv (lo:=65) (hi:=90) a0 a1
 have bc:∀b:Bool,lZ (u8 z0)=b->b6 SB [.bool] 51 [[z0]] [[aT b]]:=λb h=>lB (by show aT b=aT (lZ (u8 z0));rw[h])
 refine⟨λh=>bc _ ?_,λh=>bc false ?_⟩
 ·unfold lZ;rw[e];have h:decide (((65:Nat):Int)<=z0)=true:=h;rw[h];rfl
 ·unfold lZ;rw[e];have h:decide (((65:Nat):Int)<=z0)=false:=h;rw[h];rfl
theorem VQ:FM SB (b6 SB [.bool] 52):=by
 intro z0 a0 a1
 have e:=Dv (lo:=48) (hi:=57) a0 a1
 have bc:∀b:Bool,dW (u8 z0)=b->b6 SB [.bool] 52 [[z0]] [[aT b]]:=λb h=>lB (by show aT b=aT (dW (u8 z0));rw[h])
 refine⟨λh=>bc _ ?_,λh=>bc false ?_⟩
 ·unfold dW;rw[e];have h:decide (((48:Nat):Int)<=z0)=true:=h;rw[h];rfl
 ·unfold dW;rw[e];have h:decide (((48:Nat):Int)<=z0)=false:=h;rw[h];rfl
theorem wR {z a b:Int} (h:z=aa 5 [a,b]):decide (z=1)=Op.bytesLess (ab a) (ab b):=by
 rw[h];simp only[aa]
 cases Op.bytesLess (ab a) (ab b)<;>simp
theorem r9:∀l:aI,Op.bytesLess l l=false
 |[]=>rfl
 |x::r=>by
  have:=r9 r
  simp[Op.bytesLess,this]
end Go.bG
namespace Go.bG
open Go Go.bo
def F7 (S:Nat->List (List Int)->List (List Int)->Prop) (K:List (List Int)->List (List Int)->Prop):Prop:=
 ∀z0:Int,0<=z0->z0<=aD->
 ∀af:Int,0<=af->af<=9223372036854775807->af=aa 0 [z0]->
 (((decide (af<1))=true->
  K [[z0]] [[(cond (false) 1 0)]]
 )/\((decide (af<1))=false->
  ∀z2:Int,0<=z2->z2<=9223372036854775807->z2=aa 0 [z0]->
  (((decide (230<z2))=true->
   K [[z0]] [[(cond (false) 1 0)]]
  )/\((decide (230<z2))=false->
   ∃(eX:List (List Int)->Prop) (dn:List (List Int)->Nat),eX [[0]]/\(∀z4:Int,0<=z4->z4<=9223372036854775807->eX [[z4]]->
    ∀z5:Int,0<=z5->z5<=9223372036854775807->z5=aa 0 [z0]->
    (((decide (z4<z5))=true->
     ad 1 [z0,z4]/\
     ∀ak:Int,0<=ak->ak<=255->ak=aa 1 [z0,z4]->
     (((decide (ak=46))=true->
      ad 1 [z0,z4]/\
      ∀aq:Int,0<=aq->aq<=255->aq=aa 1 [z0,z4]->
      ∀aj:Int,0<=aj->aj<=1->S 50 [[aq]] [[aj]]->
      ((((!(decide (aj=1))))=true->
       ad 1 [z0,z4]/\
       ∀z9:Int,0<=z9->z9<=255->z9=aa 1 [z0,z4]->
       ∀ao:Int,0<=ao->ao<=1->S 51 [[z9]] [[ao]]->
       ((((!(decide (ao=1))))=true->
        ad 1 [z0,z4]/\
        ∀ay:Int,0<=ay->ay<=255->ay=aa 1 [z0,z4]->
        ∀z12:Int,0<=z12->z12<=1->S 52 [[ay]] [[z12]]->
        ((((!(decide (z12=1))))=true->
         (((decide (z4=0))=true->
          K [[z0]] [[(cond (false) 1 0)]]
         )/\((decide (z4=0))=false->
          ∀ai:Int,0<=ai->ai<=9223372036854775807->ai=aa 0 [z0]->
          (((decide (z4=(ai+(-1))))=true->
           K [[z0]] [[(cond (false) 1 0)]]
          )/\((decide (z4=(ai+(-1))))=false->
           ad 1 [z0,z4]/\
           ∀aw:Int,0<=aw->aw<=255->aw=aa 1 [z0,z4]->
           (((decide (aw=46))=true->
            ad 1 [z0,(z4+(-1))]/\
            ∀aE:Int,0<=aE->aE<=255->aE=aa 1 [z0,(z4+(-1))]->
            (((decide (aE=46))=true->
             K [[z0]] [[(cond (false) 1 0)]]
            )/\((decide (aE=46))=false->
             ∀aA:Int,0<=aA->aA<=1->0<=(z4+9223372036854775809)-18446744073709551616*aA->(z4+9223372036854775809)-18446744073709551616*aA<18446744073709551616->
             ad 39 [((z4+((-18446744073709551616)*aA))+1),0,9223372036854775807]/\
             (eX [[((z4+((-18446744073709551616)*aA))+1)]]/\dn [[((z4+((-18446744073709551616)*aA))+1)]]<dn [[z4]])
            ))
           )/\((decide (aw=46))=false->
            ∀aE:Int,0<=aE->aE<=1->0<=(z4+9223372036854775809)-18446744073709551616*aE->(z4+9223372036854775809)-18446744073709551616*aE<18446744073709551616->
            ad 39 [((z4+((-18446744073709551616)*aE))+1),0,9223372036854775807]/\
            (eX [[((z4+((-18446744073709551616)*aE))+1)]]/\dn [[((z4+((-18446744073709551616)*aE))+1)]]<dn [[z4]])
           ))
          ))
         ))
        )/\(((!(decide (z12=1))))=false->
         (((decide (z4=0))=true->
          K [[z0]] [[(cond (false) 1 0)]]
         )/\((decide (z4=0))=false->
          ∀ai:Int,0<=ai->ai<=9223372036854775807->ai=aa 0 [z0]->
          (((decide (z4=(ai+(-1))))=true->
           K [[z0]] [[(cond (false) 1 0)]]
          )/\((decide (z4=(ai+(-1))))=false->
           ad 1 [z0,z4]/\
           ∀aw:Int,0<=aw->aw<=255->aw=aa 1 [z0,z4]->
           (((decide (aw=46))=true->
            ad 1 [z0,(z4+(-1))]/\
            ∀aE:Int,0<=aE->aE<=255->aE=aa 1 [z0,(z4+(-1))]->
            (((decide (aE=46))=true->
             K [[z0]] [[(cond (false) 1 0)]]
            )/\((decide (aE=46))=false->
             ∀aA:Int,0<=aA->aA<=1->0<=(z4+9223372036854775809)-18446744073709551616*aA->(z4+9223372036854775809)-18446744073709551616*aA<18446744073709551616->
             ad 39 [((z4+((-18446744073709551616)*aA))+1),0,9223372036854775807]/\
             (eX [[((z4+((-18446744073709551616)*aA))+1)]]/\dn [[((z4+((-18446744073709551616)*aA))+1)]]<dn [[z4]])
            ))
           )/\((decide (aw=46))=false->
            ∀aE:Int,0<=aE->aE<=1->0<=(z4+9223372036854775809)-18446744073709551616*aE->(z4+9223372036854775809)-18446744073709551616*aE<18446744073709551616->
            ad 39 [((z4+((-18446744073709551616)*aE))+1),0,9223372036854775807]/\
            (eX [[((z4+((-18446744073709551616)*aE))+1)]]/\dn [[((z4+((-18446744073709551616)*aE))+1)]]<dn [[z4]])
           ))
          ))
         ))
        ))
       )/\(((!(decide (ao=1))))=false->
        (((decide (z4=0))=true->
         K [[z0]] [[(cond (false) 1 0)]]
        )/\((decide (z4=0))=false->
         ∀ay:Int,0<=ay->ay<=9223372036854775807->ay=aa 0 [z0]->
         (((decide (z4=(ay+(-1))))=true->
          K [[z0]] [[(cond (false) 1 0)]]
         )/\((decide (z4=(ay+(-1))))=false->
          ad 1 [z0,z4]/\
          ∀z12:Int,0<=z12->z12<=255->z12=aa 1 [z0,z4]->
          (((decide (z12=46))=true->
           ad 1 [z0,(z4+(-1))]/\
           ∀ai:Int,0<=ai->ai<=255->ai=aa 1 [z0,(z4+(-1))]->
           (((decide (ai=46))=true->
            K [[z0]] [[(cond (false) 1 0)]]
           )/\((decide (ai=46))=false->
            ∀aw:Int,0<=aw->aw<=1->0<=(z4+9223372036854775809)-18446744073709551616*aw->(z4+9223372036854775809)-18446744073709551616*aw<18446744073709551616->
            ad 39 [((z4+((-18446744073709551616)*aw))+1),0,9223372036854775807]/\
            (eX [[((z4+((-18446744073709551616)*aw))+1)]]/\dn [[((z4+((-18446744073709551616)*aw))+1)]]<dn [[z4]])
           ))
          )/\((decide (z12=46))=false->
           ∀ai:Int,0<=ai->ai<=1->0<=(z4+9223372036854775809)-18446744073709551616*ai->(z4+9223372036854775809)-18446744073709551616*ai<18446744073709551616->
           ad 39 [((z4+((-18446744073709551616)*ai))+1),0,9223372036854775807]/\
           (eX [[((z4+((-18446744073709551616)*ai))+1)]]/\dn [[((z4+((-18446744073709551616)*ai))+1)]]<dn [[z4]])
          ))
         ))
        ))
       ))
      )/\(((!(decide (aj=1))))=false->
       (((decide (z4=0))=true->
        K [[z0]] [[(cond (false) 1 0)]]
       )/\((decide (z4=0))=false->
        ∀z9:Int,0<=z9->z9<=9223372036854775807->z9=aa 0 [z0]->
        (((decide (z4=(z9+(-1))))=true->
         K [[z0]] [[(cond (false) 1 0)]]
        )/\((decide (z4=(z9+(-1))))=false->
         ad 1 [z0,z4]/\
         ∀ao:Int,0<=ao->ao<=255->ao=aa 1 [z0,z4]->
         (((decide (ao=46))=true->
          ad 1 [z0,(z4+(-1))]/\
          ∀ay:Int,0<=ay->ay<=255->ay=aa 1 [z0,(z4+(-1))]->
          (((decide (ay=46))=true->
           K [[z0]] [[(cond (false) 1 0)]]
          )/\((decide (ay=46))=false->
           ∀z12:Int,0<=z12->z12<=1->0<=(z4+9223372036854775809)-18446744073709551616*z12->(z4+9223372036854775809)-18446744073709551616*z12<18446744073709551616->
           ad 39 [((z4+((-18446744073709551616)*z12))+1),0,9223372036854775807]/\
           (eX [[((z4+((-18446744073709551616)*z12))+1)]]/\dn [[((z4+((-18446744073709551616)*z12))+1)]]<dn [[z4]])
          ))
         )/\((decide (ao=46))=false->
          ∀ay:Int,0<=ay->ay<=1->0<=(z4+9223372036854775809)-18446744073709551616*ay->(z4+9223372036854775809)-18446744073709551616*ay<18446744073709551616->
          ad 39 [((z4+((-18446744073709551616)*ay))+1),0,9223372036854775807]/\
          (eX [[((z4+((-18446744073709551616)*ay))+1)]]/\dn [[((z4+((-18446744073709551616)*ay))+1)]]<dn [[z4]])
         ))
        ))
       ))
      ))
     )/\((decide (ak=46))=false->
      ad 1 [z0,z4]/\
      ∀aq:Int,0<=aq->aq<=255->aq=aa 1 [z0,z4]->
      ad 1 [z0,z4]/\
      ∀aj:Int,0<=aj->aj<=255->aj=aa 1 [z0,z4]->
      ∀z9:Int,0<=z9->z9<=1->S 50 [[aj]] [[z9]]->
      ((((!(decide (z9=1))))=true->
       ad 1 [z0,z4]/\
       ∀ao:Int,0<=ao->ao<=255->ao=aa 1 [z0,z4]->
       ∀ay:Int,0<=ay->ay<=1->S 51 [[ao]] [[ay]]->
       ((((!(decide (ay=1))))=true->
        ad 1 [z0,z4]/\
        ∀z12:Int,0<=z12->z12<=255->z12=aa 1 [z0,z4]->
        ∀ai:Int,0<=ai->ai<=1->S 52 [[z12]] [[ai]]->
        ((((!(decide (ai=1))))=true->
         ((((!(decide (aq=45))))=true->
          K [[z0]] [[(cond (false) 1 0)]]
         )/\(((!(decide (aq=45))))=false->
          (((decide (aq=45))=true->
           (((decide (z4=0))=true->
            K [[z0]] [[(cond (false) 1 0)]]
           )/\((decide (z4=0))=false->
            ∀aw:Int,0<=aw->aw<=9223372036854775807->aw=aa 0 [z0]->
            (((decide (z4=(aw+(-1))))=true->
             K [[z0]] [[(cond (false) 1 0)]]
            )/\((decide (z4=(aw+(-1))))=false->
             ad 1 [z0,z4]/\
             ∀aE:Int,0<=aE->aE<=255->aE=aa 1 [z0,z4]->
             (((decide (aE=46))=true->
              ad 1 [z0,(z4+(-1))]/\
              ∀aA:Int,0<=aA->aA<=255->aA=aa 1 [z0,(z4+(-1))]->
              (((decide (aA=46))=true->
               K [[z0]] [[(cond (false) 1 0)]]
              )/\((decide (aA=46))=false->
               ∀aF:Int,0<=aF->aF<=1->0<=(z4+9223372036854775809)-18446744073709551616*aF->(z4+9223372036854775809)-18446744073709551616*aF<18446744073709551616->
               ad 39 [((z4+((-18446744073709551616)*aF))+1),0,9223372036854775807]/\
               (eX [[((z4+((-18446744073709551616)*aF))+1)]]/\dn [[((z4+((-18446744073709551616)*aF))+1)]]<dn [[z4]])
              ))
             )/\((decide (aE=46))=false->
              ∀aA:Int,0<=aA->aA<=1->0<=(z4+9223372036854775809)-18446744073709551616*aA->(z4+9223372036854775809)-18446744073709551616*aA<18446744073709551616->
              ad 39 [((z4+((-18446744073709551616)*aA))+1),0,9223372036854775807]/\
              (eX [[((z4+((-18446744073709551616)*aA))+1)]]/\dn [[((z4+((-18446744073709551616)*aA))+1)]]<dn [[z4]])
             ))
            ))
           ))
          )/\((decide (aq=45))=false->
           ∀aw:Int,0<=aw->aw<=1->0<=(z4+9223372036854775809)-18446744073709551616*aw->(z4+9223372036854775809)-18446744073709551616*aw<18446744073709551616->
           ad 39 [((z4+((-18446744073709551616)*aw))+1),0,9223372036854775807]/\
           (eX [[((z4+((-18446744073709551616)*aw))+1)]]/\dn [[((z4+((-18446744073709551616)*aw))+1)]]<dn [[z4]])
          ))
         ))
        )/\(((!(decide (ai=1))))=false->
         (((decide (aq=45))=true->
          (((decide (z4=0))=true->
           K [[z0]] [[(cond (false) 1 0)]]
          )/\((decide (z4=0))=false->
           ∀aw:Int,0<=aw->aw<=9223372036854775807->aw=aa 0 [z0]->
           (((decide (z4=(aw+(-1))))=true->
            K [[z0]] [[(cond (false) 1 0)]]
           )/\((decide (z4=(aw+(-1))))=false->
            ad 1 [z0,z4]/\
            ∀aE:Int,0<=aE->aE<=255->aE=aa 1 [z0,z4]->
            (((decide (aE=46))=true->
             ad 1 [z0,(z4+(-1))]/\
             ∀aA:Int,0<=aA->aA<=255->aA=aa 1 [z0,(z4+(-1))]->
             (((decide (aA=46))=true->
              K [[z0]] [[(cond (false) 1 0)]]
             )/\((decide (aA=46))=false->
              ∀aF:Int,0<=aF->aF<=1->0<=(z4+9223372036854775809)-18446744073709551616*aF->(z4+9223372036854775809)-18446744073709551616*aF<18446744073709551616->
              ad 39 [((z4+((-18446744073709551616)*aF))+1),0,9223372036854775807]/\
              (eX [[((z4+((-18446744073709551616)*aF))+1)]]/\dn [[((z4+((-18446744073709551616)*aF))+1)]]<dn [[z4]])
             ))
            )/\((decide (aE=46))=false->
             ∀aA:Int,0<=aA->aA<=1->0<=(z4+9223372036854775809)-18446744073709551616*aA->(z4+9223372036854775809)-18446744073709551616*aA<18446744073709551616->
             ad 39 [((z4+((-18446744073709551616)*aA))+1),0,9223372036854775807]/\
             (eX [[((z4+((-18446744073709551616)*aA))+1)]]/\dn [[((z4+((-18446744073709551616)*aA))+1)]]<dn [[z4]])
            ))
           ))
          ))
         )/\((decide (aq=45))=false->
          ∀aw:Int,0<=aw->aw<=1->0<=(z4+9223372036854775809)-18446744073709551616*aw->(z4+9223372036854775809)-18446744073709551616*aw<18446744073709551616->
          ad 39 [((z4+((-18446744073709551616)*aw))+1),0,9223372036854775807]/\
          (eX [[((z4+((-18446744073709551616)*aw))+1)]]/\dn [[((z4+((-18446744073709551616)*aw))+1)]]<dn [[z4]])
         ))
        ))
       )/\(((!(decide (ay=1))))=false->
        (((decide (aq=45))=true->
         (((decide (z4=0))=true->
          K [[z0]] [[(cond (false) 1 0)]]
         )/\((decide (z4=0))=false->
          ∀z12:Int,0<=z12->z12<=9223372036854775807->z12=aa 0 [z0]->
          (((decide (z4=(z12+(-1))))=true->
           K [[z0]] [[(cond (false) 1 0)]]
          )/\((decide (z4=(z12+(-1))))=false->
           ad 1 [z0,z4]/\
           ∀ai:Int,0<=ai->ai<=255->ai=aa 1 [z0,z4]->
           (((decide (ai=46))=true->
            ad 1 [z0,(z4+(-1))]/\
            ∀aw:Int,0<=aw->aw<=255->aw=aa 1 [z0,(z4+(-1))]->
            (((decide (aw=46))=true->
             K [[z0]] [[(cond (false) 1 0)]]
            )/\((decide (aw=46))=false->
             ∀aE:Int,0<=aE->aE<=1->0<=(z4+9223372036854775809)-18446744073709551616*aE->(z4+9223372036854775809)-18446744073709551616*aE<18446744073709551616->
             ad 39 [((z4+((-18446744073709551616)*aE))+1),0,9223372036854775807]/\
             (eX [[((z4+((-18446744073709551616)*aE))+1)]]/\dn [[((z4+((-18446744073709551616)*aE))+1)]]<dn [[z4]])
            ))
           )/\((decide (ai=46))=false->
            ∀aw:Int,0<=aw->aw<=1->0<=(z4+9223372036854775809)-18446744073709551616*aw->(z4+9223372036854775809)-18446744073709551616*aw<18446744073709551616->
            ad 39 [((z4+((-18446744073709551616)*aw))+1),0,9223372036854775807]/\
            (eX [[((z4+((-18446744073709551616)*aw))+1)]]/\dn [[((z4+((-18446744073709551616)*aw))+1)]]<dn [[z4]])
           ))
          ))
         ))
        )/\((decide (aq=45))=false->
         ∀z12:Int,0<=z12->z12<=1->0<=(z4+9223372036854775809)-18446744073709551616*z12->(z4+9223372036854775809)-18446744073709551616*z12<18446744073709551616->
         ad 39 [((z4+((-18446744073709551616)*z12))+1),0,9223372036854775807]/\
         (eX [[((z4+((-18446744073709551616)*z12))+1)]]/\dn [[((z4+((-18446744073709551616)*z12))+1)]]<dn [[z4]])
        ))
       ))
      )/\(((!(decide (z9=1))))=false->
       (((decide (aq=45))=true->
        (((decide (z4=0))=true->
         K [[z0]] [[(cond (false) 1 0)]]
        )/\((decide (z4=0))=false->
         ∀ao:Int,0<=ao->ao<=9223372036854775807->ao=aa 0 [z0]->
         (((decide (z4=(ao+(-1))))=true->
          K [[z0]] [[(cond (false) 1 0)]]
         )/\((decide (z4=(ao+(-1))))=false->
          ad 1 [z0,z4]/\
          ∀ay:Int,0<=ay->ay<=255->ay=aa 1 [z0,z4]->
          (((decide (ay=46))=true->
           ad 1 [z0,(z4+(-1))]/\
           ∀z12:Int,0<=z12->z12<=255->z12=aa 1 [z0,(z4+(-1))]->
           (((decide (z12=46))=true->
            K [[z0]] [[(cond (false) 1 0)]]
           )/\((decide (z12=46))=false->
            ∀ai:Int,0<=ai->ai<=1->0<=(z4+9223372036854775809)-18446744073709551616*ai->(z4+9223372036854775809)-18446744073709551616*ai<18446744073709551616->
            ad 39 [((z4+((-18446744073709551616)*ai))+1),0,9223372036854775807]/\
            (eX [[((z4+((-18446744073709551616)*ai))+1)]]/\dn [[((z4+((-18446744073709551616)*ai))+1)]]<dn [[z4]])
           ))
          )/\((decide (ay=46))=false->
           ∀z12:Int,0<=z12->z12<=1->0<=(z4+9223372036854775809)-18446744073709551616*z12->(z4+9223372036854775809)-18446744073709551616*z12<18446744073709551616->
           ad 39 [((z4+((-18446744073709551616)*z12))+1),0,9223372036854775807]/\
           (eX [[((z4+((-18446744073709551616)*z12))+1)]]/\dn [[((z4+((-18446744073709551616)*z12))+1)]]<dn [[z4]])
          ))
         ))
        ))
       )/\((decide (aq=45))=false->
        ∀ao:Int,0<=ao->ao<=1->0<=(z4+9223372036854775809)-18446744073709551616*ao->(z4+9223372036854775809)-18446744073709551616*ao<18446744073709551616->
        ad 39 [((z4+((-18446744073709551616)*ao))+1),0,9223372036854775807]/\
        (eX [[((z4+((-18446744073709551616)*ao))+1)]]/\dn [[((z4+((-18446744073709551616)*ao))+1)]]<dn [[z4]])
       ))
      ))
     ))
    )/\((decide (z4<z5))=false->
     K [[z0]] [[(cond (true) 1 0)]]
    ))
   )
  ))
 ))
def oQ (inn fP:UInt8->Bool) (s:aI) (i:Nat):Prop:=inn (s.getD i 0)=true/\(fP (s.getD i 0)=true->0<i/\i+1<s.length)/\¬(s.getD i 0=46/\0<i/\s.getD (i-1) 0=46)
theorem KX (inn fP:UInt8->Bool) (s:aI):p8 inn fP s=true↔∀i,i<s.length->oQ inn fP s i:=KY inn fP s
theorem UF {inn fP:UInt8->Bool} {s:aI} {i:Nat} (hi:i<s.length) (h:¬oQ inn fP s i):p8 inn fP s=false:=by
 cases ho:p8 inn fP s with
 |false=>rfl
 |true=>exact absurd ((KX inn fP s).1 ho i hi) h
def AT (inn fP:UInt8->Bool) (z0:Int) (bl:List (List Int)):Prop:=∃i:Nat,bl=[[(i:Int)]]/\i<=(ab z0).length/\∀j,j<i->oQ inn fP (ab z0) j
def AU (z0:Int) (bl:List (List Int)):Nat:=(ab z0).length-((bl.getD 0 []).getD 0 0).toNat
def FA (I:List (List Int)->Prop) (M:List (List Int)->Nat) (i:Int):Prop:=∀aA:Int,0<=aA->aA<=1->0<=(i+9223372036854775809)-18446744073709551616*aA->(i+9223372036854775809)-18446744073709551616*aA<18446744073709551616->
 ad 39 [((i+((-18446744073709551616)*aA))+1),0,9223372036854775807]/\(I [[((i+((-18446744073709551616)*aA))+1)]]/\M [[((i+((-18446744073709551616)*aA))+1)]]<M [[i]])
theorem NC {inn fP:UInt8->Bool} {z0:Int} {i:Nat} (h1:z0<=aD) (hi:i<(ab z0).length) (hall:∀j,j<i->oQ inn fP (ab z0) j) (h:oQ inn fP (ab z0) i):FA (AT inn fP z0) (AU z0) i:=by
 intro q q0 q1 q2 q3
 have hL:=r8 h1
 rw[Fs (L:=((ab z0).length:Int)) (by omega) hL (Int.natCast_nonneg _) q0 q2]
 refine⟨⟨by omega,by omega⟩,⟨i+1,by simp,by omega,λj hj=>?_⟩,?_⟩
 ·by_cases hj':j=i
  ·subst hj';exact h
  ·exact hall j (by omega)
 ·show(ab z0).length-((i:Int)+1).toNat<(ab z0).length-(i:Int).toNat
  omega
theorem yb {z0 z i n:Int} {k:Nat} (hi:i=(k:Int)) (hn:0<=n) (c7:n<=255) (h:z=aa 1 [z0,i]):decide (z=n)=((ab z0).getD k 0==u8 n):=by
 rw[h,hi];simp only[aa,Int.toNat_natCast]
 rw[Bool.eq_iff_iff,decide_eq_true_eq,xy hn c7]
theorem Xy {K:Prop} {A:Prop} {z0:Int} {i:Nat} (hi:i<(ab z0).length) (he:iF ((ab z0).getD i 0)=true) (ck:ji ((ab z0).getD i 0)=true)
 (hK:¬oQ ji iF (ab z0) i->K) (hA:oQ ji iF (ab z0) i->A):
   (((decide ((i:Int)=0))=true->
    K
   )/\((decide ((i:Int)=0))=false->
    ∀ai:Int,0<=ai->ai<=9223372036854775807->ai=aa 0 [z0]->
    (((decide ((i:Int)=(ai+(-1))))=true->
     K
    )/\((decide ((i:Int)=(ai+(-1))))=false->
     ad 1 [z0,(i:Int)]/\
     ∀aw:Int,0<=aw->aw<=255->aw=aa 1 [z0,(i:Int)]->
     (((decide (aw=46))=true->
      ad 1 [z0,((i:Int)+(-1))]/\
      ∀aE:Int,0<=aE->aE<=255->aE=aa 1 [z0,((i:Int)+(-1))]->
      (((decide (aE=46))=true->
       K
      )/\((decide (aE=46))=false->
       A
      ))
     )/\((decide (aw=46))=false->
      A
     ))
    ))
   )):=by
 refine⟨λh=>hK λho=>?_,λh ai a0 a1 dS=>?_⟩
 ·have:=(ho.2.1 he).1
  have:(i:Int)=0:=by simpa using h
  omega
 ·have h0:¬(i:Int)=0:=by simpa using h
  simp only[aa]at dS
  refine⟨λh=>hK λho=>?_,λh=>⟨⟨Int.natCast_nonneg _,by omega⟩,λaw b0 b1 cK=>?_⟩⟩
  ·have:=(ho.2.1 he).2
   have:(i:Int)=ai+-1:=by simpa using h
   omega
  ·have h1:¬(i:Int)=ai+-1:=by simpa using h
   rw[yb (n:=46) (k:=i) rfl (by decide) (by decide) cK]
   refine⟨λh=>⟨⟨by omega,by omega⟩,λaE bY c1 dg=>?_⟩,λh=>hA ⟨ck,λ_=>⟨by omega,by omega⟩,λal=>?_⟩⟩
   ·rw[yb (n:=46) (k:=i-1) (by omega) (by decide) (by decide) dg]
    have h:(ab z0).getD i 0=46:=beq_iff_eq.1 h
    refine⟨λh'=>hK λho=>ho.2.2 ⟨h,by omega,beq_iff_eq.1 h'⟩,λh'=>hA ⟨ck,λ_=>⟨by omega,by omega⟩,λal=>?_⟩⟩
    have:((ab z0).getD (i-1) 0==u8 46)=true:=beq_iff_eq.2 al.2.2
    rw[this]at h';cases h'
   ·have:((ab z0).getD i 0==u8 46)=true:=beq_iff_eq.2 al.1
    rw[this]at h;cases h
theorem Bf {z0 i z q:Int} {k:Nat} {f:UInt8->Bool} (hi:i=(k:Int)) (h:z=aa 1 [z0,i]) (hq:q=aT (f (u8 z))):decide (q=1)=f ((ab z0).getD k 0):=by
 rw[ee hq,h,hi];simp only[aa,Int.toNat_natCast,uQ]
theorem one_le {af z0:Int} (h:af=aa 0 [z0]):decide (af<1)= !Nat.blt 0 (ab z0).length:=by
 rw[h];simp only[aa]
 rw[Bool.eq_iff_iff,decide_eq_true_eq,Bool.not_eq_true',<-Bool.not_eq_true,Nat.blt_eq];omega
theorem Wc:F7 SB (b6 SB [.bool] 30):=by
 intro z0 a0 a1 af b0 b1 h1
 have bc:∀b:Bool,gg (ab z0)=b->b6 SB [.bool] 30 [[z0]] [[aT b]]:=λb h=>lB (by show aT b=aT (gg (ab z0));rw[h])
 rw[one_le h1]
 refine⟨λh=>bc false ?_,λh z2 bY c1 h2=>?_⟩
 ·rw[Bool.not_eq_true']at h;unfold gg;rw[h];rfl
 rw[Bool.not_eq_false']at h
 rw[DO (n:=230) 230 rfl h2]
 refine⟨λh'=>bc false ?_,λh'=>⟨AT ji iF z0,AU z0,⟨0,rfl,Nat.zero_le _,λj hj=>by omega⟩,?_⟩⟩
 ·rw[Bool.not_eq_true']at h';unfold gg;rw[h'];simp
 rw[Bool.not_eq_false']at h'
 rintro z4 d0 d1 ⟨i,e,hi,hall⟩ z5 cy e1 h5
 obtain rfl:z4=i:=by simpa using e
 simp only[aa]at h5
 refine⟨λhp=>?_,λhp=>bc true ?_⟩
 ·have hp:(i:Int)<z5:=by simpa using hp
  have hlt:i<(ab z0).length:=by omega
  have hc1:ad 1 [z0,(i:Int)]:=⟨d0,by omega⟩
  have hK:¬oQ ji iF (ab z0) i->b6 SB [.bool] 30 [[z0]] [[aT false]]:=λhn=>bc false (by unfold gg;rw[UF hlt hn];simp)
  have hA:oQ ji iF (ab z0) i->FA (AT ji iF z0) (AU z0) i:=NC a1 hlt hall
  have e5:iF ((ab z0).getD i 0)=true->_:=λhe=>Xy hlt he (by unfold ji;rw[he];simp) hK hA
  refine⟨hc1,λak f0 f1 h6=>?_⟩
  rw[yb (n:=46) (k:=i) rfl (by decide) (by decide) h6]
  refine⟨λpx=>?_,λpx=>?_⟩
  ·have hs:=e5 (by unfold iF;rw[show((ab z0).getD i 0==46)=true from px];rfl)
   refine⟨hc1,λaq g0 g1 h7 aj i0 i1 bw=>⟨λ_=>⟨hc1,λz9 pR gQ bk ao c9 k1 dv=>⟨λ_=>⟨hc1,λay l0 l1 cD z12 m0 jj c6=>⟨λ_=>hs,λ_=>hs⟩⟩,λ_=>hs⟩⟩,λ_=>hs⟩⟩
  ·refine⟨hc1,λaq g0 g1 h7=>⟨hc1,λaj i0 i1 bw z9 pR gQ bk=>?_⟩⟩
   have Ur:¬(ab z0).getD i 0=46:=λe=>by
    have:((ab z0).getD i 0==u8 46)=true:=beq_iff_eq.2 e
    rw[this]at px;cases px
   have OT:=yb (n:=45) (k:=i) rfl (by decide) (by decide) h7
   rw[OT]
   have im:(jS ((ab z0).getD i 0)=true∨lZ ((ab z0).getD i 0)=true∨dW ((ab z0).getD i 0)=true)->_:=λdj=>And.intro (λoe:((ab z0).getD i 0==u8 45)=true=>e5 (by unfold iF;rw[show((ab z0).getD i 0==45)=true from oe];simp)) (λoe:((ab z0).getD i 0==u8 45)=false=>hA ⟨(by
    unfold ji
    rcases dj with h|h|h<;>rw[h]<;>simp),(λhe=>by
    unfold iF at he
    rw[show((ab z0).getD i 0==45)=false from oe,show((ab z0).getD i 0==46)=false from px]at he
    cases he),λal=>Ur al.1⟩)
   rw[Bf (f:=jS) (k:=i) rfl bw bk]
   refine⟨λUu=>⟨hc1,λao c9 k1 dv ay l0 l1 cD=>?_⟩,λPO=>im (.inl (by simpa using PO))⟩
   rw[Bf (f:=lZ) (k:=i) rfl dv cD]
   refine⟨λUt=>⟨hc1,λz12 m0 jj c6 ai n0 n1 dS=>?_⟩,λPE=>im (.inr (.inl (by simpa using PE)))⟩
   rw[Bf (f:=dW) (k:=i) rfl c6 dS]
   refine⟨λUs=>⟨λKN=>hK λho=>?_,λoe=>?_⟩,λPD=>im (.inr (.inr (by simpa using PD)))⟩
   ·have ck:=ho.1
    unfold ji iF at ck
    rw[show jS ((ab z0).getD i 0)=false by simpa using Uu,show lZ ((ab z0).getD i 0)=false by simpa using Ut,show dW ((ab z0).getD i 0)=false by simpa using Us,show((ab z0).getD i 0==45)=false from by rw[Bool.not_eq_true']at KN;exact KN,show((ab z0).getD i 0==46)=false from px]at ck
    cases ck
   ·rw[Bool.not_eq_false']at oe
    have hs:=e5 (by unfold iF;rw[show((ab z0).getD i 0==45)=true from oe];simp)
    exact⟨λ_=>hs,λh=>by rw[oe]at h;cases h⟩
 ·have hp:¬(i:Int)<z5:=by simpa using hp
  unfold gg
  rw[h,h',(KX ji iF (ab z0)).2 λj hj=>hall j (by omega)];rfl
theorem St {c:Int} (h0:0<=c) (h1:c<=255) {l:aI} {i:Nat} (hi:i<l.length) (he:l.getD i 0=u8 c) (hb:∀j,j<i->l.getD j 0≠u8 c):idx c l=(i:Int):=by
 rcases wJ h0 h1 l with⟨_,h2⟩|⟨h2,h3,h4,_,h5⟩
 ·refine absurd ?_ h2
  rw[<-he]
  simp[List.getD,hi]
 ·rcases Nat.lt_trichotomy i (idx c l).toNat with h|h|h
  ·exact absurd he (h5 i h)
  ·omega
  ·exact absurd h4 (hb _ h)
theorem Sv {c:Int} (h0:0<=c) (h1:c<=255) {l:aI} (hb:∀j,j<l.length->l.getD j 0≠u8 c):idx c l=-1:=by
 rcases wJ h0 h1 l with⟨h2,_⟩|⟨h2,h3,h4,_,h5⟩
 ·exact h2
 ·exact absurd h4 (hb _ h3)
end Go.bG
namespace Go.bG
open Go Go.bo
def Gg (S:Nat->List (List Int)->List (List Int)->Prop) (K:List (List Int)->List (List Int)->Prop):Prop:=
 ∀z0:Int,0<=z0->z0<=aD->
 ∀af:Int,0<=af->af<=1->af=aa 4 [z0,0]->
 (((decide (af=1))=true->
  K [[z0]] [[z0]]
 )/\((decide (af=1))=false->
  ∃(gr:List (List Int)->Prop) (jK:List (List Int)->Nat),gr [[z0]]/\(∀z3:Int,0<=z3->z3<=aD->gr [[z3]]->
   ∀z4:Int,0<=z4->z4<=9223372036854775807->z4=aa 0 [z3]->
   (((decide (0<z4))=true->
    ∀z5:Int,0<=z5->z5<=9223372036854775807->z5=aa 0 [z3]->
    ad 1 [z3,(z5+(-1))]/\
    ∀ak:Int,0<=ak->ak<=255->ak=aa 1 [z3,(z5+(-1))]->
    ∀aq:Int,0<=aq->aq<=1->aq=aa 43 [79221403731691789204265450354666987086070872538664503581038852739373042335165977954796146613462291367,ak]->
    ((((!(decide (aq=1))))=true->
     ∃(eO:List (List Int)->Prop) (fb:List (List Int)->Nat),eO [[z3]]/\(∀z9:Int,0<=z9->z9<=aD->eO [[z9]]->
      ∀ao:Int,0<=ao->ao<=9223372036854775807->ao=aa 0 [z9]->
      (((decide (0<ao))=true->
       ad 1 [z9,0]/\
       ∀ay:Int,0<=ay->ay<=255->ay=aa 1 [z9,0]->
       ∀z12:Int,0<=z12->z12<=1->z12=aa 43 [79221403731691789204265450354666987086070872538664503581038852739373042335165977954796146613462291367,ay]->
       ((((!(decide (z12=1))))=true->
        K [[z0]] [[z9]]
       )/\(((!(decide (z12=1))))=false->
        ∀ai:Int,0<=ai->ai<=9223372036854775807->ai=aa 0 [z9]->
        ad 2 [z9,1,ai]/\
        ∀aw:Int,0<=aw->aw<=aD->aw=aa 2 [z9,1,ai]->
        (eO [[aw]]/\fb [[aw]]<fb [[z9]])
       ))
      )/\((decide (0<ao))=false->
       K [[z0]] [[z9]]
      ))
     )
    )/\(((!(decide (aq=1))))=false->
     ∀aj:Int,0<=aj->aj<=9223372036854775807->aj=aa 0 [z3]->
     ad 2 [z3,0,(aj+(-1))]/\
     ∀z9:Int,0<=z9->z9<=aD->z9=aa 2 [z3,0,(aj+(-1))]->
     (gr [[z9]]/\jK [[z9]]<jK [[z3]])
    ))
   )/\((decide (0<z4))=false->
    ∃(dC:List (List Int)->Prop) (ev:List (List Int)->Nat),dC [[z3]]/\(∀ak:Int,0<=ak->ak<=aD->dC [[ak]]->
     ∀aq:Int,0<=aq->aq<=9223372036854775807->aq=aa 0 [ak]->
     (((decide (0<aq))=true->
      ad 1 [ak,0]/\
      ∀aj:Int,0<=aj->aj<=255->aj=aa 1 [ak,0]->
      ∀z9:Int,0<=z9->z9<=1->z9=aa 43 [79221403731691789204265450354666987086070872538664503581038852739373042335165977954796146613462291367,aj]->
      ((((!(decide (z9=1))))=true->
       K [[z0]] [[ak]]
      )/\(((!(decide (z9=1))))=false->
       ∀ao:Int,0<=ao->ao<=9223372036854775807->ao=aa 0 [ak]->
       ad 2 [ak,1,ao]/\
       ∀ay:Int,0<=ay->ay<=aD->ay=aa 2 [ak,1,ao]->
       (dC [[ay]]/\ev [[ay]]<ev [[ak]])
      ))
     )/\((decide (0<aq))=false->
      K [[z0]] [[ak]]
     ))
    )
   ))
  )
 ))
def FJ (S:Nat->List (List Int)->List (List Int)->Prop) (K:List (List Int)->List (List Int)->Prop):Prop:=
 ∀z0:Int,0<=z0->z0<=aD->
 ∃(qy:List (List Int)->Prop) (xC:List (List Int)->Nat),qy [[0]]/\(∀z2:Int,0<=z2->z2<=9223372036854775807->qy [[z2]]->
  ∀z3:Int,0<=z3->z3<=9223372036854775807->z3=aa 0 [z0]->
  (((decide (z2<z3))=true->
   ad 1 [z0,z2]/\
   ∀z4:Int,0<=z4->z4<=255->z4=aa 1 [z0,z2]->
   (((decide (z4=58))=true->
    K [[z0]] [[z2]]
   )/\((decide (z4=58))=false->
    ∀z5:Int,0<=z5->z5<=1->0<=(z2+9223372036854775809)-18446744073709551616*z5->(z2+9223372036854775809)-18446744073709551616*z5<18446744073709551616->
    ad 39 [((z2+((-18446744073709551616)*z5))+1),0,9223372036854775807]/\
    (qy [[((z2+((-18446744073709551616)*z5))+1)]]/\xC [[((z2+((-18446744073709551616)*z5))+1)]]<xC [[z2]])
   ))
  )/\((decide (z2<z3))=false->
   K [[z0]] [[(-1)]]
  ))
 )
def F8 (S:Nat->List (List Int)->List (List Int)->Prop) (K:List (List Int)->List (List Int)->Prop):Prop:=
 ∀z0:Int,0<=z0->z0<=aD->
 ∀af:Int,(-1)<=af->af<=9223372036854775807->S 204 [[z0]] [[af]]->
 (((decide (af<0))=true->
  ∀z2:Int,0<=z2->z2<=1->S 30 [[z0]] [[z2]]->
  K [[z0]] [[(cond (decide (z2=1)) 1 0)]]
 )/\((decide (af<0))=false->
  ∀z2:Int,0<=z2->z2<=1->0<=(af+9223372036854775809)-18446744073709551616*z2->(af+9223372036854775809)-18446744073709551616*z2<18446744073709551616->
  ∀z3:Int,0<=z3->z3<=9223372036854775807->z3=aa 0 [z0]->
  ad 2 [z0,((af+((-18446744073709551616)*z2))+1),z3]/\
  ∀z4:Int,0<=z4->z4<=aD->z4=aa 2 [z0,((af+((-18446744073709551616)*z2))+1),z3]->
  ∃(dC:List (List Int)->Prop) (ev:List (List Int)->Nat),dC [[0]]/\(∀ak:Int,0<=ak->ak<=9223372036854775807->dC [[ak]]->
   ∀aq:Int,0<=aq->aq<=9223372036854775807->aq=aa 0 [z4]->
   (((decide (ak<aq))=true->
    ad 1 [z4,ak]/\
    ∀aj:Int,0<=aj->aj<=255->aj=aa 1 [z4,ak]->
    ∀z9:Int,0<=z9->z9<=1->S 52 [[aj]] [[z9]]->
    ((((!(decide (z9=1))))=true->
     K [[z0]] [[(cond (false) 1 0)]]
    )/\(((!(decide (z9=1))))=false->
     ∀ao:Int,0<=ao->ao<=1->0<=(ak+9223372036854775809)-18446744073709551616*ao->(ak+9223372036854775809)-18446744073709551616*ao<18446744073709551616->
     ad 39 [((ak+((-18446744073709551616)*ao))+1),0,9223372036854775807]/\
     (dC [[((ak+((-18446744073709551616)*ao))+1)]]/\ev [[((ak+((-18446744073709551616)*ao))+1)]]<ev [[ak]])
    ))
   )/\((decide (ak<aq))=false->
    ad 2 [z0,0,af]/\
    ∀aj:Int,0<=aj->aj<=aD->aj=aa 2 [z0,0,af]->
    ∀z9:Int,0<=z9->z9<=1->S 30 [[aj]] [[z9]]->
    (((decide (z9=1))=true->
     ∀ao:Int,0<=ao->ao<=9223372036854775807->ao=aa 0 [z4]->
     (((decide (1<=ao))=true->
      ∀ay:Int,0<=ay->ay<=9223372036854775807->ay=aa 0 [z4]->
      K [[z0]] [[(cond (decide (ay<=5)) 1 0)]]
     )/\((decide (1<=ao))=false->
      K [[z0]] [[(cond (false) 1 0)]]
     ))
    )/\((decide (z9=1))=false->
     K [[z0]] [[(cond (false) 1 0)]]
    ))
   ))
  )
 ))
def F4 (S:Nat->List (List Int)->List (List Int)->Prop) (K:List (List Int)->List (List Int)->Prop):Prop:=
 ∀z0:Int,0<=z0->z0<=aD->∀af:Int,64<=af->af<=64->
 ∀z2:Int,0<=z2->z2<=9223372036854775807->z2=aa 0 [z0]->
 (((decide (z2=0))=true->
  K [[z0],[af]] [[0],[0],[(cond (false) 1 0)]]
 )/\((decide (z2=0))=false->
  ∀z3:Int,0<=z3->z3<=9223372036854775807->z3=aa 0 [z0]->
  (((decide (255<z3))=true->
   K [[z0],[af]] [[0],[0],[(cond (false) 1 0)]]
  )/\((decide (255<z3))=false->
   ad 1 [z0,0]/\
   ∀z4:Int,0<=z4->z4<=255->z4=aa 1 [z0,0]->
   ((((!(decide (z4=af))))=true->
    K [[z0],[af]] [[0],[0],[(cond (false) 1 0)]]
   )/\(((!(decide (z4=af))))=false->
    ∀z5:Int,(-1)<=z5->z5<=9223372036854775807->S 204 [[z0]] [[z5]]->
    (((decide (z5<0))=true->
     K [[z0],[af]] [[0],[0],[(cond (false) 1 0)]]
    )/\((decide (z5<0))=false->
     ∀ak:Int,0<=ak->ak<=1->0<=(z5+9223372036854775809)-18446744073709551616*ak->(z5+9223372036854775809)-18446744073709551616*ak<18446744073709551616->
     ∀aq:Int,0<=aq->aq<=9223372036854775807->aq=aa 0 [z0]->
     ad 2 [z0,((z5+((-18446744073709551616)*ak))+1),aq]/\
     ∀aj:Int,0<=aj->aj<=aD->aj=aa 2 [z0,((z5+((-18446744073709551616)*ak))+1),aq]->
     ∀z9:Int,0<=z9->z9<=1->S 205 [[aj]] [[z9]]->
     ((((!(decide (z9=1))))=true->
      K [[z0],[af]] [[0],[0],[(cond (false) 1 0)]]
     )/\(((!(decide (z9=1))))=false->
      ad 2 [z0,1,z5]/\
      ∀ao:Int,0<=ao->ao<=aD->ao=aa 2 [z0,1,z5]->
      ∀ay:Int,0<=ay->ay<=1->0<=(z5+9223372036854775809)-18446744073709551616*ay->(z5+9223372036854775809)-18446744073709551616*ay<18446744073709551616->
      ∀z12:Int,0<=z12->z12<=9223372036854775807->z12=aa 0 [z0]->
      ad 2 [z0,((z5+((-18446744073709551616)*ay))+1),z12]/\
      ∀ai:Int,0<=ai->ai<=aD->ai=aa 2 [z0,((z5+((-18446744073709551616)*ay))+1),z12]->
      K [[z0],[af]] [[ao],[ai],[(cond (true) 1 0)]]
     ))
    ))
   ))
  ))
 ))
def F9 (S:Nat->List (List Int)->List (List Int)->Prop) (K:List (List Int)->List (List Int)->Prop):Prop:=
 ∀z0:Int,0<=z0->z0<=aD->
 ∀af:Int,0<=af->af<=aD->∀z2:Int,0<=z2->z2<=aD->∀z3:Int,0<=z3->z3<=1->S 206 [[z0],[64]] [[af],[z2],[z3]]->
 ∃(eG:List (List Int)->Prop) (ed:List (List Int)->Nat),eG [[0]]/\(∀z5:Int,0<=z5->z5<=9223372036854775807->eG [[z5]]->
  ∀ak:Int,0<=ak->ak<=9223372036854775807->ak=aa 0 [af]->
  (((decide (z5<ak))=true->
   ad 1 [af,z5]/\
   ∀aq:Int,0<=aq->aq<=255->aq=aa 1 [af,z5]->
   ∀aj:Int,0<=aj->aj<=1->S 50 [[aq]] [[aj]]->
   ((((!(decide (aj=1))))=true->
    ∀z9:Int,0<=z9->z9<=1->S 52 [[aq]] [[z9]]->
    ((((!(decide (z9=1))))=true->
     ((((!(decide (aq=46))))=true->
      ((((!(decide (aq=95))))=true->
       ((((!(decide (aq=61))))=true->
        ((((!(decide (aq=47))))=true->
         ((((!(decide (aq=43))))=true->
          ((((!(decide (aq=45))))=true->
           K [[z0]] [[(cond (false) 1 0)]]
          )/\(((!(decide (aq=45))))=false->
           ∀ao:Int,0<=ao->ao<=1->0<=(z5+9223372036854775809)-18446744073709551616*ao->(z5+9223372036854775809)-18446744073709551616*ao<18446744073709551616->
           ad 39 [((z5+((-18446744073709551616)*ao))+1),0,9223372036854775807]/\
           (eG [[((z5+((-18446744073709551616)*ao))+1)]]/\ed [[((z5+((-18446744073709551616)*ao))+1)]]<ed [[z5]])
          ))
         )/\(((!(decide (aq=43))))=false->
          ∀ao:Int,0<=ao->ao<=1->0<=(z5+9223372036854775809)-18446744073709551616*ao->(z5+9223372036854775809)-18446744073709551616*ao<18446744073709551616->
          ad 39 [((z5+((-18446744073709551616)*ao))+1),0,9223372036854775807]/\
          (eG [[((z5+((-18446744073709551616)*ao))+1)]]/\ed [[((z5+((-18446744073709551616)*ao))+1)]]<ed [[z5]])
         ))
        )/\(((!(decide (aq=47))))=false->
         ∀ao:Int,0<=ao->ao<=1->0<=(z5+9223372036854775809)-18446744073709551616*ao->(z5+9223372036854775809)-18446744073709551616*ao<18446744073709551616->
         ad 39 [((z5+((-18446744073709551616)*ao))+1),0,9223372036854775807]/\
         (eG [[((z5+((-18446744073709551616)*ao))+1)]]/\ed [[((z5+((-18446744073709551616)*ao))+1)]]<ed [[z5]])
        ))
       )/\(((!(decide (aq=61))))=false->
        ∀ao:Int,0<=ao->ao<=1->0<=(z5+9223372036854775809)-18446744073709551616*ao->(z5+9223372036854775809)-18446744073709551616*ao<18446744073709551616->
        ad 39 [((z5+((-18446744073709551616)*ao))+1),0,9223372036854775807]/\
        (eG [[((z5+((-18446744073709551616)*ao))+1)]]/\ed [[((z5+((-18446744073709551616)*ao))+1)]]<ed [[z5]])
       ))
      )/\(((!(decide (aq=95))))=false->
       ∀ao:Int,0<=ao->ao<=1->0<=(z5+9223372036854775809)-18446744073709551616*ao->(z5+9223372036854775809)-18446744073709551616*ao<18446744073709551616->
       ad 39 [((z5+((-18446744073709551616)*ao))+1),0,9223372036854775807]/\
       (eG [[((z5+((-18446744073709551616)*ao))+1)]]/\ed [[((z5+((-18446744073709551616)*ao))+1)]]<ed [[z5]])
      ))
     )/\(((!(decide (aq=46))))=false->
      ∀ao:Int,0<=ao->ao<=1->0<=(z5+9223372036854775809)-18446744073709551616*ao->(z5+9223372036854775809)-18446744073709551616*ao<18446744073709551616->
      ad 39 [((z5+((-18446744073709551616)*ao))+1),0,9223372036854775807]/\
      (eG [[((z5+((-18446744073709551616)*ao))+1)]]/\ed [[((z5+((-18446744073709551616)*ao))+1)]]<ed [[z5]])
     ))
    )/\(((!(decide (z9=1))))=false->
     ∀ao:Int,0<=ao->ao<=1->0<=(z5+9223372036854775809)-18446744073709551616*ao->(z5+9223372036854775809)-18446744073709551616*ao<18446744073709551616->
     ad 39 [((z5+((-18446744073709551616)*ao))+1),0,9223372036854775807]/\
     (eG [[((z5+((-18446744073709551616)*ao))+1)]]/\ed [[((z5+((-18446744073709551616)*ao))+1)]]<ed [[z5]])
    ))
   )/\(((!(decide (aj=1))))=false->
    ∀z9:Int,0<=z9->z9<=1->0<=(z5+9223372036854775809)-18446744073709551616*z9->(z5+9223372036854775809)-18446744073709551616*z9<18446744073709551616->
    ad 39 [((z5+((-18446744073709551616)*z9))+1),0,9223372036854775807]/\
    (eG [[((z5+((-18446744073709551616)*z9))+1)]]/\ed [[((z5+((-18446744073709551616)*z9))+1)]]<ed [[z5]])
   ))
  )/\((decide (z5<ak))=false->
   (((decide (z3=1))=true->
    ∀aq:Int,0<=aq->aq<=9223372036854775807->aq=aa 0 [af]->
    (((decide (1<=aq))=true->
     ∀aj:Int,0<=aj->aj<=9223372036854775807->aj=aa 0 [af]->
     K [[z0]] [[(cond (decide (aj<=200)) 1 0)]]
    )/\((decide (1<=aq))=false->
     K [[z0]] [[(cond (false) 1 0)]]
    ))
   )/\((decide (z3=1))=false->
    K [[z0]] [[(cond (false) 1 0)]]
   ))
  ))
 )
theorem Wl:Gg SB (b6 SB [.str] 202):=zI (n:=79221403731691789204265450354666987086070872538664503581038852739373042335165977954796146613462291367) (p:=nt) (qG (by decide+kernel)) λ_ _=>rfl
theorem A4 {I:List (List Int)->Prop} {M:List (List Int)->Nat} {L:Int} {i:Nat} (hlt:(i:Int)<L) (hL:L<=9223372036854775807) (hI:I [[((i+1:Nat):Int)]]) (hO:M [[((i+1:Nat):Int)]]<M [[(i:Int)]]):
 ∀q:Int,0<=q->q<=1->0<=((i:Int)+9223372036854775809)-18446744073709551616*q->((i:Int)+9223372036854775809)-18446744073709551616*q<18446744073709551616->
  ad 39 [(((i:Int)+((-18446744073709551616)*q))+1),0,9223372036854775807]/\
  (I [[(((i:Int)+((-18446744073709551616)*q))+1)]]/\M [[(((i:Int)+((-18446744073709551616)*q))+1)]]<M [[(i:Int)]]):=by
 intro q q0 q1 q2 q3
 rw[Fs (L:=L) hlt hL (Int.natCast_nonneg _) q0 q2]
 exact⟨⟨by omega,by omega⟩,by simpa using hI,by simpa using hO⟩
def pj (n:Nat) (bl:List (List Int)):Nat:=n-((bl.getD 0 []).getD 0 0).toNat
theorem BC {n i:Nat} (h:i<n):pj n [[((i+1:Nat):Int)]]<pj n [[(i:Int)]]:=by
 show n-(((i+1:Nat):Int)).toNat<n-((i:Int)).toNat
 omega
theorem VM:FJ SB (b6 SB [.int .i64 (-1) 9223372036854775807] 204):=by
 intro z0 a0 a1
 have hL:=r8 a1
 refine⟨λbl=>∃i:Nat,bl=[[(i:Int)]]/\i<=(ab z0).length/\∀j,j<i->(ab z0).getD j 0≠u8 58,pj (ab z0).length,⟨0,rfl,Nat.zero_le _,λj h=>by omega⟩,?_⟩
 rintro z2 b0 b1 ⟨i,e,hi,hb⟩ z3 bY c1 h3
 obtain rfl:z2=i:=by simpa using e
 simp only[aa]at h3
 have fin:∀r:Int,-1<=r->r<=9223372036854775807->r=idx 58 (ab z0)->b6 SB [.int .i64 (-1) 9223372036854775807] 204 [[z0]] [[r]]:=λr xb r1 h=>⟨⟨xb,r1,trivial⟩,h⟩
 refine⟨λhp=>?_,λhp=>fin _ (by decide) (by decide) ?_⟩
 ·have hp:(i:Int)<z3:=by simpa using hp
  refine⟨⟨b0,by omega⟩,λz4 d0 d1 h4=>?_⟩
  simp only[aa,Int.toNat_natCast]at h4
  have hu:=xy (b:=(ab z0).getD i 0) (z:=58) (by decide) (by decide)
  rw[<-h4]at hu
  refine⟨λhq=>fin _ (by omega) (by omega) ?_,λhq=>A4 (I:=λbl=>∃i:Nat,bl=[[(i:Int)]]/\i<=(ab z0).length/\∀j,j<i->(ab z0).getD j 0≠u8 58) (M:=pj (ab z0).length) (L:=z3) hp c1 ⟨i+1,rfl,by omega,λj hj=>?_⟩ (BC (by omega))⟩
  ·exact(St (by decide) (by decide) (by omega) (beq_iff_eq.1 (hu.1 (of_decide_eq_true hq))) hb).symm
  ·by_cases he:j=i
   ·subst he
    intro h
    have:=hu.2 (by rw[h];simp)
    exact of_decide_eq_false hq this
   ·exact hb j (by omega)
 ·have hp:¬(i:Int)<z3:=by simpa using hp
  exact(Sv (by decide) (by decide) λj hj=>hb j (by omega)).symm
theorem Ah {s z L:Int} {n:Nat} (hz:z=(n:Int)) (h:n<=(ab s).length) (hL:L=aa 0 [s]):(0<=z/\z<=L/\L<=((ab s).length:Int))/\∀y,y=aa 2 [s,z,L]->ab y=(ab s).drop n:=by
 subst hz
 simp only[aa]at hL
 refine⟨⟨by omega,by omega,by omega⟩,λy hy=>?_⟩
 rw[hy];simp only[aa,gT]
 rw[show((n:Int)).toNat=n by omega]
 exact List.take_of_length_le (by simp;omega)
theorem Wd:F8 SB (b6 SB [.bool] 205):=by
 intro z0 a0 a1 af b0 b1 h1
 have hL:=r8 a1
 have h1:af=idx 58 (ab z0):=h1
 have bc:∀b:Bool,hX (ab z0)=b->b6 SB [.bool] 205 [[z0]] [[aT b]]:=λb h=>lB (by show aT b=aT (hX (ab z0));rw[h])
 have hr:=rS 58 (ab z0)
 refine⟨λhn z2 bY c1 h2=>?_,λhn z2 bY c1 aU bL z3 d0 d1 h3=>?_⟩
 ·have h2:z2=aT (gg (ab z0)):=h2
  have hn:af<0:=of_decide_eq_true hn
  rw[ee h2]
  exact bc _ (Xt (by omega))
 ·have hn:¬af<0:=of_decide_eq_false hn
  have hw:af+-18446744073709551616*z2+1=((af.toNat+1:Nat):Int):=by omega
  rw[hw]
  obtain⟨s1,s2⟩:=Ah (s:=z0) (z:=((af.toNat+1:Nat):Int)) (L:=z3) (n:=af.toNat+1) rfl (by omega) h3
  refine⟨s1,λz4 cy e1 h4=>?_⟩
  have eo:=s2 z4 h4
  have aak:=r8 e1
  have iK:hX (ab z0)=(gg ((ab z0).take af.toNat)&&nG (ab z4)):=by
   unfold hX kC
   have:decide (0<=idx 58 (ab z0))=true:=decide_eq_true (by omega)
   rw[this,eo,h1]
   simp
  refine⟨λbl=>∃i:Nat,bl=[[(i:Int)]]/\i<=(ab z4).length/\((ab z4).take i).all dW=true,pj (ab z4).length,⟨0,rfl,Nat.zero_le _,rfl⟩,?_⟩
  rintro ak f0 f1 ⟨i,e,hi,hall⟩ aq g0 g1 h7
  obtain rfl:ak=i:=by simpa using e
  simp only[aa]at h7
  refine⟨λhp=>?_,λhp=>?_⟩
  ·have hp:(i:Int)<aq:=by simpa using hp
   refine⟨⟨f0,by omega⟩,λaj i0 i1 bw z9 pR gQ bk=>?_⟩
   simp only[aa,Int.toNat_natCast]at bw
   have bk:z9=aT (dW (u8 aj)):=bk
   rw[bw,uQ]at bk
   rw[ee bk]
   refine⟨λhd=>bc false ?_,λhd=>A4 (I:=λbl=>∃i:Nat,bl=[[(i:Int)]]/\i<=(ab z4).length/\((ab z4).take i).all dW=true) (M:=pj (ab z4).length) (L:=aq) hp g1 ⟨i+1,rfl,by omega,?_⟩ (BC (by omega))⟩
   ·have hd:dW ((ab z4).getD i 0)=false:=by simpa using hd
    rw[iK];unfold nG;rw[A8 dW _ i (by omega) hd];simp
   ·have hd:dW ((ab z4).getD i 0)=true:=by simpa using hd
    rw[A9 _ _ _ (by omega),hall,hd];rfl
  ·have hp:¬(i:Int)<aq:=by simpa using hp
   rw[List.take_of_length_le (by omega)]at hall
   refine⟨⟨Int.le_refl _,by omega,by omega⟩,λaj i0 i1 bw z9 pR gQ bk=>?_⟩
   have vu:ab aj=(ab z0).take af.toNat:=by
    rw[bw];simp only[aa,gT]
    rw[show(0:Int).toNat=0 from rfl,List.drop_zero];rfl
   have bk:z9=aT (gg (ab aj)):=bk
   rw[ee bk,vu]
   have RH:nG (ab z4)=(Nat.blt 0 (ab z4).length&&Nat.ble (ab z4).length 5):=by unfold nG;rw[hall,Bool.and_true]
   rw[RH]at iK
   refine⟨λal ao c9 k1 dv=>?_,λal=>bc false (by rw[iK,al];rfl)⟩
   simp only[aa]at dv
   refine⟨λhq ay l0 l1 cD=>?_,λhq=>bc false ?_⟩
   ·simp only[aa]at cD
    have hq:1<=ao:=of_decide_eq_true hq
    refine bc _ ?_
    rw[iK,al,show Nat.blt 0 (ab z4).length=true by rw[Nat.blt_eq];omega,Bool.true_and,Bool.true_and,Bool.eq_iff_iff,decide_eq_true_eq,Nat.ble_eq];omega
   ·have hq:¬1<=ao:=of_decide_eq_false hq
    rw[iK,show Nat.blt 0 (ab z4).length=false by
     cases hb:Nat.blt 0 (ab z4).length with
     |false=>rfl
     |true=>rw[Nat.blt_eq]at hb;omega];simp
theorem zj {id:Nat} {zs:List (List Int)} {a b:Int} {c:Bool} (a0:0<=a) (a1:a<=aD) (b0:0<=b) (b1:b<=aD) (h:SB id zs [[a],[b],[aT c]]):b6 SB [.str,.str,.bool] id zs [[a],[b],[aT c]]:=⟨⟨a0,a1,b0,b1,(ic c).1,(ic c).2,trivial⟩,h⟩
theorem si {k:UInt8} {s:aI} (h:(Nat.blt 0 s.length&&Nat.ble s.length 255&&s.getD 0 0==k&&decide (0<=idx 58 s)&&hX (s.drop ((idx 58 s).toNat+1)))=false):gS k s=([],[],0):=by unfold gS;rw[h];rfl
theorem V8 {k:Int} (c9:0<=k) (k1:k<=255) (hk:k≠58) {id:Nat} (hid:∀z a b c,SB id [[z],[k]] [[a],[b],[c]]=((ab a,ab b,c)=gS (u8 k) (ab z))):
 (∀z0:Int,0<=z0->z0<=aD->∀af:Int,k<=af->af<=k->
 ∀z2:Int,0<=z2->z2<=9223372036854775807->z2=aa 0 [z0]->
 (((decide (z2=0))=true->
  b6 SB [.str,.str,.bool] id [[z0],[af]] [[0],[0],[(cond (false) 1 0)]]
 )/\((decide (z2=0))=false->
  ∀z3:Int,0<=z3->z3<=9223372036854775807->z3=aa 0 [z0]->
  (((decide (255<z3))=true->
   b6 SB [.str,.str,.bool] id [[z0],[af]] [[0],[0],[(cond (false) 1 0)]]
  )/\((decide (255<z3))=false->
   ad 1 [z0,0]/\
   ∀z4:Int,0<=z4->z4<=255->z4=aa 1 [z0,0]->
   ((((!(decide (z4=af))))=true->
    b6 SB [.str,.str,.bool] id [[z0],[af]] [[0],[0],[(cond (false) 1 0)]]
   )/\(((!(decide (z4=af))))=false->
    ∀z5:Int,(-1)<=z5->z5<=9223372036854775807->SB 204 [[z0]] [[z5]]->
    (((decide (z5<0))=true->
     b6 SB [.str,.str,.bool] id [[z0],[af]] [[0],[0],[(cond (false) 1 0)]]
    )/\((decide (z5<0))=false->
     ∀ak:Int,0<=ak->ak<=1->0<=(z5+9223372036854775809)-18446744073709551616*ak->(z5+9223372036854775809)-18446744073709551616*ak<18446744073709551616->
     ∀aq:Int,0<=aq->aq<=9223372036854775807->aq=aa 0 [z0]->
     ad 2 [z0,((z5+((-18446744073709551616)*ak))+1),aq]/\
     ∀aj:Int,0<=aj->aj<=aD->aj=aa 2 [z0,((z5+((-18446744073709551616)*ak))+1),aq]->
     ∀z9:Int,0<=z9->z9<=1->SB 205 [[aj]] [[z9]]->
     ((((!(decide (z9=1))))=true->
      b6 SB [.str,.str,.bool] id [[z0],[af]] [[0],[0],[(cond (false) 1 0)]]
     )/\(((!(decide (z9=1))))=false->
      ad 2 [z0,1,z5]/\
      ∀ao:Int,0<=ao->ao<=aD->ao=aa 2 [z0,1,z5]->
      ∀ay:Int,0<=ay->ay<=1->0<=(z5+9223372036854775809)-18446744073709551616*ay->(z5+9223372036854775809)-18446744073709551616*ay<18446744073709551616->
      ∀z12:Int,0<=z12->z12<=9223372036854775807->z12=aa 0 [z0]->
      ad 2 [z0,((z5+((-18446744073709551616)*ay))+1),z12]/\
      ∀ai:Int,0<=ai->ai<=aD->ai=aa 2 [z0,((z5+((-18446744073709551616)*ay))+1),z12]->
      b6 SB [.str,.str,.bool] id [[z0],[af]] [[ao],[ai],[(cond (true) 1 0)]]
     ))
    ))
   ))
  ))
 ))):=by
  intro z0 a0 a1 af b0 b1 z2 bY c1 h2
  have hL:=r8 a1
  obtain rfl:af=k:=by omega
  simp only[aa]at h2
  have ei:gS (u8 af) (ab z0)=([],[],0)->b6 SB [.str,.str,.bool] id [[z0],[af]] [[0],[0],[(cond (false) 1 0)]]:=λh=>zj (c:=false) (Int.le_refl _) mj (Int.le_refl _) mj (by rw[hid,h];rfl)
  have iJ:Nat.blt 0 (ab z0).length= !decide (z2=0):=by
   rw[Bool.eq_iff_iff,Nat.blt_eq];simp;omega
  refine⟨λh=>ei (si (by rw[iJ,h];rfl)),λh z3 d0 d1 h3=>?_⟩
  have wG:¬z2=0:=of_decide_eq_false h
  rw[h]at iJ
  have tx:=DO (n:=255) 255 rfl h3
  refine⟨λh'=>ei (si (by
   rw[h']at tx
   have:Nat.ble (ab z0).length 255=false:=by simpa using tx.symm
   rw[this];simp)),λh'=>⟨⟨Int.le_refl _,by omega⟩,λz4 cy e1 h4=>?_⟩⟩
  rw[h']at tx
  have tx:Nat.ble (ab z0).length 255=true:=by simpa using tx.symm
  have Q9:decide (z4=af)=((ab z0).getD 0 0==u8 af):=by
   rw[h4];simp only[aa,Int.toNat_zero]
   rw[Bool.eq_iff_iff,decide_eq_true_eq,xy c9 k1]
  rw[Q9]
  refine⟨λhk=>ei (si (by
   have:((ab z0).getD 0 0==u8 af)=false:=by simpa using hk
   rw[this];simp)),λfy z5 f0 f1 h5=>?_⟩
  have fy:((ab z0).getD 0 0==u8 af)=true:=by simpa using fy
  have h5:z5=idx 58 (ab z0):=h5
  have hr:=rS 58 (ab z0)
  refine⟨λhn=>ei (si (by
   have hn:z5<0:=of_decide_eq_true hn
   rw[show decide (0<=idx 58 (ab z0))=false from decide_eq_false (by omega)];simp)),λhn ak g0 g1 g2 g3 aq i0 i1 h7=>?_⟩
  have hn:¬z5<0:=of_decide_eq_false hn
  have h1:1<=z5:=by
   rcases wJ (c:=58) (by decide) (by decide) (ab z0)with⟨q,_⟩|⟨q1,q2,q3,_⟩
   ·omega
   ·by_cases h0:z5=0
    ·rw[<-h5,h0]at q3
     have q3:(ab z0).getD 0 0=u8 58:=q3
     rw[q3]at fy
     have:=beq_iff_eq.1 fy
     have:=congrArg UInt8.toNat this
     have e1:=Ak c9 k1
     have e2:=Ak (z:=58) (by decide) (by decide)
     omega
    ·omega
  have hw:∀q:Int,0<=q->q<=1->0<=(z5+9223372036854775809)-18446744073709551616*q->z5+-18446744073709551616*q+1=((z5.toNat+1:Nat):Int):=λq q0 q1 q2=>by omega
  rw[hw ak g0 g1 g2]
  obtain⟨s1,s2⟩:=Ah (s:=z0) (z:=((z5.toNat+1:Nat):Int)) (L:=aq) (n:=z5.toNat+1) rfl (by omega) h7
  refine⟨s1,λaj pR gQ bw z9 l0 l1 bk=>?_⟩
  have vu:=s2 aj bw
  have bk:z9=aT (hX (ab aj)):=bk
  rw[ee bk,vu]
  have hi:decide (0<=idx 58 (ab z0))=true:=decide_eq_true (by omega)
  refine⟨λhs=>ei (si (by
   have hs:hX ((ab z0).drop (z5.toNat+1))=false:=by simpa using hs
   rw[<-h5,hs];simp)),λhs=>⟨⟨by decide,by omega,by omega⟩,λao m0 jj dv ay n0 n1 db jW z12 UA o1 c6=>?_⟩⟩
  have hs:hX ((ab z0).drop (z5.toNat+1))=true:=by simpa using hs
  rw[hw ay n0 n1 db]
  obtain⟨t1,t2⟩:=Ah (s:=z0) (z:=((z5.toNat+1:Nat):Int)) (L:=z12) (n:=z5.toNat+1) rfl (by omega) c6
  refine⟨t1,λai p0 p1 dS=>zj (c:=true) m0 jj p0 p1 ?_⟩
  rw[hid,t2 ai dS]
  have s7:ab ao=((ab z0).take z5.toNat).drop 1:=by
   rw[dv];simp only[aa,gT]
   rw[List.drop_take];rfl
  have hbl:Nat.blt 0 (ab z0).length=true:=by rw[iJ];rfl
  unfold gS
  rw[hbl,tx,fy,hi,<-h5,hs,s7]
  rfl
theorem V9:F4 SB (b6 SB [.str,.str,.bool] 206):=V8 (k:=64) (by decide) (by decide) (by decide) λ_ _ _ _=>rfl
theorem Uv {z0 af z3:Int} {k:UInt8} {inn:UInt8->Bool} {most:Nat} {uu:Int} (hm:uu=(most:Int)) {id:Nat} (hid:∀r,SB id [[z0]] [[r]]=(r=aT (kN k inn most (ab z0)))) (h3:0<=z3/\z3<=1) (hp:(gS k (ab z0)).1=ab af) (C0:(gS k (ab z0)).2.2=z3) (hall:(ab af).all inn=true):
 (((decide (z3=1))=true->
  ∀aq:Int,0<=aq->aq<=9223372036854775807->aq=aa 0 [af]->
  (((decide (1<=aq))=true->
   ∀aj:Int,0<=aj->aj<=9223372036854775807->aj=aa 0 [af]->
   b6 SB [.bool] id [[z0]] [[(cond (decide (aj<=uu)) 1 0)]]
  )/\((decide (1<=aq))=false->
   b6 SB [.bool] id [[z0]] [[(cond (false) 1 0)]]
  ))
 )/\((decide (z3=1))=false->
  b6 SB [.bool] id [[z0]] [[(cond (false) 1 0)]]
 )):=by
 have bc:∀b:Bool,kN k inn most (ab z0)=b->b6 SB [.bool] id [[z0]] [[aT b]]:=λb h=>lB (by rw[hid,h])
 have hv:kN k inn most (ab z0)=(decide (z3=1)&&Nat.blt 0 (ab af).length&&Nat.ble (ab af).length most):=by
  unfold kN;rw[hp,C0,hall,Bool.and_true]
 refine⟨λh aq a0 a1 h7=>?_,λh=>bc false (by rw[hv,h];rfl)⟩
 simp only[aa]at h7
 refine⟨λh1 aj b0 b1 bw=>bc _ ?_,λh1=>bc false ?_⟩
 ·have h1:1<=aq:=of_decide_eq_true h1
  rw[hv,h,show Nat.blt 0 (ab af).length=true by rw[Nat.blt_eq];omega,uk most hm bw];rfl
 ·have h1:¬1<=aq:=of_decide_eq_false h1
  rw[hv,show Nat.blt 0 (ab af).length=false by
   cases hb:Nat.blt 0 (ab af).length with
   |false=>rfl
   |true=>rw[Nat.blt_eq]at hb;omega];simp
theorem Uw {k:UInt8} {inn:UInt8->Bool} {most:Nat} {s l:aI} (hp:(gS k s).1=l) {i:Nat} (hi:i<l.length) (hf:inn (l.getD i 0)=false):kN k inn most s=false:=by
 unfold kN;rw[hp,A8 inn l i hi hf];simp
theorem We:F9 SB (b6 SB [.bool] 207):=by
 intro z0 a0 a1 af b0 b1 z2 bY c1 z3 d0 d1 iG
 have iG:(ab af,ab z2,z3)=gS 64 (ab z0):=iG
 have hp:(gS 64 (ab z0)).1=ab af:=by rw[<-iG]
 have C0:(gS 64 (ab z0)).2.2=z3:=by rw[<-iG]
 have hL:=r8 b1
 have bc:∀b:Bool,gp (ab z0)=b->b6 SB [.bool] 207 [[z0]] [[aT b]]:=λb h=>lB (by show aT b=aT (gp (ab z0));rw[h])
 refine⟨λbl=>∃i:Nat,bl=[[(i:Int)]]/\i<=(ab af).length/\((ab af).take i).all nt=true,pj (ab af).length,⟨0,rfl,Nat.zero_le _,rfl⟩,?_⟩
 rintro z5 cy e1 ⟨i,e,hi,hall⟩ ak f0 f1 h6
 obtain rfl:z5=i:=by simpa using e
 simp only[aa]at h6
 refine⟨λhlt=>?_,λct=>?_⟩
 ·have hlt:(i:Int)<ak:=by simpa using hlt
  refine⟨⟨cy,by omega⟩,λaq g0 g1 h7 aj i0 i1 bw=>?_⟩
  simp only[aa,Int.toNat_natCast]at h7
  have bw:aj=aT (jS (u8 aq)):=bw
  have yv:u8 aq=(ab af).getD i 0:=by rw[h7,uQ]
  rw[yv]at bw
  have on:nt ((ab af).getD i 0)=true->_:=λh=>A4 (I:=λbl=>∃i:Nat,bl=[[(i:Int)]]/\i<=(ab af).length/\((ab af).take i).all nt=true) (M:=pj (ab af).length) (L:=ak) hlt f1 ⟨i+1,rfl,by omega,by rw[A9 _ _ _ (by omega),hall,h];rfl⟩ (BC (by omega))
  have dO:∀n:Int,0<=n->n<=255->decide (aq=n)=((ab af).getD i 0==u8 n):=λn h0 h1=>by
   rw[Bool.eq_iff_iff,decide_eq_true_eq,h7,xy h0 h1]
  rw[ee bw,dO 46 (by decide) (by decide),dO 95 (by decide) (by decide),dO 61 (by decide) (by decide),dO 47 (by decide) (by decide),dO 43 (by decide) (by decide),dO 45 (by decide) (by decide)]
  have ck:nt ((ab af).getD i 0)=(jS ((ab af).getD i 0)||dW ((ab af).getD i 0)||((ab af).getD i 0==u8 46||((ab af).getD i 0==u8 95||((ab af).getD i 0==u8 61||((ab af).getD i 0==u8 47||((ab af).getD i 0==u8 43||((ab af).getD i 0==u8 45||false))))))):=rfl
  refine⟨λhs z9 pR gQ bk=>?_,λhs=>on (by rw[ck,show jS ((ab af).getD i 0)=true by simpa using hs];rfl)⟩
  have hs:jS ((ab af).getD i 0)=false:=by simpa using hs
  have bk:z9=aT (dW (u8 aq)):=bk
  rw[yv]at bk
  rw[ee bk]
  refine⟨λhd=>?_,λhd=>on (by rw[ck,show dW ((ab af).getD i 0)=true by simpa using hd];simp)⟩
  have hd:dW ((ab af).getD i 0)=false:=by simpa using hd
  rw[hs,hd]at ck
  refine⟨λq1=>⟨λq2=>⟨λq3=>⟨λq4=>⟨λq5=>⟨λq6=>bc false (Uw (k:=64) (inn:=nt) (most:=200) hp (i:=i) (by omega) ?_),λq6=>on ?_⟩,λq5=>on ?_⟩,λq4=>on ?_⟩,λq3=>on ?_⟩,λq2=>on ?_⟩,λq1=>on ?_⟩
  ·simp only[Bool.not_eq_true']at q1 q2 q3 q4 q5 q6
   rw[ck,q1,q2,q3,q4,q5,q6];rfl
  all_goals rw[ck]
  ·simp only[Bool.not_eq_false']at q6;rw[q6];simp
  ·simp only[Bool.not_eq_false']at q5;rw[q5];simp
  ·simp only[Bool.not_eq_false']at q4;rw[q4];simp
  ·simp only[Bool.not_eq_false']at q3;rw[q3];simp
  ·simp only[Bool.not_eq_false']at q2;rw[q2];simp
  ·simp only[Bool.not_eq_false']at q1;rw[q1];simp
 ·have ct:¬(i:Int)<ak:=by simpa using ct
  rw[List.take_of_length_le (by omega)]at hall
  exact Uv (k:=64) (inn:=nt) (most:=200) rfl (λ_=>rfl) ⟨d0,d1⟩ hp C0 hall
end Go.bG
namespace Go.bG
open Go Go.bo
def Gi (S:Nat->List (List Int)->List (List Int)->Prop) (K:List (List Int)->List (List Int)->Prop):Prop:=
 ∀z0:Int,0<=z0->z0<=aD->
 ∀af:Int,0<=af->af<=9223372036854775807->af=aa 0 [z0]->
 (((decide (255<af))=true->
  K [[z0]] [[(cond (false) 1 0)]]
 )/\((decide (255<af))=false->
  ∀z2:Int,0<=z2->z2<=9223372036854775807->z2=aa 0 [z0]->
  (((decide (1<=z2))=true->
   ad 2 [z0,0,1]/\
   ∀z3:Int,0<=z3->z3<=aD->z3=aa 2 [z0,0,1]->
   ∀z4:Int,0<=z4->z4<=1->z4=aa 4 [z3,65]->
   ((((!(decide (z4=1))))=true->
    K [[z0]] [[(cond (false) 1 0)]]
   )/\(((!(decide (z4=1))))=false->
    ∀z5:Int,0<=z5->z5<=9223372036854775807->z5=aa 0 [z0]->
    ad 2 [z0,1,z5]/\
    ∀ak:Int,0<=ak->ak<=aD->ak=aa 2 [z0,1,z5]->
    ∀aq:Int,0<=aq->aq<=aD->∀aj:Int,0<=aj->aj<=aD->∀z9:Int,0<=z9->z9<=1->S 126 [[ak]] [[aq],[aj],[z9]]->
    (((decide (z9=1))=true->
     ∀ao:Int,0<=ao->ao<=1->ao=aa 4 [aq,0]->
     ((((!(decide (ao=1))))=true->
      ∀ay:Int,0<=ay->ay<=9223372036854775807->ay=aa 0 [aq]->
      (((decide (ay<=200))=true->
       ∀z12:Int,0<=z12->z12<=aD->S 202 [[aq]] [[z12]]->
       ∀ai:Int,0<=ai->ai<=1->ai=aa 4 [z12,0]->
       (((decide (ai=1))=true->
        ∀aw:Int,0<=aw->aw<=1->S 65 [[aq],[29623484903295033747957742255491238963424329677582429956179748554116486405127370353604394274421496743]] [[aw]]->
        (((decide (aw=1))=true->
         ∀aE:Int,0<=aE->aE<=1->S 27 [[aj]] [[aE]]->
         K [[z0]] [[(cond (decide (aE=1)) 1 0)]]
        )/\((decide (aw=1))=false->
         K [[z0]] [[(cond (false) 1 0)]]
        ))
       )/\((decide (ai=1))=false->
        K [[z0]] [[(cond (false) 1 0)]]
       ))
      )/\((decide (ay<=200))=false->
       K [[z0]] [[(cond (false) 1 0)]]
      ))
     )/\(((!(decide (ao=1))))=false->
      K [[z0]] [[(cond (false) 1 0)]]
     ))
    )/\((decide (z9=1))=false->
     K [[z0]] [[(cond (false) 1 0)]]
    ))
   ))
  )/\((decide (1<=z2))=false->
   K [[z0]] [[(cond (false) 1 0)]]
  ))
 ))
theorem Su {c:UInt8} {t:aI} (h:c≠58):idx 58 (c::t)=if idx 58 t<0 then-1 else idx 58 t+1:=by
 have:¬(c.toNat:Int)=58:=λe=>h (by rw[<-UInt8.toNat_inj];show c.toNat=58;omega)
 show(if(c.toNat:Int)=58 then 0 else if idx 58 t<0 then-1 else idx 58 t+1)=_
 rw[if_neg this]
theorem Wq {k:UInt8} (hk:k≠58) {t:aI} (hl:t.length+1<=255):gS k (k::t)=cond (decide (0<=idx 58 t)&&hX (t.drop ((idx 58 t).toNat+1))) (t.take (idx 58 t).toNat,t.drop ((idx 58 t).toNat+1),1) ([],[],0):=by
 unfold gS
 rw[Su hk,show Nat.blt 0 (k::t).length=true by rw[Nat.blt_eq];simp,show Nat.ble (k::t).length 255=true by rw[Nat.ble_eq];simpa using hl]
 have hr:=rS 58 t
 have hb:((k::t).getD 0 0==k)=true:=by show(k==k)=true;simp
 rw[hb]
 by_cases hn:idx 58 t<0
 ·rw[if_pos hn,show decide (0<=idx 58 t)=false from decide_eq_false (by omega)]
  simp
 ·rw[if_neg hn,show decide (0<=idx 58 t)=true from decide_eq_true (by omega),show decide (0<=idx 58 t+1)=true from decide_eq_true (by omega),show(idx 58 t+1).toNat=(idx 58 t).toNat+1 by omega]
  simp
theorem Lg {k:UInt8} {s:aI} (h:s.getD 0 0≠k∨s=[]):(gS k s).2.2=0:=by
 rw[si]
 rcases h with h|h
 ·rw[show(s.getD 0 0==k)=false by simpa using h];simp
 ·rw[h];rfl
theorem Wr {k:UInt8} {s:aI} (h:Nat.ble s.length 255=false):(gS k s).2.2=0:=by
 rw[si]
 rw[h];simp
theorem zw {k:UInt8} {inn:UInt8->Bool} {most:Nat} {s:aI} (h:(gS k s).2.2=0):kN k inn most s=false:=by unfold kN;rw[h];rfl
theorem Vy (inn:UInt8->Bool) (s:aI) {n:Int} (hn:∀c,(ab n).contains c=inn c):(s.all λc=>(ab n).contains c)=s.all inn:=by
 congr 1;funext c;exact hn c
theorem V6 {k:UInt8} {Kc BB uu:Int} {inn:UInt8->Bool} {most tid:Nat} (hk:k≠58) (Rb:ab Kc=[k]) (dU:∀c,(ab BB).contains c=inn c) (hm:uu=(most:Int)) (ht:∀z r,SB tid [[z]] [[r]]=(ab r=iB inn (ab z))) {id:Nat} (hid:∀z r,SB id [[z]] [[r]]=(r=aT (kN k inn most (ab z)))):
(∀z0:Int,0<=z0->z0<=aD->
 ∀af:Int,0<=af->af<=9223372036854775807->af=aa 0 [z0]->
 (((decide (255<af))=true->
  b6 SB [.bool] id [[z0]] [[(cond (false) 1 0)]]
 )/\((decide (255<af))=false->
  ∀z2:Int,0<=z2->z2<=9223372036854775807->z2=aa 0 [z0]->
  (((decide (1<=z2))=true->
   ad 2 [z0,0,1]/\
   ∀z3:Int,0<=z3->z3<=aD->z3=aa 2 [z0,0,1]->
   ∀z4:Int,0<=z4->z4<=1->z4=aa 4 [z3,Kc]->
   ((((!(decide (z4=1))))=true->
    b6 SB [.bool] id [[z0]] [[(cond (false) 1 0)]]
   )/\(((!(decide (z4=1))))=false->
    ∀z5:Int,0<=z5->z5<=9223372036854775807->z5=aa 0 [z0]->
    ad 2 [z0,1,z5]/\
    ∀ak:Int,0<=ak->ak<=aD->ak=aa 2 [z0,1,z5]->
    ∀aq:Int,0<=aq->aq<=aD->∀aj:Int,0<=aj->aj<=aD->∀z9:Int,0<=z9->z9<=1->SB 126 [[ak]] [[aq],[aj],[z9]]->
    (((decide (z9=1))=true->
     ∀ao:Int,0<=ao->ao<=1->ao=aa 4 [aq,0]->
     ((((!(decide (ao=1))))=true->
      ∀ay:Int,0<=ay->ay<=9223372036854775807->ay=aa 0 [aq]->
      (((decide (ay<=uu))=true->
       ∀z12:Int,0<=z12->z12<=aD->SB tid [[aq]] [[z12]]->
       ∀ai:Int,0<=ai->ai<=1->ai=aa 4 [z12,0]->
       (((decide (ai=1))=true->
        ∀aw:Int,0<=aw->aw<=1->SB 65 [[aq],[BB]] [[aw]]->
        (((decide (aw=1))=true->
         ∀aE:Int,0<=aE->aE<=1->SB 27 [[aj]] [[aE]]->
         b6 SB [.bool] id [[z0]] [[(cond (decide (aE=1)) 1 0)]]
        )/\((decide (aw=1))=false->
         b6 SB [.bool] id [[z0]] [[(cond (false) 1 0)]]
        ))
       )/\((decide (ai=1))=false->
        b6 SB [.bool] id [[z0]] [[(cond (false) 1 0)]]
       ))
      )/\((decide (ay<=uu))=false->
       b6 SB [.bool] id [[z0]] [[(cond (false) 1 0)]]
      ))
     )/\(((!(decide (ao=1))))=false->
      b6 SB [.bool] id [[z0]] [[(cond (false) 1 0)]]
     ))
    )/\((decide (z9=1))=false->
     b6 SB [.bool] id [[z0]] [[(cond (false) 1 0)]]
    ))
   ))
  )/\((decide (1<=z2))=false->
   b6 SB [.bool] id [[z0]] [[(cond (false) 1 0)]]
  ))
 ))):=by
  intro z0 a0 a1 af b0 b1 h1
  have bc:∀b:Bool,kN k inn most (ab z0)=b->b6 SB [.bool] id [[z0]] [[aT b]]:=λb h=>lB (by rw[hid,h])
  have vD:=DO (n:=255) 255 rfl h1
  refine⟨λhb=>bc false (zw (Wr (by rw[hb]at vD;simpa using vD.symm))),λhb z2 bY c1 h2=>?_⟩
  rw[hb]at vD
  have hlen:(ab z0).length<=255:=by
   have:Nat.ble (ab z0).length 255=true:=by simpa using vD.symm
   exact Nat.le_of_ble_eq_true this
  simp only[aa]at h2
  refine⟨λhp=>⟨⟨Int.le_refl _,by decide,by have:=of_decide_eq_true hp;omega⟩,λz3 d0 d1 h3 z4 cy e1 h4=>?_⟩,λhp=>bc false (zw (Lg (.inr ?_)))⟩
  ·cases hs:ab z0 with
   |nil=>rw[hs]at h2;have:=of_decide_eq_true hp;simp at h2;omega
   |cons c t=>
    have e3:ab z3=[c]:=by rw[h3];simp only[aa,gT,hs];rfl
    rw[mv h4,e3,Rb]
    refine⟨λhne=>bc false (zw (Lg (.inl ?_))),λheq z5 f0 f1 h5=>?_⟩
    ·rw[hs];intro h
     have h:c=k:=h
     rw[h]at hne;simp at hne
    ·have QB:c=k:=by simpa using heq
     subst QB
     have ow:t.length+1<=255:=by rw[hs]at hlen;simpa using hlen
     obtain⟨s1,s2⟩:=Ah (s:=z0) (z:=1) (L:=z5) (n:=1) rfl (by rw[hs];simp) h5
     refine⟨s1,λak g0 g1 h6 aq i0 i1 aj pR gQ z9 c9 k1 hC=>?_⟩
     have n9:ab ak=t:=by rw[s2 ak h6,hs];rfl
     have hC:(ab aq,ab aj,z9)=kC 58 (ab ak):=hC
     rw[n9]at hC
     have iG:=Wq hk ow
     unfold kC at hC
     cases hi:decide (0<=idx 58 t)with
     |false=>
      rw[hi]at hC iG
      simp only[cond_false,Prod.mk.injEq]at hC
      obtain⟨_,_,rfl⟩:=hC
      exact⟨λh=>by simp at h,λ_=>bc false (zw (by rw[hs,iG];rfl))⟩
     |true=>
      rw[hi]at hC iG
      simp only[cond_true,Prod.mk.injEq]at hC
      obtain⟨yv,vu,rfl⟩:=hC
      rw[Bool.true_and]at iG
      have hv:kN c inn most (ab z0)=(hX (ab aj)&&Nat.blt 0 (ab aq).length&&Nat.ble (ab aq).length most&&(ab aq).all inn):=by
       unfold kN
       rw[hs,iG,<-yv,<-vu]
       cases hX (ab aj)<;>rfl
      refine⟨λ_ ao l0 l1 dv=>?_,λh=>by simp at h⟩
      have hn:=zy dv
      refine⟨λhq ay m0 jj cD=>?_,λhq=>bc false (by rw[hq]at hn;rw[hv,<-hn];simp)⟩
      rw[hq]at hn
      rw[uk most hm cD]
      refine⟨λhr z12 n0 n1 c6 ai UA o1 dS=>?_,λhr=>bc false (by rw[hv,hr];simp)⟩
      rw[ht]at c6
      rw[eq_nil dS,c6]
      refine⟨λhs aw p0 p1 cK=>?_,λhs=>bc false ?_⟩
      ·have cK:aw=aT ((ab aq).all λc=>(ab BB).contains c):=cK
       rw[Vy inn _ dU]at cK
       rw[ee cK]
       refine⟨λha aE q0 q1 dg=>?_,λha=>bc false (by rw[hv,ha];simp)⟩
       have dg:aE=aT (hX (ab aj)):=dg
       rw[ee dg]
       refine bc _ ?_
       rw[hv,<-hn,hr,ha];simp
      ·rw[hv]
       cases ha:(ab aq).all inn with
       |false=>simp
       |true=>rw[Fk ha]at hs;simp at hs
  ·have hp:¬1<=z2:=of_decide_eq_false hp
   exact List.length_eq_zero_iff.1 (by omega)
theorem Wn:Gi SB (b6 SB [.bool] 200):=V6 (k:=64) (inn:=nt) (most:=200) (tid:=202) (by decide) (by decide) (qG (by decide+kernel)) rfl (λ_ _=>rfl) (λ_ _=>rfl)
end Go.bG
namespace Go.bG
open Go Go.bo
def F6 (S:Nat->List (List Int)->List (List Int)->Prop) (K:List (List Int)->List (List Int)->Prop):Prop:=
 ∀z0:Int,0<=z0->z0<=aD->
 ∀af:Int,0<=af->af<=9223372036854775807->af=aa 0 [z0]->
 ∃(gr:List (List Int)->Prop) (jK:List (List Int)->Nat),gr [[0]]/\(∀z3:Int,0<=z3->z3<=9223372036854775807->gr [[z3]]->
  (((decide (z3<af))=true->
   ad 1 [z0,z3]/\
   ∀z4:Int,0<=z4->z4<=255->z4=aa 1 [z0,z3]->
   (((decide (z4<32))=true->
    K [[z0]] [[(cond (false) 1 0)]]
   )/\((decide (z4<32))=false->
    ad 1 [z0,z3]/\
    ∀z5:Int,0<=z5->z5<=255->z5=aa 1 [z0,z3]->
    (((decide (126<z5))=true->
     K [[z0]] [[(cond (false) 1 0)]]
    )/\((decide (126<z5))=false->
     ∀ak:Int,0<=ak->ak<=1->0<=(z3+9223372036854775809)-18446744073709551616*ak->(z3+9223372036854775809)-18446744073709551616*ak<18446744073709551616->
     ad 39 [((z3+((-18446744073709551616)*ak))+1),0,9223372036854775807]/\
     (gr [[((z3+((-18446744073709551616)*ak))+1)]]/\jK [[((z3+((-18446744073709551616)*ak))+1)]]<jK [[z3]])
    ))
   ))
  )/\((decide (z3<af))=false->
   K [[z0]] [[(cond (true) 1 0)]]
  ))
 )
theorem eH {b:Bool} (h:(!b)=true):b=false:=by cases b<;>first|rfl|cases h
theorem dL {b:Bool} (h:(!b)=false):b=true:=by cases b<;>first|rfl|cases h
def Nj (z0:Int) (bl:List (List Int)):Prop:=∃i:Nat,bl=[[(i:Int)]]/\i<=(ab z0).length/\nH ((ab z0).take i)=true
def Gz (z0:Int) (bl:List (List Int)):Nat:=(ab z0).length-((bl.getD 0 []).getD 0 0).toNat
theorem Ln {t:aI} {i:Nat} (h:i<t.length):t.getD i 0∈t:=by simp[List.getD,h]
theorem Wb:F6 SB (b6 SB [.bool] 400):=by
 intro z0 a0 a1 af _ c1 h1
 have h1:af=((ab z0).length:Int):=h1
 have bc:∀b:Bool,nH (ab z0)=b->b6 SB [.bool] 400 [[z0]] [[aT b]]:=λb h=>lB (by show aT b=aT (nH (ab z0));rw[h])
 have ei:∀i,i<(ab z0).length->(((ab z0).getD i 0).toNat<32∨126<((ab z0).getD i 0).toNat)->b6 SB [.bool] 400 [[z0]] [[cond false 1 0]]:=λi hi h=>bc false (by
  cases hp:nH (ab z0)with
  |false=>rfl
  |true=>
   have:=List.all_eq_true.1 hp _ (Ln hi)
   simp only[Bool.and_eq_true,Nat.ble_eq]at this
   omega)
 refine⟨Nj z0,Gz z0,⟨0,rfl,Nat.zero_le _,rfl⟩,?_⟩
 rintro z3 d0 d1 ⟨i,e,hi,hI⟩
 obtain rfl:z3=i:=by simpa using e
 refine⟨λhlt=>?_,λct=>bc true ?_⟩
 ·have hlt:=of_decide_eq_true hlt
  have bM:i<(ab z0).length:=by omega
  have hg:∀z:Int,z=aa 1 [z0,(i:Int)]->z=(((ab z0).getD i 0).toNat:Int):=λz h=>by
   rw[h];simp only[aa,Int.toNat_natCast]
  refine⟨⟨by omega,by omega⟩,λz4 _ _ h4=>⟨λhc=>ei i bM (.inl ?_),λhc=>⟨⟨by omega,by omega⟩,λz5 _ _ h5=>⟨λhd=>ei i bM (.inr ?_),λhd ak x0 x1 cU dm=>?_⟩⟩⟩⟩
  ·have:=hg z4 h4;have:=of_decide_eq_true hc;omega
  ·have:=hg z5 h5;have:=of_decide_eq_true hd;omega
  ·have eo:=hg z4 h4;have mu:=hg z5 h5
   have hc:=of_decide_eq_false hc;have hd:=of_decide_eq_false hd
   refine⟨⟨by omega,by omega⟩,⟨i+1,by rw[show((i:Int)+(-18446744073709551616)*ak)+1=((i+1:Nat):Int) by omega],by omega,?_⟩,?_⟩
   ·unfold nH at hI⊢
    rw[Fi _ _ bM,List.all_append,hI]
    simp only[List.all_cons,List.all_nil,Bool.and_true,Bool.true_and,Bool.and_eq_true,Nat.ble_eq]
    omega
   ·show(ab z0).length-(((i:Int)+(-18446744073709551616)*ak)+1).toNat<(ab z0).length-((i:Int)).toNat;omega
 ·have:=of_decide_eq_false ct
  rwa [List.take_of_length_le (by omega)]at hI
end Go.bG
namespace Go.bG
open Go Go.bo
def Gj (S:Nat->List (List Int)->List (List Int)->Prop) (K:List (List Int)->List (List Int)->Prop):Prop:=
 ∀z0:Int,0<=z0->z0<=aD->
 ∃(qy:List (List Int)->Prop) (xC:List (List Int)->Nat),qy [[0]]/\(∀z2:Int,0<=z2->z2<=9223372036854775807->qy [[z2]]->
  ∀z3:Int,0<=z3->z3<=9223372036854775807->z3=aa 0 [z0]->
  (((decide (z2<z3))=true->
   ad 1 [z0,z2]/\
   ∀z4:Int,0<=z4->z4<=255->z4=aa 1 [z0,z2]->
   (((decide (z4<33))=true->
    K [[z0]] [[(cond (false) 1 0)]]
   )/\((decide (z4<33))=false->
    ad 1 [z0,z2]/\
    ∀z5:Int,0<=z5->z5<=255->z5=aa 1 [z0,z2]->
    (((decide (126<z5))=true->
     K [[z0]] [[(cond (false) 1 0)]]
    )/\((decide (126<z5))=false->
     ∀ak:Int,0<=ak->ak<=1->0<=(z2+9223372036854775809)-18446744073709551616*ak->(z2+9223372036854775809)-18446744073709551616*ak<18446744073709551616->
     ad 39 [((z2+((-18446744073709551616)*ak))+1),0,9223372036854775807]/\
     (qy [[((z2+((-18446744073709551616)*ak))+1)]]/\xC [[((z2+((-18446744073709551616)*ak))+1)]]<xC [[z2]])
    ))
   ))
  )/\((decide (z2<z3))=false->
   ∀z4:Int,0<=z4->z4<=9223372036854775807->z4=aa 0 [z0]->
   (((decide (1<=z4))=true->
    ∀z5:Int,0<=z5->z5<=9223372036854775807->z5=aa 0 [z0]->
    K [[z0]] [[(cond (decide (z5<=64)) 1 0)]]
   )/\((decide (1<=z4))=false->
    K [[z0]] [[(cond (false) 1 0)]]
   ))
  ))
 )
theorem L3 (t:aI):b8 t=((decide (1<=t.length)&&decide (t.length<=64))&&t.all λc=>Nat.ble 33 c.toNat&&Nat.ble c.toNat 126):=by
 unfold b8 nH
 have h1:(!t.isEmpty)=decide (1<=t.length):=by cases t<;>simp
 have h2:Nat.ble t.length 64=decide (t.length<=64):=by rw[Bool.eq_iff_iff,Nat.ble_eq,decide_eq_true_eq]
 have h3:((t.all λc=>Nat.ble 32 c.toNat&&Nat.ble c.toNat 126)&& !t.contains 32)=t.all λc=>Nat.ble 33 c.toNat&&Nat.ble c.toNat 126:=by
  rw[Bool.eq_iff_iff]
  simp only[Bool.and_eq_true,List.all_eq_true,Nat.ble_eq,Bool.not_eq_true',List.contains_eq_mem,decide_eq_false_iff_not]
  constructor
  ·rintro⟨h,hn⟩ c hc
   have h4:=h c hc
   refine⟨?_,h4.2⟩
   have:c.toNat≠32:=λe=>hn (by rw[show(32:UInt8)=c from(UInt8.toNat_inj.1 e).symm];exact hc)
   omega
  ·intro h
   exact⟨λc hc=>⟨by have:=(h c hc).1;omega,(h c hc).2⟩,λhm=>by have:=(h 32 hm).1;revert this;decide⟩
 rw[h1,h2,h3,Bool.and_assoc]
def Nv (z0:Int) (bl:List (List Int)):Prop:=∃i:Nat,bl=[[(i:Int)]]/\i<=(ab z0).length/\((ab z0).take i).all (λc=>Nat.ble 33 c.toNat&&Nat.ble c.toNat 126)=true
theorem Wo:Gj SB (b6 SB [.bool] 420):=by
 intro z0 a0 a1
 have bc:∀b:Bool,b8 (ab z0)=b->b6 SB [.bool] 420 [[z0]] [[aT b]]:=λb h=>lB (by show aT b=aT (b8 (ab z0));rw[h])
 have ei:∀i,i<(ab z0).length->(((ab z0).getD i 0).toNat<33∨126<((ab z0).getD i 0).toNat)->b6 SB [.bool] 420 [[z0]] [[cond false 1 0]]:=λi hi h=>bc false (by
  cases hp:b8 (ab z0)with
  |false=>rfl
  |true=>
   rw[L3]at hp
   simp only[Bool.and_eq_true,List.all_eq_true,Nat.ble_eq]at hp
   have:=hp.2 _ (Ln hi)
   omega)
 refine⟨Nv z0,Gz z0,⟨0,rfl,Nat.zero_le _,rfl⟩,?_⟩
 rintro z2 d0 d1 ⟨i,e,hi,hI⟩ z3 _ _ h3
 obtain rfl:z2=i:=by simpa using e
 have h3:z3=((ab z0).length:Int):=h3
 refine⟨λhlt=>?_,λct z4 _ _ h4=>?_⟩
 ·have hlt:=of_decide_eq_true hlt
  have bM:i<(ab z0).length:=by omega
  have hg:∀z:Int,z=aa 1 [z0,(i:Int)]->z=(((ab z0).getD i 0).toNat:Int):=λz h=>by
   rw[h];simp only[aa,Int.toNat_natCast]
  refine⟨⟨by omega,by omega⟩,λz4 _ _ h4=>⟨λhc=>ei i bM (.inl ?_),λhc=>⟨⟨by omega,by omega⟩,λz5 _ _ h5=>⟨λhd=>ei i bM (.inr ?_),λhd ak x0 x1 cU dm=>?_⟩⟩⟩⟩
  ·have:=hg z4 h4;have:=of_decide_eq_true hc;omega
  ·have:=hg z5 h5;have:=of_decide_eq_true hd;omega
  ·have eo:=hg z4 h4;have mu:=hg z5 h5
   have hc:=of_decide_eq_false hc;have hd:=of_decide_eq_false hd
   refine⟨⟨by omega,by omega⟩,⟨i+1,by rw[show((i:Int)+(-18446744073709551616)*ak)+1=((i+1:Nat):Int) by omega],by omega,?_⟩,?_⟩
   ·rw[Fi _ _ bM,List.all_append,hI]
    simp only[List.all_cons,List.all_nil,Bool.and_true,Bool.true_and,Bool.and_eq_true,Nat.ble_eq]
    omega
   ·show(ab z0).length-(((i:Int)+(-18446744073709551616)*ak)+1).toNat<(ab z0).length-((i:Int)).toNat;omega
 ·have:=of_decide_eq_false ct
  rw[List.take_of_length_le (by omega)]at hI
  have h4:z4=((ab z0).length:Int):=h4
  have cy:b8 (ab z0)=(decide (1<=(ab z0).length)&&decide ((ab z0).length<=64)):=by rw[L3,hI,Bool.and_true]
  refine⟨λh1 z5 _ _ h5=>bc _ ?_,λh1=>bc false ?_⟩
  ·have h5:z5=((ab z0).length:Int):=h5
   rw[cy,decide_eq_true (by have:=of_decide_eq_true h1;omega),Bool.true_and,Bool.eq_iff_iff]
   simp only[decide_eq_true_eq];omega
  ·rw[cy,decide_eq_false (by have:=of_decide_eq_false h1;omega)];rfl
end Go.bG
namespace Go.bG
open Go Go.bo
def FK (S:Nat->List (List Int)->List (List Int)->Prop) (K:List (List Int)->List (List Int)->Prop):Prop:=
 ∀z0:Int,0<=z0->z0<=aD->
 ∀af:Int,0<=af->af<=1->af=aa 4 [33,z0]->
 (((decide (af=1))=true->
  K [[z0]] [[(cond (true) 1 0)]]
 )/\((decide (af=1))=false->
  ∀z2:Int,(-1)<=z2->z2<=9223372036854775807->S 73 [[z0],[32]] [[z2]]->
  K [[z0]] [[(cond (decide (0<=z2)) 1 0)]]
 ))
def F5 (S:Nat->List (List Int)->List (List Int)->Prop) (K:List (List Int)->List (List Int)->Prop):Prop:=
 ∀z0:Int,0<=z0->z0<=aD->
 ∀af:Int,0<=af->af<=1->af=aa 4 [z0,0]->
 ((((!(decide (af=1))))=true->
  ∀z2:Int,0<=z2->z2<=9223372036854775807->z2=aa 0 [z0]->
  (((decide (z2<=64))=true->
   ∀z3:Int,0<=z3->z3<=1->S 400 [[z0]] [[z3]]->
   (((decide (z3=1))=true->
    ∀z4:Int,0<=z4->z4<=1->S 501 [[z0]] [[z4]]->
    K [[z0]] [[(cond ((!(decide (z4=1)))) 1 0)]]
   )/\((decide (z3=1))=false->
    K [[z0]] [[(cond (false) 1 0)]]
   ))
  )/\((decide (z2<=64))=false->
   K [[z0]] [[(cond (false) 1 0)]]
  ))
 )/\(((!(decide (af=1))))=false->
  K [[z0]] [[(cond (false) 1 0)]]
 ))
def FO (S:Nat->List (List Int)->List (List Int)->Prop) (K:List (List Int)->List (List Int)->Prop):Prop:=
 ∀z0:Int,0<=z0->z0<=au->
 ∀af:Int,0<=af->
 ∀z2:Int,(-2)<=z2->z2<=9223372036854775807->
 ∀z3:Int,0<=z3->z3<=9223372036854775807->z3=aa 20 [z0]->
 ∃(eG:List (List Int)->Prop) (ed:List (List Int)->Nat),eG [[z3],[0]]/\(∀z5:Int,0<=z5->z5<=9223372036854775807->∀ak:Int,0<=ak->ak<=9223372036854775807->eG [[z5],[ak]]->
  (((decide (ak<z3))=true->
   (((decide (z5<=200))=true->
    ad 30 [ak,z3]/\
    ad 21 [z0,ak]/\
    ∀aq:Int,0<=aq->aq<=bS->aq=aa 21 [z0,ak,2]->
    ∀aj:Int,0<=aj->
    ∀z9:Int,(-2)<=z9->z9<=9223372036854775807->
    ∀ao:Int,0<=ao->ao<=140737488351232->ao=aa 20 [aq]->
    ∀ay:Int,0<=ay->ay<=1->0<=((z5+ao)+9223372036854775808)-18446744073709551616*ay->((z5+ao)+9223372036854775808)-18446744073709551616*ay<18446744073709551616->
    ∀z12:Int,0<=z12->z12<=1->0<=(ak+9223372036854775809)-18446744073709551616*z12->(ak+9223372036854775809)-18446744073709551616*z12<18446744073709551616->
    ad 39 [(z5+(ao+((-18446744073709551616)*ay))),0,9223372036854775807]/\
    ad 39 [((ak+((-18446744073709551616)*z12))+1),0,9223372036854775807]/\
    (eG [[(z5+(ao+((-18446744073709551616)*ay)))],[((ak+((-18446744073709551616)*z12))+1)]]/\ed [[(z5+(ao+((-18446744073709551616)*ay)))],[((ak+((-18446744073709551616)*z12))+1)]]<ed [[z5],[ak]])
   )/\((decide (z5<=200))=false->
    K [[z0]] [[(cond (true) 1 0)]]
   ))
  )/\((decide (ak<z3))=false->
   K [[z0]] [[(cond (decide (200<z5)) 1 0)]]
  ))
 )
def FI (S:Nat->List (List Int)->List (List Int)->Prop) (K:List (List Int)->List (List Int)->Prop):Prop:=
 ∀z0:Int,0<=z0->z0<=au->
 ∀af:Int,0<=af->
 ∀z2:Int,(-2)<=z2->z2<=9223372036854775807->
 ∀z3:Int,0<=z3->z3<=9223372036854775807->z3=aa 20 [z0]->
 ∃(eG:List (List Int)->Prop) (ed:List (List Int)->Nat),eG [[0]]/\(∀z5:Int,0<=z5->z5<=9223372036854775807->eG [[z5]]->
  (((decide (z5<z3))=true->
   ad 30 [z5,z3]/\
   ad 21 [z0,z5]/\
   ∀ak:Int,0<=ak->ak<=aD->ak=aa 21 [z0,z5,0]->
   ∀aq:Int,0<=aq->aq<=1->S 502 [[ak]] [[aq]]->
   ((((!(decide (aq=1))))=true->
    K [[z0]] [[(cond (false) 1 0)]]
   )/\(((!(decide (aq=1))))=false->
    (((decide (0<z5))=true->
     ad 30 [(z5+(-1)),z3]/\
     ad 21 [z0,(z5+(-1))]/\
     ∀aj:Int,0<=aj->aj<=aD->aj=aa 21 [z0,(z5+(-1)),0]->
     ∀z9:Int,0<=z9->z9<=1->z9=aa 5 [aj,ak]->
     ((((!(decide (z9=1))))=true->
      K [[z0]] [[(cond (false) 1 0)]]
     )/\(((!(decide (z9=1))))=false->
      ∀ao:Int,0<=ao->ao<=1->0<=(z5+9223372036854775809)-18446744073709551616*ao->(z5+9223372036854775809)-18446744073709551616*ao<18446744073709551616->
      ad 39 [((z5+((-18446744073709551616)*ao))+1),0,9223372036854775807]/\
      (eG [[((z5+((-18446744073709551616)*ao))+1)]]/\ed [[((z5+((-18446744073709551616)*ao))+1)]]<ed [[z5]])
     ))
    )/\((decide (0<z5))=false->
     (eG [[1]]/\ed [[1]]<ed [[z5]])
    ))
   ))
  )/\((decide (z5<z3))=false->
   K [[z0]] [[(cond (true) 1 0)]]
  ))
 )
theorem VN:FK SB (b6 SB [.bool] 501):=by
 intro z0 a0 a1 af b0 b1 hz1
 simp only[aa]at hz1
 refine⟨λh=>⟨⟨by decide,by decide,trivial⟩,?_⟩,λh z2 bY c1 h2=>⟨⟨(ic _).1,(ic _).2,trivial⟩,?_⟩⟩
 ·have:ab z0=[32]:=by
   have e:ab 33=[32]:=by decide
   rw[e]at hz1
   by_cases h':[32]=ab z0
   ·exact h'.symm
   ·rw[if_neg h']at hz1;subst hz1;simp at h
  show(1:Int)=aT ((ab z0).contains 32)
  rw[this];rfl
 ·have h2:z2=idx 32 (ab z0):=h2
  show(cond (decide (0<=z2)) 1 0:Int)=aT ((ab z0).contains 32)
  rw[h2,JR (by decide) (by decide)];rfl
theorem Wa:F5 SB (b6 SB [.bool] 502):=by
 intro z0 a0 a1 af _ _ h1
 have h1:=mv h1
 have tP:ab (0:Int)=[]:=by decide
 rw[tP]at h1
 have bc:∀b:Bool,b8 (ab z0)=b->b6 SB [.bool] 502 [[z0]] [[aT b]]:=λb h=>lB (by show aT b=aT (b8 (ab z0));rw[h])
 refine⟨λhn z2 _ _ h2=>?_,λhn=>bc false ?_⟩
 rotate_left
 ·have:=dL hn
  rw[h1]at this
  rw[of_decide_eq_true this];rfl
 have hne:(ab z0).isEmpty=false:=by
  have:=eH hn
  rw[h1]at this
  have:=of_decide_eq_false this
  cases h:ab z0 with
  |nil=>exact absurd h this
  |cons _ _=>rfl
 have h2:z2=((ab z0).length:Int):=h2
 have cy:b8 (ab z0)=(Nat.ble (ab z0).length 64&&(nH (ab z0)&& !(ab z0).contains 32)):=by unfold b8;rw[hne];rfl
 refine⟨λvG z3 _ _ h3=>?_,λvG=>bc false ?_⟩
 rotate_left
 ·have:=of_decide_eq_false vG
  rw[cy,show Nat.ble (ab z0).length 64=false from by
   cases h:Nat.ble (ab z0).length 64 with
   |false=>rfl
   |true=>have:=Nat.le_of_ble_eq_true h;omega];rfl
 have hb:Nat.ble (ab z0).length 64=true:=Nat.ble_eq_true_of_le (by have:=of_decide_eq_true vG;omega)
 rw[hb,Bool.true_and]at cy
 have h3:z3=aT (nH (ab z0)):=h3
 have IY:=ee h3
 refine⟨λhp z4 _ _ h4=>?_,λhp=>bc false (by rw[cy,<-IY,hp];rfl)⟩
 have h4:z4=aT ((ab z0).contains 32):=h4
 have QG:=ee h4
 have:=bc (!decide (z4=1)) (by rw[cy,<-IY,hp,QG];rfl)
 exact this
theorem fD (z:Int):(aB z).length=(ae z).length:=by simp[aB]
theorem kt {z:Int} {i:Nat} (h:i<(ae z).length):(aB z).getD i bR=gV ((ae z).getD i []):=by simp[aB,List.getD,h]
theorem fi (z:Int):(aG z).length=(ae z).length:=by simp[aG]
theorem jI {z:Int} {i:Nat} (h:i<(ae z).length):(aG z).getD i []=ab (((ae z).getD i []).getD 0 0):=by simp[aG,List.getD,h]
def nF (l:List c2) (i:Nat):Nat:=l.length+((l.take i).map λu=>u.bg.length).sum
theorem Le {l:List c2} {i:Nat} (h:i<l.length):nF l (i+1)=nF l i+(l.getD i bR).bg.length:=by
 unfold nF
 rw[List.take_add_one]
 simp only[List.getElem?_eq_getElem h,Option.toList_some,List.map_append,List.map_cons,List.map_nil,List.sum_append,List.sum_cons,List.sum_nil,List.getD,Option.getD_some]
 omega
theorem Ld (l:List c2):nF l l.length=ql l:=by unfold nF ql;rw[List.take_length]
theorem Wp {l:List c2} {i j:Nat} (h:i<=j) (hj:j<=l.length):nF l i<=nF l j:=by
 obtain⟨k,rfl⟩:=Nat.exists_eq_add_of_le h
 clear h
 induction k with
 |zero=>exact Nat.le_refl _
 |succ k ih=>
  have:=ih (by omega)
  rw[<-Nat.add_assoc,Le (by omega)];omega
def M4 (z0:Int) (bl:List (List Int)):Prop:=∃i n:Nat,bl=[[(n:Int)],[(i:Int)]]/\i<=(ae z0).length/\n=nF (aB z0) i
def M5 (z0:Int) (bl:List (List Int)):Nat:=(ae z0).length-((bl.getD 1 []).getD 0 0).toNat
theorem VS:FO SB (cx SB [.d .bool] 500):=by
 intro z0 a0 a1 af _ z2 _ _ z3 _ c1 h3
 have h3:z3=((ae z0).length:Int):=h3
 have bc:∀b:Bool,decide (200<ql (aB z0))=b->cx SB [.d .bool] 500 [[z0]] [[aT b]]:=λb h=>⟨⟨(ic _).1,(ic _).2,trivial⟩,by show aT b=aT (decide (200<ql (aB z0)));rw[h]⟩
 have hl:=fD z0
 refine⟨M4 z0,M5 z0,⟨0,(ae z0).length,by rw[h3];rfl,Nat.zero_le _,by simp[nF,hl]⟩,?_⟩
 rintro z5 d0 d1 ak cy e1 ⟨i,n,e,hi,hn⟩
 obtain⟨rfl,rfl⟩:z5=n/\ak=i:=by simpa using e
 refine⟨λhlt=>⟨λh2=>?_,λh2=>?_⟩,λct=>?_⟩
 ·have hlt:=of_decide_eq_true hlt
  have h2:=of_decide_eq_true h2
  have bM:i<(ae z0).length:=by omega
  refine⟨⟨by omega,by omega⟩,⟨by omega,by omega⟩,λaq _ _ h7 aj _ z9 _ _ ao f0 f1 dv ay x0 x1 cU dm z12 df cZ Zu MM=>?_⟩
  have h7:aq=((ae z0).getD i []).getD 2 0:=by rw[h7];simp only[aa,Int.toNat_natCast];rfl
  have dv:ao=(((aB z0).getD i bR).bg.length:Int):=by
   rw[kt bM,dv]
   show((ae aq).length:Int)=_
   rw[h7]
   show _=((aG (((ae z0).getD i []).getD 2 0)).length:Int)
   rw[fi]
  have hs:=Le (l:=aB z0) (i:=i) (by omega)
  have Zv:ay=0:=by omega
  have Zw:z12=0:=by omega
  subst Zv;subst Zw
  refine⟨⟨by omega,by omega⟩,⟨by omega,by omega⟩,⟨i+1,nF (aB z0) (i+1),?_,by omega,rfl⟩,?_⟩
  ·rw[hs,<-hn,dv,show(n:Int)+((((aB z0).getD i bR).bg.length:Int)+(-18446744073709551616)*0)=((n+((aB z0).getD i bR).bg.length:Nat):Int) by omega,show(i:Int)+(-18446744073709551616)*0+1=((i+1:Nat):Int) by omega]
  ·show(ae z0).length-((i:Int)+(-18446744073709551616)*0+1).toNat<(ae z0).length-((i:Int)).toNat;omega
 ·have h2:=of_decide_eq_false h2
  refine bc true (decide_eq_true ?_)
  have:=Wp (l:=aB z0) (i:=i) (j:=(aB z0).length) (by omega) (Nat.le_refl _)
  rw[Ld]at this
  omega
 ·have ct:=of_decide_eq_false ct
  have Q1:i=(aB z0).length:=by omega
  refine bc (decide (200<(n:Int))) ?_
  rw[hn,Q1,Ld]
  rw[decide_eq_decide];omega
def AX (z0:Int) (bl:List (List Int)):Prop:=∃i:Nat,bl=[[(i:Int)]]/\i<=(ae z0).length/\∀j:Nat,j<i->(b8 ((aG z0).getD j [])&&(decide (j=0)||Op.bytesLess ((aG z0).getD (j-1) []) ((aG z0).getD j [])))=true
def k0 (z0:Int) (bl:List (List Int)):Nat:=(ae z0).length-((bl.getD 0 []).getD 0 0).toNat
theorem VL:FI SB (cx SB [.d .bool] 503):=by
 intro z0 a0 a1 af _ z2 _ _ z3 _ c1 h3
 have h3:z3=((ae z0).length:Int):=h3
 have bc:∀b:Bool,er (aG z0)=b->cx SB [.d .bool] 503 [[z0]] [[aT b]]:=λb h=>⟨⟨(ic _).1,(ic _).2,trivial⟩,by show aT b=aT (er (aG z0));rw[h]⟩
 have hl:=fi z0
 have ei:∀i:Nat,i<(ae z0).length->(b8 ((aG z0).getD i [])&&(decide (i=0)||Op.bytesLess ((aG z0).getD (i-1) []) ((aG z0).getD i [])))=false->cx SB [.d .bool] 503 [[z0]] [[aT false]]:=λi hi h=>bc false (by
  cases hp:er (aG z0)with
  |false=>rfl
  |true=>
   have:=List.all_eq_true.1 hp i (List.mem_range.2 (by omega))
   rw[this]at h;cases h)
 refine⟨AX z0,k0 z0,⟨0,rfl,Nat.zero_le _,λj hj=>absurd hj (Nat.not_lt_zero j)⟩,?_⟩
 rintro z5 d0 d1 ⟨i,e,hi,hI⟩
 obtain rfl:z5=i:=by simpa using e
 refine⟨λhlt=>?_,λct=>bc true ?_⟩
 ·have hlt:=of_decide_eq_true hlt
  have bM:i<(ae z0).length:=by omega
  refine⟨⟨by omega,by omega⟩,⟨by omega,by omega⟩,λak _ _ h6 aq _ _ h7=>?_⟩
  have h6:ab ak=(aG z0).getD i []:=by rw[jI bM,h6];simp only[aa,Int.toNat_natCast];rfl
  have h7:aq=aT (b8 (ab ak)):=h7
  have rr:=ee h7
  rw[h6]at rr
  refine⟨λhn=>ei i bM (by rw[<-rr,eH hn];rfl),λhn=>⟨λhp=>?_,λhp=>?_⟩⟩
  ·have hp:=of_decide_eq_true hp
   refine⟨⟨by omega,by omega⟩,⟨by omega,by omega⟩,λaj _ _ bw z9 _ _ bk=>?_⟩
   have bw:ab aj=(aG z0).getD (i-1) []:=by
    rw[jI (by omega),bw]
    simp only[aa]
    rw[show((i:Int)+(-1)).toNat=i-1 by omega];rfl
   have bk:decide (z9=1)=Op.bytesLess ((aG z0).getD (i-1) []) ((aG z0).getD i []):=by
    rw[bk]
    simp only[aa,bw,h6]
    cases Op.bytesLess ((aG z0).getD (i-1) []) ((aG z0).getD i [])<;>rfl
   have e6:decide (i=0)=false:=decide_eq_false (by omega)
   refine⟨λhq=>ei i bM (by rw[<-bk,eH hq,e6,Bool.or_false,Bool.and_false]),λhq ao x0 x1 cU dm=>⟨⟨by omega,by omega⟩,⟨i+1,by rw[show(i:Int)+(-18446744073709551616)*ao+1=((i+1:Nat):Int) by omega],by omega,λj hj=>?_⟩,?_⟩⟩
   ·rcases Nat.lt_or_ge j i with h|h
    ·exact hI j h
    ·obtain rfl:j=i:=by omega
     rw[<-rr,dL hn,<-bk,dL hq,Bool.or_true];rfl
   ·show(ae z0).length-((i:Int)+(-18446744073709551616)*ao+1).toNat<(ae z0).length-((i:Int)).toNat;omega
  ·have hp:=of_decide_eq_false hp
   obtain rfl:i=0:=by omega
   refine⟨⟨1,rfl,by omega,λj hj=>?_⟩,?_⟩
   ·obtain rfl:j=0:=by omega
    rw[<-rr,dL hn];rfl
   ·show(ae z0).length-(1:Int).toNat<(ae z0).length-((0:Nat):Int).toNat;omega
 ·have:=of_decide_eq_false ct
  unfold er
  rw[List.all_eq_true]
  intro j hj
  exact hI j (by have:=List.mem_range.1 hj;omega)
end Go.bG
namespace Go.bG
open Go Go.bo
def FE (S:Nat->List (List Int)->List (List Int)->Prop) (K:List (List Int)->List (List Int)->Prop):Prop:=
 ∀z0:Int,0<=z0->z0<=au->
 ∀af:Int,0<=af->
 ∀z2:Int,(-2)<=z2->z2<=9223372036854775807->
 ∀z3:Int,0<=z3->z3<=9223372036854775807->z3=aa 20 [z0]->
 (((decide (16<z3))=true->
  K [[z0]] [[(cond (false) 1 0)]]
 )/\((decide (16<z3))=false->
  ∃(eG:List (List Int)->Prop) (ed:List (List Int)->Nat),eG [[0],[0],[0],[(-1)]]/\(∀z5:Int,0<=z5->z5<=9223372036854775807->∀ak:Int,0<=ak->ak<=au->∀aq:Int,0<=aq->aq<=9223372036854775807->∀aj:Int,(-2)<=aj->aj<=9223372036854775807->eG [[z5],[ak],[aq],[aj]]->
   (((decide (z5<z3))=true->
    ad 30 [z5,z3]/\
    ad 21 [z0,z5]/\
    ∀z9:Int,0<=z9->z9<=aD->z9=aa 21 [z0,z5,0]->
    ∀ao:Int,0<=ao->ao<=aD->ao=aa 21 [z0,z5,1]->
    ∀ay:Int,0<=ay->ay<=bS->ay=aa 21 [z0,z5,2]->
    ∀z12:Int,0<=z12->
    ∀ai:Int,(-2)<=ai->ai<=9223372036854775807->
    ∀aw:Int,0<=aw->aw<=140737488351232->aw=aa 20 [ay]->
    ∀aE:Int,0<=aE->aE<=1->S 200 [[ao]] [[aE]]->
    ((((!(decide (aE=1))))=true->
     K [[z0]] [[(cond (false) 1 0)]]
    )/\(((!(decide (aE=1))))=false->
     (((decide (4<aw))=true->
      K [[z0]] [[(cond (false) 1 0)]]
     )/\((decide (4<aw))=false->
      ad 22 [ay,0,aw]/\
      ∀aA:Int,0<=aA->aA<=au->aA=aa 22 [ay,0,aw]->
      ∀aF:Int,0<=aF->aF<=1->S 503 [[aA]] [[aF]]->
      ((((!(decide (aF=1))))=true->
       K [[z0]] [[(cond (false) 1 0)]]
      )/\(((!(decide (aF=1))))=false->
       ad 31 [ak,aq]/\
       ad 23 [ak,1]/\
       ∀aJ:Int,0<=aJ->aJ<=au->aJ=aa 23 [ak,z9]->
       ∀aK:Int,(-2)<=aK->aK<=9223372036854775807->
       ∀z20:Int,0<=z20->z20<=1->0<=(z5+9223372036854775809)-18446744073709551616*z20->(z5+9223372036854775809)-18446744073709551616*z20<18446744073709551616->
       ad 39 [((z5+((-18446744073709551616)*z20))+1),0,9223372036854775807]/\
       (eG [[((z5+((-18446744073709551616)*z20))+1)],[aJ],[(aq+1)],[aK]]/\ed [[((z5+((-18446744073709551616)*z20))+1)],[aJ],[(aq+1)],[aK]]<ed [[z5],[ak],[aq],[aj]])
      ))
     ))
    ))
   )/\((decide (z5<z3))=false->
    ad 22 [ak,0,aq]/\
    ∀z9:Int,0<=z9->z9<=au->z9=aa 22 [ak,0,aq]->
    ∀ao:Int,0<=ao->ao<=1->S 503 [[z9]] [[ao]]->
    K [[z0]] [[(cond (decide (ao=1)) 1 0)]]
   ))
  )
 ))
theorem whole {z y n:Int} (hn:n=((ae z).length:Int)) (h:y=aa 22 [z,0,n]):ae y=ae z:=by
 rw[h]
 simp only[aa,dP,hn]
 rw[show((0:Int)).toNat=0 by rfl,List.drop_zero,List.take_of_length_le (by omega)]
def p9 (u:c2):Bool:=gp u.dq&&(Nat.ble u.bg.length 4&&er u.bg)
def MX (z0:Int) (bl:List (List Int)):Prop:=∃(i:Nat) (c k:Int),bl=[[(i:Int)],[c],[(i:Int)],[k]]/\i<=(ae z0).length/\aG c=((aB z0).take i).map (·.tok)/\∀j:Nat,j<i->p9 ((aB z0).getD j bR)=true
def MY (z0:Int) (bl:List (List Int)):Nat:=(ae z0).length-((bl.getD 0 []).getD 0 0).toNat
theorem VH:FE SB (cx SB [.d .bool] 504):=by
 intro z0 a0 a1 af _ z2 _ _ z3 _ c1 h3
 have h3:z3=((ae z0).length:Int):=h3
 have hl:=fD z0
 have bc:∀b:Bool,cO (aB z0)=b->cx SB [.d .bool] 504 [[z0]] [[aT b]]:=λb h=>⟨⟨(ic _).1,(ic _).2,trivial⟩,by show aT b=aT (cO (aB z0));rw[h]⟩
 refine⟨λdT=>bc false ?_,λdT=>⟨MX z0,MY z0,⟨0,0,-1,rfl,Nat.zero_le _,by simp[aG,dY],λj hj=>absurd hj (Nat.not_lt_zero j)⟩,?_⟩⟩
 ·have:=of_decide_eq_true dT
  unfold cO
  rw[show Nat.ble (aB z0).length 16=false from by
   cases h:Nat.ble (aB z0).length 16 with
   |false=>rfl
   |true=>have:=Nat.le_of_ble_eq_true h;omega];rfl
 have dT:=of_decide_eq_false dT
 have vO:Nat.ble (aB z0).length 16=true:=Nat.ble_eq_true_of_le (by omega)
 have ei:∀i:Nat,i<(ae z0).length->p9 ((aB z0).getD i bR)=false->cx SB [.d .bool] 504 [[z0]] [[aT false]]:=λi hi h=>bc false (by
  unfold cO
  rw[vO,Bool.true_and]
  cases hp:(aB z0).all (λu=>gp u.dq&&(Nat.ble u.bg.length 4&&er u.bg))with
  |false=>rfl
  |true=>
   have:=List.all_eq_true.1 hp ((aB z0).getD i bR) (by
    have:i<(aB z0).length:=by omega
    simp[List.getD,this])
   unfold p9 at h
   rw[this]at h;cases h)
 rintro z5 d0 d1 ak cy e1 aq f0 f1 aj g0 g1 ⟨i,c,k,e,hi,ht,a8⟩
 obtain⟨rfl,rfl,rfl,rfl⟩:z5=i/\ak=c/\aq=i/\aj=k:=by simpa using e
 have dj:(ae ak).length=i:=by
  have:=congrArg List.length ht
  rw[fi,List.length_map,List.length_take]at this
  omega
 refine⟨λhlt=>?_,λct=>?_⟩
 ·have hlt:=of_decide_eq_true hlt
  have bM:i<(ae z0).length:=by omega
  refine⟨⟨by omega,by omega⟩,⟨by omega,by omega⟩,λz9 _ _ bk ao _ _ dv ay _ _ cD z12 _ ai _ _ aw _ _ cK aE _ _ dg=>?_⟩
  generalize hu:(aB z0).getD i bR=u at*
  have oA:=hu
  rw[kt bM]at oA
  have bk:ab z9=u.tok:=by rw[bk,<-oA];simp only[aa,Int.toNat_natCast];rfl
  have dv:ab ao=u.dq:=by rw[dv,<-oA];simp only[aa,Int.toNat_natCast];rfl
  have cD:aG ay=u.bg:=by rw[cD,<-oA];simp only[aa,Int.toNat_natCast];rfl
  have cK:aw=((ae ay).length:Int):=cK
  have ZZ:(ae ay).length=u.bg.length:=by rw[<-cD,fi]
  have dg:aE=aT (gp (ab ao)):=dg
  have Cv:=ee dg
  rw[dv]at Cv
  have ei:=ei i bM
  rw[hu]at ei
  refine⟨λhn=>ei (by unfold p9;rw[<-Cv,eH hn];rfl),λhn=>⟨λh4=>ei ?_,λh4=>⟨⟨by omega,by omega,by omega⟩,λaA _ _ Pq aF _ _ gd=>?_⟩⟩⟩
  ·have h4:=of_decide_eq_true h4
   unfold p9
   rw[show Nat.ble u.bg.length 4=false from by
    cases h:Nat.ble u.bg.length 4 with
    |false=>rfl
    |true=>have:=Nat.le_of_ble_eq_true h;omega,Bool.false_and,Bool.and_false]
  ·have h4:=of_decide_eq_false h4
   have Qn:Nat.ble u.bg.length 4=true:=Nat.ble_eq_true_of_le (by omega)
   have hw:=whole cK Pq
   have R2:aG aA=u.bg:=by rw[<-cD];unfold aG;rw[hw]
   have gd:aF=aT (er (aG aA)):=gd
   have Cw:=ee gd
   rw[R2]at Cw
   refine⟨λhq=>ei (by unfold p9;rw[<-Cw,eH hq,Bool.and_false,Bool.and_false]),λhq=>⟨?_,?_,λaJ _ _ fQ aK _ _ z20 x0 x1 cU dm=>⟨⟨by omega,by omega⟩,⟨i+1,aJ,aK,?_,by omega,?_,λj hj=>?_⟩,?_⟩⟩⟩
   ·show(i:Int)=((ae ak).length:Int);omega
   ·show(ae ak).length+(1:Int)<=1073741824;omega
   ·rw[show(i:Int)+(-18446744073709551616)*z20+1=((i+1:Nat):Int) by omega,show(i:Int)+1=((i+1:Nat):Int) by omega]
   ·have:ae aJ=ae ak++[[z9]]:=by rw[fQ];simp only[aa,dP]
    have e1:aG aJ=aG ak++[ab z9]:=by unfold aG;rw[this];simp
    have yY:i<(aB z0).length:=by omega
    rw[e1,ht,bk,List.take_add_one,List.map_append]
    have:(aB z0)[i]?=some u:=by
     rw[<-hu];simp[List.getD,yY]
    rw[this];rfl
   ·rcases Nat.lt_or_ge j i with h|h
    ·exact a8 j h
    ·obtain rfl:j=i:=by omega
     rw[hu]
     unfold p9
     rw[<-Cv,dL hn,Qn,<-Cw,dL hq];rfl
   ·show(ae z0).length-((i:Int)+(-18446744073709551616)*z20+1).toNat<(ae z0).length-((i:Int)).toNat;omega
 ·have ct:=of_decide_eq_false ct
  obtain rfl:i=(ae z0).length:=by omega
  refine⟨⟨by omega,by omega,by omega⟩,λz9 _ _ bk ao _ _ dv=>?_⟩
  have hw:=whole (by rw[dj]) bk
  have dv:ao=aT (er (aG z9)):=dv
  have pD:=ee dv
  have R5:aG z9=(aB z0).map (·.tok):=by
   rw[show aG z9=aG ak by unfold aG;rw[hw],ht,List.take_of_length_le (by omega)]
  rw[R5]at pD
  refine bc (decide (ao=1)) ?_
  rw[pD]
  unfold cO
  rw[vO,Bool.true_and,List.all_eq_true.2 λu hu=>?_,Bool.true_and]
  obtain⟨j,hj,rfl⟩:=List.getElem_of_mem hu
  have:=a8 j (by omega)
  unfold p9 at this
  simpa [List.getD,hj]using this
end Go.bG
namespace Go.bG
open Go Go.bo
theorem zo (a b:UInt8) (x y:aI):Op.bytesLess (a::x) (b::y)=true↔a.toNat<b.toNat∨(a=b/\Op.bytesLess x y=true):=by
 simp only[Op.bytesLess,Bool.or_eq_true,Bool.and_eq_true,beq_iff_eq,decide_eq_true_eq,UInt8.lt_iff_toNat_lt]
theorem DS (x:aI):Op.bytesLess x []=false:=by cases x<;>rfl
theorem Ko:∀x y:aI,Op.bytesLess x y=true->Op.bytesLess y x=true->False
 |x,[],h,_=>by rw[DS]at h;cases h
 |[],_::_,_,h=>by cases h
 |a::x,b::y,h,h'=>by
  rw[zo]at h h'
  rcases h with h|⟨rfl,h⟩
  ·rcases h' with h'|⟨e,_⟩
   ·omega
   ·rw[e]at h;omega
  ·rcases h' with h'|⟨_,h'⟩
   ·omega
   ·exact Ko x y h h'
theorem DT:∀x y:aI,Op.bytesLess x y=true∨Op.bytesLess y x=true∨x=y
 |[],[]=> .inr (.inr rfl)
 |[],_::_=> .inl rfl
 |_::_,[]=> .inr (.inl rfl)
 |a::x,b::y=>by
  rw[zo,zo]
  rcases Nat.lt_trichotomy a.toNat b.toNat with h|h|h
  ·exact .inl (.inl h)
  ·have e:a=b:=UInt8.toNat_inj.1 h
   subst e
   rcases DT x y with h|h|h
   ·exact .inl (.inr ⟨rfl,h⟩)
   ·exact .inr (.inl (.inr ⟨rfl,h⟩))
   ·exact .inr (.inr (by rw[h]))
  ·exact .inr (.inl (.inl h))
theorem sa:∀x y z:aI,Op.bytesLess x y=true->Op.bytesLess y z=true->Op.bytesLess x z=true
 |_,[],_,h,_=>by rw[DS]at h;cases h
 |_,_::_,[],_,h=>by rw[DS]at h;cases h
 |[],_::_,_::_,_,_=>rfl
 |a::x,b::y,c::z,h,h'=>by
  rw[zo]at h h'⊢
  rcases h with h|⟨rfl,h⟩
  ·rcases h' with h'|⟨rfl,_⟩
   ·exact .inl (by omega)
   ·exact .inl h
  ·rcases h' with h'|⟨rfl,h'⟩
   ·exact .inl h'
   ·exact .inr ⟨rfl,sa x y z h h'⟩
def FH (S:Nat->List (List Int)->List (List Int)->Prop) (K:List (List Int)->List (List Int)->Prop):Prop:=
 ∀z0:Int,0<=z0->z0<=au->∀af:Int,0<=af->af<=aD->
 ∀z2:Int,0<=z2->
 ∀z3:Int,(-2)<=z3->z3<=9223372036854775807->
 ∀z4:Int,0<=z4->z4<=9223372036854775807->z4=aa 20 [z0]->
 ∃(dC:List (List Int)->Prop) (ev:List (List Int)->Nat),dC [[0],[z4]]/\(∀ak:Int,0<=ak->ak<=9223372036854775807->∀aq:Int,0<=aq->aq<=9223372036854775807->dC [[ak],[aq]]->
  (((decide (ak<aq))=true->
   ∀aj:Int,0<=aj->aj<=1->0<=((ak+aq)+9223372036854775808)-18446744073709551616*aj->((ak+aq)+9223372036854775808)-18446744073709551616*aj<18446744073709551616->
   ∀z9:Int,(-1)<=z9->z9<=0->0<=(ak+(aq+((-18446744073709551616)*aj)))-18446744073709551616*z9->(ak+(aq+((-18446744073709551616)*aj)))-18446744073709551616*z9<18446744073709551616->
   ∀ao:Int,0<=ao->ao<=9223372036854775807->0<=(ak+(aq+(((-18446744073709551616)*aj)+((-18446744073709551616)*z9))))-2*ao->(ak+(aq+(((-18446744073709551616)*aj)+((-18446744073709551616)*z9))))-2*ao<2->
   ad 30 [ao,z4]/\
   ad 21 [z0,ao]/\
   ∀ay:Int,0<=ay->ay<=aD->ay=aa 21 [z0,ao,0]->
   ∀z12:Int,0<=z12->z12<=aD->z12=aa 21 [z0,ao,1]->
   ∀ai:Int,0<=ai->ai<=bS->ai=aa 21 [z0,ao,2]->
   ∀aw:Int,0<=aw->
   ∀aE:Int,(-2)<=aE->aE<=9223372036854775807->
   ∀aA:Int,0<=aA->aA<=140737488351232->aA=aa 20 [ai]->
   ∀aF:Int,(-1)<=aF->aF<=1->S 510 [[ay],[af]] [[aF]]->
   (((decide (aF<0))=true->
    ∀aJ:Int,0<=aJ->aJ<=1->0<=(ao+9223372036854775809)-18446744073709551616*aJ->(ao+9223372036854775809)-18446744073709551616*aJ<18446744073709551616->
    ad 39 [((ao+((-18446744073709551616)*aJ))+1),0,9223372036854775807]/\
    (dC [[((ao+((-18446744073709551616)*aJ))+1)],[aq]]/\ev [[((ao+((-18446744073709551616)*aJ))+1)],[aq]]<ev [[ak],[aq]])
   )/\((decide (aF<0))=false->
    (dC [[ak],[ao]]/\ev [[ak],[ao]]<ev [[ak],[aq]])
   ))
  )/\((decide (ak<aq))=false->
   (((decide (ak<z4))=true->
    ad 30 [ak,z4]/\
    ad 21 [z0,ak]/\
    ∀aj:Int,0<=aj->aj<=aD->aj=aa 21 [z0,ak,0]->
    ∀z9:Int,0<=z9->z9<=aD->z9=aa 21 [z0,ak,1]->
    ∀ao:Int,0<=ao->ao<=bS->ao=aa 21 [z0,ak,2]->
    ∀ay:Int,0<=ay->
    ∀z12:Int,(-2)<=z12->z12<=9223372036854775807->
    ∀ai:Int,0<=ai->ai<=140737488351232->ai=aa 20 [ao]->
    ∀aw:Int,(-1)<=aw->aw<=1->S 510 [[aj],[af]] [[aw]]->
    K [[z0],[af]] [[ak],[(cond (decide (aw=0)) 1 0)]]
   )/\((decide (ak<z4))=false->
    K [[z0],[af]] [[ak],[(cond (false) 1 0)]]
   ))
  ))
 )
theorem LD {l:List aI} (hr:er l=true) {j k:Nat} (rB:j<k) (hk:k<l.length):Op.bytesLess (l.getD j []) (l.getD k [])=true:=by
 have step:∀i:Nat,i+1<l.length->Op.bytesLess (l.getD i []) (l.getD (i+1) [])=true:=λi hi=>by
  have:=List.all_eq_true.1 hr (i+1) (List.mem_range.2 hi)
  simp only[Bool.and_eq_true,Bool.or_eq_true,decide_eq_true_eq]at this
  rcases this.2 with h|h
  ·omega
  ·simpa using h
 obtain⟨d,rfl⟩:=Nat.exists_eq_add_of_lt rB
 clear rB
 induction d with
 |zero=>exact step j hk
 |succ d ih=>exact sa _ _ _ (ih (by omega)) (step (j+d+1) hk)
theorem Ms (l:List c2) (j:Nat):(l.map (·.tok)).getD j []=(l.getD j bR).tok:=by
 simp only[List.getD,List.getElem?_map]
 cases l[j]?<;>rfl
theorem EA {l:List c2} (hr:er (l.map (·.tok))=true) {j k:Nat} (rB:j<k) (hk:k<l.length):Op.bytesLess (l.getD j bR).tok (l.getD k bR).tok=true:=by
 have:=LD hr rB (by simpa using hk)
 rwa [Ms,Ms]at this
def Nk (z0:Int) (t:aI) (bl:List (List Int)):Prop:=∃lo hi:Nat,bl=[[(lo:Int)],[(hi:Int)]]/\lo<=hi/\hi<=(aB z0).length/\(er ((aB z0).map (·.tok))=true->(∀j:Nat,j<lo->Op.bytesLess ((aB z0).getD j bR).tok t=true)/\∀j:Nat,hi<=j->j<(aB z0).length->Op.bytesLess ((aB z0).getD j bR).tok t=false)
def Nl (bl:List (List Int)):Nat:=((bl.getD 1 []).getD 0 0).toNat-((bl.getD 0 []).getD 0 0).toNat
theorem VK:FH SB (cx SB [.d (.int .i64 0 9223372036854775807),.d .bool] 505):=by
 intro z0 a0 a1 af n0 n1 z2 _ z3 _ _ z4 b0 b1 h4
 have h4:z4=((ae z0).length:Int):=h4
 have hlen:=fD z0
 have LG:∀{z i:Int} {k:Nat},i=(k:Int)->k<(ae z0).length->z=aa 21 [z0,i,0]->ab z=((aB z0).getD k bR).tok:=λhi hk h=>by
  rw[kt hk,h,hi];rfl
 generalize ht:ab af=t
 have lp:∀{z x:Int} {k:Nat},ab x=((aB z0).getD k bR).tok->SB 510 [[x],[af]] [[z]]->z=cond (Op.bytesLess ((aB z0).getD k bR).tok t) (-1) (cond (decide (((aB z0).getD k bR).tok=t)) 0 1):=λ{z x k} hx h=>by
  have h:z=cond (Op.bytesLess (ab x) (ab af)) (-1) (cond (decide (ab x=ab af)) 0 1):=h
  rw[h,hx,ht]
 refine⟨Nk z0 t,Nl,⟨0,(ae z0).length,by rw[h4];rfl,Nat.zero_le _,by omega,λ_=>⟨λj h=>absurd h (Nat.not_lt_zero j),λj h h2=>by omega⟩⟩,?_⟩
 rintro ak bY c1 aq d0 d1 ⟨lo,hi,e,aal,Q0,hI⟩
 obtain⟨rfl,rfl⟩:ak=lo/\aq=hi:=by simpa using e
 refine⟨λhlt aj cy e1 e2 e3 z9 f0 f1 f2 f3 ao g0 g1 g2 g3=>?_,λct=>?_⟩
 ·have hlt:=of_decide_eq_true hlt
  have aat:aj+z9=0:=by omega
  have cD:ao=(((lo+hi)/2:Nat):Int):=by omega
  generalize hk:(lo+hi)/2=k at cD
  have dV:lo<=k:=by omega
  have hk2:k<hi:=by omega
  subst cD
  have iH:k<(ae z0).length:=by omega
  have e7:k<(aB z0).length:=by omega
  refine⟨⟨by omega,by omega⟩,⟨by omega,by omega⟩,λay _ _ cD z12 _ _ _ ai _ _ _ aw _ aE _ _ aA _ _ _ aF _ _ gd=>?_⟩
  have gd:=lp (LG (k:=k) rfl iH cD) gd
  refine⟨λhn aJ i0 i1 i2 i3=>⟨⟨by omega,by omega⟩,⟨k+1,hi,by rw[show((k:Int)+(-18446744073709551616)*aJ)+1=((k+1:Nat):Int) by omega],by omega,Q0,λhr=>⟨λj hj=>?_,(hI hr).2⟩⟩,?_⟩,λhn=>⟨⟨lo,k,rfl,dV,by omega,λhr=>⟨(hI hr).1,λj hj hl=>?_⟩⟩,?_⟩⟩
  ·have hn:=of_decide_eq_true hn
   have hb:Op.bytesLess ((aB z0).getD k bR).tok t=true:=by
    cases hb:Op.bytesLess ((aB z0).getD k bR).tok t with
    |true=>rfl
    |false=>
     rw[hb]at gd
     cases hd:decide (((aB z0).getD k bR).tok=t)<;>rw[hd]at gd<;>simp only[cond_true,cond_false]at gd<;>omega
   rcases Nat.lt_or_ge j k with h|h
   ·exact sa _ _ _ (EA hr h e7) hb
   ·rw[show j=k by omega];exact hb
  ·show((hi:Int)).toNat-(((k:Int)+(-18446744073709551616)*aJ)+1).toNat<((hi:Int)).toNat-((lo:Int)).toNat;omega
  ·have hn:=of_decide_eq_false hn
   have hb:Op.bytesLess ((aB z0).getD k bR).tok t=false:=by
    cases hb:Op.bytesLess ((aB z0).getD k bR).tok t with
    |false=>rfl
    |true=>rw[hb]at gd;simp only[cond_true]at gd;omega
   rcases Nat.lt_or_ge k j with h|h
   ·cases kJ:Op.bytesLess ((aB z0).getD j bR).tok t with
    |false=>rfl
    |true=>rw[sa _ _ _ (EA hr h hl) kJ]at hb;cases hb
   ·rw[show j=k by omega];exact hb
  ·show((k:Int)).toNat-((lo:Int)).toNat<((hi:Int)).toNat-((lo:Int)).toNat;omega
 ·have ct:=of_decide_eq_false ct
  have al:hi=lo:=by omega
  subst al
  have bc:∀f:Bool,(f=true->hi<(aB z0).length)->(er ((aB z0).map (·.tok))=true->(f=true↔hi<(aB z0).length/\((aB z0).getD hi bR).tok=t))->cx SB [.d (.int .i64 0 9223372036854775807),.d .bool] 505 [[z0],[af]] [[(hi:Int)],[cond f 1 0]]:=λf hf fe=>by
   refine⟨⟨by omega,c1,by cases f<;>decide,by cases f<;>decide,trivial⟩,?_⟩
   show sJ (aB z0) (ab af) (hi:Int) (cond f 1 0)
   rw[ht]
   refine⟨⟨by omega,by omega⟩,?_,λhr=>⟨λj hj=>(hI hr).1 j (by omega),λj h1 h2=>(hI hr).2 j (by omega) h2,?_⟩⟩
   ·intro h
    have:f=true:=by cases f with|true=>rfl|false=>cases h
    have:=hf this;omega
   ·have h3:=fe hr
    rw[Int.toNat_natCast]
    cases f with
    |true=>exact⟨λ_=>⟨by have:=(h3.1 rfl).1;omega,(h3.1 rfl).2⟩,λ_=>rfl⟩
    |false=>exact⟨λh=>(by cases h),λh=>(by have:=h3.2 ⟨by omega,h.2⟩;cases this)⟩
  refine⟨λhl=>?_,λhl=>?_⟩
  ·have hl:=of_decide_eq_true hl
   have iH:hi<(ae z0).length:=by omega
   refine⟨⟨by omega,by omega⟩,⟨by omega,by omega⟩,λaj _ _ bw z9 _ _ _ ao _ _ _ ay _ z12 _ _ ai _ _ _ aw _ _ cK=>?_⟩
   have cK:=lp (LG (k:=hi) rfl iH bw) cK
   refine bc (decide (aw=0)) (λ_=>by omega) λhr=>?_
   have hb:=(hI hr).2 hi (Nat.le_refl _) (by omega)
   rw[hb]at cK
   simp only[cond_false]at cK
   rw[decide_eq_true_eq]
   by_cases hd:((aB z0).getD hi bR).tok=t
   ·rw[decide_eq_true hd]at cK
    exact⟨λ_=>⟨by omega,hd⟩,λ_=>cK⟩
   ·rw[decide_eq_false hd]at cK
    simp only[cond_false]at cK
    exact⟨λh=>(by omega),λh=>(hd h.2).elim⟩
  ·have hl:=of_decide_eq_false hl
   exact bc false (λh=>by cases h) (λ_=>⟨λh=>(by cases h),λh=>(by omega)⟩)
end Go.bG
namespace Go.bG
open Go Go.bo
def FG (S:Nat->List (List Int)->List (List Int)->Prop) (K:List (List Int)->List (List Int)->Prop):Prop:=
 ∀z0:Int,0<=z0->z0<=au->∀af:Int,0<=af->af<=aD->
 ∀z2:Int,0<=z2->
 ∀z3:Int,(-2)<=z3->z3<=9223372036854775807->
 ∀z4:Int,0<=z4->z4<=9223372036854775807->z4=aa 20 [z0]->
 ad 22 [z0,0,z4]/\
 ∀z5:Int,0<=z5->z5<=au->z5=aa 22 [z0,0,z4]->
 ∀ak:Int,0<=ak->ak<=1->S 504 [[z5]] [[ak]]->
 ((((!(decide (ak=1))))=true->
  K [[z0],[af]] [[0],[1]]
 )/\(((!(decide (ak=1))))=false->
  ad 22 [z0,0,z4]/\
  ∀aq:Int,0<=aq->aq<=au->aq=aa 22 [z0,0,z4]->
  ∀aj:Int,0<=aj->aj<=9223372036854775807->∀z9:Int,0<=z9->z9<=1->S 505 [[aq],[af]] [[aj],[z9]]->
  ((((!(decide (z9=1))))=true->
   K [[z0],[af]] [[0],[14]]
  )/\(((!(decide (z9=1))))=false->
   K [[z0],[af]] [[aj],[0]]
  ))
 ))
def FF (S:Nat->List (List Int)->List (List Int)->Prop) (K:List (List Int)->List (List Int)->Prop):Prop:=
 ∀z0:Int,0<=z0->z0<=au->∀af:Int,0<=af->af<=aD->
 ∀z2:Int,0<=z2->
 ∀z3:Int,(-2)<=z3->z3<=9223372036854775807->
 ∀z4:Int,0<=z4->z4<=9223372036854775807->z4=aa 20 [z0]->
 ad 22 [z0,0,z4]/\
 ∀z5:Int,0<=z5->z5<=au->z5=aa 22 [z0,0,z4]->
 ∀ak:Int,0<=ak->ak<=9223372036854775807->∀aq:Int,0<=aq->aq<=21->S 506 [[z5],[af]] [[ak],[aq]]->
 ((((!(decide (aq=0))))=true->
  K [[z0],[af]] [[0],[aq]]
 )/\(((!(decide (aq=0))))=false->
  ad 30 [ak,z4]/\
  ad 21 [z0,ak]/\
  ∀aj:Int,0<=aj->aj<=aD->aj=aa 21 [z0,ak,1]->
  K [[z0],[af]] [[aj],[0]]
 ))
theorem dJ {z y n:Int} (hn:n=((ae z).length:Int)) (h:y=aa 22 [z,0,n]):aB y=aB z:=by unfold aB;rw[whole hn h]
theorem Ez {l:List c2} (h:cO l=true):er (l.map (·.tok))=true:=by
 unfold cO at h
 simp only[Bool.and_eq_true]at h
 exact h.2.2
theorem Li {l:List c2} {t:aI} {i f:Int} (h:sJ l t i f) (hr:cO l=true):l.findIdx? (λu=>decide (u.tok=t))=cond (decide (f=1)) (some i.toNat) none:=by
 obtain⟨⟨h1,h2⟩,h3,h4⟩:=h
 obtain⟨h5,h6,h7⟩:=h4 (Ez hr)
 by_cases hf:f=1
 ·rw[decide_eq_true hf,cond_true]
  obtain⟨g1,g2⟩:=h7.1 hf
  rw[List.findIdx?_eq_some_iff_getElem]
  refine⟨by omega,?_,λj hj=>?_⟩
  ·rw[decide_eq_true_eq,<-g2]
   have:i.toNat<l.length:=by omega
   simp[List.getD,this]
  ·have yZ:j<l.length:=by omega
   have:=h5 j (by omega)
   simp only[List.getD,List.getElem?_eq_getElem yZ,Option.getD_some]at this
   rw[Bool.not_eq_true,decide_eq_false_iff_not]
   intro e
   rw[e,r9]at this;cases this
 ·rw[decide_eq_false hf,cond_false]
  rw[List.findIdx?_eq_none_iff]
  intro u hu
  rw[decide_eq_false_iff_not]
  intro e
  obtain⟨j,hj,rfl⟩:=List.getElem_of_mem hu
  have hg:l.getD j bR=l[j]:=by simp[List.getD,hj]
  rcases Int.lt_or_le (j:Int) i with h|h
  ·have:=h5 j h
   rw[hg,e,r9]at this;cases this
  ·rcases Int.lt_or_eq_of_le h with h|h
   ·have hk:=EA (Ez hr) (show i.toNat<j by omega) hj
    rw[hg,e]at hk
    have:=h6 i.toNat (by omega) (by omega)
    rw[this]at hk;cases hk
   ·refine hf (h7.2 ⟨by omega,?_⟩)
    rw[show i.toNat=j by omega,hg];exact e
theorem VJ:FG SB (cx SB [.d (.int .i64 0 9223372036854775807),.d (.int .i64 0 21)] 506):=by
 intro z0 a0 a1 af n0 n1 z2 _ z3 _ _ z4 b0 b1 h4
 have h4:z4=((ae z0).length:Int):=h4
 have bc:∀i e:Int,(0<=i/\i<=9223372036854775807)->(0<=e/\e<=21)->cB (aB z0) (ab af)=(i,e)->cx SB [.d (.int .i64 0 9223372036854775807),.d (.int .i64 0 21)] 506 [[z0],[af]] [[i],[e]]:=λi e hi he h=>⟨⟨hi.1,hi.2,he.1,he.2,trivial⟩,by show(i,e)=cB (aB z0) (ab af);rw[h]⟩
 refine⟨⟨by omega,by omega,by omega⟩,λz5 _ _ h5 ak _ _ h6=>?_⟩
 have h6:ak=aT (cO (aB z5)):=h6
 rw[dJ h4 h5]at h6
 have pE:=ee h6
 refine⟨λhn=>bc 0 1 (by decide) (by decide) (by unfold cB;rw[<-pE,eH hn];rfl),λhn=>⟨⟨by omega,by omega,by omega⟩,λaq _ _ h7 aj bY c1 z9 _ _ bk=>?_⟩⟩
 have hr:cO (aB z0)=true:=by rw[<-pE];exact dL hn
 have bk:sJ (aB aq) (ab af) aj z9:=bk
 rw[dJ h4 h7]at bk
 have hf:=Li bk hr
 refine⟨λhq=>bc 0 14 (by decide) (by decide) (by unfold cB;rw[hr,hf,eH hq];rfl),λhq=>bc aj 0 ⟨bY,c1⟩ (by decide) ?_⟩
 unfold cB
 rw[hr,hf,dL hq]
 show(((aj.toNat:Nat):Int),(0:Int))=(aj,0)
 rw[Int.toNat_of_nonneg bY]
theorem DH {l:List c2} {t:aI} (h:(cB l t).2=0):0<=(cB l t).1/\(cB l t).1<l.length:=by
 unfold cB at h⊢
 cases hr:cO l with
 |false=>rw[hr]at h;cases h
 |true=>
  rw[hr]at h
  simp only[cond_true]at h⊢
  cases hf:l.findIdx? (λu=>decide (u.tok=t))with
  |none=>rw[hf]at h;cases h
  |some k=>
   have:=(List.findIdx?_eq_some_iff_getElem.1 hf).1
   simp only;omega
theorem VI:FF SB (cx SB [.d .str,.d (.int .i64 0 21)] 507):=by
 intro z0 a0 a1 af n0 n1 z2 _ z3 _ _ z4 b0 b1 h4
 have h4:z4=((ae z0).length:Int):=h4
 refine⟨⟨by omega,by omega,by omega⟩,λz5 _ _ h5 ak _ _ aq bY c1 h7=>?_⟩
 have h7:(ak,aq)=cB (aB z5) (ab af):=h7
 rw[dJ h4 h5]at h7
 have e1:(cB (aB z0) (ab af)).1=ak:=by rw[<-h7]
 have e2:(cB (aB z0) (ab af)).2=aq:=by rw[<-h7]
 have tP:ab (0:Int)=[]:=by decide
 refine⟨λhn=>⟨⟨Int.le_refl _,mj,bY,c1,trivial⟩,?_⟩,λhn=>?_⟩
 ·show(ab 0,aq)=kU (aB z0) (ab af)
  unfold kU
  rw[e2,eH hn,tP];rfl
 ·have hz:aq=0:=of_decide_eq_true (dL hn)
  have hk:=DH (l:=aB z0) (t:=ab af) (by rw[e2];exact hz)
  rw[e1,fD]at hk
  refine⟨⟨by omega,by omega⟩,⟨by omega,by omega⟩,λaj d0 d1 bw=>⟨⟨d0,d1,by decide,by decide,trivial⟩,?_⟩⟩
  show(ab aj,(0:Int))=kU (aB z0) (ab af)
  unfold kU
  rw[e2,e1,hz,kt (by omega)]
  have:ab aj=(gV ((ae z0).getD ak.toNat [])).dq:=by rw[bw];rfl
  rw[this];rfl
end Go.bG
namespace Go.bG
open Go Go.bo
def Ga (S:Nat->List (List Int)->List (List Int)->Prop) (K:List (List Int)->List (List Int)->Prop):Prop:=
 ∀z0:Int,0<=z0->z0<=au->∀af:Int,0<=af->af<=aD->
 ∀z2:Int,0<=z2->
 ∀z3:Int,(-2)<=z3->z3<=9223372036854775807->
 ∀z4:Int,0<=z4->z4<=9223372036854775807->z4=aa 20 [z0]->
 ∃(dC:List (List Int)->Prop) (ev:List (List Int)->Nat),dC [[0]]/\(∀ak:Int,0<=ak->ak<=9223372036854775807->dC [[ak]]->
  (((decide (ak<z4))=true->
   ad 30 [ak,z4]/\
   ad 21 [z0,ak]/\
   ∀aq:Int,0<=aq->aq<=aD->aq=aa 21 [z0,ak,0]->
   ∀aj:Int,0<=aj->aj<=1->aj=aa 4 [af,aq]->
   (((decide (aj=1))=true->
    K [[z0],[af]] [[(cond (true) 1 0)]]
   )/\((decide (aj=1))=false->
    ∀z9:Int,0<=z9->z9<=1->0<=(ak+9223372036854775809)-18446744073709551616*z9->(ak+9223372036854775809)-18446744073709551616*z9<18446744073709551616->
    ad 39 [((ak+((-18446744073709551616)*z9))+1),0,9223372036854775807]/\
    (dC [[((ak+((-18446744073709551616)*z9))+1)]]/\ev [[((ak+((-18446744073709551616)*z9))+1)]]<ev [[ak]])
   ))
  )/\((decide (ak<z4))=false->
   K [[z0],[af]] [[(cond (false) 1 0)]]
  ))
 )
def FD (S:Nat->List (List Int)->List (List Int)->Prop) (K:List (List Int)->List (List Int)->Prop):Prop:=
 ∀z0:Int,0<=z0->z0<=au->∀af:Int,0<=af->af<=aD->∀z2:Int,0<=z2->z2<=au->
 ∀z3:Int,0<=z3->
 ∀z4:Int,(-2)<=z4->z4<=9223372036854775807->
 ∀z5:Int,0<=z5->z5<=9223372036854775807->z5=aa 20 [z0]->
 ∀ak:Int,0<=ak->
 ∀aq:Int,(-2)<=aq->aq<=9223372036854775807->
 ∀aj:Int,0<=aj->aj<=9223372036854775807->aj=aa 20 [z2]->
 ad 22 [z0,0,z5]/\
 ∀z9:Int,0<=z9->z9<=au->z9=aa 22 [z0,0,z5]->
 ∀ao:Int,0<=ao->ao<=9223372036854775807->∀ay:Int,0<=ay->ay<=21->S 506 [[z9],[af]] [[ao],[ay]]->
 ((((!(decide (ay=0))))=true->
  K [[z0],[af],[z2]] [[ay]]
 )/\(((!(decide (ay=0))))=false->
  ∃(qz:List (List Int)->Prop) (xD:List (List Int)->Nat),qz [[0]]/\(∀ai:Int,0<=ai->ai<=9223372036854775807->qz [[ai]]->
   (((decide (ai<aj))=true->
    ad 30 [ai,aj]/\
    ad 21 [z2,ai]/\
    ∀aw:Int,0<=aw->aw<=aD->aw=aa 21 [z2,ai,0]->
    ad 30 [ao,z5]/\
    ad 21 [z0,ao]/\
    ∀aE:Int,0<=aE->aE<=bS->aE=aa 21 [z0,ao,2]->
    ∀aA:Int,0<=aA->
    ∀aF:Int,(-2)<=aF->aF<=9223372036854775807->
    ∀aJ:Int,0<=aJ->aJ<=140737488351232->aJ=aa 20 [aE]->
    ad 22 [aE,0,aJ]/\
    ∀aK:Int,0<=aK->aK<=au->aK=aa 22 [aE,0,aJ]->
    ∀z20:Int,0<=z20->z20<=1->S 512 [[aK],[aw]] [[z20]]->
    ((((!(decide (z20=1))))=true->
     K [[z0],[af],[z2]] [[13]]
    )/\(((!(decide (z20=1))))=false->
     ∀z21:Int,0<=z21->z21<=1->0<=(ai+9223372036854775809)-18446744073709551616*z21->(ai+9223372036854775809)-18446744073709551616*z21<18446744073709551616->
     ad 39 [((ai+((-18446744073709551616)*z21))+1),0,9223372036854775807]/\
     (qz [[((ai+((-18446744073709551616)*z21))+1)]]/\xD [[((ai+((-18446744073709551616)*z21))+1)]]<xD [[ai]])
    ))
   )/\((decide (ai<aj))=false->
    K [[z0],[af],[z2]] [[0]]
   ))
  )
 ))
theorem Aj {z:Int} {i:Nat} (h:i<(ae z).length):(aG z).getD i []∈aG z:=by
 have:i<(aG z).length:=by rw[fi];exact h
 simp[List.getD,this]
theorem m1 {z y n:Int} (hn:n=((ae z).length:Int)) (h:y=aa 22 [z,0,n]):aG y=aG z:=by unfold aG;rw[whole hn h]
def MZ (z0:Int) (t:aI) (bl:List (List Int)):Prop:=∃i:Nat,bl=[[(i:Int)]]/\i<=(ae z0).length/\∀j:Nat,j<i->(aG z0).getD j []≠t
theorem Wf:Ga SB (cx SB [.d .bool] 512):=by
 intro z0 a0 a1 af n0 n1 z2 _ z3 _ _ z4 b0 b1 h4
 have h4:z4=((ae z0).length:Int):=h4
 have hl:=fi z0
 have bc:∀b:Bool,(aG z0).contains (ab af)=b->cx SB [.d .bool] 512 [[z0],[af]] [[aT b]]:=λb h=>⟨⟨(ic _).1,(ic _).2,trivial⟩,by show aT b=aT ((aG z0).contains (ab af));rw[h]⟩
 refine⟨MZ z0 (ab af),k0 z0,⟨0,rfl,Nat.zero_le _,λj hj=>absurd hj (Nat.not_lt_zero j)⟩,?_⟩
 rintro ak d0 d1 ⟨i,e,hi,hI⟩
 obtain rfl:ak=i:=by simpa using e
 refine⟨λhlt=>?_,λct=>bc false ?_⟩
 ·have hlt:=of_decide_eq_true hlt
  have bM:i<(ae z0).length:=by omega
  refine⟨⟨by omega,by omega⟩,⟨by omega,by omega⟩,λaq _ _ h7 aj _ _ bw=>?_⟩
  have h7:ab aq=(aG z0).getD i []:=by rw[jI bM,h7];simp only[aa,Int.toNat_natCast];rfl
  have bw:=mv bw
  rw[h7]at bw
  refine⟨λhq=>bc true ?_,λhq z9 x0 x1 cU dm=>⟨⟨by omega,by omega⟩,⟨i+1,by rw[show(i:Int)+(-18446744073709551616)*z9+1=((i+1:Nat):Int) by omega],by omega,λj hj=>?_⟩,?_⟩⟩
  ·rw[bw]at hq
   rw[List.contains_iff_mem,of_decide_eq_true hq];exact Aj bM
  ·rcases Nat.lt_or_ge j i with h|h
   ·exact hI j h
   ·obtain rfl:j=i:=by omega
    rw[bw]at hq
    exactλe=>of_decide_eq_false hq e.symm
  ·show(ae z0).length-((i:Int)+(-18446744073709551616)*z9+1).toNat<(ae z0).length-((i:Int)).toNat;omega
 ·have:=of_decide_eq_false ct
  cases hc:(aG z0).contains (ab af)with
  |false=>rfl
  |true=>
   rw[List.contains_iff_mem]at hc
   obtain⟨j,hj,he⟩:=List.getElem_of_mem hc
   exact(hI j (by omega) (by simp[List.getD,hj,he])).elim
def MU (z2:Int) (bg:List aI) (bl:List (List Int)):Prop:=∃i:Nat,bl=[[(i:Int)]]/\i<=(ae z2).length/\∀j:Nat,j<i->bg.contains ((aG z2).getD j [])=true
theorem VG:FD SB (cx SB [.d (.int .i64 0 21)] 511):=by
 intro z0 a0 a1 af n0 n1 z2 m0 jj z3 _ z4 _ _ z5 _ _ h5 ak _ aq _ _ aj _ c1 bw
 have h5:z5=((ae z0).length:Int):=h5
 have bw:aj=((ae z2).length:Int):=bw
 have hl:=fi z2
 have bc:∀e:Int,(0<=e/\e<=21)->ib (aB z0) (ab af) (aG z2)=e->cx SB [.d (.int .i64 0 21)] 511 [[z0],[af],[z2]] [[e]]:=λe he h=>⟨⟨he.1,he.2,trivial⟩,by show e=ib (aB z0) (ab af) (aG z2);rw[h]⟩
 refine⟨⟨by omega,by omega,by omega⟩,λz9 _ _ bk ao _ _ ay cy e1 cD=>?_⟩
 have cD:(ao,ay)=cB (aB z9) (ab af):=cD
 rw[dJ h5 bk]at cD
 have f1:(cB (aB z0) (ab af)).1=ao:=by rw[<-cD]
 have f2:(cB (aB z0) (ab af)).2=ay:=by rw[<-cD]
 refine⟨λhn=>bc ay ⟨cy,e1⟩ (by unfold ib;rw[f2,eH hn];rfl),λhn=>?_⟩
 have hz:ay=0:=of_decide_eq_true (dL hn)
 have hk:=DH (l:=aB z0) (t:=ab af) (by rw[f2];exact hz)
 rw[f1,fD]at hk
 have cX:ib (aB z0) (ab af) (aG z2)=cond ((aG z2).all λs=>((aB z0).getD ao.toNat bR).bg.contains s) 0 13:=by unfold ib;rw[f2,f1,hz];rfl
 generalize hu:((aB z0).getD ao.toNat bR).bg=bg at cX
 refine⟨MU z2 bg,k0 z2,⟨0,rfl,Nat.zero_le _,λj hj=>absurd hj (Nat.not_lt_zero j)⟩,?_⟩
 rintro ai d0 d1 ⟨i,e,hi,hI⟩
 obtain rfl:ai=i:=by simpa using e
 refine⟨λhlt=>?_,λct=>bc 0 (by decide) ?_⟩
 ·have hlt:=of_decide_eq_true hlt
  have bM:i<(ae z2).length:=by omega
  refine⟨⟨by omega,by omega⟩,⟨by omega,by omega⟩,λaw _ _ cK=>⟨⟨by omega,by omega⟩,⟨by omega,by omega⟩,λaE _ _ dg aA _ aF _ _ aJ g0 g1 fQ=>?_⟩⟩
  have cK:ab aw=(aG z2).getD i []:=by rw[jI bM,cK];simp only[aa,Int.toNat_natCast];rfl
  have dg:aG aE=bg:=by rw[<-hu,kt (by omega),dg];rfl
  have fQ:aJ=((ae aE).length:Int):=fQ
  refine⟨⟨by omega,by omega,by omega⟩,λaK _ _ lh z20 _ _ ju=>?_⟩
  have ju:z20=aT ((aG aK).contains (ab aw)):=ju
  rw[m1 fQ lh,dg,cK]at ju
  have IX:=ee ju
  refine⟨λhq=>bc 13 (by decide) ?_,λhq z21 x0 x1 cU dm=>⟨⟨by omega,by omega⟩,⟨i+1,by rw[show(i:Int)+(-18446744073709551616)*z21+1=((i+1:Nat):Int) by omega],by omega,λj hj=>?_⟩,?_⟩⟩
  ·rw[cX]
   have hq:=eH hq
   rw[IX]at hq
   cases ha:(aG z2).all λs=>bg.contains s with
   |false=>rfl
   |true=>
    have:=List.all_eq_true.1 ha _ (Aj bM)
    rw[hq]at this;cases this
  ·rcases Nat.lt_or_ge j i with h|h
   ·exact hI j h
   ·obtain rfl:j=i:=by omega
    rw[<-IX];exact dL hq
  ·show(ae z2).length-((i:Int)+(-18446744073709551616)*z21+1).toNat<(ae z2).length-((i:Int)).toNat;omega
 ·have:=of_decide_eq_false ct
  rw[cX,List.all_eq_true.2 λs hs=>?_]
  ·rfl
  ·obtain⟨j,hj,rfl⟩:=List.getElem_of_mem hs
   have:=hI j (by omega)
   simpa [List.getD,hj]using this
end Go.bG
namespace Go.bG
open Go Go.bo
def gR (x y:aI):Prop:=Op.bytesLess x y=true
theorem Ky {l:List aI} (h:er l=true):l.Pairwise gR:=by
 rw[List.pairwise_iff_getElem]
 intro i j hi hj je
 have:=LD h je hj
 simp only[List.getD,List.getElem?_eq_getElem hi,List.getElem?_eq_getElem hj,Option.getD_some]at this
 exact this
theorem WW {l:List aI} (h:l.Pairwise gR) (hs:l.all b8=true):er l=true:=by
 rw[List.pairwise_iff_getElem]at h
 unfold er
 rw[List.all_eq_true]
 intro i hi
 have hi:i<l.length:=List.mem_range.1 hi
 rw[Bool.and_eq_true,Bool.or_eq_true]
 have e:l.getD i []=l[i]:=by simp[List.getD,hi]
 rw[e]
 refine⟨List.all_eq_true.1 hs _ (List.getElem_mem hi),?_⟩
 by_cases h0:i=0
 ·exact .inl (decide_eq_true h0)
 ·right
  have e1:l.getD (i-1) []=l[i-1]:=by simp[List.getD,show i-1<l.length by omega]
  rw[e1]
  exact h (i-1) i (by omega) hi (by omega)
theorem D3 (s:aI):∀(l:List aI) (x:aI),x∈eD s l↔x=s∨x∈l
 |[],x=>by simp[eD]
 |y::r,x=>by
  unfold eD
  by_cases h:y=s
  ·rw[decide_eq_true h,cond_true,<-h];simp
  ·rw[decide_eq_false h,cond_false]
   cases hb:Op.bytesLess s y with
   |true=>simp
   |false=>
    have ih:=D3 s r x
    simp only[cond_false,List.mem_cons,ih]
    constructor
    ·rintro(h|h|h)<;>simp[h]
    ·rintro(h|h|h)<;>simp[h]
theorem J1 (s:aI):∀{l:List aI},l.Pairwise gR->(eD s l).Pairwise gR
 |[],_=>by simp[eD]
 |y::r,h=>by
  unfold eD
  by_cases he:y=s
  ·rw[decide_eq_true he];exact h
  ·rw[decide_eq_false he,cond_false]
   have h':=List.pairwise_cons.1 h
   cases hb:Op.bytesLess s y with
   |true=>
    refine List.pairwise_cons.2 ⟨λz hz=>?_,h⟩
    rcases List.mem_cons.1 hz with rfl|hz
    ·exact hb
    ·exact sa _ _ _ hb (h'.1 z hz)
   |false=>
    refine List.pairwise_cons.2 ⟨λz hz=>?_,J1 s h'.2⟩
    rcases(D3 s r z).1 hz with rfl|hz
    ·rcases DT z y with h|h|h
     ·rw[h]at hb;cases hb
     ·exact h
     ·exact absurd h.symm he
    ·exact h'.1 z hz
theorem Am:∀{d a:List aI},a.Pairwise gR->(gz a d).Pairwise gR
 |[],_,h=>h
 |s::d,a,h=>Am (d:=d) (a:=eD s a) (J1 s h)
theorem wU:∀{d a:List aI} (x:aI),x∈gz a d↔x∈a∨x∈d
 |[],a,x=>by simp[gz]
 |s::d,a,x=>by
  have ih:=wU (d:=d) (a:=eD s a) x
  show x∈gz (eD s a) d↔_
  rw[ih,D3]
  simp only[List.mem_cons]
  constructor
  ·rintro((h|h)|h)<;>simp[h]
  ·rintro(h|h|h)<;>simp[h]
theorem Kw:∀{l bp:List aI},l.Pairwise gR->bp.Pairwise gR->(∀x,x∈l↔x∈bp)->l=bp
 |[],[],_,_,_=>rfl
 |[],y::r,_,_,h=>by have:=(h y).2 (by simp);cases this
 |x::r,[],_,_,h=>by have:=(h x).1 (by simp);cases this
 |x::r,y::s,h1,h2,h=>by
  have a1:=List.pairwise_cons.1 h1
  have a2:=List.pairwise_cons.1 h2
  have e:x=y:=by
   rcases List.mem_cons.1 ((h x).1 (by simp))with e|hx
   ·exact e
   ·rcases List.mem_cons.1 ((h y).2 (by simp))with e|hy
    ·exact e.symm
    ·exact absurd (a1.1 y hy) λh=>Ko _ _ h (a2.1 x hx)
  subst e
  refine congrArg _ (Kw a1.2 a2.2 λz=>⟨λhz=>?_,λhz=>?_⟩)
  ·rcases List.mem_cons.1 ((h z).1 (List.mem_cons_of_mem _ hz))with e|h'
   ·subst e
    have:=a1.1 z hz
    unfold gR at this;rw[r9]at this;cases this
   ·exact h'
  ·rcases List.mem_cons.1 ((h z).2 (List.mem_cons_of_mem _ hz))with e|h'
   ·subst e
    have:=a2.1 z hz
    unfold gR at this;rw[r9]at this;cases this
   ·exact h'
end Go.bG
namespace Go.bG
open Go Go.bo
theorem WV (l:List aI):er l=true↔l.Pairwise gR/\∀s∈l,b8 s=true:=by
 refine⟨λh=>⟨Ky h,λs hs=>?_⟩,λh=>WW h.1 (List.all_eq_true.2 h.2)⟩
 unfold er at h
 rw[List.all_eq_true]at h
 obtain⟨j,hj,rfl⟩:=List.getElem_of_mem hs
 have:=h j (List.mem_range.2 hj)
 rw[Bool.and_eq_true]at this
 have h:=this.1
 simp only[List.getD,List.getElem?_eq_getElem hj,Option.getD_some]at h
 exact h
def Yi (u:c2):Prop:=gp u.dq=true/\u.bg.length<=4/\u.bg.Pairwise gR/\(∀s∈u.bg,b8 s=true)/\b8 u.tok=true
theorem oW (l:List c2):cO l=true↔l.length<=16/\(∀u∈l,Yi u)/\l.Pairwise (λa b=>gR a.tok b.tok):=by
 unfold cO
 simp only[Bool.and_eq_true,List.all_eq_true,WV,List.pairwise_map,List.mem_map]
 constructor
 ·rintro⟨h1,h2,h3,h4⟩
  exact⟨Nat.le_of_ble_eq_true h1,λu hu=>⟨(h2 u hu).1,Nat.le_of_ble_eq_true (h2 u hu).2.1,(h2 u hu).2.2.1,(h2 u hu).2.2.2,h4 _ ⟨u,hu,rfl⟩⟩,h3⟩
 ·rintro⟨h1,h2,h3⟩
  refine⟨Nat.ble_eq_true_of_le h1,λu hu=>⟨(h2 u hu).1,Nat.ble_eq_true_of_le (h2 u hu).2.1,(h2 u hu).2.2.1,(h2 u hu).2.2.2.1⟩,h3,?_⟩
  rintro s ⟨u,hu,rfl⟩
  exact(h2 u hu).2.2.2.2
theorem Kx {x y:aI} (h:gR x y):x≠y:=λe=>by subst e;unfold gR at h;rw[r9]at h;cases h
theorem X7 {l:List c2} (hl:l.Pairwise (λa b=>gR a.tok b.tok)) {i j:Nat} (hi:i<l.length) (hj:j<l.length) (h:l[i].tok=l[j].tok):i=j:=by
 rw[List.pairwise_iff_getElem]at hl
 rcases Nat.lt_trichotomy i j with je|je|je
 ·exact absurd h (Kx (hl i j hi hj je))
 ·exact je
 ·exact absurd h.symm (Kx (hl j i hj hi je))
theorem SX {l:List c2} {u:c2} {t:aI} (hr:cO l=true) (hu:u∈l) (ht:u.tok=t):∃k:Nat,cB l t=((k:Int),0)/\k<l.length/\l.getD k bR=u:=by
 have hp:=((oW l).1 hr).2.2
 unfold cB
 rw[hr,cond_true]
 cases hf:l.findIdx? (λu=>decide (u.tok=t))with
 |none=>
  rw[List.findIdx?_eq_none_iff]at hf
  have:=hf u hu
  rw[decide_eq_true ht]at this;cases this
 |some k=>
  obtain⟨h1,h2,_⟩:=List.findIdx?_eq_some_iff_getElem.1 hf
  have h2:=of_decide_eq_true h2
  obtain⟨j,hj,rfl⟩:=List.getElem_of_mem hu
  have:=X7 hp h1 hj (h2.trans ht.symm)
  subst this
  exact⟨k,rfl,h1,by simp[List.getD,h1]⟩
theorem SY {l:List c2} {t:aI} (h:(cB l t).2=0):cO l=true/\∃k:Nat,cB l t=((k:Int),0)/\k<l.length/\(l.getD k bR).tok=t/\l.getD k bR∈l:=by
 unfold cB at h⊢
 cases hr:cO l with
 |false=>rw[hr]at h;cases h
 |true=>
  rw[hr]at h
  simp only[cond_true]at h⊢
  cases hf:l.findIdx? (λu=>decide (u.tok=t))with
  |none=>rw[hf]at h;cases h
  |some k=>
   obtain⟨h1,h2,_⟩:=List.findIdx?_eq_some_iff_getElem.1 hf
   have h2:=of_decide_eq_true h2
   exact⟨trivial,k,rfl,h1,by simp only[List.getD,List.getElem?_eq_getElem h1,Option.getD_some];exact h2,by simp only[List.getD,List.getElem?_eq_getElem h1,Option.getD_some];exact List.getElem_mem h1⟩
theorem zi {l:List c2} {t:aI} (hr:cO l=false):cB l t=(0,1):=by unfold cB;rw[hr];rfl
theorem Xu {l:List c2} {k:Nat} {g:List aI} (hr:cO l=true) (hk:k<l.length) (h4:g.length<=4) (hg:g.Pairwise gR) (hs:∀s∈g,b8 s=true):cO (l.set k ⟨(l.getD k bR).tok,(l.getD k bR).dq,g⟩)=true/\∀u,u.tok≠(l.getD k bR).tok->(u∈l↔u∈l.set k ⟨(l.getD k bR).tok,(l.getD k bR).dq,g⟩):=by
 obtain⟨h1,h2,h3⟩:=(oW l).1 hr
 have hgd:l.getD k bR=l[k]:=by simp[List.getD,hk]
 rw[hgd]
 have a8:=h2 l[k] (List.getElem_mem hk)
 refine⟨(oW _).2 ⟨by rw[List.length_set];exact h1,λu hu=>?_,?_⟩,λu hu=>⟨λh=>?_,λh=>?_⟩⟩
 ·rcases List.mem_or_eq_of_mem_set hu with hu|rfl
  ·exact h2 u hu
  ·exact⟨a8.1,h4,hg,hs,a8.2.2.2.2⟩
 ·rw[List.pairwise_iff_getElem]at h3⊢
  intro i j hi hj je
  rw[List.length_set]at hi hj
  have e:∀(q:Nat) (hq:q<l.length),(l.set k ⟨l[k].tok,l[k].dq,g⟩)[q]'(by rw[List.length_set];exact hq)=if k=q then⟨l[k].tok,l[k].dq,g⟩else l[q]:=λq hq=>by rw[List.getElem_set]
  have e':∀(q:Nat) (hq:q<l.length),((l.set k ⟨l[k].tok,l[k].dq,g⟩)[q]'(by rw[List.length_set];exact hq)).tok=l[q].tok:=λq hq=>by
   rw[e q hq]
   split
   ·rename_i h;subst h;rfl
   ·rfl
  rw[e' i hi,e' j hj]
  exact h3 i j hi hj je
 ·obtain⟨j,hj,rfl⟩:=List.getElem_of_mem h
  have rB:j≠k:=λe=>by subst e;exact hu rfl
  have:(l.set k ⟨l[k].tok,l[k].dq,g⟩)[j]'(by rw[List.length_set];exact hj)=l[j]:=List.getElem_set_ne (λe=>rB e.symm) _
  rw[<-this]
  exact List.getElem_mem _
 ·rcases List.mem_or_eq_of_mem_set h with h|rfl
  ·exact h
  ·exact absurd rfl hu
end Go.bG
namespace Go.bG
open Go Go.bo
def Gh (S:Nat->List (List Int)->List (List Int)->Prop) (K:List (List Int)->List (List Int)->Prop):Prop:=
 ∀z0:Int,0<=z0->z0<=au->∀af:Int,0<=af->af<=21->S 509 [[0],[117],[1786254407]] [[z0],[af]]->
 ∀z2:Int,0<=z2->
 ∀z3:Int,(-2)<=z3->z3<=9223372036854775807->
 ∀z4:Int,0<=z4->z4<=9223372036854775807->z4=aa 20 [z0]->
 ad 22 [z0,0,z4]/\
 ∀z5:Int,0<=z5->z5<=au->z5=aa 22 [z0,0,z4]->
 ∀ak:Int,0<=ak->ak<=au->ak=aa 23 [0,35265235555321605]->
 ∀aq:Int,0<=aq->aq<=21->S 511 [[z5],[117],[ak]] [[aq]]->
 ∀aj:Int,0<=aj->aj<=au->aj=aa 23 [0,35265235555321605]->
 ad 22 [z0,0,z4]/\
 ∀z9:Int,0<=z9->z9<=au->z9=aa 22 [z0,0,z4]->
 ad 22 [aj,0,1]/\
 ∀ao:Int,0<=ao->ao<=au->ao=aa 22 [aj,0,1]->
 ad 84 [z9,117,ao]/\
 ∀ay:Int,0<=ay->ay<=au->∀z12:Int,0<=z12->z12<=21->S 513 [[z9],[117],[ao]] [[ay],[z12]]->
 ∀ai:Int,0<=ai->
 ∀aw:Int,(-2)<=aw->aw<=9223372036854775807->
 ∀aE:Int,0<=aE->aE<=9223372036854775807->aE=aa 20 [ay]->
 ad 22 [ay,0,aE]/\
 ∀aA:Int,0<=aA->aA<=au->aA=aa 22 [ay,0,aE]->
 ∀aF:Int,0<=aF->aF<=aD->∀aJ:Int,0<=aJ->aJ<=21->S 507 [[aA],[117]] [[aF],[aJ]]->
 (((decide (af=0))=true->
  (((decide (aq=13))=true->
   (((decide (z12=0))=true->
    (((decide (aJ=0))=true->
     ∀aK:Int,0<=aK->aK<=1->aK=aa 4 [aF,1786254407]->
     (((decide (aK=1))=true->
      ad 22 [ay,0,aE]/\
      ∀z20:Int,0<=z20->z20<=au->z20=aa 22 [ay,0,aE]->
      ∀z21:Int,0<=z21->z21<=au->z21=aa 23 [0,35265235555321605]->
      ∀aL:Int,0<=aL->aL<=21->S 511 [[z20],[117],[z21]] [[aL]]->
      K [] [[(cond (decide (aL=0)) 1 0)]]
     )/\((decide (aK=1))=false->
      K [] [[(cond (false) 1 0)]]
     ))
    )/\((decide (aJ=0))=false->
     K [] [[(cond (false) 1 0)]]
    ))
   )/\((decide (z12=0))=false->
    K [] [[(cond (false) 1 0)]]
   ))
  )/\((decide (aq=13))=false->
   K [] [[(cond (false) 1 0)]]
  ))
 )/\((decide (af=0))=false->
  K [] [[(cond (false) 1 0)]]
 ))
theorem MF:aB 0=[]:=by unfold aB;rw[dY];rfl
theorem l8 {z y n:Int} (hn:n=((ae z).length:Int)) (h:y=aa 22 [z,0,n]):ae y=ae z:=whole hn h
theorem K0 {z c:Int} (h:z=aa 23 [0,c]):ae z=[[c]]:=by
 rw[h]
 show ae (rc (ae 0++[[c]]))=_
 rw[dP,dY];rfl
def uA:aI:=[112,114,105,118,97,99,121]
theorem Ep {z:Int} (h:z=aa 23 [0,35265235555321605]):aG z=[uA]:=by
 unfold aG
 rw[K0 h]
 have:ab 35265235555321605=uA:=by decide
 show [ab 35265235555321605]=_
 rw[this]
theorem Wm:Gh SB (cx SB [.d .bool] 520):=by
 intro z0 a0 a1 af _ _ h1 z2 _ z3 _ _ z4 _ _ h4
 have s1:ab 117=[116]:=by decide
 have s2:ab 1786254407=[64,97,58,104]:=by decide
 have h1:(aB z0,af)=kq (aB 0) (ab 117) (ab 1786254407):=h1
 rw[MF,s1,s2]at h1
 have r1:kq [] [116] [64,97,58,104]=([⟨[116],[64,97,58,104],[]⟩],0):=by decide
 rw[r1]at h1
 injection h1 with e1 e2
 have h4:z4=((ae z0).length:Int):=h4
 have c9:ad 22 [z0,0,z4]:=⟨by omega,by omega,by omega⟩
 refine⟨c9,λz5 _ _ h5 ak _ _ h6 aq _ _ h7 aj _ _ bw=>⟨c9,λz9 _ _ bk=>?_⟩⟩
 have aaD:(ae aj).length=1:=by rw[K0 bw];rfl
 refine⟨⟨by omega,by omega,by omega⟩,λao _ _ dv=>?_⟩
 have s7:ae ao=ae aj:=l8 (by omega) dv
 refine⟨by show(ae ao).length<=100000000;rw[s7];omega,λay _ _ z12 _ _ c6 ai _ aw _ _ aE _ _ dg=>?_⟩
 have dg:aE=((ae ay).length:Int):=dg
 have k1:ad 22 [ay,0,aE]:=⟨by omega,by omega,by omega⟩
 refine⟨k1,λaA _ _ dT aF _ _ aJ _ _ fQ=>?_⟩
 have h7:aq=ib (aB z5) (ab 117) (aG ak):=h7
 rw[dJ h4 h5,e1,s1,Ep h6]at h7
 have h7:aq=13:=by rw[h7];decide
 have c6:(aB ay,z12)=hE (aB z9) (ab 117) (aG ao):=c6
 have t10:aG ao=[uA]:=by unfold aG;rw[s7];exact Ep bw
 rw[dJ h4 bk,e1,s1,t10]at c6
 have r2:hE [⟨[116],[64,97,58,104],[]⟩] [116] [uA]=([⟨[116],[64,97,58,104],[uA]⟩],0):=by decide
 rw[r2]at c6
 injection c6 with e3 eo
 have fQ:(ab aF,aJ)=kU (aB aA) (ab 117):=fQ
 rw[dJ dg dT,e3,s1]at fQ
 have eR:kU [⟨[116],[64,97,58,104],[uA]⟩] [116]=([64,97,58,104],0):=by decide
 rw[eR]at fQ
 injection fQ with mu n9
 subst h7 e2 eo n9
 have bad:∀{p:Prop},decide ((0:Int)=0)=false->p:=λh=>absurd h (by decide)
 refine⟨λ_=>⟨λ_=>⟨λ_=>⟨λ_ aK _ _ lh=>?_,λh=>bad h⟩,λh=>bad h⟩,λh=>absurd h (by decide)⟩,λh=>bad h⟩
 have lh:=mv lh
 rw[mu,s2]at lh
 refine⟨λ_=>⟨k1,λz20 _ _ ju z21 _ _ tn aL _ _ ng=>?_⟩,λh=>by rw[lh]at h;exact absurd h (by decide)⟩
 have ng:aL=ib (aB z20) (ab 117) (aG z21):=ng
 rw[dJ dg ju,e3,s1,Ep tn]at ng
 have ng:aL=0:=by rw[ng];decide
 subst ng
 exact⟨⟨by decide,by decide,trivial⟩,rfl⟩
end Go.bG
namespace Go.bG
open Go Go.bo
def FX (S:Nat->List (List Int)->List (List Int)->Prop) (K:List (List Int)->List (List Int)->Prop):Prop:=
 ∀z0:Int,0<=z0->z0<=au->
 ∀af:Int,0<=af->
 ∀z2:Int,(-2)<=z2->z2<=9223372036854775807->
 ∀z3:Int,0<=z3->z3<=9223372036854775807->z3=aa 20 [z0]->
 (((decide (16<z3))=true->
  K [[z0]] [[(cond (false) 1 0)]]
 )/\((decide (16<z3))=false->
  ∃(eG:List (List Int)->Prop) (ed:List (List Int)->Nat),eG [[0]]/\(∀z5:Int,0<=z5->z5<=9223372036854775807->eG [[z5]]->
   (((decide (z5<z3))=true->
    ad 30 [z5,z3]/\
    ad 21 [z0,z5]/\
    ∀ak:Int,0<=ak->ak<=aD->ak=aa 21 [z0,z5,0]->
    ∀aq:Int,0<=aq->aq<=aD->aq=aa 21 [z0,z5,1]->
    ∀aj:Int,0<=aj->aj<=bS->aj=aa 21 [z0,z5,2]->
    ∀z9:Int,0<=z9->
    ∀ao:Int,(-2)<=ao->ao<=9223372036854775807->
    ∀ay:Int,0<=ay->ay<=140737488351232->ay=aa 20 [aj]->
    ∀z12:Int,0<=z12->z12<=1->S 420 [[ak]] [[z12]]->
    ((((!(decide (z12=1))))=true->
     K [[z0]] [[(cond (false) 1 0)]]
    )/\(((!(decide (z12=1))))=false->
     ∀ai:Int,0<=ai->ai<=1->S 207 [[aq]] [[ai]]->
     ((((!(decide (ai=1))))=true->
      K [[z0]] [[(cond (false) 1 0)]]
     )/\(((!(decide (ai=1))))=false->
      (((decide (0<z5))=true->
       ad 30 [(z5+(-1)),z3]/\
       ad 21 [z0,(z5+(-1))]/\
       ∀aw:Int,0<=aw->aw<=aD->aw=aa 21 [z0,(z5+(-1)),0]->
       ∀aE:Int,0<=aE->aE<=1->aE=aa 5 [aw,ak]->
       ((((!(decide (aE=1))))=true->
        K [[z0]] [[(cond (false) 1 0)]]
       )/\(((!(decide (aE=1))))=false->
        (((decide (4<ay))=true->
         K [[z0]] [[(cond (false) 1 0)]]
        )/\((decide (4<ay))=false->
         ∃(xH:List (List Int)->Prop) (AF:List (List Int)->Nat),xH [[0]]/\(∀aF:Int,0<=aF->aF<=9223372036854775807->xH [[aF]]->
          (((decide (aF<ay))=true->
           ad 30 [aF,ay]/\
           ad 21 [aj,aF]/\
           ∀aJ:Int,0<=aJ->aJ<=aD->aJ=aa 21 [aj,aF,0]->
           ∀aK:Int,0<=aK->aK<=1->S 420 [[aJ]] [[aK]]->
           ((((!(decide (aK=1))))=true->
            K [[z0]] [[(cond (false) 1 0)]]
           )/\(((!(decide (aK=1))))=false->
            (((decide (0<aF))=true->
             ad 30 [(aF+(-1)),ay]/\
             ad 21 [aj,(aF+(-1))]/\
             ∀z20:Int,0<=z20->z20<=aD->z20=aa 21 [aj,(aF+(-1)),0]->
             ad 30 [aF,ay]/\
             ad 21 [aj,aF]/\
             ∀z21:Int,0<=z21->z21<=aD->z21=aa 21 [aj,aF,0]->
             ∀aL:Int,0<=aL->aL<=1->aL=aa 5 [z20,z21]->
             ((((!(decide (aL=1))))=true->
              K [[z0]] [[(cond (false) 1 0)]]
             )/\(((!(decide (aL=1))))=false->
              ∀aQ:Int,0<=aQ->aQ<=1->0<=(aF+9223372036854775809)-18446744073709551616*aQ->(aF+9223372036854775809)-18446744073709551616*aQ<18446744073709551616->
              ad 39 [((aF+((-18446744073709551616)*aQ))+1),0,9223372036854775807]/\
              (xH [[((aF+((-18446744073709551616)*aQ))+1)]]/\AF [[((aF+((-18446744073709551616)*aQ))+1)]]<AF [[aF]])
             ))
            )/\((decide (0<aF))=false->
             (xH [[1]]/\AF [[1]]<AF [[aF]])
            ))
           ))
          )/\((decide (aF<ay))=false->
           ∀aJ:Int,0<=aJ->aJ<=1->0<=(z5+9223372036854775809)-18446744073709551616*aJ->(z5+9223372036854775809)-18446744073709551616*aJ<18446744073709551616->
           ad 39 [((z5+((-18446744073709551616)*aJ))+1),0,9223372036854775807]/\
           (eG [[((z5+((-18446744073709551616)*aJ))+1)]]/\ed [[((z5+((-18446744073709551616)*aJ))+1)]]<ed [[z5]])
          ))
         )
        ))
       ))
      )/\((decide (0<z5))=false->
       (((decide (4<ay))=true->
        K [[z0]] [[(cond (false) 1 0)]]
       )/\((decide (4<ay))=false->
        ∃(xF:List (List Int)->Prop) (AD:List (List Int)->Nat),xF [[0]]/\(∀aE:Int,0<=aE->aE<=9223372036854775807->xF [[aE]]->
         (((decide (aE<ay))=true->
          ad 30 [aE,ay]/\
          ad 21 [aj,aE]/\
          ∀aA:Int,0<=aA->aA<=aD->aA=aa 21 [aj,aE,0]->
          ∀aF:Int,0<=aF->aF<=1->S 420 [[aA]] [[aF]]->
          ((((!(decide (aF=1))))=true->
           K [[z0]] [[(cond (false) 1 0)]]
          )/\(((!(decide (aF=1))))=false->
           (((decide (0<aE))=true->
            ad 30 [(aE+(-1)),ay]/\
            ad 21 [aj,(aE+(-1))]/\
            ∀aJ:Int,0<=aJ->aJ<=aD->aJ=aa 21 [aj,(aE+(-1)),0]->
            ad 30 [aE,ay]/\
            ad 21 [aj,aE]/\
            ∀aK:Int,0<=aK->aK<=aD->aK=aa 21 [aj,aE,0]->
            ∀z20:Int,0<=z20->z20<=1->z20=aa 5 [aJ,aK]->
            ((((!(decide (z20=1))))=true->
             K [[z0]] [[(cond (false) 1 0)]]
            )/\(((!(decide (z20=1))))=false->
             ∀z21:Int,0<=z21->z21<=1->0<=(aE+9223372036854775809)-18446744073709551616*z21->(aE+9223372036854775809)-18446744073709551616*z21<18446744073709551616->
             ad 39 [((aE+((-18446744073709551616)*z21))+1),0,9223372036854775807]/\
             (xF [[((aE+((-18446744073709551616)*z21))+1)]]/\AD [[((aE+((-18446744073709551616)*z21))+1)]]<AD [[aE]])
            ))
           )/\((decide (0<aE))=false->
            (xF [[1]]/\AD [[1]]<AD [[aE]])
           ))
          ))
         )/\((decide (aE<ay))=false->
          (eG [[1]]/\ed [[1]]<ed [[z5]])
         ))
        )
       ))
      ))
     ))
    ))
   )/\((decide (z5<z3))=false->
    K [[z0]] [[(cond (true) 1 0)]]
   ))
  )
 ))
def F1 (S:Nat->List (List Int)->List (List Int)->Prop) (K:List (List Int)->List (List Int)->Prop):Prop:=
 ∀z0:Int,0<=z0->z0<=au->∀af:Int,0<=af->af<=aD->
 ∀z2:Int,0<=z2->
 ∀z3:Int,(-2)<=z3->z3<=9223372036854775807->
 ∀z4:Int,0<=z4->z4<=9223372036854775807->z4=aa 20 [z0]->
 ∃(dC:List (List Int)->Prop) (ev:List (List Int)->Nat),dC [[0]]/\(∀ak:Int,0<=ak->ak<=9223372036854775807->dC [[ak]]->
  (((decide (ak<z4))=true->
   ad 30 [ak,z4]/\
   ad 21 [z0,ak]/\
   ∀aq:Int,0<=aq->aq<=aD->aq=aa 21 [z0,ak,0]->
   ∀aj:Int,0<=aj->aj<=1->aj=aa 4 [aq,af]->
   (((decide (aj=1))=true->
    K [[z0],[af]] [[ak]]
   )/\((decide (aj=1))=false->
    ∀z9:Int,0<=z9->z9<=1->0<=(ak+9223372036854775809)-18446744073709551616*z9->(ak+9223372036854775809)-18446744073709551616*z9<18446744073709551616->
    ad 39 [((ak+((-18446744073709551616)*z9))+1),0,9223372036854775807]/\
    (dC [[((ak+((-18446744073709551616)*z9))+1)]]/\ev [[((ak+((-18446744073709551616)*z9))+1)]]<ev [[ak]])
   ))
  )/\((decide (ak<z4))=false->
   K [[z0],[af]] [[(-1)]]
  ))
 )
def FZ (S:Nat->List (List Int)->List (List Int)->Prop) (K:List (List Int)->List (List Int)->Prop):Prop:=
 ∀z0:Int,0<=z0->z0<=au->∀af:Int,0<=af->af<=aD->
 ∀z2:Int,0<=z2->
 ∀z3:Int,(-2)<=z3->z3<=9223372036854775807->
 ∀z4:Int,0<=z4->z4<=9223372036854775807->z4=aa 20 [z0]->
 ad 22 [z0,0,z4]/\
 ∀z5:Int,0<=z5->z5<=au->z5=aa 22 [z0,0,z4]->
 ∀ak:Int,0<=ak->ak<=1->S 530 [[z5]] [[ak]]->
 ((((!(decide (ak=1))))=true->
  K [[z0],[af]] [[0],[1]]
 )/\(((!(decide (ak=1))))=false->
  ad 22 [z0,0,z4]/\
  ∀aq:Int,0<=aq->aq<=au->aq=aa 22 [z0,0,z4]->
  ∀aj:Int,(-9223372036854775808)<=aj->aj<=9223372036854775807->S 531 [[aq],[af]] [[aj]]->
  (((decide (aj<0))=true->
   K [[z0],[af]] [[0],[14]]
  )/\((decide (aj<0))=false->
   ad 30 [aj,z4]/\
   ad 21 [z0,aj]/\
   ∀z9:Int,0<=z9->z9<=aD->z9=aa 21 [z0,aj,1]->
   K [[z0],[af]] [[z9],[0]]
  ))
 ))
def iA (l:List c2) (i:Nat):Bool:=b8 (l.getD i bR).tok&&(gp (l.getD i bR).dq&&((decide (i=0)||Op.bytesLess (l.getD (i-1) bR).tok (l.getD i bR).tok)&&(Nat.ble (l.getD i bR).bg.length 4&&er (l.getD i bR).bg)))
theorem LB (l:List c2):cO l=(Nat.ble l.length 16&&(List.range l.length).all (iA l)):=by
 have hm:∀i,i<l.length->(l.map (·.tok)).getD i []=(l.getD i bR).tok:=λi hi=>by simp[List.getD,hi]
 unfold cO
 congr 1
 rw[Bool.eq_iff_iff,Bool.and_eq_true]
 unfold er
 rw[List.length_map]
 simp only[List.all_eq_true,List.mem_range]
 constructor
 ·rintro⟨h1,h2⟩ i hi
  have h1:=h1 (l.getD i bR) (by simp only[List.getD,List.getElem?_eq_getElem hi,Option.getD_some];exact List.getElem_mem hi)
  have h2:=h2 i hi
  rw[hm i hi,hm (i-1) (by omega)]at h2
  unfold iA
  simp only[Bool.and_eq_true]at h1 h2⊢
  exact⟨h2.1,h1.1,h2.2,h1.2⟩
 ·intro h
  refine⟨λu hu=>?_,λi hi=>?_⟩
  ·obtain⟨i,hi,rfl⟩:=List.getElem_of_mem hu
   have:=h i hi
   unfold iA at this
   have e:l.getD i bR=l[i]:=by simp[List.getD,hi]
   rw[e]at this
   simp only[Bool.and_eq_true]at this⊢
   have bk:=this.2.2.2
   unfold er at bk
   simp only[List.all_eq_true,List.mem_range,Bool.and_eq_true]at bk⊢
   exact⟨this.2.1,bk⟩
  ·have:=h i hi
   unfold iA at this
   rw[hm i hi,hm (i-1) (by omega)]
   simp only[Bool.and_eq_true]at this⊢
   exact⟨this.1,this.2.2.1⟩
def MV (z0:Int) (bl:List (List Int)):Prop:=∃i:Nat,bl=[[(i:Int)]]/\i<=(ae z0).length/\∀j:Nat,j<i->iA (aB z0) j=true
theorem V0:FX SB (cx SB [.d .bool] 530):=by
 intro z0 a0 a1 af _ z2 _ _ z3 _ c1 h3
 have h3:z3=((ae z0).length:Int):=h3
 have hl:=fD z0
 have bc:∀b:Bool,cO (aB z0)=b->cx SB [.d .bool] 530 [[z0]] [[aT b]]:=λb h=>⟨⟨(ic _).1,(ic _).2,trivial⟩,by show aT b=aT (cO (aB z0));rw[h]⟩
 refine⟨λdT=>bc false ?_,λdT=>⟨MV z0,k0 z0,⟨0,rfl,Nat.zero_le _,λj hj=>absurd hj (Nat.not_lt_zero j)⟩,?_⟩⟩
 ·have:=of_decide_eq_true dT
  unfold cO
  rw[show Nat.ble (aB z0).length 16=false from by
   cases h:Nat.ble (aB z0).length 16 with
   |false=>rfl
   |true=>have:=Nat.le_of_ble_eq_true h;omega];rfl
 have dT:=of_decide_eq_false dT
 have vO:Nat.ble (aB z0).length 16=true:=Nat.ble_eq_true_of_le (by omega)
 have ei:∀i:Nat,i<(ae z0).length->iA (aB z0) i=false->cx SB [.d .bool] 530 [[z0]] [[aT false]]:=λi hi h=>bc false (by
  rw[LB,vO,Bool.true_and]
  cases hp:(List.range (aB z0).length).all (iA (aB z0))with
  |false=>rfl
  |true=>
   have:=List.all_eq_true.1 hp i (List.mem_range.2 (by omega))
   rw[this]at h;cases h)
 rintro z5 d0 d1 ⟨i,e,hi,hI⟩
 obtain rfl:z5=i:=by simpa using e
 refine⟨λhlt=>?_,λct=>bc true ?_⟩
 rotate_left
 ·have:=of_decide_eq_false ct
  rw[LB,vO,Bool.true_and,List.all_eq_true]
  intro j hj
  exact hI j (by have:=List.mem_range.1 hj;omega)
 have hlt:=of_decide_eq_true hlt
 have bM:i<(ae z0).length:=by omega
 refine⟨⟨by omega,by omega⟩,⟨by omega,by omega⟩,λak _ _ h6 aq _ _ h7 aj _ _ bw z9 _ ao _ _ ay _ _ cD z12 _ _ c6=>?_⟩
 generalize hu:(aB z0).getD i bR=u
 have oA:=hu
 rw[kt bM]at oA
 replace h6:ab ak=u.tok:=by rw[h6,<-oA];simp only[aa,Int.toNat_natCast];rfl
 replace h7:ab aq=u.dq:=by rw[h7,<-oA];simp only[aa,Int.toNat_natCast];rfl
 replace bw:aG aj=u.bg:=by rw[bw,<-oA];simp only[aa,Int.toNat_natCast];rfl
 have cD:ay=((ae aj).length:Int):=cD
 have Z1:(ae aj).length=u.bg.length:=by rw[<-bw,fi]
 have c6:z12=aT (b8 (ab ak)):=c6
 have yP:=ee c6
 rw[h6]at yP
 refine⟨λhn=>ei i bM (by unfold iA;rw[hu,<-yP,eH hn];rfl),λhn ai _ _ dS=>?_⟩
 have dS:ai=aT (gp (ab aq)):=dS
 have yQ:=ee dS
 rw[h7]at yQ
 have KR:decide (4<ay)=true->iA (aB z0) i=false:=λh=>by
  have h:=of_decide_eq_true h
  unfold iA
  rw[hu,show Nat.ble u.bg.length 4=false from by
   cases h:Nat.ble u.bg.length 4 with
   |false=>rfl
   |true=>have:=Nat.le_of_ble_eq_true h;omega]
  simp
 refine⟨λhm=>ei i bM (by unfold iA;rw[hu,<-yQ,eH hm];simp),λhm=>⟨λhp=>?_,λhp=>⟨λh4=>ei i bM (KR h4),λh4=>?_⟩⟩⟩
 ·have hp:=of_decide_eq_true hp
  refine⟨⟨by omega,by omega⟩,⟨by omega,by omega⟩,λaw _ _ cK aE _ _ dg=>?_⟩
  have cK:ab aw=((aB z0).getD (i-1) bR).tok:=by
   rw[kt (by omega),cK]
   simp only[aa]
   rw[show((i:Int)+(-1)).toNat=i-1 by omega];rfl
  have dg:decide (aE=1)=Op.bytesLess ((aB z0).getD (i-1) bR).tok u.tok:=by rw[wR dg,cK,h6]
  refine⟨λhq=>ei i bM (by unfold iA;rw[hu,<-dg,eH hq,decide_eq_false (show ¬i=0 by omega)];simp),λhq=>⟨λh4=>ei i bM (KR h4),λh4=>?_⟩⟩
  have h4:=of_decide_eq_false h4
  refine⟨AX aj,k0 aj,⟨0,rfl,Nat.zero_le _,λj hj=>absurd hj (Nat.not_lt_zero j)⟩,?_⟩
  rintro Ax OG OH ⟨k,e,hk,hK⟩
  obtain rfl:Ax=k:=by simpa using e
  refine⟨λhlt=>?_,λct=>?_⟩
  ·have hlt:=of_decide_eq_true hlt
   have iH:k<(ae aj).length:=by omega
   have bad:(b8 ((aG aj).getD k [])&&(decide (k=0)||Op.bytesLess ((aG aj).getD (k-1) []) ((aG aj).getD k [])))=false->iA (aB z0) i=false:=λh=>by
    unfold iA
    rw[hu,<-bw]
    have:er (aG aj)=false:=by
     cases hp:er (aG aj)with
     |false=>rfl
     |true=>
      have:=List.all_eq_true.1 hp k (List.mem_range.2 (by rw[fi];exact iH))
      rw[this]at h;cases h
    rw[this];simp
   refine⟨⟨by omega,by omega⟩,⟨by omega,by omega⟩,λuS _ _ g6 Ay _ _ g7=>?_⟩
   have g6:ab uS=(aG aj).getD k []:=by rw[jI iH,g6];simp only[aa,Int.toNat_natCast];rfl
   have g7:Ay=aT (b8 (ab uS)):=g7
   have oc:=ee g7
   rw[g6]at oc
   refine⟨λhn=>ei i bM (bad (by rw[<-oc,eH hn];rfl)),λhn=>⟨λhp=>?_,λhp=>?_⟩⟩
   ·have hp:=of_decide_eq_true hp
    refine⟨⟨by omega,by omega⟩,⟨by omega,by omega⟩,λxA _ _ g8=>⟨⟨by omega,by omega⟩,⟨by omega,by omega⟩,λAz _ _ g9 Aw _ _ g10=>?_⟩⟩
    have g8:ab xA=(aG aj).getD (k-1) []:=by
     rw[jI (by omega),g8]
     simp only[aa]
     rw[show((k:Int)+(-1)).toNat=k-1 by omega];rfl
    have g9:ab Az=(aG aj).getD k []:=by rw[jI iH,g9];simp only[aa,Int.toNat_natCast];rfl
    have g10:decide (Aw=1)=Op.bytesLess ((aG aj).getD (k-1) []) ((aG aj).getD k []):=by rw[wR g10,g8,g9]
    have e6:decide (k=0)=false:=decide_eq_false (by omega)
    refine⟨λhq=>ei i bM (bad (by rw[<-g10,eH hq,e6,Bool.or_false,Bool.and_false])),λhq sA x0 x1 cU dm=>⟨⟨by omega,by omega⟩,⟨k+1,by rw[show(k:Int)+(-18446744073709551616)*sA+1=((k+1:Nat):Int) by omega],by omega,λj hj=>?_⟩,?_⟩⟩
    ·rcases Nat.lt_or_ge j k with h|h
     ·exact hK j h
     ·obtain rfl:j=k:=by omega
      rw[<-oc,dL hn,<-g10,dL hq,Bool.or_true];rfl
    ·show(ae aj).length-((k:Int)+(-18446744073709551616)*sA+1).toNat<(ae aj).length-((k:Int)).toNat;omega
   ·have hp:=of_decide_eq_false hp
    obtain rfl:k=0:=by omega
    refine⟨⟨1,rfl,by omega,λj hj=>?_⟩,?_⟩
    ·obtain rfl:j=0:=by omega
     rw[<-oc,dL hn];rfl
    ·show(ae aj).length-(1:Int).toNat<(ae aj).length-((0:Nat):Int).toNat;omega
  ·have ct:=of_decide_eq_false ct
   have C5:er u.bg=true:=by
    rw[<-bw]
    unfold er
    rw[List.all_eq_true]
    intro j hj
    exact hK j (by have:=List.mem_range.1 hj;rw[fi]at this;omega)
   have a8:iA (aB z0) i=true:=by
    unfold iA
    rw[hu,<-yP,dL hn,<-yQ,dL hm,<-dg,dL hq,Bool.or_true,Nat.ble_eq_true_of_le (show u.bg.length<=4 by omega),C5];rfl
   intro Fv x0 x1 cU dm
   refine⟨⟨by omega,by omega⟩,⟨i+1,by rw[show(i:Int)+(-18446744073709551616)*Fv+1=((i+1:Nat):Int) by omega],by omega,λj hj=>?_⟩,?_⟩
   ·rcases Nat.lt_or_ge j i with h|h
    ·exact hI j h
    ·obtain rfl:j=i:=by omega
     exact a8
   ·show(ae z0).length-((i:Int)+(-18446744073709551616)*Fv+1).toNat<(ae z0).length-((i:Int)).toNat;omega
 ·have h4:=of_decide_eq_false h4
  have hp:=of_decide_eq_false hp
  obtain rfl:i=0:=by omega
  refine⟨AX aj,k0 aj,⟨0,rfl,Nat.zero_le _,λj hj=>absurd hj (Nat.not_lt_zero j)⟩,?_⟩
  rintro Ax OG OH ⟨k,e,hk,hK⟩
  obtain rfl:Ax=k:=by simpa using e
  refine⟨λhlt=>?_,λct=>?_⟩
  ·have hlt:=of_decide_eq_true hlt
   have iH:k<(ae aj).length:=by omega
   have bad:(b8 ((aG aj).getD k [])&&(decide (k=0)||Op.bytesLess ((aG aj).getD (k-1) []) ((aG aj).getD k [])))=false->iA (aB z0) 0=false:=λh=>by
    unfold iA
    rw[hu,<-bw]
    have:er (aG aj)=false:=by
     cases hp:er (aG aj)with
     |false=>rfl
     |true=>
      have:=List.all_eq_true.1 hp k (List.mem_range.2 (by rw[fi];exact iH))
      rw[this]at h;cases h
    rw[this];simp
   refine⟨⟨by omega,by omega⟩,⟨by omega,by omega⟩,λuS _ _ g6 Ay _ _ g7=>?_⟩
   have g6:ab uS=(aG aj).getD k []:=by rw[jI iH,g6];simp only[aa,Int.toNat_natCast];rfl
   have g7:Ay=aT (b8 (ab uS)):=g7
   have oc:=ee g7
   rw[g6]at oc
   refine⟨λhn=>ei 0 bM (bad (by rw[<-oc,eH hn];rfl)),λhn=>⟨λhp=>?_,λhp=>?_⟩⟩
   ·have hp:=of_decide_eq_true hp
    refine⟨⟨by omega,by omega⟩,⟨by omega,by omega⟩,λxA _ _ g8=>⟨⟨by omega,by omega⟩,⟨by omega,by omega⟩,λAz _ _ g9 Aw _ _ g10=>?_⟩⟩
    have g8:ab xA=(aG aj).getD (k-1) []:=by
     rw[jI (by omega),g8]
     simp only[aa]
     rw[show((k:Int)+(-1)).toNat=k-1 by omega];rfl
    have g9:ab Az=(aG aj).getD k []:=by rw[jI iH,g9];simp only[aa,Int.toNat_natCast];rfl
    have g10:decide (Aw=1)=Op.bytesLess ((aG aj).getD (k-1) []) ((aG aj).getD k []):=by rw[wR g10,g8,g9]
    have e6:decide (k=0)=false:=decide_eq_false (by omega)
    refine⟨λhq=>ei 0 bM (bad (by rw[<-g10,eH hq,e6,Bool.or_false,Bool.and_false])),λhq sA x0 x1 cU dm=>⟨⟨by omega,by omega⟩,⟨k+1,by rw[show(k:Int)+(-18446744073709551616)*sA+1=((k+1:Nat):Int) by omega],by omega,λj hj=>?_⟩,?_⟩⟩
    ·rcases Nat.lt_or_ge j k with h|h
     ·exact hK j h
     ·obtain rfl:j=k:=by omega
      rw[<-oc,dL hn,<-g10,dL hq,Bool.or_true];rfl
    ·show(ae aj).length-((k:Int)+(-18446744073709551616)*sA+1).toNat<(ae aj).length-((k:Int)).toNat;omega
   ·have hp:=of_decide_eq_false hp
    obtain rfl:k=0:=by omega
    refine⟨⟨1,rfl,by omega,λj hj=>?_⟩,?_⟩
    ·obtain rfl:j=0:=by omega
     rw[<-oc,dL hn];rfl
    ·show(ae aj).length-(1:Int).toNat<(ae aj).length-((0:Nat):Int).toNat;omega
  ·have ct:=of_decide_eq_false ct
   have C5:er u.bg=true:=by
    rw[<-bw]
    unfold er
    rw[List.all_eq_true]
    intro j hj
    exact hK j (by have:=List.mem_range.1 hj;rw[fi]at this;omega)
   have a8:iA (aB z0) 0=true:=by
    unfold iA
    rw[hu,<-yP,dL hn,<-yQ,dL hm,Nat.ble_eq_true_of_le (show u.bg.length<=4 by omega),C5];rfl
   refine⟨⟨1,rfl,by omega,λj hj=>?_⟩,?_⟩
   ·obtain rfl:j=0:=by omega
    exact a8
   ·show(ae z0).length-(1:Int).toNat<(ae z0).length-((0:Nat):Int).toNat;omega
theorem V3:F1 SB (cx SB [.d (.int .i64 (-9223372036854775808) 9223372036854775807)] 531):=by
 intro z0 a0 a1 af _ _ z2 _ z3 _ _ z4 _ c1 h4
 have h4:z4=((ae z0).length:Int):=h4
 have hl:=fD z0
 refine⟨λbl=>∃i:Nat,bl=[[(i:Int)]]/\i<=(ae z0).length/\∀j:Nat,j<i->((aB z0).getD j bR).tok≠ab af,k0 z0,⟨0,rfl,Nat.zero_le _,λj hj=>absurd hj (Nat.not_lt_zero j)⟩,?_⟩
 rintro ak d0 d1 ⟨i,e,hi,hI⟩
 obtain rfl:ak=i:=by simpa using e
 refine⟨λhlt=>?_,λct=>?_⟩
 ·have hlt:=of_decide_eq_true hlt
  have bM:i<(ae z0).length:=by omega
  have yY:i<(aB z0).length:=by omega
  refine⟨⟨by omega,by omega⟩,⟨by omega,by omega⟩,λaq _ _ h7 aj _ _ bw=>?_⟩
  have h7:ab aq=((aB z0).getD i bR).tok:=by rw[kt bM,h7];simp only[aa,Int.toNat_natCast];rfl
  have bw:=mv bw
  rw[h7]at bw
  have hg:∀j (hj:j<(aB z0).length),(aB z0).getD j bR=(aB z0)[j]:=λj hj=>by simp[List.getD,hj]
  refine⟨λhq=>⟨⟨by omega,by omega,trivial⟩,?_⟩,λhq z9 x0 x1 cU dm=>⟨⟨by omega,by omega⟩,⟨i+1,by rw[show(i:Int)+(-18446744073709551616)*z9+1=((i+1:Nat):Int) by omega],by omega,λj hj=>?_⟩,?_⟩⟩
  ·rw[bw]at hq
   have hq:=of_decide_eq_true hq
   show(i:Int)=match(aB z0).findIdx? (λu=>decide (u.tok=ab af))with|some k=>(k:Int)|none=>-1
   have:(aB z0).findIdx? (λu=>decide (u.tok=ab af))=some i:=by
    rw[List.findIdx?_eq_some_iff_getElem]
    refine⟨yY,decide_eq_true (by rw[<-hg i yY];exact hq),λj hj=>?_⟩
    have:=hI j hj
    rw[hg j (by omega)]at this
    simpa using this
   rw[this]
  ·rcases Nat.lt_or_ge j i with h|h
   ·exact hI j h
   ·obtain rfl:j=i:=by omega
    rw[bw]at hq
    exact of_decide_eq_false hq
  ·show(ae z0).length-((i:Int)+(-18446744073709551616)*z9+1).toNat<(ae z0).length-((i:Int)).toNat;omega
 ·have ct:=of_decide_eq_false ct
  refine⟨⟨by decide,by decide,trivial⟩,?_⟩
  show(-1:Int)=match(aB z0).findIdx? (λu=>decide (u.tok=ab af))with|some k=>(k:Int)|none=>-1
  have:(aB z0).findIdx? (λu=>decide (u.tok=ab af))=none:=by
   rw[List.findIdx?_eq_none_iff]
   intro u hu
   obtain⟨j,hj,rfl⟩:=List.getElem_of_mem hu
   have:=hI j (by omega)
   have e:(aB z0).getD j bR=(aB z0)[j]:=by simp[List.getD,hj]
   rw[e]at this
   exact decide_eq_false this
  rw[this]
theorem zL {l:List c2} {t:aI} {i:Int} (hr:cO l=true) (h:i=match l.findIdx? (λu=>decide (u.tok=t))with|some k=>(k:Int)|none=>-1):(i<0->cB l t=(0,14))/\(¬i<0->cB l t=(i,0)/\0<=i/\i<l.length):=by
 unfold cB
 rw[hr,cond_true]
 cases hf:l.findIdx? (λu=>decide (u.tok=t))with
 |none=>rw[hf]at h;subst h;exact⟨λ_=>rfl,λh=>absurd (by decide) h⟩
 |some k=>
  rw[hf]at h
  have h:i=(k:Int):=h
  have:=(List.findIdx?_eq_some_iff_getElem.1 hf).1
  subst h
  exact⟨λh=>by omega,λ_=>⟨rfl,by omega,by omega⟩⟩
theorem V2:FZ SB (cx SB [.d .str,.d (.int .i64 0 21)] 534):=by
 intro z0 a0 a1 af _ _ z2 _ z3 _ _ z4 _ _ h4
 have h4:z4=((ae z0).length:Int):=h4
 have c9:ad 22 [z0,0,z4]:=⟨by omega,by omega,by omega⟩
 have tP:ab (0:Int)=[]:=by decide
 refine⟨c9,λz5 _ _ h5 ak _ _ h6=>?_⟩
 have h6:ak=aT (cO (aB z5)):=h6
 rw[dJ h4 h5]at h6
 have pE:=ee h6
 refine⟨λhn=>⟨⟨Int.le_refl _,mj,by decide,by decide,trivial⟩,?_⟩,λhn=>⟨c9,λaq _ _ h7 aj _ _ bw=>?_⟩⟩
 ·show(ab 0,(1:Int))=kU (aB z0) (ab af)
  unfold kU
  rw[zi (by rw[<-pE,eH hn]),tP];rfl
 ·have hr:cO (aB z0)=true:=by rw[<-pE];exact dL hn
  have bw:aj=match(aB aq).findIdx? (λu=>decide (u.tok=ab af))with|some k=>(k:Int)|none=>-1:=bw
  rw[dJ h4 h7]at bw
  obtain⟨p1,bz⟩:=zL hr bw
  refine⟨λhq=>⟨⟨Int.le_refl _,mj,by decide,by decide,trivial⟩,?_⟩,λhq=>?_⟩
  ·show(ab 0,(14:Int))=kU (aB z0) (ab af)
   unfold kU
   rw[p1 (of_decide_eq_true hq),tP];rfl
  ·obtain⟨q1,q2,q3⟩:=bz (of_decide_eq_false hq)
   rw[fD]at q3
   refine⟨⟨by omega,by omega⟩,⟨by omega,by omega⟩,λz9 d0 d1 bk=>⟨⟨d0,d1,by decide,by decide,trivial⟩,?_⟩⟩
   show(ab z9,(0:Int))=kU (aB z0) (ab af)
   unfold kU
   rw[q1,kt (by omega)]
   have:ab z9=(gV ((ae z0).getD aj.toNat [])).dq:=by rw[bk];rfl
   rw[this];rfl
end Go.bG
namespace Go.bG
open Go Go.bo
def FW (S:Nat->List (List Int)->List (List Int)->Prop) (K:List (List Int)->List (List Int)->Prop):Prop:=
 ∀z0:Int,0<=z0->z0<=au->∀af:Int,0<=af->af<=aD->∀z2:Int,0<=z2->z2<=aD->
 ∀z3:Int,0<=z3->
 ∀z4:Int,(-2)<=z4->z4<=9223372036854775807->
 ∀z5:Int,0<=z5->z5<=9223372036854775807->z5=aa 20 [z0]->
 ad 22 [z0,0,z5]/\
 ∀ak:Int,0<=ak->ak<=au->ak=aa 22 [z0,0,z5]->
 ∀aq:Int,0<=aq->aq<=1->S 530 [[ak]] [[aq]]->
 ((((!(decide (aq=1))))=true->
  ad 22 [z0,0,z5]/\
  ∀aj:Int,0<=aj->aj<=au->aj=aa 22 [z0,0,z5]->
  K [[z0],[af],[z2]] [[aj],[1]]
 )/\(((!(decide (aq=1))))=false->
  ∀aj:Int,0<=aj->aj<=1->S 420 [[af]] [[aj]]->
  ((((!(decide (aj=1))))=true->
   ad 22 [z0,0,z5]/\
   ∀z9:Int,0<=z9->z9<=au->z9=aa 22 [z0,0,z5]->
   K [[z0],[af],[z2]] [[z9],[1]]
  )/\(((!(decide (aj=1))))=false->
   ∀z9:Int,0<=z9->z9<=1->S 207 [[z2]] [[z9]]->
   ((((!(decide (z9=1))))=true->
    ad 22 [z0,0,z5]/\
    ∀ao:Int,0<=ao->ao<=au->ao=aa 22 [z0,0,z5]->
    K [[z0],[af],[z2]] [[ao],[1]]
   )/\(((!(decide (z9=1))))=false->
    ad 22 [z0,0,z5]/\
    ∀ao:Int,0<=ao->ao<=au->ao=aa 22 [z0,0,z5]->
    ∀ay:Int,(-9223372036854775808)<=ay->ay<=9223372036854775807->S 531 [[ao],[af]] [[ay]]->
    (((decide (0<=ay))=true->
     ad 22 [z0,0,z5]/\
     ∀z12:Int,0<=z12->z12<=au->z12=aa 22 [z0,0,z5]->
     K [[z0],[af],[z2]] [[z12],[6]]
    )/\((decide (0<=ay))=false->
     (((decide (z5=16))=true->
      ad 22 [z0,0,z5]/\
      ∀z12:Int,0<=z12->z12<=au->z12=aa 22 [z0,0,z5]->
      K [[z0],[af],[z2]] [[z12],[10]]
     )/\((decide (z5=16))=false->
      ∃(qz:List (List Int)->Prop) (xD:List (List Int)->Nat),qz [[0]]/\(∀ai:Int,0<=ai->ai<=9223372036854775807->qz [[ai]]->
       (((decide (ai<z5))=true->
        ad 30 [ai,z5]/\
        ad 21 [z0,ai]/\
        ∀aw:Int,0<=aw->aw<=aD->aw=aa 21 [z0,ai,0]->
        ∀aE:Int,0<=aE->aE<=1->aE=aa 5 [aw,af]->
        (((decide (aE=1))=true->
         ∀aA:Int,0<=aA->aA<=1->0<=(ai+9223372036854775809)-18446744073709551616*aA->(ai+9223372036854775809)-18446744073709551616*aA<18446744073709551616->
         ad 39 [((ai+((-18446744073709551616)*aA))+1),0,9223372036854775807]/\
         (qz [[((ai+((-18446744073709551616)*aA))+1)]]/\xD [[((ai+((-18446744073709551616)*aA))+1)]]<xD [[ai]])
        )/\((decide (aE=1))=false->
         ad 32 [0,ai,z5]/\
         ad 32 [ai,z5,z5]/\
         (ad 68 [z5,z4]->
         ∀aA:Int,0<=aA->aA<=9223372036854775809->aA=aa 33 [0,ai,z4]->
         ((
          ((
           ad 22 [z0,0,ai]/\
           ad 23 [0,ai]/\
           ∀aF:Int,0<=aF->aF<=au->aF=aa 22 [z0,0,ai]->
           ∀aJ:Int,0<=aJ->aJ<=au->aJ=aa 24 [0,aF]->
           (((decide (ai<=0))=true->
            ad 23 [0,1]/\
            ∀aK:Int,0<=aK->aK<=au->aK=aa 23 [0,af,z2,0]->
            ∀z20:Int,(-2)<=z20->z20<=9223372036854775807->
            ad 31 [aK,1]/\
            ad 22 [z0,aA,(z5+(((-1)*ai)+aA))]/\
            ad 23 [aK,(z5+((-1)*ai))]/\
            ∀z21:Int,0<=z21->z21<=au->z21=aa 22 [z0,aA,(z5+(((-1)*ai)+aA))]->
            ∀aL:Int,0<=aL->aL<=au->aL=aa 24 [aK,z21]->
            ∀aQ:Int,(-2)<=aQ->aQ<=9223372036854775807->
            ad 22 [aL,0,((z5+((-1)*ai))+1)]/\
            ∀z24:Int,0<=z24->z24<=au->z24=aa 22 [aL,0,((z5+((-1)*ai))+1)]->
            K [[z0],[af],[z2]] [[z24],[0]]
           )/\((decide (ai<=0))=false->
            ∀aK:Int,(-2)<=aK->aK<=9223372036854775807->
            ad 31 [aJ,ai]/\
            ad 23 [aJ,1]/\
            ∀z20:Int,0<=z20->z20<=au->z20=aa 23 [aJ,af,z2,0]->
            ∀z21:Int,(-2)<=z21->z21<=9223372036854775807->
            ad 31 [z20,(ai+1)]/\
            ad 22 [z0,aA,(z5+(((-1)*ai)+aA))]/\
            ad 23 [z20,(z5+((-1)*ai))]/\
            ∀aL:Int,0<=aL->aL<=au->aL=aa 22 [z0,aA,(z5+(((-1)*ai)+aA))]->
            ∀aQ:Int,0<=aQ->aQ<=au->aQ=aa 24 [z20,aL]->
            ∀z24:Int,(-2)<=z24->z24<=9223372036854775807->
            ad 22 [aQ,0,(z5+1)]/\
            ∀ah:Int,0<=ah->ah<=au->ah=aa 22 [aQ,0,(z5+1)]->
            K [[z0],[af],[z2]] [[ah],[0]]
           ))
          )/\(
           ((
            ad 22 [z0,0,ai]/\
            ad 23 [0,ai]/\
            ∀aF:Int,0<=aF->aF<=au->aF=aa 22 [z0,0,ai]->
            ∀aJ:Int,0<=aJ->aJ<=au->aJ=aa 24 [0,aF]->
            (((decide (ai<=0))=true->
             ad 23 [0,1]/\
             ∀aK:Int,0<=aK->aK<=au->aK=aa 23 [0,af,z2,0]->
             ∀z20:Int,(-2)<=z20->z20<=9223372036854775807->
             ad 31 [aK,1]/\
             ad 22 [z0,aA,(z5+(((-1)*ai)+aA))]/\
             ad 23 [aK,(z5+((-1)*ai))]/\
             ∀z21:Int,0<=z21->z21<=au->z21=aa 22 [z0,aA,(z5+(((-1)*ai)+aA))]->
             ∀aL:Int,0<=aL->aL<=au->aL=aa 24 [aK,z21]->
             ∀aQ:Int,(-2)<=aQ->aQ<=9223372036854775807->
             ad 22 [aL,0,((z5+((-1)*ai))+1)]/\
             ∀z24:Int,0<=z24->z24<=au->z24=aa 22 [aL,0,((z5+((-1)*ai))+1)]->
             K [[z0],[af],[z2]] [[z24],[0]]
            )/\((decide (ai<=0))=false->
             ∀aK:Int,(-2)<=aK->aK<=9223372036854775807->
             ad 31 [aJ,ai]/\
             ad 23 [aJ,1]/\
             ∀z20:Int,0<=z20->z20<=au->z20=aa 23 [aJ,af,z2,0]->
             ∀z21:Int,(-2)<=z21->z21<=9223372036854775807->
             ad 31 [z20,(ai+1)]/\
             ad 22 [z0,aA,(z5+(((-1)*ai)+aA))]/\
             ad 23 [z20,(z5+((-1)*ai))]/\
             ∀aL:Int,0<=aL->aL<=au->aL=aa 22 [z0,aA,(z5+(((-1)*ai)+aA))]->
             ∀aQ:Int,0<=aQ->aQ<=au->aQ=aa 24 [z20,aL]->
             ∀z24:Int,(-2)<=z24->z24<=9223372036854775807->
             ad 22 [aQ,0,(z5+1)]/\
             ∀ah:Int,0<=ah->ah<=au->ah=aa 22 [aQ,0,(z5+1)]->
             K [[z0],[af],[z2]] [[ah],[0]]
            ))
           )/\(
            ad 22 [z0,0,ai]/\
            ad 23 [0,ai]/\
            ∀aF:Int,0<=aF->aF<=au->aF=aa 22 [z0,0,ai]->
            ∀aJ:Int,0<=aJ->aJ<=au->aJ=aa 24 [0,aF]->
            (((decide (ai<=0))=true->
             ad 23 [0,1]/\
             ∀aK:Int,0<=aK->aK<=au->aK=aa 23 [0,af,z2,0]->
             ∀z20:Int,(-2)<=z20->z20<=9223372036854775807->
             ad 31 [aK,1]/\
             ad 22 [z0,aA,(z5+(((-1)*ai)+aA))]/\
             ad 23 [aK,(z5+((-1)*ai))]/\
             ∀z21:Int,0<=z21->z21<=au->z21=aa 22 [z0,aA,(z5+(((-1)*ai)+aA))]->
             ∀aL:Int,0<=aL->aL<=au->aL=aa 24 [aK,z21]->
             ∀aQ:Int,(-2)<=aQ->aQ<=9223372036854775807->
             ad 22 [aL,0,((z5+((-1)*ai))+1)]/\
             ∀z24:Int,0<=z24->z24<=au->z24=aa 22 [aL,0,((z5+((-1)*ai))+1)]->
             K [[z0],[af],[z2]] [[z24],[0]]
            )/\((decide (ai<=0))=false->
             ∀aK:Int,(-2)<=aK->aK<=9223372036854775807->
             ad 31 [aJ,ai]/\
             ad 23 [aJ,1]/\
             ∀z20:Int,0<=z20->z20<=au->z20=aa 23 [aJ,af,z2,0]->
             ∀z21:Int,(-2)<=z21->z21<=9223372036854775807->
             ad 31 [z20,(ai+1)]/\
             ad 22 [z0,aA,(z5+(((-1)*ai)+aA))]/\
             ad 23 [z20,(z5+((-1)*ai))]/\
             ∀aL:Int,0<=aL->aL<=au->aL=aa 22 [z0,aA,(z5+(((-1)*ai)+aA))]->
             ∀aQ:Int,0<=aQ->aQ<=au->aQ=aa 24 [z20,aL]->
             ∀z24:Int,(-2)<=z24->z24<=9223372036854775807->
             ad 22 [aQ,0,(z5+1)]/\
             ∀ah:Int,0<=ah->ah<=au->ah=aa 22 [aQ,0,(z5+1)]->
             K [[z0],[af],[z2]] [[ah],[0]]
            ))
           ))
          ))
         )/\(
          ((
           ((
            ad 22 [z0,0,ai]/\
            ad 23 [0,ai]/\
            ∀aF:Int,0<=aF->aF<=au->aF=aa 22 [z0,0,ai]->
            ∀aJ:Int,0<=aJ->aJ<=au->aJ=aa 24 [0,aF]->
            (((decide (ai<=0))=true->
             ad 23 [0,1]/\
             ∀aK:Int,0<=aK->aK<=au->aK=aa 23 [0,af,z2,0]->
             ∀z20:Int,(-2)<=z20->z20<=9223372036854775807->
             ad 31 [aK,1]/\
             ad 22 [z0,aA,(z5+(((-1)*ai)+aA))]/\
             ad 23 [aK,(z5+((-1)*ai))]/\
             ∀z21:Int,0<=z21->z21<=au->z21=aa 22 [z0,aA,(z5+(((-1)*ai)+aA))]->
             ∀aL:Int,0<=aL->aL<=au->aL=aa 24 [aK,z21]->
             ∀aQ:Int,(-2)<=aQ->aQ<=9223372036854775807->
             ad 22 [aL,0,((z5+((-1)*ai))+1)]/\
             ∀z24:Int,0<=z24->z24<=au->z24=aa 22 [aL,0,((z5+((-1)*ai))+1)]->
             K [[z0],[af],[z2]] [[z24],[0]]
            )/\((decide (ai<=0))=false->
             ∀aK:Int,(-2)<=aK->aK<=9223372036854775807->
             ad 31 [aJ,ai]/\
             ad 23 [aJ,1]/\
             ∀z20:Int,0<=z20->z20<=au->z20=aa 23 [aJ,af,z2,0]->
             ∀z21:Int,(-2)<=z21->z21<=9223372036854775807->
             ad 31 [z20,(ai+1)]/\
             ad 22 [z0,aA,(z5+(((-1)*ai)+aA))]/\
             ad 23 [z20,(z5+((-1)*ai))]/\
             ∀aL:Int,0<=aL->aL<=au->aL=aa 22 [z0,aA,(z5+(((-1)*ai)+aA))]->
             ∀aQ:Int,0<=aQ->aQ<=au->aQ=aa 24 [z20,aL]->
             ∀z24:Int,(-2)<=z24->z24<=9223372036854775807->
             ad 22 [aQ,0,(z5+1)]/\
             ∀ah:Int,0<=ah->ah<=au->ah=aa 22 [aQ,0,(z5+1)]->
             K [[z0],[af],[z2]] [[ah],[0]]
            ))
           )/\(
            ad 22 [z0,0,ai]/\
            ad 23 [0,ai]/\
            ∀aF:Int,0<=aF->aF<=au->aF=aa 22 [z0,0,ai]->
            ∀aJ:Int,0<=aJ->aJ<=au->aJ=aa 24 [0,aF]->
            (((decide (ai<=0))=true->
             ad 23 [0,1]/\
             ∀aK:Int,0<=aK->aK<=au->aK=aa 23 [0,af,z2,0]->
             ∀z20:Int,(-2)<=z20->z20<=9223372036854775807->
             ad 31 [aK,1]/\
             ad 22 [z0,aA,(z5+(((-1)*ai)+aA))]/\
             ad 23 [aK,(z5+((-1)*ai))]/\
             ∀z21:Int,0<=z21->z21<=au->z21=aa 22 [z0,aA,(z5+(((-1)*ai)+aA))]->
             ∀aL:Int,0<=aL->aL<=au->aL=aa 24 [aK,z21]->
             ∀aQ:Int,(-2)<=aQ->aQ<=9223372036854775807->
             ad 22 [aL,0,((z5+((-1)*ai))+1)]/\
             ∀z24:Int,0<=z24->z24<=au->z24=aa 22 [aL,0,((z5+((-1)*ai))+1)]->
             K [[z0],[af],[z2]] [[z24],[0]]
            )/\((decide (ai<=0))=false->
             ∀aK:Int,(-2)<=aK->aK<=9223372036854775807->
             ad 31 [aJ,ai]/\
             ad 23 [aJ,1]/\
             ∀z20:Int,0<=z20->z20<=au->z20=aa 23 [aJ,af,z2,0]->
             ∀z21:Int,(-2)<=z21->z21<=9223372036854775807->
             ad 31 [z20,(ai+1)]/\
             ad 22 [z0,aA,(z5+(((-1)*ai)+aA))]/\
             ad 23 [z20,(z5+((-1)*ai))]/\
             ∀aL:Int,0<=aL->aL<=au->aL=aa 22 [z0,aA,(z5+(((-1)*ai)+aA))]->
             ∀aQ:Int,0<=aQ->aQ<=au->aQ=aa 24 [z20,aL]->
             ∀z24:Int,(-2)<=z24->z24<=9223372036854775807->
             ad 22 [aQ,0,(z5+1)]/\
             ∀ah:Int,0<=ah->ah<=au->ah=aa 22 [aQ,0,(z5+1)]->
             K [[z0],[af],[z2]] [[ah],[0]]
            ))
           ))
          )/\(
           ad 22 [z0,0,ai]/\
           ad 23 [0,ai]/\
           ∀aF:Int,0<=aF->aF<=au->aF=aa 22 [z0,0,ai]->
           ∀aJ:Int,0<=aJ->aJ<=au->aJ=aa 24 [0,aF]->
           (((decide (ai<=0))=true->
            ad 23 [0,1]/\
            ∀aK:Int,0<=aK->aK<=au->aK=aa 23 [0,af,z2,0]->
            ∀z20:Int,(-2)<=z20->z20<=9223372036854775807->
            ad 31 [aK,1]/\
            ad 22 [z0,aA,(z5+(((-1)*ai)+aA))]/\
            ad 23 [aK,(z5+((-1)*ai))]/\
            ∀z21:Int,0<=z21->z21<=au->z21=aa 22 [z0,aA,(z5+(((-1)*ai)+aA))]->
            ∀aL:Int,0<=aL->aL<=au->aL=aa 24 [aK,z21]->
            ∀aQ:Int,(-2)<=aQ->aQ<=9223372036854775807->
            ad 22 [aL,0,((z5+((-1)*ai))+1)]/\
            ∀z24:Int,0<=z24->z24<=au->z24=aa 22 [aL,0,((z5+((-1)*ai))+1)]->
            K [[z0],[af],[z2]] [[z24],[0]]
           )/\((decide (ai<=0))=false->
            ∀aK:Int,(-2)<=aK->aK<=9223372036854775807->
            ad 31 [aJ,ai]/\
            ad 23 [aJ,1]/\
            ∀z20:Int,0<=z20->z20<=au->z20=aa 23 [aJ,af,z2,0]->
            ∀z21:Int,(-2)<=z21->z21<=9223372036854775807->
            ad 31 [z20,(ai+1)]/\
            ad 22 [z0,aA,(z5+(((-1)*ai)+aA))]/\
            ad 23 [z20,(z5+((-1)*ai))]/\
            ∀aL:Int,0<=aL->aL<=au->aL=aa 22 [z0,aA,(z5+(((-1)*ai)+aA))]->
            ∀aQ:Int,0<=aQ->aQ<=au->aQ=aa 24 [z20,aL]->
            ∀z24:Int,(-2)<=z24->z24<=9223372036854775807->
            ad 22 [aQ,0,(z5+1)]/\
            ∀ah:Int,0<=ah->ah<=au->ah=aa 22 [aQ,0,(z5+1)]->
            K [[z0],[af],[z2]] [[ah],[0]]
           ))
          ))
         ))
         )
        ))
       )/\((decide (ai<z5))=false->
        ad 32 [0,ai,z5]/\
        ad 32 [ai,z5,z5]/\
        (ad 68 [z5,z4]->
        ∀aw:Int,0<=aw->aw<=9223372036854775809->aw=aa 33 [0,ai,z4]->
        ((
         ((
          ad 22 [z0,0,ai]/\
          ad 23 [0,ai]/\
          ∀aE:Int,0<=aE->aE<=au->aE=aa 22 [z0,0,ai]->
          ∀aA:Int,0<=aA->aA<=au->aA=aa 24 [0,aE]->
          (((decide (ai<=0))=true->
           ad 23 [0,1]/\
           ∀aF:Int,0<=aF->aF<=au->aF=aa 23 [0,af,z2,0]->
           ∀aJ:Int,(-2)<=aJ->aJ<=9223372036854775807->
           ad 31 [aF,1]/\
           ad 22 [z0,aw,(z5+(((-1)*ai)+aw))]/\
           ad 23 [aF,(z5+((-1)*ai))]/\
           ∀aK:Int,0<=aK->aK<=au->aK=aa 22 [z0,aw,(z5+(((-1)*ai)+aw))]->
           ∀z20:Int,0<=z20->z20<=au->z20=aa 24 [aF,aK]->
           ∀z21:Int,(-2)<=z21->z21<=9223372036854775807->
           ad 22 [z20,0,((z5+((-1)*ai))+1)]/\
           ∀aL:Int,0<=aL->aL<=au->aL=aa 22 [z20,0,((z5+((-1)*ai))+1)]->
           K [[z0],[af],[z2]] [[aL],[0]]
          )/\((decide (ai<=0))=false->
           ∀aF:Int,(-2)<=aF->aF<=9223372036854775807->
           ad 31 [aA,ai]/\
           ad 23 [aA,1]/\
           ∀aJ:Int,0<=aJ->aJ<=au->aJ=aa 23 [aA,af,z2,0]->
           ∀aK:Int,(-2)<=aK->aK<=9223372036854775807->
           ad 31 [aJ,(ai+1)]/\
           ad 22 [z0,aw,(z5+(((-1)*ai)+aw))]/\
           ad 23 [aJ,(z5+((-1)*ai))]/\
           ∀z20:Int,0<=z20->z20<=au->z20=aa 22 [z0,aw,(z5+(((-1)*ai)+aw))]->
           ∀z21:Int,0<=z21->z21<=au->z21=aa 24 [aJ,z20]->
           ∀aL:Int,(-2)<=aL->aL<=9223372036854775807->
           ad 22 [z21,0,(z5+1)]/\
           ∀aQ:Int,0<=aQ->aQ<=au->aQ=aa 22 [z21,0,(z5+1)]->
           K [[z0],[af],[z2]] [[aQ],[0]]
          ))
         )/\(
          ((
           ad 22 [z0,0,ai]/\
           ad 23 [0,ai]/\
           ∀aE:Int,0<=aE->aE<=au->aE=aa 22 [z0,0,ai]->
           ∀aA:Int,0<=aA->aA<=au->aA=aa 24 [0,aE]->
           (((decide (ai<=0))=true->
            ad 23 [0,1]/\
            ∀aF:Int,0<=aF->aF<=au->aF=aa 23 [0,af,z2,0]->
            ∀aJ:Int,(-2)<=aJ->aJ<=9223372036854775807->
            ad 31 [aF,1]/\
            ad 22 [z0,aw,(z5+(((-1)*ai)+aw))]/\
            ad 23 [aF,(z5+((-1)*ai))]/\
            ∀aK:Int,0<=aK->aK<=au->aK=aa 22 [z0,aw,(z5+(((-1)*ai)+aw))]->
            ∀z20:Int,0<=z20->z20<=au->z20=aa 24 [aF,aK]->
            ∀z21:Int,(-2)<=z21->z21<=9223372036854775807->
            ad 22 [z20,0,((z5+((-1)*ai))+1)]/\
            ∀aL:Int,0<=aL->aL<=au->aL=aa 22 [z20,0,((z5+((-1)*ai))+1)]->
            K [[z0],[af],[z2]] [[aL],[0]]
           )/\((decide (ai<=0))=false->
            ∀aF:Int,(-2)<=aF->aF<=9223372036854775807->
            ad 31 [aA,ai]/\
            ad 23 [aA,1]/\
            ∀aJ:Int,0<=aJ->aJ<=au->aJ=aa 23 [aA,af,z2,0]->
            ∀aK:Int,(-2)<=aK->aK<=9223372036854775807->
            ad 31 [aJ,(ai+1)]/\
            ad 22 [z0,aw,(z5+(((-1)*ai)+aw))]/\
            ad 23 [aJ,(z5+((-1)*ai))]/\
            ∀z20:Int,0<=z20->z20<=au->z20=aa 22 [z0,aw,(z5+(((-1)*ai)+aw))]->
            ∀z21:Int,0<=z21->z21<=au->z21=aa 24 [aJ,z20]->
            ∀aL:Int,(-2)<=aL->aL<=9223372036854775807->
            ad 22 [z21,0,(z5+1)]/\
            ∀aQ:Int,0<=aQ->aQ<=au->aQ=aa 22 [z21,0,(z5+1)]->
            K [[z0],[af],[z2]] [[aQ],[0]]
           ))
          )/\(
           ad 22 [z0,0,ai]/\
           ad 23 [0,ai]/\
           ∀aE:Int,0<=aE->aE<=au->aE=aa 22 [z0,0,ai]->
           ∀aA:Int,0<=aA->aA<=au->aA=aa 24 [0,aE]->
           (((decide (ai<=0))=true->
            ad 23 [0,1]/\
            ∀aF:Int,0<=aF->aF<=au->aF=aa 23 [0,af,z2,0]->
            ∀aJ:Int,(-2)<=aJ->aJ<=9223372036854775807->
            ad 31 [aF,1]/\
            ad 22 [z0,aw,(z5+(((-1)*ai)+aw))]/\
            ad 23 [aF,(z5+((-1)*ai))]/\
            ∀aK:Int,0<=aK->aK<=au->aK=aa 22 [z0,aw,(z5+(((-1)*ai)+aw))]->
            ∀z20:Int,0<=z20->z20<=au->z20=aa 24 [aF,aK]->
            ∀z21:Int,(-2)<=z21->z21<=9223372036854775807->
            ad 22 [z20,0,((z5+((-1)*ai))+1)]/\
            ∀aL:Int,0<=aL->aL<=au->aL=aa 22 [z20,0,((z5+((-1)*ai))+1)]->
            K [[z0],[af],[z2]] [[aL],[0]]
           )/\((decide (ai<=0))=false->
            ∀aF:Int,(-2)<=aF->aF<=9223372036854775807->
            ad 31 [aA,ai]/\
            ad 23 [aA,1]/\
            ∀aJ:Int,0<=aJ->aJ<=au->aJ=aa 23 [aA,af,z2,0]->
            ∀aK:Int,(-2)<=aK->aK<=9223372036854775807->
            ad 31 [aJ,(ai+1)]/\
            ad 22 [z0,aw,(z5+(((-1)*ai)+aw))]/\
            ad 23 [aJ,(z5+((-1)*ai))]/\
            ∀z20:Int,0<=z20->z20<=au->z20=aa 22 [z0,aw,(z5+(((-1)*ai)+aw))]->
            ∀z21:Int,0<=z21->z21<=au->z21=aa 24 [aJ,z20]->
            ∀aL:Int,(-2)<=aL->aL<=9223372036854775807->
            ad 22 [z21,0,(z5+1)]/\
            ∀aQ:Int,0<=aQ->aQ<=au->aQ=aa 22 [z21,0,(z5+1)]->
            K [[z0],[af],[z2]] [[aQ],[0]]
           ))
          ))
         ))
        )/\(
         ((
          ((
           ad 22 [z0,0,ai]/\
           ad 23 [0,ai]/\
           ∀aE:Int,0<=aE->aE<=au->aE=aa 22 [z0,0,ai]->
           ∀aA:Int,0<=aA->aA<=au->aA=aa 24 [0,aE]->
           (((decide (ai<=0))=true->
            ad 23 [0,1]/\
            ∀aF:Int,0<=aF->aF<=au->aF=aa 23 [0,af,z2,0]->
            ∀aJ:Int,(-2)<=aJ->aJ<=9223372036854775807->
            ad 31 [aF,1]/\
            ad 22 [z0,aw,(z5+(((-1)*ai)+aw))]/\
            ad 23 [aF,(z5+((-1)*ai))]/\
            ∀aK:Int,0<=aK->aK<=au->aK=aa 22 [z0,aw,(z5+(((-1)*ai)+aw))]->
            ∀z20:Int,0<=z20->z20<=au->z20=aa 24 [aF,aK]->
            ∀z21:Int,(-2)<=z21->z21<=9223372036854775807->
            ad 22 [z20,0,((z5+((-1)*ai))+1)]/\
            ∀aL:Int,0<=aL->aL<=au->aL=aa 22 [z20,0,((z5+((-1)*ai))+1)]->
            K [[z0],[af],[z2]] [[aL],[0]]
           )/\((decide (ai<=0))=false->
            ∀aF:Int,(-2)<=aF->aF<=9223372036854775807->
            ad 31 [aA,ai]/\
            ad 23 [aA,1]/\
            ∀aJ:Int,0<=aJ->aJ<=au->aJ=aa 23 [aA,af,z2,0]->
            ∀aK:Int,(-2)<=aK->aK<=9223372036854775807->
            ad 31 [aJ,(ai+1)]/\
            ad 22 [z0,aw,(z5+(((-1)*ai)+aw))]/\
            ad 23 [aJ,(z5+((-1)*ai))]/\
            ∀z20:Int,0<=z20->z20<=au->z20=aa 22 [z0,aw,(z5+(((-1)*ai)+aw))]->
            ∀z21:Int,0<=z21->z21<=au->z21=aa 24 [aJ,z20]->
            ∀aL:Int,(-2)<=aL->aL<=9223372036854775807->
            ad 22 [z21,0,(z5+1)]/\
            ∀aQ:Int,0<=aQ->aQ<=au->aQ=aa 22 [z21,0,(z5+1)]->
            K [[z0],[af],[z2]] [[aQ],[0]]
           ))
          )/\(
           ad 22 [z0,0,ai]/\
           ad 23 [0,ai]/\
           ∀aE:Int,0<=aE->aE<=au->aE=aa 22 [z0,0,ai]->
           ∀aA:Int,0<=aA->aA<=au->aA=aa 24 [0,aE]->
           (((decide (ai<=0))=true->
            ad 23 [0,1]/\
            ∀aF:Int,0<=aF->aF<=au->aF=aa 23 [0,af,z2,0]->
            ∀aJ:Int,(-2)<=aJ->aJ<=9223372036854775807->
            ad 31 [aF,1]/\
            ad 22 [z0,aw,(z5+(((-1)*ai)+aw))]/\
            ad 23 [aF,(z5+((-1)*ai))]/\
            ∀aK:Int,0<=aK->aK<=au->aK=aa 22 [z0,aw,(z5+(((-1)*ai)+aw))]->
            ∀z20:Int,0<=z20->z20<=au->z20=aa 24 [aF,aK]->
            ∀z21:Int,(-2)<=z21->z21<=9223372036854775807->
            ad 22 [z20,0,((z5+((-1)*ai))+1)]/\
            ∀aL:Int,0<=aL->aL<=au->aL=aa 22 [z20,0,((z5+((-1)*ai))+1)]->
            K [[z0],[af],[z2]] [[aL],[0]]
           )/\((decide (ai<=0))=false->
            ∀aF:Int,(-2)<=aF->aF<=9223372036854775807->
            ad 31 [aA,ai]/\
            ad 23 [aA,1]/\
            ∀aJ:Int,0<=aJ->aJ<=au->aJ=aa 23 [aA,af,z2,0]->
            ∀aK:Int,(-2)<=aK->aK<=9223372036854775807->
            ad 31 [aJ,(ai+1)]/\
            ad 22 [z0,aw,(z5+(((-1)*ai)+aw))]/\
            ad 23 [aJ,(z5+((-1)*ai))]/\
            ∀z20:Int,0<=z20->z20<=au->z20=aa 22 [z0,aw,(z5+(((-1)*ai)+aw))]->
            ∀z21:Int,0<=z21->z21<=au->z21=aa 24 [aJ,z20]->
            ∀aL:Int,(-2)<=aL->aL<=9223372036854775807->
            ad 22 [z21,0,(z5+1)]/\
            ∀aQ:Int,0<=aQ->aQ<=au->aQ=aa 22 [z21,0,(z5+1)]->
            K [[z0],[af],[z2]] [[aQ],[0]]
           ))
          ))
         )/\(
          ad 22 [z0,0,ai]/\
          ad 23 [0,ai]/\
          ∀aE:Int,0<=aE->aE<=au->aE=aa 22 [z0,0,ai]->
          ∀aA:Int,0<=aA->aA<=au->aA=aa 24 [0,aE]->
          (((decide (ai<=0))=true->
           ad 23 [0,1]/\
           ∀aF:Int,0<=aF->aF<=au->aF=aa 23 [0,af,z2,0]->
           ∀aJ:Int,(-2)<=aJ->aJ<=9223372036854775807->
           ad 31 [aF,1]/\
           ad 22 [z0,aw,(z5+(((-1)*ai)+aw))]/\
           ad 23 [aF,(z5+((-1)*ai))]/\
           ∀aK:Int,0<=aK->aK<=au->aK=aa 22 [z0,aw,(z5+(((-1)*ai)+aw))]->
           ∀z20:Int,0<=z20->z20<=au->z20=aa 24 [aF,aK]->
           ∀z21:Int,(-2)<=z21->z21<=9223372036854775807->
           ad 22 [z20,0,((z5+((-1)*ai))+1)]/\
           ∀aL:Int,0<=aL->aL<=au->aL=aa 22 [z20,0,((z5+((-1)*ai))+1)]->
           K [[z0],[af],[z2]] [[aL],[0]]
          )/\((decide (ai<=0))=false->
           ∀aF:Int,(-2)<=aF->aF<=9223372036854775807->
           ad 31 [aA,ai]/\
           ad 23 [aA,1]/\
           ∀aJ:Int,0<=aJ->aJ<=au->aJ=aa 23 [aA,af,z2,0]->
           ∀aK:Int,(-2)<=aK->aK<=9223372036854775807->
           ad 31 [aJ,(ai+1)]/\
           ad 22 [z0,aw,(z5+(((-1)*ai)+aw))]/\
           ad 23 [aJ,(z5+((-1)*ai))]/\
           ∀z20:Int,0<=z20->z20<=au->z20=aa 22 [z0,aw,(z5+(((-1)*ai)+aw))]->
           ∀z21:Int,0<=z21->z21<=au->z21=aa 24 [aJ,z20]->
           ∀aL:Int,(-2)<=aL->aL<=9223372036854775807->
           ad 22 [z21,0,(z5+1)]/\
           ∀aQ:Int,0<=aQ->aQ<=au->aQ=aa 22 [z21,0,(z5+1)]->
           K [[z0],[af],[z2]] [[aQ],[0]]
          ))
         ))
        ))
        )
       ))
      )
     ))
    ))
   ))
  ))
 ))
def FV (S:Nat->List (List Int)->List (List Int)->Prop) (K:List (List Int)->List (List Int)->Prop):Prop:=
 ∀z0:Int,0<=z0->z0<=au->∀af:Int,0<=af->af<=aD->
 ∀z2:Int,0<=z2->
 ∀z3:Int,(-2)<=z3->z3<=9223372036854775807->
 ∀z4:Int,0<=z4->z4<=9223372036854775807->z4=aa 20 [z0]->
 ad 22 [z0,0,z4]/\
 ∀z5:Int,0<=z5->z5<=au->z5=aa 22 [z0,0,z4]->
 ∀ak:Int,0<=ak->ak<=1->S 530 [[z5]] [[ak]]->
 ((((!(decide (ak=1))))=true->
  ad 22 [z0,0,z4]/\
  ∀aq:Int,0<=aq->aq<=au->aq=aa 22 [z0,0,z4]->
  K [[z0],[af]] [[aq],[1]]
 )/\(((!(decide (ak=1))))=false->
  ad 22 [z0,0,z4]/\
  ∀aq:Int,0<=aq->aq<=au->aq=aa 22 [z0,0,z4]->
  ∀aj:Int,(-9223372036854775808)<=aj->aj<=9223372036854775807->S 531 [[aq],[af]] [[aj]]->
  (((decide (aj<0))=true->
   ad 22 [z0,0,z4]/\
   ∀z9:Int,0<=z9->z9<=au->z9=aa 22 [z0,0,z4]->
   K [[z0],[af]] [[z9],[14]]
  )/\((decide (aj<0))=false->
   ad 32 [0,aj,z4]/\
   ((
    ((
     ad 22 [z0,0,aj]/\
     ad 23 [0,aj]/\
     ∀z9:Int,0<=z9->z9<=au->z9=aa 22 [z0,0,aj]->
     ∀ao:Int,0<=ao->ao<=au->ao=aa 24 [0,z9]->
     (((decide (aj<=0))=true->
      ∀ay:Int,0<=ay->ay<=1->0<=(aj+9223372036854775809)-18446744073709551616*ay->(aj+9223372036854775809)-18446744073709551616*ay<18446744073709551616->
      ad 32 [((aj+((-18446744073709551616)*ay))+1),z4,z4]/\
      (ad 68 [z4,z3]->
      ∀z12:Int,0<=z12->z12<=9223372036854775809->z12=aa 33 [0,((aj+((-18446744073709551616)*ay))+1),z3]->
      ad 22 [z0,z12,((z4+(((-1)*aj)+((18446744073709551616*ay)+z12)))+(-1))]/\
      ad 23 [0,((z4+(((-1)*aj)+(18446744073709551616*ay)))+(-1))]/\
      ∀ai:Int,0<=ai->ai<=au->ai=aa 22 [z0,z12,((z4+(((-1)*aj)+((18446744073709551616*ay)+z12)))+(-1))]->
      ∀aw:Int,0<=aw->aw<=au->aw=aa 24 [0,ai]->
      (((decide (((z4+(((-1)*aj)+(18446744073709551616*ay)))+(-1))<=0))=true->
       K [[z0],[af]] [[0],[0]]
      )/\((decide (((z4+(((-1)*aj)+(18446744073709551616*ay)))+(-1))<=0))=false->
       ∀aE:Int,(-2)<=aE->aE<=9223372036854775807->
       ad 22 [aw,0,((z4+(((-1)*aj)+(18446744073709551616*ay)))+(-1))]/\
       ∀aA:Int,0<=aA->aA<=au->aA=aa 22 [aw,0,((z4+(((-1)*aj)+(18446744073709551616*ay)))+(-1))]->
       K [[z0],[af]] [[aA],[0]]
      ))
      )
     )/\((decide (aj<=0))=false->
      ∀ay:Int,(-2)<=ay->ay<=9223372036854775807->
      ∀z12:Int,0<=z12->z12<=1->0<=(aj+9223372036854775809)-18446744073709551616*z12->(aj+9223372036854775809)-18446744073709551616*z12<18446744073709551616->
      ad 32 [((aj+((-18446744073709551616)*z12))+1),z4,z4]/\
      (ad 68 [z4,z3]->
      ∀ai:Int,0<=ai->ai<=9223372036854775809->ai=aa 33 [0,((aj+((-18446744073709551616)*z12))+1),z3]->
      ad 31 [ao,aj]/\
      ad 22 [z0,ai,((z4+(((-1)*aj)+((18446744073709551616*z12)+ai)))+(-1))]/\
      ad 23 [ao,((z4+(((-1)*aj)+(18446744073709551616*z12)))+(-1))]/\
      ∀aw:Int,0<=aw->aw<=au->aw=aa 22 [z0,ai,((z4+(((-1)*aj)+((18446744073709551616*z12)+ai)))+(-1))]->
      ∀aE:Int,0<=aE->aE<=au->aE=aa 24 [ao,aw]->
      ∀aA:Int,(-2)<=aA->aA<=9223372036854775807->
      ad 22 [aE,0,((z4+(18446744073709551616*z12))+(-1))]/\
      ∀aF:Int,0<=aF->aF<=au->aF=aa 22 [aE,0,((z4+(18446744073709551616*z12))+(-1))]->
      K [[z0],[af]] [[aF],[0]]
      )
     ))
    )/\(
     ∀z9:Int,0<=z9->z9<=1->0<=(aj+9223372036854775809)-18446744073709551616*z9->(aj+9223372036854775809)-18446744073709551616*z9<18446744073709551616->
     ad 32 [((aj+((-18446744073709551616)*z9))+1),z4,z4]/\
     (ad 68 [z4,z3]->
     ∀ao:Int,0<=ao->ao<=9223372036854775809->ao=aa 33 [0,((aj+((-18446744073709551616)*z9))+1),z3]->
     ad 22 [z0,0,aj]/\
     ad 23 [0,aj]/\
     ∀ay:Int,0<=ay->ay<=au->ay=aa 22 [z0,0,aj]->
     ∀z12:Int,0<=z12->z12<=au->z12=aa 24 [0,ay]->
     (((decide (aj<=0))=true->
      ad 22 [z0,ao,((z4+(((-1)*aj)+((18446744073709551616*z9)+ao)))+(-1))]/\
      ad 23 [0,((z4+(((-1)*aj)+(18446744073709551616*z9)))+(-1))]/\
      ∀ai:Int,0<=ai->ai<=au->ai=aa 22 [z0,ao,((z4+(((-1)*aj)+((18446744073709551616*z9)+ao)))+(-1))]->
      ∀aw:Int,0<=aw->aw<=au->aw=aa 24 [0,ai]->
      (((decide (((z4+(((-1)*aj)+(18446744073709551616*z9)))+(-1))<=0))=true->
       K [[z0],[af]] [[0],[0]]
      )/\((decide (((z4+(((-1)*aj)+(18446744073709551616*z9)))+(-1))<=0))=false->
       ∀aE:Int,(-2)<=aE->aE<=9223372036854775807->
       ad 22 [aw,0,((z4+(((-1)*aj)+(18446744073709551616*z9)))+(-1))]/\
       ∀aA:Int,0<=aA->aA<=au->aA=aa 22 [aw,0,((z4+(((-1)*aj)+(18446744073709551616*z9)))+(-1))]->
       K [[z0],[af]] [[aA],[0]]
      ))
     )/\((decide (aj<=0))=false->
      ∀ai:Int,(-2)<=ai->ai<=9223372036854775807->
      ad 31 [z12,aj]/\
      ad 22 [z0,ao,((z4+(((-1)*aj)+((18446744073709551616*z9)+ao)))+(-1))]/\
      ad 23 [z12,((z4+(((-1)*aj)+(18446744073709551616*z9)))+(-1))]/\
      ∀aw:Int,0<=aw->aw<=au->aw=aa 22 [z0,ao,((z4+(((-1)*aj)+((18446744073709551616*z9)+ao)))+(-1))]->
      ∀aE:Int,0<=aE->aE<=au->aE=aa 24 [z12,aw]->
      ∀aA:Int,(-2)<=aA->aA<=9223372036854775807->
      ad 22 [aE,0,((z4+(18446744073709551616*z9))+(-1))]/\
      ∀aF:Int,0<=aF->aF<=au->aF=aa 22 [aE,0,((z4+(18446744073709551616*z9))+(-1))]->
      K [[z0],[af]] [[aF],[0]]
     ))
     )
    ))
   )/\(
    ∀z9:Int,0<=z9->z9<=1->0<=(aj+9223372036854775809)-18446744073709551616*z9->(aj+9223372036854775809)-18446744073709551616*z9<18446744073709551616->
    ad 32 [((aj+((-18446744073709551616)*z9))+1),z4,z4]/\
    (ad 68 [z4,z3]->
    ∀ao:Int,0<=ao->ao<=9223372036854775809->ao=aa 33 [0,((aj+((-18446744073709551616)*z9))+1),z3]->
    ad 22 [z0,0,aj]/\
    ad 23 [0,aj]/\
    ∀ay:Int,0<=ay->ay<=au->ay=aa 22 [z0,0,aj]->
    ∀z12:Int,0<=z12->z12<=au->z12=aa 24 [0,ay]->
    (((decide (aj<=0))=true->
     ad 22 [z0,ao,((z4+(((-1)*aj)+((18446744073709551616*z9)+ao)))+(-1))]/\
     ad 23 [0,((z4+(((-1)*aj)+(18446744073709551616*z9)))+(-1))]/\
     ∀ai:Int,0<=ai->ai<=au->ai=aa 22 [z0,ao,((z4+(((-1)*aj)+((18446744073709551616*z9)+ao)))+(-1))]->
     ∀aw:Int,0<=aw->aw<=au->aw=aa 24 [0,ai]->
     (((decide (((z4+(((-1)*aj)+(18446744073709551616*z9)))+(-1))<=0))=true->
      K [[z0],[af]] [[0],[0]]
     )/\((decide (((z4+(((-1)*aj)+(18446744073709551616*z9)))+(-1))<=0))=false->
      ∀aE:Int,(-2)<=aE->aE<=9223372036854775807->
      ad 22 [aw,0,((z4+(((-1)*aj)+(18446744073709551616*z9)))+(-1))]/\
      ∀aA:Int,0<=aA->aA<=au->aA=aa 22 [aw,0,((z4+(((-1)*aj)+(18446744073709551616*z9)))+(-1))]->
      K [[z0],[af]] [[aA],[0]]
     ))
    )/\((decide (aj<=0))=false->
     ∀ai:Int,(-2)<=ai->ai<=9223372036854775807->
     ad 31 [z12,aj]/\
     ad 22 [z0,ao,((z4+(((-1)*aj)+((18446744073709551616*z9)+ao)))+(-1))]/\
     ad 23 [z12,((z4+(((-1)*aj)+(18446744073709551616*z9)))+(-1))]/\
     ∀aw:Int,0<=aw->aw<=au->aw=aa 22 [z0,ao,((z4+(((-1)*aj)+((18446744073709551616*z9)+ao)))+(-1))]->
     ∀aE:Int,0<=aE->aE<=au->aE=aa 24 [z12,aw]->
     ∀aA:Int,(-2)<=aA->aA<=9223372036854775807->
     ad 22 [aE,0,((z4+(18446744073709551616*z9))+(-1))]/\
     ∀aF:Int,0<=aF->aF<=au->aF=aa 22 [aE,0,((z4+(18446744073709551616*z9))+(-1))]->
     K [[z0],[af]] [[aF],[0]]
    ))
    )
   ))
  ))
 ))
def FU (S:Nat->List (List Int)->List (List Int)->Prop) (K:List (List Int)->List (List Int)->Prop):Prop:=
 ∀z0:Int,0<=z0->z0<=au->
 (ad 85 [z0]->
 ∀af:Int,0<=af->
 ∀z2:Int,(-2)<=z2->z2<=9223372036854775807->
 ∀z3:Int,0<=z3->z3<=9223372036854775807->z3=aa 20 [z0]->
 ∃(eG:List (List Int)->Prop) (ed:List (List Int)->Nat),eG [[0],[0],[0],[(-1)]]/\(∀z5:Int,0<=z5->z5<=9223372036854775807->∀ak:Int,0<=ak->ak<=au->∀aq:Int,0<=aq->aq<=9223372036854775807->∀aj:Int,(-2)<=aj->aj<=9223372036854775807->eG [[z5],[ak],[aq],[aj]]->
  (((decide (z5<z3))=true->
   ad 30 [z5,z3]/\
   ad 21 [z0,z5]/\
   ∀z9:Int,0<=z9->z9<=aD->z9=aa 21 [z0,z5,0]->
   ∀ao:Int,0<=ao->ao<=aD->ao=aa 21 [z0,z5,1]->
   ∀ay:Int,0<=ay->ay<=bS->ay=aa 21 [z0,z5,2]->
   ∀z12:Int,0<=z12->
   ∀ai:Int,(-2)<=ai->ai<=9223372036854775807->
   ∀aw:Int,0<=aw->aw<=140737488351232->aw=aa 20 [ay]->
   ad 22 [ay,0,aw]/\
   ad 23 [0,aw]/\
   ∀aE:Int,0<=aE->aE<=au->aE=aa 22 [ay,0,aw]->
   ∀aA:Int,0<=aA->aA<=au->aA=aa 24 [0,aE]->
   (((decide (aw<=0))=true->
    ad 31 [ak,aq]/\
    ad 23 [ak,1]/\
    ∀aF:Int,0<=aF->aF<=au->aF=aa 23 [ak,z9,ao,0]->
    ∀aJ:Int,(-2)<=aJ->aJ<=9223372036854775807->
    ∀aK:Int,0<=aK->aK<=1->0<=(z5+9223372036854775809)-18446744073709551616*aK->(z5+9223372036854775809)-18446744073709551616*aK<18446744073709551616->
    ad 39 [((z5+((-18446744073709551616)*aK))+1),0,9223372036854775807]/\
    (eG [[((z5+((-18446744073709551616)*aK))+1)],[aF],[(aq+1)],[aJ]]/\ed [[((z5+((-18446744073709551616)*aK))+1)],[aF],[(aq+1)],[aJ]]<ed [[z5],[ak],[aq],[aj]])
   )/\((decide (aw<=0))=false->
    ∀aF:Int,(-2)<=aF->aF<=9223372036854775807->
    ad 31 [ak,aq]/\
    ad 23 [ak,1]/\
    ad 22 [aA,0,aw]/\
    ad 79 [aw,140737488351232]/\
    ∀aJ:Int,0<=aJ->aJ<=bS->aJ=aa 22 [aA,0,aw]->
    ∀aK:Int,0<=aK->aK<=au->aK=aa 23 [ak,z9,ao,aJ]->
    ∀z20:Int,(-2)<=z20->z20<=9223372036854775807->
    ∀z21:Int,0<=z21->z21<=1->0<=(z5+9223372036854775809)-18446744073709551616*z21->(z5+9223372036854775809)-18446744073709551616*z21<18446744073709551616->
    ad 39 [((z5+((-18446744073709551616)*z21))+1),0,9223372036854775807]/\
    (eG [[((z5+((-18446744073709551616)*z21))+1)],[aK],[(aq+1)],[z20]]/\ed [[((z5+((-18446744073709551616)*z21))+1)],[aK],[(aq+1)],[z20]]<ed [[z5],[ak],[aq],[aj]])
   ))
  )/\((decide (z5<z3))=false->
   ad 22 [ak,0,aq]/\
   ∀z9:Int,0<=z9->z9<=au->z9=aa 22 [ak,0,aq]->
   K [[z0]] [[z9]]
  ))
 )
 )
abbrev iR:bN:= .rd [.str,.str,.sub 1]
theorem AP {id:Nat} {zs:List (List Int)} {y e:Int} (df:0<=y) (cZ:y<=au) (cy:0<=e) (e1:e<=21) (h:SB id zs [[y],[e]]):cx SB [iR,.d (.int .i64 0 21)] id zs [[y],[e]]:=⟨⟨df,cZ,cy,e1,trivial⟩,h⟩
theorem Fm {c a b y:Int} (h:y=aa 22 [c,a,b]):ae y=((ae c).drop a.toNat).take (b.toNat-a.toNat):=by rw[h];simp only[aa,dP]
theorem mY {c d y:Int} (h:y=aa 24 [c,d]):ae y=ae c++ae d:=by rw[h];simp only[aa,dP]
theorem Al {c y:Int} {row:List Int} (h:y=aa 23 (c::row)):ae y=ae c++[row]:=by rw[h];simp only[aa,dP]
theorem YY (a b:Int):gV [a,b,0]=⟨ab a,ab b,[]⟩:=by
 unfold gV aG
 show(⟨ab a,ab b,(ae 0).map λr=>ab (r.getD 0 0)⟩:c2)=_
 rw[dY];rfl
theorem Ao {z:Int} {l:List (List Int)} (h:ae z=l):aB z=l.map gV:=by unfold aB;rw[h]
theorem jt {z k:Int} {n:Nat} (h:(ae z).length=n) (hk:(n:Int)+k<=1073741824):ad 23 [z,k]:=by show((ae z).length:Int)+k<=1073741824;rw[h];exact hk
theorem Ya {p:c2->Bool} {l:List c2} {i:Nat} (hi:i<=l.length) (h:∀j,j<i->p (l.getD j bR)=true) (hs:i<l.length->p (l.getD i bR)=false):l.takeWhile p=l.take i/\l.dropWhile p=l.drop i:=by
 have e:l=l.take i++l.drop i:=(List.take_append_drop i l).symm
 have ha:∀x∈l.take i,p x=true:=λx hx=>by
  obtain⟨j,hj,rfl⟩:=List.getElem_of_mem hx
  rw[List.length_take]at hj
  have:=h j (by omega)
  rw[List.getElem_take]
  simpa [List.getD,show j<l.length by omega]using this
 have hd:(l.drop i).takeWhile p=[]/\(l.drop i).dropWhile p=l.drop i:=by
  rcases Nat.lt_or_ge i l.length with hl|hl
  ·have h1:l.drop i=l[i]::l.drop (i+1):=List.drop_eq_getElem_cons hl
   have h2:=hs hl
   simp only[List.getD,List.getElem?_eq_getElem hl,Option.getD_some]at h2
   rw[h1,List.takeWhile_cons,List.dropWhile_cons,h2];simp
  ·rw[List.drop_eq_nil_of_le hl];simp
 constructor
 ·conv=>lhs;rw[e]
  rw[List.takeWhile_append_of_pos ha,hd.1,List.append_nil]
 ·conv=>lhs;rw[e]
  rw[List.dropWhile_append_of_pos ha,hd.2]
theorem Ai {z0 c w e a:Int} {i:Nat} {n:Int} (hn:n=((ae z0).length:Int)) (ha:a=(i:Int)) (hi:i<=(ae z0).length) (hc:ad 68 [n,c]) (hw:w=aa 33 [0,a,c]) (he:e=n-i+w):ad 22 [z0,w,e]/\∀y:Int,y=aa 22 [z0,w,e]->ae y=(ae z0).drop i:=by
 have hc:n<=c∨n=0:=hc
 have hw:w=if a=c then 0 else 0+a:=hw
 have hx:(w=0/\i=(ae z0).length)∨w=(i:Int):=by
  split at hw
  ·rcases hc with h|h
   ·exact .inl ⟨hw,by omega⟩
   ·exact .inl ⟨hw,by omega⟩
  ·exact .inr (by omega)
 rcases hx with⟨h,h'⟩|h
 ·refine⟨⟨by omega,by omega,by omega⟩,λy hy=>?_⟩
  rw[Fm hy,show e.toNat-w.toNat=0 by omega,List.take_zero,h',List.drop_length]
 ·refine⟨⟨by omega,by omega,by omega⟩,λy hy=>?_⟩
  rw[Fm hy,h,Int.toNat_natCast,List.take_of_length_le (by rw[List.length_drop];omega)]
theorem I6 {z0 y a:Int} {i:Nat} (ha:a=(i:Int)) (h:y=aa 22 [z0,0,a]):ae y=(ae z0).take i:=by
 rw[Fm h,ha];simp
theorem VZ:FW SB (cx SB [iR,.d (.int .i64 0 21)] 532):=by
 intro z0 a0 a1 af b0 b1 z2 bY c1 z3 _ z4 _ _ z5 _ _ h5
 have h5:z5=((ae z0).length:Int):=h5
 have c9:ad 22 [z0,0,z5]:=⟨by omega,by omega,by omega⟩
 have hl:=fD z0
 have bc:∀{y e:Int},0<=y->y<=au->0<=e->e<=21->(aB y,e)=kq (aB z0) (ab af) (ab z2)->cx SB [iR,.d (.int .i64 0 21)] 532 [[z0],[af],[z2]] [[y],[e]]:=λh1 h2 h3 h4 h=>AP h1 h2 h3 h4 h
 refine⟨c9,λak _ _ h6 aq _ _ h7=>?_⟩
 have h7:aq=aT (cO (aB ak)):=h7
 rw[dJ h5 h6]at h7
 have rr:=ee h7
 have D8:(cO (aB z0)&&(b8 (ab af)&&gp (ab z2)))=false->ad 22 [z0,0,z5]/\∀y:Int,0<=y->y<=au->y=aa 22 [z0,0,z5]->cx SB [iR,.d (.int .i64 0 21)] 532 [[z0],[af],[z2]] [[y],[1]]:=λh=>⟨c9,λy df cZ hy=>bc df cZ (by decide) (by decide) (by rw[dJ h5 hy];unfold kq;rw[h];rfl)⟩
 refine⟨λhn=>D8 (by rw[<-rr,eH hn];rfl),λhn aj _ _ bw=>?_⟩
 have bw:aj=aT (b8 (ab af)):=bw
 have IZ:=ee bw
 refine⟨λhs=>D8 (by rw[<-IZ,eH hs];simp),λhs z9 _ _ bk=>?_⟩
 have bk:z9=aT (gp (ab z2)):=bk
 have I0:=ee bk
 refine⟨λhm=>D8 (by rw[<-I0,eH hm];simp),λhm=>⟨c9,λao _ _ dv ay _ _ cD=>?_⟩⟩
 have hr:cO (aB z0)=true:=by rw[<-rr];exact dL hn
 have hall:(cO (aB z0)&&(b8 (ab af)&&gp (ab z2)))=true:=by rw[hr,<-IZ,dL hs,<-I0,dL hm];rfl
 have cD:ay=match(aB ao).findIdx? (λu=>decide (u.tok=ab af))with|some k=>(k:Int)|none=>-1:=cD
 rw[dJ h5 dv]at cD
 refine⟨λhp=>⟨c9,λy df cZ hy=>bc df cZ (by decide) (by decide) ?_⟩,λhp=>?_⟩
 ·rw[dJ h5 hy]
  unfold kq
  rw[hall,cond_true]
  cases hf:(aB z0).findIdx? (λu=>decide (u.tok=ab af))with
  |none=>rw[hf]at cD;subst cD;exact absurd hp (by decide)
  |some k=>rfl
 have wh:((aB z0).findIdx? (λu=>decide (u.tok=ab af))).isSome=false:=by
  cases hf:(aB z0).findIdx? (λu=>decide (u.tok=ab af))with
  |none=>rfl
  |some k=>
   rw[hf]at cD
   have:=of_decide_eq_false hp
   have cD:ay=(k:Int):=cD
   omega
 refine⟨λdT=>⟨c9,λy df cZ hy=>bc df cZ (by decide) (by decide) ?_⟩,λdT=>?_⟩
 ·rw[dJ h5 hy]
  unfold kq
  rw[hall,cond_true,wh,cond_false,decide_eq_true (show(aB z0).length=16 by have:=of_decide_eq_true dT;omega)];rfl
 have dT:=of_decide_eq_false dT
 have hle:(ae z0).length<=16:=by
  have:=((oW _).1 hr).1
  omega
 have done:∀i:Nat,i<=(ae z0).length->(∀j,j<i->Op.bytesLess ((aB z0).getD j bR).tok (ab af)=true)->(i<(ae z0).length->Op.bytesLess ((aB z0).getD i bR).tok (ab af)=false)->∀y:Int,0<=y->y<=au->ae y=(ae z0).take i++[af,z2,0]::(ae z0).drop i->cx SB [iR,.d (.int .i64 0 21)] 532 [[z0],[af],[z2]] [[y],[0]]:=λi hi h1 h2 y df cZ hy=>bc df cZ (by decide) (by decide) (by
  obtain⟨t1,t2⟩:=Ya (p:=λu=>Op.bytesLess u.tok (ab af)) (l:=aB z0) (i:=i) (by omega) h1 (λh=>h2 (by omega))
  unfold kq
  rw[hall,cond_true,wh,cond_false,decide_eq_false (show ¬(aB z0).length=16 by omega),cond_false,t1,t2,Ao hy,List.map_append,List.map_cons,YY]
  unfold aB
  rw[List.map_take,List.map_drop])
 refine⟨λbl=>∃i:Nat,bl=[[(i:Int)]]/\i<=(ae z0).length/\∀j:Nat,j<i->Op.bytesLess ((aB z0).getD j bR).tok (ab af)=true,k0 z0,⟨0,rfl,Nat.zero_le _,λj hj=>absurd hj (Nat.not_lt_zero j)⟩,?_⟩
 rintro ai d0 d1 ⟨i,e,hi,hI⟩
 obtain rfl:ai=i:=by simpa using e
 have Gp:(i<(ae z0).length->Op.bytesLess ((aB z0).getD i bR).tok (ab af)=false)->ad 68 [z5,z4]->∀aw:Int,0<=aw->aw<=9223372036854775809->aw=aa 33 [0,(i:Int),z4]->(
  ad 22 [z0,0,(i:Int)]/\
  ad 23 [0,(i:Int)]/\
  ∀aE:Int,0<=aE->aE<=au->aE=aa 22 [z0,0,(i:Int)]->
  ∀aA:Int,0<=aA->aA<=au->aA=aa 24 [0,aE]->
  (((decide ((i:Int)<=0))=true->
   ad 23 [0,1]/\
   ∀aF:Int,0<=aF->aF<=au->aF=aa 23 [0,af,z2,0]->
   ∀aJ:Int,(-2)<=aJ->aJ<=9223372036854775807->
   ad 31 [aF,1]/\
   ad 22 [z0,aw,(z5+(((-1)*(i:Int))+aw))]/\
   ad 23 [aF,(z5+((-1)*(i:Int)))]/\
   ∀aK:Int,0<=aK->aK<=au->aK=aa 22 [z0,aw,(z5+(((-1)*(i:Int))+aw))]->
   ∀z20:Int,0<=z20->z20<=au->z20=aa 24 [aF,aK]->
   ∀z21:Int,(-2)<=z21->z21<=9223372036854775807->
   ad 22 [z20,0,((z5+((-1)*(i:Int)))+1)]/\
   ∀aL:Int,0<=aL->aL<=au->aL=aa 22 [z20,0,((z5+((-1)*(i:Int)))+1)]->
   cx SB [iR,.d (.int .i64 0 21)] 532 [[z0],[af],[z2]] [[aL],[0]]
  )/\((decide ((i:Int)<=0))=false->
   ∀aF:Int,(-2)<=aF->aF<=9223372036854775807->
   ad 31 [aA,(i:Int)]/\
   ad 23 [aA,1]/\
   ∀aJ:Int,0<=aJ->aJ<=au->aJ=aa 23 [aA,af,z2,0]->
   ∀aK:Int,(-2)<=aK->aK<=9223372036854775807->
   ad 31 [aJ,((i:Int)+1)]/\
   ad 22 [z0,aw,(z5+(((-1)*(i:Int))+aw))]/\
   ad 23 [aJ,(z5+((-1)*(i:Int)))]/\
   ∀z20:Int,0<=z20->z20<=au->z20=aa 22 [z0,aw,(z5+(((-1)*(i:Int))+aw))]->
   ∀z21:Int,0<=z21->z21<=au->z21=aa 24 [aJ,z20]->
   ∀aL:Int,(-2)<=aL->aL<=9223372036854775807->
   ad 22 [z21,0,(z5+1)]/\
   ∀aQ:Int,0<=aQ->aQ<=au->aQ=aa 22 [z21,0,(z5+1)]->
   cx SB [iR,.d (.int .i64 0 21)] 532 [[z0],[af],[z2]] [[aQ],[0]]
  ))):=λJE hc w _ _ hw=>by
  obtain⟨oY,mW⟩:=Ai (e:=z5+(((-1)*(i:Int))+w)) h5 rfl hi hc hw (by omega)
  refine⟨⟨by omega,by omega,by omega⟩,jt (n:=0) (by rw[dY];rfl) (by omega),λaE _ _ dg aA _ _ dT=>?_⟩
  have qV:ae aE=(ae z0).take i:=I6 rfl dg
  have qW:ae aA=(ae z0).take i:=by rw[mY dT,dY,List.nil_append,qV]
  have DI:(ae aA).length=i:=by rw[qW,List.length_take];omega
  refine⟨λhz=>?_,λhz aF _ _=>?_⟩
  ·have hz:=of_decide_eq_true hz
   have i0:i=0:=by omega
   subst i0
   refine⟨jt (n:=0) (by rw[dY];rfl) (by decide),λaF _ _ gd aJ _ _=>?_⟩
   have BL:ae aF=[[af,z2,0]]:=by rw[Al gd,dY];rfl
   refine⟨by show(1:Int)=((ae aF).length:Int);rw[BL];rfl,oY,jt (n:=1) (by rw[BL];rfl) (by omega),λaK _ _ lh z20 _ _ ju z21 _ _=>?_⟩
   have HK:ae z20=[af,z2,0]::ae z0:=by rw[mY ju,BL,mW _ lh];rfl
   have aaA:(ae z20).length=(ae z0).length+1:=by rw[HK];rfl
   refine⟨⟨by omega,by omega,by omega⟩,λy df cZ hy=>done 0 (Nat.zero_le _) hI JE y df cZ ?_⟩
   rw[l8 (by omega) hy,HK];rfl
  ·refine⟨by show(i:Int)=((ae aA).length:Int);rw[DI],jt DI (by omega),λaJ _ _ fQ aK _ _=>?_⟩
   have vt:ae aJ=(ae z0).take i++[[af,z2,0]]:=by rw[Al fQ,qW]
   have Kf:(ae aJ).length=i+1:=by rw[vt,List.length_append,<-qW,DI];rfl
   refine⟨by show(i:Int)+1=((ae aJ).length:Int);rw[Kf];omega,oY,jt Kf (by omega),λz20 _ _ ju z21 _ _ tn aL _ _=>?_⟩
   have HL:ae z21=(ae z0).take i++[af,z2,0]::(ae z0).drop i:=by rw[mY tn,vt,mW _ ju,List.append_assoc];rfl
   have aaB:(ae z21).length=(ae z0).length+1:=by rw[HL,List.length_append,List.length_cons,List.length_take,List.length_drop];omega
   refine⟨⟨by omega,by omega,by omega⟩,λy df cZ hy=>done i hi hI JE y df cZ ?_⟩
   rw[l8 (by omega) hy,HL]
 refine⟨λhlt=>?_,λct=>⟨⟨by omega,by omega,by omega⟩,⟨by omega,by omega,by omega⟩,λhc w w0 w1 hw=>(λx=>⟨⟨x,⟨x,x⟩⟩,⟨⟨x,x⟩,x⟩⟩) (Gp (λh=>by have:=of_decide_eq_false ct;omega) hc w w0 w1 hw)⟩⟩
 have hlt:=of_decide_eq_true hlt
 have bM:i<(ae z0).length:=by omega
 refine⟨⟨by omega,by omega⟩,⟨by omega,by omega⟩,λaw _ _ cK aE _ _ dg=>?_⟩
 have cK:ab aw=((aB z0).getD i bR).tok:=by rw[kt bM,cK];simp only[aa,Int.toNat_natCast];rfl
 have dg:=wR dg
 rw[cK]at dg
 refine⟨λhq aA x0 x1 cU dm=>⟨⟨by omega,by omega⟩,⟨i+1,by rw[show(i:Int)+(-18446744073709551616)*aA+1=((i+1:Nat):Int) by omega],by omega,λj hj=>?_⟩,?_⟩,λhq=>⟨⟨by omega,by omega,by omega⟩,⟨by omega,by omega,by omega⟩,λhc w w0 w1 hw=>(λx=>⟨⟨x,⟨x,x⟩⟩,⟨⟨x,x⟩,x⟩⟩) (Gp (λ_=>by rw[<-dg];exact hq) hc w w0 w1 hw)⟩⟩
 ·rcases Nat.lt_or_ge j i with h|h
  ·exact hI j h
  ·obtain rfl:j=i:=by omega
   rw[<-dg];exact hq
 ·show(ae z0).length-((i:Int)+(-18446744073709551616)*aA+1).toNat<(ae z0).length-((i:Int)).toNat;omega
theorem VY:FV SB (cx SB [iR,.d (.int .i64 0 21)] 533):=by
 intro z0 a0 a1 af b0 b1 z2 _ z3 _ _ z4 _ _ h4
 have h4:z4=((ae z0).length:Int):=h4
 have c9:ad 22 [z0,0,z4]:=⟨by omega,by omega,by omega⟩
 have hl:=fD z0
 have bc:∀{y e:Int},0<=y->y<=au->0<=e->e<=21->(aB y,e)=nB (aB z0) (ab af)->cx SB [iR,.d (.int .i64 0 21)] 533 [[z0],[af]] [[y],[e]]:=λh1 h2 h3 h4 h=>AP h1 h2 h3 h4 h
 refine⟨c9,λz5 _ _ h5 ak _ _ h6=>?_⟩
 have h6:ak=aT (cO (aB z5)):=h6
 rw[dJ h4 h5]at h6
 have pE:=ee h6
 refine⟨λhn=>⟨c9,λy df cZ hy=>bc df cZ (by decide) (by decide) ?_⟩,λhn=>⟨c9,λaq _ _ h7 aj _ _ bw=>?_⟩⟩
 ·rw[dJ h4 hy]
  unfold nB
  rw[zi (by rw[<-pE,eH hn])];rfl
 have hr:cO (aB z0)=true:=by rw[<-pE];exact dL hn
 have hle:(ae z0).length<=16:=by
  have:=((oW _).1 hr).1
  omega
 have bw:aj=match(aB aq).findIdx? (λu=>decide (u.tok=ab af))with|some k=>(k:Int)|none=>-1:=bw
 rw[dJ h4 h7]at bw
 obtain⟨p1,bz⟩:=zL hr bw
 refine⟨λhq=>⟨c9,λy df cZ hy=>bc df cZ (by decide) (by decide) ?_⟩,λhq=>?_⟩
 ·rw[dJ h4 hy]
  unfold nB
  rw[p1 (of_decide_eq_true hq)];rfl
 obtain⟨q1,q2,q3⟩:=bz (of_decide_eq_false hq)
 rw[fD]at q3
 obtain⟨k,rfl⟩:=Int.eq_ofNat_of_zero_le q2
 have iH:k<(ae z0).length:=by omega
 have done:∀y:Int,0<=y->y<=au->ae y=(ae z0).take k++(ae z0).drop (k+1)->cx SB [iR,.d (.int .i64 0 21)] 533 [[z0],[af]] [[y],[0]]:=λy df cZ hy=>bc df cZ (by decide) (by decide) (by
  unfold nB
  rw[q1,Ao hy,List.map_append]
  unfold aB
  rw[List.map_take,List.map_drop];rfl)
 have Kd:ad 22 [z0,0,(k:Int)]:=⟨by omega,by omega,by omega⟩
 have tU:ad 23 [0,(k:Int)]:=jt (n:=0) (by rw[dY];rfl) (by omega)
 have h0:∀{a b:Int},a=aa 22 [z0,0,(k:Int)]->b=aa 24 [0,a]->ae b=(ae z0).take k/\(ae b).length=k:=λ{a b} ha hb=>by
  have e:ae b=(ae z0).take k:=by rw[mY hb,dY,List.nil_append,I6 rfl ha]
  exact⟨e,by rw[e,List.length_take];omega⟩
 have qo:∀{b n y:Int},ae b=(ae z0).take k++(ae z0).drop (k+1)->n=((ae z0).length:Int)-1->ad 22 [b,0,n]/\(y=aa 22 [b,0,n]->ae y=(ae z0).take k++(ae z0).drop (k+1)):=λ{b n y} hb hn=>by
  have l:(ae b).length+1=(ae z0).length:=by rw[hb,List.length_append,List.length_take,List.length_drop];omega
  exact⟨⟨by omega,by omega,by omega⟩,λhy=>by rw[l8 (by omega) hy,hb]⟩
 have A:∀v:Int,0<=v->v<=1->0<=((k:Int)+9223372036854775809)-18446744073709551616*v->((k:Int)+9223372036854775809)-18446744073709551616*v<18446744073709551616->v=0:=λv h1 h2 h3 h4=>by omega
 have kX:∀z9:Int,0<=z9->z9<=1->0<=((k:Int)+9223372036854775809)-18446744073709551616*z9->((k:Int)+9223372036854775809)-18446744073709551616*z9<18446744073709551616->(
  ad 32 [(((k:Int)+((-18446744073709551616)*z9))+1),z4,z4]/\
  (ad 68 [z4,z3]->
  ∀ao:Int,0<=ao->ao<=9223372036854775809->ao=aa 33 [0,(((k:Int)+((-18446744073709551616)*z9))+1),z3]->
  ad 22 [z0,0,(k:Int)]/\
  ad 23 [0,(k:Int)]/\
  ∀ay:Int,0<=ay->ay<=au->ay=aa 22 [z0,0,(k:Int)]->
  ∀z12:Int,0<=z12->z12<=au->z12=aa 24 [0,ay]->
  (((decide ((k:Int)<=0))=true->
   ad 22 [z0,ao,((z4+(((-1)*(k:Int))+((18446744073709551616*z9)+ao)))+(-1))]/\
   ad 23 [0,((z4+(((-1)*(k:Int))+(18446744073709551616*z9)))+(-1))]/\
   ∀ai:Int,0<=ai->ai<=au->ai=aa 22 [z0,ao,((z4+(((-1)*(k:Int))+((18446744073709551616*z9)+ao)))+(-1))]->
   ∀aw:Int,0<=aw->aw<=au->aw=aa 24 [0,ai]->
   (((decide (((z4+(((-1)*(k:Int))+(18446744073709551616*z9)))+(-1))<=0))=true->
    cx SB [iR,.d (.int .i64 0 21)] 533 [[z0],[af]] [[0],[0]]
   )/\((decide (((z4+(((-1)*(k:Int))+(18446744073709551616*z9)))+(-1))<=0))=false->
    ∀aE:Int,(-2)<=aE->aE<=9223372036854775807->
    ad 22 [aw,0,((z4+(((-1)*(k:Int))+(18446744073709551616*z9)))+(-1))]/\
    ∀aA:Int,0<=aA->aA<=au->aA=aa 22 [aw,0,((z4+(((-1)*(k:Int))+(18446744073709551616*z9)))+(-1))]->
    cx SB [iR,.d (.int .i64 0 21)] 533 [[z0],[af]] [[aA],[0]]
   ))
  )/\((decide ((k:Int)<=0))=false->
   ∀ai:Int,(-2)<=ai->ai<=9223372036854775807->
   ad 31 [z12,(k:Int)]/\
   ad 22 [z0,ao,((z4+(((-1)*(k:Int))+((18446744073709551616*z9)+ao)))+(-1))]/\
   ad 23 [z12,((z4+(((-1)*(k:Int))+(18446744073709551616*z9)))+(-1))]/\
   ∀aw:Int,0<=aw->aw<=au->aw=aa 22 [z0,ao,((z4+(((-1)*(k:Int))+((18446744073709551616*z9)+ao)))+(-1))]->
   ∀aE:Int,0<=aE->aE<=au->aE=aa 24 [z12,aw]->
   ∀aA:Int,(-2)<=aA->aA<=9223372036854775807->
   ad 22 [aE,0,((z4+(18446744073709551616*z9))+(-1))]/\
   ∀aF:Int,0<=aF->aF<=au->aF=aa 22 [aE,0,((z4+(18446744073709551616*z9))+(-1))]->
   cx SB [iR,.d (.int .i64 0 21)] 533 [[z0],[af]] [[aF],[0]]
  ))
  )):=λv v0 v1 v2 v3=>by
  have hv:=A v v0 v1 v2 v3
  subst hv
  refine⟨⟨by omega,by omega,by omega⟩,λhc w _ _ hw=>⟨Kd,tU,λay _ _ cD z12 _ _ c6=>?_⟩⟩
  obtain⟨BK,wQ⟩:=h0 cD c6
  obtain⟨oY,mW⟩:=Ai (i:=k+1) (e:=(z4+(((-1)*(k:Int))+((18446744073709551616*0)+w)))+(-1)) h4 (by omega) (by omega) hc hw (by omega)
  refine⟨λhz=>?_,λhz ai _ _=>?_⟩
  ·have hz:=of_decide_eq_true hz
   have i0:k=0:=by omega
   subst i0
   refine⟨oY,jt (n:=0) (by rw[dY];rfl) (by omega),λai _ _ dS aw _ _ cK=>?_⟩
   have vr:ae aw=(ae z0).take 0++(ae z0).drop (0+1):=by rw[mY cK,dY,mW _ dS];rfl
   refine⟨λhy=>?_,λhy aE _ _=>⟨(qo (y:=0) vr (by omega)).1,λy df cZ al=>done y df cZ ((qo vr (by omega)).2 al)⟩⟩
   have hy:=of_decide_eq_true hy
   exact done 0 (Int.le_refl _) o9 (by rw[dY,List.take_zero,List.nil_append,List.drop_eq_nil_of_le (by omega)])
  ·refine⟨by show(k:Int)=((ae z12).length:Int);rw[wQ],oY,jt wQ (by omega),λaw _ _ cK aE _ _ dg aA _ _=>?_⟩
   have qV:ae aE=(ae z0).take k++(ae z0).drop (k+1):=by rw[mY dg,BK,mW _ cK]
   exact⟨(qo (y:=0) qV (by omega)).1,λy df cZ al=>done y df cZ ((qo qV (by omega)).2 al)⟩
 refine⟨⟨by omega,by omega,by omega⟩,⟨⟨Kd,tU,λz9 _ _ bk ao _ _ dv=>?_⟩,kX⟩,kX⟩
 obtain⟨BK,wQ⟩:=h0 bk dv
 refine⟨λhz ay x0 x1 cU dm=>?_,λhz ay _ _ z12 x0 x1 cU dm=>?_⟩
 ·obtain rfl:=A ay x0 x1 cU dm
  refine⟨⟨by omega,by omega,by omega⟩,λhc w _ _ hw=>?_⟩
  obtain⟨oY,mW⟩:=Ai (i:=k+1) (e:=(z4+(((-1)*(k:Int))+((18446744073709551616*0)+w)))+(-1)) h4 (by omega) (by omega) hc hw (by omega)
  have hz:=of_decide_eq_true hz
  have i0:k=0:=by omega
  subst i0
  refine⟨oY,jt (n:=0) (by rw[dY];rfl) (by omega),λai _ _ dS aw _ _ cK=>?_⟩
  have vr:ae aw=(ae z0).take 0++(ae z0).drop (0+1):=by rw[mY cK,dY,mW _ dS];rfl
  refine⟨λhy=>?_,λhy aE _ _=>⟨(qo (y:=0) vr (by omega)).1,λy df cZ al=>done y df cZ ((qo vr (by omega)).2 al)⟩⟩
  have hy:=of_decide_eq_true hy
  exact done 0 (Int.le_refl _) o9 (by rw[dY,List.take_zero,List.nil_append,List.drop_eq_nil_of_le (by omega)])
 ·obtain rfl:=A z12 x0 x1 cU dm
  refine⟨⟨by omega,by omega,by omega⟩,λhc w _ _ hw=>?_⟩
  obtain⟨oY,mW⟩:=Ai (i:=k+1) (e:=(z4+(((-1)*(k:Int))+((18446744073709551616*0)+w)))+(-1)) h4 (by omega) (by omega) hc hw (by omega)
  refine⟨by show(k:Int)=((ae ao).length:Int);rw[wQ],oY,jt wQ (by omega),λaw _ _ cK aE _ _ dg aA _ _=>?_⟩
  have qV:ae aE=(ae z0).take k++(ae z0).drop (k+1):=by rw[mY dg,BK,mW _ cK]
  exact⟨(qo (y:=0) qV (by omega)).1,λy df cZ al=>done y df cZ ((qo qV (by omega)).2 al)⟩
theorem VX:FU SB (cx SB [iR] 539):=by
 intro z0 a0 a1 fT af _ z2 _ _ z3 _ c1 h3
 have h3:z3=((ae z0).length:Int):=h3
 obtain⟨pM,pN⟩:(ae z0).length<=1000000/\∀row∈ae z0,(ae (row.getD 2 0)).length<=1000000:=fT
 have hl:=fD z0
 refine⟨λbl=>∃(i:Nat) (c k:Int),bl=[[(i:Int)],[c],[(i:Int)],[k]]/\i<=(ae z0).length/\aB c=(aB z0).take i,λbl=>(ae z0).length-((bl.getD 0 []).getD 0 0).toNat,⟨0,0,-1,rfl,Nat.zero_le _,by rw[MF];rfl⟩,?_⟩
 rintro z5 d0 d1 ak f0 f1 aq g0 g1 aj _ _ ⟨i,c,k,e,hi,hI⟩
 simp only[List.cons.injEq,and_true]at e
 obtain⟨rfl,rfl,rfl,rfl⟩:=e
 have Kg:(ae ak).length=i:=by rw[<-fD,hI,List.length_take];omega
 refine⟨λhlt=>?_,λct=>⟨⟨by omega,by omega,by omega⟩,λy df cZ hy=>⟨⟨df,cZ,trivial⟩,?_⟩⟩⟩
 rotate_left
 ·show aB y=aB z0
  rw[dJ (by omega) hy,hI,List.take_of_length_le (by have:=of_decide_eq_false ct;omega)]
 have hlt:=of_decide_eq_true hlt
 have bM:i<(ae z0).length:=by omega
 refine⟨⟨by omega,by omega⟩,⟨by omega,by omega⟩,λz9 _ _ bk ao _ _ dv ay _ _ cD z12 _ ai _ _ aw _ _ cK=>?_⟩
 have cK:aw=((ae ay).length:Int):=cK
 have hg:(ae z0).getD i []∈ae z0:=by simp only[List.getD,List.getElem?_eq_getElem bM,Option.getD_some];exact List.getElem_mem bM
 have oa:z9=((ae z0).getD i []).getD 0 0:=by rw[bk];simp only[aa,Int.toNat_natCast];rfl
 have s7:ao=((ae z0).getD i []).getD 1 0:=by rw[dv];simp only[aa,Int.toNat_natCast];rfl
 have HJ:ay=((ae z0).getD i []).getD 2 0:=by rw[cD];simp only[aa,Int.toNat_natCast];rfl
 have aaz:(ae ay).length<=1000000:=by rw[HJ];exact pN _ hg
 have step:∀{c' r:Int},c'=aa 23 [ak,z9,ao,r]->aG r=aG ay->aB c'=(aB z0).take (i+1):=λ{c' r} hc hr=>by
  rw[Ao (Al hc),List.map_append]
  show aB ak++[gV [z9,ao,r]]=_
  have gM:(aB z0)[i]?=some (gV ((ae z0).getD i [])):=by unfold aB;rw[List.getElem?_map,List.getD,List.getElem?_eq_getElem bM];rfl
  rw[hI,List.take_add_one,gM]
  show _++[gV [z9,ao,r]]=_++[gV ((ae z0).getD i [])]
  have:gV [z9,ao,r]=gV ((ae z0).getD i []):=by
   unfold gV
   show(⟨ab z9,ab ao,aG r⟩:c2)=_
   rw[hr,oa,s7,HJ]
  rw[this]
 refine⟨⟨by omega,by omega,by omega⟩,jt (n:=0) (by rw[dY];rfl) (by omega),λaE _ _ dg aA _ _ dT=>?_⟩
 have qW:ae aA=ae ay:=by rw[mY dT,dY,List.nil_append,l8 cK dg]
 have mO:ad 31 [ak,(i:Int)]:=by show(i:Int)=((ae ak).length:Int);rw[Kg]
 have J7:ad 23 [ak,1]:=jt Kg (by omega)
 refine⟨λhz=>⟨mO,J7,λaF _ _ gd aJ _ _ aK x0 x1 cU dm=>⟨⟨by omega,by omega⟩,⟨i+1,aF,aJ,by rw[show(i:Int)+(-18446744073709551616)*aK+1=((i+1:Nat):Int) by omega];rfl,by omega,step gd ?_⟩,?_⟩⟩,λhz aF _ _=>⟨mO,J7,⟨by omega,by omega,by rw[qW];omega⟩,by show aw<=140737488351232;omega,λaJ _ _ fQ aK _ _ lh z20 _ _ z21 x0 x1 cU dm=>⟨⟨by omega,by omega⟩,⟨i+1,aK,z20,by rw[show(i:Int)+(-18446744073709551616)*z21+1=((i+1:Nat):Int) by omega];rfl,by omega,step lh ?_⟩,?_⟩⟩⟩
 ·have hz:=of_decide_eq_true hz
  unfold aG
  rw[dY,List.eq_nil_of_length_eq_zero (show(ae ay).length=0 by omega)]
 ·show(ae z0).length-((i:Int)+(-18446744073709551616)*aK+1).toNat<(ae z0).length-((i:Int)).toNat;omega
 ·unfold aG
  rw[l8 (by rw[qW];exact cK) fQ,qW]
 ·show(ae z0).length-((i:Int)+(-18446744073709551616)*z21+1).toNat<(ae z0).length-((i:Int)).toNat;omega
end Go.bG
