/- The address seat: what each function says,on texts. -/
import Derived.Test.YtejjagiggkgdmaaGreatDoorPac

set_option linter.unusedVariables false
set_option linter.unusedSimpArgs false
namespace Go.bG
open Go Go.bo
abbrev aI:=List UInt8
def u8 (z:Int):UInt8:=UInt8.ofNat z.toNat
def aT (b:Bool):Int:=cond b 1 0
def jz (p:UInt8->Bool) (l:aI):aI:=l.dropWhile p
def hS (p:UInt8->Bool) (l:aI):aI:=(l.reverse.dropWhile p).reverse
def ix (p:UInt8->Bool) (l:aI):aI:=jz p (hS p l)
def dd (l:aI):Bool:=(List.range l.length).any λi=>l.getD i 0==46&&l.getD (i+1) 0==46
def jQ (c:UInt8):Bool:=Nat.ble 97 c.toNat&&Nat.ble c.toNat 122
def lY (c:UInt8):Bool:=Nat.ble 65 c.toNat&&Nat.ble c.toNat 90
def dT (c:UInt8):Bool:=Nat.ble 48 c.toNat&&Nat.ble c.toNat 57
def XE:aI:=[33,35,36,37,38,39,42,43,47,61,63,94,95,96,123,124,125,126,45]
def SG (c:UInt8):Bool:=jQ c||lY c||dT c||XE.contains c||c==46
def iB (c:UInt8):Bool:=c==46||c==45
def jd (c:UInt8):Bool:=jQ c||lY c||dT c||iB c
def p7 (inn fQ:UInt8->Bool) (s:aI):Bool:=(List.range s.length).all λi=>
 inn (s.getD i 0)&&(!fQ (s.getD i 0)||(Nat.blt 0 i&&Nat.blt (i+1) s.length))&& !(s.getD i 0==46&&Nat.blt 0 i&&s.getD (i-1) 0==46)
def D5 (s:aI):Bool:=Nat.blt 0 s.length&&Nat.ble s.length 64&&p7 SG (·==46) s
def gg (s:aI):Bool:=Nat.blt 0 s.length&&Nat.ble s.length 230&&p7 jd iB s
def nF (s:aI):Bool:=Nat.blt 0 s.length&&Nat.ble s.length 5&&s.all dT
def kB (c:Int) (s:aI):aI×aI×Int:=cond (decide (0<=idx c s)) (s.take (idx c s).toNat,s.drop ((idx c s).toNat+1),1) (s,[],0)
def hT (s:aI):Bool:=gg (kB 58 s).1&&(decide ((kB 58 s).2.2=0)||nF (kB 58 s).2.1)
def lo (c:UInt8):UInt8:=cond (lY c) (UInt8.ofNat (c.toNat+32)) c
def lower (s:aI):aI:=s.map lo
def O7 (t:aI):aI×Int:=
 cond (decide (0<=idx 64 t)&&Nat.ble t.length 254&&D5 (t.take (idx 64 t).toNat)&&gg (t.drop ((idx 64 t).toNat+1))&&(t.drop ((idx 64 t).toNat+1)).contains 46) (lower t,0) ([],2)
def BX (s:aI):aI×Int:=O7 (ix (·==32) s)
def Xx:aI:=[32,45,46,40,41]
def vm:aI->aI->Bool->Option (aI×Bool)
 |[],d,p=>some (d,p)
 |c::r,d,p=>cond (dT c) (vm r (d++[c]) p) (cond (c==43&&d.isEmpty&& !p) (vm r d true) (cond (Xx.contains c) (vm r d p) none))
def BM (w:aI):Option (aI×aI):=
 cond (w==[]) (some ([],[])) (cond (w==[71,66]) (some ([52,52],[48])) (cond (w==[85,83]) (some ([49],[])) (cond (w==[68,69]) (some ([52,57],[48])) (cond (w==[70,82]) (some ([51,51],[48])) (cond (w==[67,72]) (some ([52,49],[48])) none)))))
def WA (w code ql d:aI) (p:Bool):aI:=cond (!p&& !(w==[])) (code++cond (ql.isPrefixOf d) (d.drop ql.length) d) d
def Wz (n:aI):aI×Int:=cond (Nat.blt n.length 6||Nat.blt 15 n.length||n.getD 0 0==48) ([],2) (n,0)
def Ez (w s:aI):aI×Int:=match BM w with
 |none=>([],7)
 |some (code,ql)=>match vm s [] false with
  |none=>([],2)
  |some (d,p)=>Wz (WA w code ql d p)
def D0 (a b c d:aI):Bool:=cond (a==c) (Op.bytesLess b d) (Op.bytesLess a c)
def O6:aI:=[101,109,97,105,108]
def Us:aI:=[109,115,105,115,100,110]
def KQ (m:aI) (p:aI×Int):aI×aI×Int:=cond (decide (p.2=0)) (m,p.1,0) ([],[],p.2)
def wY (m w:aI):aI×aI×Int:=cond (m==O6) (KQ m (BX w)) (cond (m==Us) (KQ m (Ez [] w)) ([],[],1))
def xk (m w:aI):Bool:=decide ((wY m w).2.2=0)&&(m==(wY m w).1)&&(w==(wY m w).2.1)
def nt (c:UInt8):Bool:=jQ c||dT c||([46,95,61,47,43,45]:aI).contains c
def J9 (c:UInt8):Bool:=jQ c||lY c||dT c
def gQ (k:UInt8) (s:aI):aI×aI×Int:=
 cond (Nat.blt 0 s.length&&Nat.ble s.length 255&&s.getD 0 0==k&&decide (0<=idx 58 s)&&hT (s.drop ((idx 58 s).toNat+1))) ((s.take (idx 58 s).toNat).drop 1,s.drop ((idx 58 s).toNat+1),1) ([],[],0)
def kM (k:UInt8) (inn:UInt8->Bool) (most:Nat) (s:aI):Bool:=
 decide ((gQ k s).2.2=1)&&Nat.blt 0 (gQ k s).1.length&&Nat.ble (gQ k s).1.length most&&(gQ k s).1.all inn
def gn (s:aI):Bool:=kM 64 nt 200 s
def z1 (s:aI):Bool:=kM 33 J9 64 s
def Mm (s:aI):aI×aI×Int:=cond (gn s||z1 s) ((s.take (idx 58 s).toNat).drop 1,s.drop ((idx 58 s).toNat+1),0) ([],[],2)
def Bd:aI:=[65,66,67,68,69,70,71,72,73,74,75,76,77,78,79,80,81,82,83,84,85,86,87,88,89,90,97,98,99,100,101,102,103,104,105,106,107,108,109,110,111,112,113,114,115,116,117,118,119,120,121,122,48,49,50,51,52,53,54,55,56,57,45,95]
def eD (c:UInt8):Int:=idx (c.toNat:Int) Bd
def oM (n:Nat):UInt8:=Bd.getD n 0
def Ey:aI->aI
 |[]=>[]
 |[a]=>[oM (a.toNat/4),oM (a.toNat% 4*16)]
 |[a,b]=>[oM (a.toNat/4),oM (a.toNat% 4*16+b.toNat/16),oM (b.toNat% 16*4)]
 |a::b::c::r=>oM (a.toNat/4)::oM (a.toNat% 4*16+b.toNat/16)::oM (b.toNat% 16*4+c.toNat/64)::oM (c.toNat% 64)::Ey r
def ph (a b c d:Int):Int:=262144*a+(4096*b+(64*c+d))
def zQ:aI->aI->Option aI
 |out,[]=>some out
 |_,[_]=>none
 |out,[a,b]=>cond (decide (0<=eD a)&&decide (0<=eD b)&&decide (ph (eD a) (eD b) 0 0% 65536=0)) (some (out++[u8 (ph (eD a) (eD b) 0 0/65536)])) none
 |out,[a,b,c]=>cond (decide (0<=eD a)&&decide (0<=eD b)&&decide (0<=eD c)&&decide (ph (eD a) (eD b) (eD c) 0% 256=0)) (some (out++[u8 (ph (eD a) (eD b) (eD c) 0/65536)]++[u8 (ph (eD a) (eD b) (eD c) 0/256% 256)])) none
 |out,a::b::c::d::r=>cond (decide (0<=eD a)&&decide (0<=eD b)&&decide (0<=eD c)&&decide (0<=eD d)) (zQ (out++[u8 (ph (eD a) (eD b) (eD c) (eD d)/65536)]++[u8 (ph (eD a) (eD b) (eD c) (eD d)/256% 256)]++[u8 (ph (eD a) (eD b) (eD c) (eD d)% 256)]) r) none
def qM (r:Int):aI:=(ae r).map λrow=>UInt8.ofNat (row.getD 0 0).toNat
def H5 (s:aI):Bool:=decide (s.length=44)&&s.getD 0 0==36&&(zQ [] (s.drop 1)).isSome
abbrev jI:=(aI×aI)×aI×Int
def vn:jI:=(([],[]),[],0)
def l9 (r:List Int):aI×aI:=(ab (r.getD 0 0),ab (r.getD 1 0))
def mn (r:List Int):jI:=(l9 r,ab (r.getD 2 0),r.getD 3 0)
def bds (z:Int):List jI:=(ae z).map mn
def Az (z:Int):List (aI×aI):=(ae z).map l9
def ya (b:jI):Bool:=decide (0<=b.2.2)&&(decide (b.2.2<=1099511627776)&&(xk b.1.1 b.1.2&&gn b.2.1))
def zv (a b:aI×aI):Bool:=D0 a.1 a.2 b.1 b.2
def yq (a b:aI×aI):Int:=cond (a==b) 0 (cond (zv a b) (-1) 1)
def Ml:List jI->Bool
 |[]=>true
 |[_]=>true
 |a::b::r=>zv a.1 b.1&&Ml (b::r)
def ss (l:List jI):Bool:=Nat.ble l.length 64&&l.all ya&&Ml l
def H8 (l:List jI) (w:aI×aI):Option jI:=cond (ss l) (l.find? (λb=>b.1==w)) none
def K2 (l:List jI) (x:aI):List (aI×aI):=cond (ss l) ((l.filter (·.2.1==x)).map (·.1)) []
def Hc (l:List jI) (w:jI):List jI×Int:=cond (ya w&&ss l) (cond (l.any (·.1==w.1)) (l.map (λb=>cond (b.1==w.1) w b),0) (cond (decide (l.length=64)) (l,10) (l.filter (λb=>zv b.1 w.1)++w::l.filter (λb=>zv w.1 b.1),0))) (l,1)
def MH (l:List jI) (w:jI):List jI×Int:=cond (ss l) (match l.find? (·.1==w.1)with|none=>(l,7)|some b=>cond (b.2.1==w.2.1) (l.filter (λb=> !(b.1==w.1)),0) (l,14)) (l,1)
def Nq (l:List jI) (w:aI×aI) (i f:Int):Prop:=(0<=i/\i<=l.length)/\(f=1->i<l.length)/\(ss l=true->(∀j:Nat,(j:Int)<i->yq (l.getD j vn).1 w<0)/\(∀j:Nat,i<=j->j<l.length->0<=yq (l.getD j vn).1 w)/\(f=1↔i<l.length/\yq (l.getD i.toNat vn).1 w=0))
structure ey where
 id:Int
 sec:aI
 jZ:aI×aI
 tok:aI
 qJ:Int
 since:Int
 uR:Int
 shown:Int
 E9:Int
deriving DecidableEq
def mQ:ey:=⟨0,[],([],[]),[],0,0,0,0,0⟩
def jW (r:List Int):ey:=⟨r.getD 0 0,ab (r.getD 1 0),(ab (r.getD 2 0),ab (r.getD 3 0)),ab (r.getD 4 0),r.getD 5 0,r.getD 6 0,r.getD 7 0,r.getD 8 0,r.getD 9 0⟩
def ft (z:Int):List ey:=(ae z).map jW
def nG (t:aI):Bool:=t.all λc=>Nat.ble 32 c.toNat&&Nat.ble c.toNat 126
def cf (t:aI):Bool:= !t.isEmpty&&(Nat.ble t.length 64&&(nG t&& !t.contains 32))
def xB (n:Int):Bool:=decide (0<=n)&&decide (n<=1099511627776)
def Ai (s:ey):Bool:=(decide (1<=s.id)&&decide (s.id<=1099511627776))&&(xB s.since&&xB s.E9)&&(decide (1<=s.qJ)&&decide (s.qJ<=1000)&&(decide (0<=s.uR)&&decide (s.uR<=3)))&&(decide (s.shown=1)||decide (s.E9=0))&&(cf s.sec&&(cf s.tok&&xk s.jZ.1 s.jZ.2))
def GZ (a b:ey):Bool:=decide (a.sec=b.sec)&&decide (a.jZ=b.jZ)
def Ou (x s:ey):Bool:=GZ x s||(decide (x.tok=s.tok)||decide (s.id<=x.id))
def qd (l:List ey):Bool:=Nat.ble l.length 16&&(List.range l.length).all λi=>Ai (l.getD i mQ)&&(l.take i).all λx=> !Ou x (l.getD i mQ)
def Zr (x:Int):Int:=(x+9223372036854775808)% 18446744073709551616-9223372036854775808
def zJ (s:ey) (now:Int):Bool:=decide (86400<Zr (now-s.since))
def sj (l:List ey) (now:Int):List ey:=l.filter λs=> !zJ s now
def Ia (l:List ey) (id:Int):Option ey:=cond (qd l) (l.find? λs=>decide (s.id=id)) none
def nD (l:List ey) (now:Int) (w:ey):Nat×Int:=cond (xB now&&qd l) (match l.findIdx? (λs=>decide (s.id=w.id))with
 |some i=>cond (decide ((l.getD i mQ).sec=w.sec)&& !zJ (l.getD i mQ) now) (i,0) (0,11)
 |none=>(0,11)) (0,1)
def Me (l:List ey) (now:Int) (w:ey):(aI×aI)×Int:=cond (decide ((nD l now w).2=0)) (cond (decide ((l.getD (nD l now w).1 mQ).shown=1)) ((l.getD (nD l now w).1 mQ).jZ,0) (([],[]),14)) (([],[]),(nD l now w).2)
def X7 (l:List ey) (now:Int) (w:ey) (i:Nat) (s:ey):List ey×Int:=cond (decide (s.uR=3)) (l,16) (cond (decide (s.tok=w.tok)) (cond (decide (s.shown=1)) (l,0) (l.set i {s with shown:=1,E9:=now},0)) (l.set i {s with uR:=s.uR+1},12))
def Mu (l:List ey) (now:Int) (w:ey):List ey×Int:=cond (decide ((nD l now w).2=0)) (X7 l now w (nD l now w).1 (l.getD (nD l now w).1 mQ)) (l,(nD l now w).2)
def WV (live:List ey) (w:ey) (i:Nat) (s:ey):List ey×Int×Int×Int:=(live.set i {s with qJ:=max s.qJ w.qJ},s.id,aT (decide (s.qJ<w.qJ)),0)
def WW (l live:List ey) (w:ey):List ey×Int×Int×Int:=cond (live.any (λs=>decide (s.id=w.id))||live.any (λs=>decide (s.tok=w.tok))) (l,0,0,6) (cond (decide (live.length=16)) (l,0,0,10) (live.filter (λs=>decide (s.id<w.id))++w::live.filter (λs=>decide (w.id<s.id)),w.id,1,0))
def LD (l:List ey) (w:ey):List ey×Int×Int×Int:=cond (Ai w&&(decide (w.uR<=0)&&(!decide (w.shown=1)&&qd l))) (match(sj l w.since).findIdx? (λs=>GZ s w)with
 |some i=>WV (sj l w.since) w i ((sj l w.since).getD i mQ)
 |none=>WW l (sj l w.since) w) (l,0,0,1)
def No (l:List ey) (n i f:Int):Prop:=(0<=i/\i<=l.length)/\(f=1->i<l.length)/\(qd l=true->(∀j:Nat,(j:Int)<i->(l.getD j mQ).id<n)/\(∀j:Nat,i<=j->j<l.length->n<=(l.getD j mQ).id)/\(f=1↔i<l.length/\(l.getD i.toNat mQ).id=n))
def N3:List Int:=[5,116,477315081741,437051401625,117,1,100,0,0,0]
structure du where
 tok:aI
 dV:aI
 bh:List aI
deriving DecidableEq
def cg:du:=⟨[],[],[]⟩
def aH (z:Int):List aI:=(ae z).map λr=>ab (r.getD 0 0)
def gT (r:List Int):du:=⟨ab (r.getD 0 0),ab (r.getD 1 0),aH (r.getD 2 0)⟩
def aB (z:Int):List du:=(ae z).map gT
def qk (l:List du):Nat:=l.length+(l.map λu=>u.bh.length).sum
def eo (l:List aI):Bool:=(List.range l.length).all λi=>cf (l.getD i [])&&(decide (i=0)||Op.bytesLess (l.getD (i-1) []) (l.getD i []))
def c4 (l:List du):Bool:=Nat.ble l.length 16&&(l.all (λu=>gn u.dV&&(Nat.ble u.bh.length 4&&eo u.bh))&&eo (l.map (·.tok)))
def sJ (l:List du) (t:aI) (i f:Int):Prop:=(0<=i/\i<=l.length)/\(f=1->i<l.length)/\(eo (l.map (·.tok))=true->(∀j:Nat,(j:Int)<i->Op.bytesLess (l.getD j cg).tok t=true)/\(∀j:Nat,i<=j->j<l.length->Op.bytesLess (l.getD j cg).tok t=false)/\(f=1↔i<l.length/\(l.getD i.toNat cg).tok=t))
def cP (l:List du) (t:aI):Int×Int:=cond (c4 l) (match l.findIdx? (λu=>decide (u.tok=t))with|some k=>((k:Int),0)|none=>(0,14)) (0,1)
def j0 (l:List du) (t:aI):aI×Int:=cond (decide ((cP l t).2=0)) ((l.getD (cP l t).1.toNat cg).dV,0) ([],(cP l t).2)
def j7 (l:List du) (t:aI) (d:List aI):Int:=cond (decide ((cP l t).2=0)) (cond (d.all λs=>(l.getD (cP l t).1.toNat cg).bh.contains s) 0 13) (cP l t).2
def l3 (l:List du) (t:aI):List du×Int:=cond (decide ((cP l t).2=0)) (l.take (cP l t).1.toNat++l.drop ((cP l t).1.toNat+1),0) (l,(cP l t).2)
def jD (l:List du) (t m:aI):List du×Int:=cond (c4 l&&(cf t&&gn m)) (cond (l.findIdx? (λu=>decide (u.tok=t))).isSome (l,6) (cond (decide (l.length=16)) (l,10) (l.takeWhile (λu=>Op.bytesLess u.tok t)++⟨t,m,[]⟩::l.dropWhile (λu=>Op.bytesLess u.tok t),0))) (l,1)
def eC (s:aI):List aI->List aI
 |[]=>[s]
 |x::r=>cond (decide (x=s)) (x::r) (cond (Op.bytesLess s x) (s::x::r) (x::eC s r))
def hY (a d:List aI):List aI:=d.foldl (λl s=>eC s l) a
def j6 (l:List du) (t:aI) (d:List aI):List du×Int:=cond (decide ((cP l t).2=0)) (cond (d.all cf) (cond (Nat.ble (hY (l.getD (cP l t).1.toNat cg).bh d).length 4) (l.set (cP l t).1.toNat ⟨(l.getD (cP l t).1.toNat cg).tok,(l.getD (cP l t).1.toNat cg).dV,hY (l.getD (cP l t).1.toNat cg).bh d⟩,0) (l,10)) (l,1)) (l,(cP l t).2)
structure jK where
 tok:aI
 jZ:aI×aI
 room:aI
 Xw:aI
 Xs:aI
 sV:aI
deriving DecidableEq
def xc:jK:=⟨[],([],[]),[],[],[],[]⟩
def si (r:List Int):jK:=⟨ab (r.getD 0 0),(ab (r.getD 1 0),ab (r.getD 2 0)),ab (r.getD 3 0),ab (r.getD 4 0),ab (r.getD 5 0),ab (r.getD 6 0)⟩
def jB (z:Int):List jK:=(ae z).map si
def zR (p:jK):Bool:=cf p.tok&&(cf p.Xs&&(xk p.jZ.1 p.jZ.2&&(z1 p.room&&(gn p.Xw&&(p.sV.isEmpty||gn p.sV)))))
def LK (l:List jK):Bool:=(List.range l.length).all λi=>decide (i=0)||Op.bytesLess (l.getD (i-1) xc).tok (l.getD i xc).tok
def xl (l:List jK):Bool:=Nat.ble l.length 32&&(l.all zR&&LK l)
def Np (l:List jK) (t:aI) (i f:Int):Prop:=(0<=i/\i<=l.length)/\(f=1->i<l.length)/\(LK l=true->(∀j:Nat,(j:Int)<i->Op.bytesLess (l.getD j xc).tok t=true)/\(∀j:Nat,i<=j->j<l.length->Op.bytesLess (l.getD j xc).tok t=false)/\(f=1↔i<l.length/\(l.getD i.toNat xc).tok=t))
def H9 (l:List jK) (t:aI):Option jK:=cond (xl l) (l.find? λp=>decide (p.tok=t)) none
def Mq (l:List jK) (w:jK):List jK×Int:=cond (zR w&&(w.sV.isEmpty&&xl l)) (cond (l.any λp=>decide (p.tok=w.tok)) (l,6) (cond (decide (l.length=32)) (l,10) (l.filter (λp=>Op.bytesLess p.tok w.tok)++w::l.filter (λp=>Op.bytesLess w.tok p.tok),0))) (l,1)
def MP (jZ:aI×aI) (p:jK):Bool:=decide (p.jZ=jZ)&&p.sV.isEmpty
def Mc (l:List jK) (jZ:aI×aI) (dV:aI):List jK×List jK×Int:=cond (gn dV&&xl l) (l.map (λp=>cond (MP jZ p) {p with sV:=dV} p),(l.filter (MP jZ)).map (λp=>{p with sV:=dV}),0) (l,[],1)
def NS:aI:=[65,66,67,68,69,70,71,72,73,74,75,76,77,78,79,80,81,82,83,84,85,86,87,88,89,90,97,98,99,100,101,102,103,104,105,106,107,108,109,110,111,112,113,114,115,116,117,118,119,120,121,122,48,49,50,51,52,53,54,55,56,57,43,47]
def oN (n:Nat):UInt8:=NS.getD n 0
def Lo:aI->aI
 |[]=>[]
 |[a]=>[oN (a.toNat/4),oN (a.toNat% 4*16)]
 |[a,b]=>[oN (a.toNat/4),oN (a.toNat% 4*16+b.toNat/16),oN (b.toNat% 16*4)]
 |a::b::c::r=>oN (a.toNat/4)::oN (a.toNat% 4*16+b.toNat/16)::oN (b.toNat% 16*4+c.toNat/64)::oN (c.toNat% 64)::Lo r
def Vz:List Int:=[117,477315081741,437051401625,1786258745,1786259033,1721197221,0]
def Nx:Nat->List (List Int)->List (List Int)->Prop
 |600,[[z]],[[r]]=>r=aT (cf (ab z))
 |601,[r],[[z]]=>z=aT (zR (si r))
 |602,[[z]],[[r]]=>r=aT (xl (jB z))
 |603,[[z],[t]],[[i],[f]]=>Np (jB z) (ab t) i f
 |604,[[z],[t]],[r,[f]]=>match H9 (jB z) (ab t)with
  |some b=>si r=b/\f=1
  |none=>r=[0,0,0,0,0,0,0]/\f=0
 |605,[[c],[i],[r]],[[y]]=>ae y=(ae c).take i.toNat++ae r++(ae c).drop i.toNat
 |606,[[z],r],[[y],[e]]=>(jB y,e)=Mq (jB z) (si r)
 |607,[[z],a,[m]],[[y],[d],[e]]=>(jB y,jB d,e)=Mc (jB z) (l9 a) (ab m)
 |608,[],[r]=>r=Vz
 |612,[r],[[z]]=>z=aT (zR (si r))
 |613,[[z]],[[r]]=>r=aT (xl (jB z))
 |614,[[z],[t]],[r,[f]]=>match H9 (jB z) (ab t)with
  |some b=>si r=b/\f=1
  |none=>r=[0,0,0,0,0,0,0]/\f=0
 |615,[[z],r],[[y],[e]]=>(jB y,e)=Mq (jB z) (si r)
 |616,[[z],a,[m]],[[y],[d],[e]]=>(jB y,jB d,e)=Mc (jB z) (l9 a) (ab m)
 |617,[[a],[b]],[[r]]=>r=aT (decide (jB a=jB b))
 |618,[[r]],[[z]]=>ab z=Lo (qM r)
 |619,[[z]],[[r]]=>ae r=ae z
 |_,_,_=>False
def Ny:Nat->List (List Int)->List (List Int)->Prop
 |500,[[z]],[[r]]=>r=aT (decide (200<qk (aB z)))
 |501,[[z]],[[r]]=>r=aT ((ab z).contains 32)
 |502,[[z]],[[r]]=>r=aT (cf (ab z))
 |503,[[z]],[[r]]=>r=aT (eo (aH z))
 |504,[[z]],[[r]]=>r=aT (c4 (aB z))
 |505,[[z],[t]],[[i],[f]]=>sJ (aB z) (ab t) i f
 |506,[[z],[t]],[[i],[e]]=>(i,e)=cP (aB z) (ab t)
 |507,[[z],[t]],[[s],[e]]=>(ab s,e)=j0 (aB z) (ab t)
 |508,[[z],[t]],[[y],[e]]=>(aB y,e)=l3 (aB z) (ab t)
 |509,[[z],[t],[m]],[[y],[e]]=>(aB y,e)=jD (aB z) (ab t) (ab m)
 |511,[[z],[t],[d]],[[e]]=>e=j7 (aB z) (ab t) (aH d)
 |513,[[z],[t],[d]],[[y],[e]]=>(aB y,e)=j6 (aB z) (ab t) (aH d)
 |530,[[z]],[[r]]=>r=aT (c4 (aB z))
 |531,[[z],[t]],[[i]]=>i=match(aB z).findIdx? (λu=>decide (u.tok=ab t))with|some k=>(k:Int)|none=>-1
 |532,[[z],[t],[m]],[[y],[e]]=>(aB y,e)=jD (aB z) (ab t) (ab m)
 |533,[[z],[t]],[[y],[e]]=>(aB y,e)=l3 (aB z) (ab t)
 |534,[[z],[t]],[[s],[e]]=>(ab s,e)=j0 (aB z) (ab t)
 |535,[[z],[s]],[[y]]=>(aH z).Pairwise (λa b=>Op.bytesLess a b=true)->aH y=eC (ab s) (aH z)
 |536,[[z],[t],[d]],[[y],[e]]=>(aB y,e)=j6 (aB z) (ab t) (aH d)
 |537,[[z],[t],[d]],[[e]]=>e=j7 (aB z) (ab t) (aH d)
 |538,[[a],[b]],[[r]]=>r=aT (decide (aB a=aB b))
 |539,[[z]],[[y]]=>aB y=aB z
 |540,[_,_,_],[[r]]=>r=1
 |541,[_,_,_],[[r]]=>r=1
 |520,[],[[r]]=>r=1
 |521,[_,_],[[r]]=>r=1
 |522,[_,_,_],[[r]]=>r=1
 |512,[[z],[t]],[[r]]=>r=aT ((aH z).contains (ab t))
 |510,[[a],[b]],[[r]]=>r=cond (Op.bytesLess (ab a) (ab b)) (-1) (cond (decide (ab a=ab b)) 0 1)
 |n,a,b=>Nx n a b
def Nw:Nat->List (List Int)->List (List Int)->Prop
 |400,[[z]],[[r]]=>r=aT (nG (ab z))
 |401,[[z]],[[r]]=>r=aT (cf (ab z))
 |402,[r],[[z]]=>z=aT (Ai (jW r))
 |403,[[z]],[[r]]=>r=aT (qd (ft z))
 |404,[[z],[n]],[[i],[f]]=>No (ft z) n i f
 |417,[r,[n]],[[z]]=>z=aT (zJ (jW r) n)
 |405,[[z],[n]],[r,[f]]=>match Ia (ft z) n with
  |some b=>jW r=b/\f=1
  |none=>r=[0,0,0,0,0,0,0,0,0,0]/\f=0
 |406,[[z],[n],r],[[i],[e]]=>(i,e)=(((nD (ft z) n (jW r)).1:Int),(nD (ft z) n (jW r)).2)
 |407,[[z],[n],r],[a,[e]]=>(l9 a,e)=Me (ft z) n (jW r)
 |408,[[z],[n],r],[[y],[e]]=>(ft y,e)=Mu (ft z) n (jW r)
 |409,[[z],[n]],[[y]]=>ft y=sj (ft z) n
 |410,[[z],[n]],[[y]]=>ft y=cond (xB n&&qd (ft z)) (sj (ft z) n) []
 |411,[[c],[i],[r]],[[y]]=>ae y=(ae c).take i.toNat++ae r++(ae c).drop i.toNat
 |412,[[z],r],[[y],[i],[s],[e]]=>(ft y,i,s,e)=LD (ft z) (jW r)
 |416,[[a],[b]],[[r]]=>r=aT (decide (ft a=ft b))
 |418,[],[r]=>r=N3
 |413,[],[[r]]=>r=1
 |414,[_],[[r]]=>r=1
 |415,[_,_],[[r]]=>r=1
 |420,[[z]],[[r]]=>r=aT (cf (ab z))
 |422,[r],[[z]]=>z=aT (Ai (jW r))
 |423,[[z]],[[r]]=>r=aT (qd (ft z))
 |424,[[z],[n]],[[y]]=>ft y=cond (xB n&&qd (ft z)) (sj (ft z) n) []
 |425,[[z],[n]],[r,[f]]=>match Ia (ft z) n with
  |some b=>jW r=b/\f=1
  |none=>r=[0,0,0,0,0,0,0,0,0,0]/\f=0
 |426,[[z],[n],r],[[i]]=>i=match(ft z).findIdx? (λs=>decide (s.id=(jW r).id)&&(decide (s.sec=(jW r).sec)&& !zJ s n))with
  |some k=>(k:Int)
  |none=>-1
 |427,[[z],[n],r],[[y],[e]]=>(ft y,e)=Mu (ft z) n (jW r)
 |428,[[z],[n],r],[a,[e]]=>(l9 a,e)=Me (ft z) n (jW r)
 |429,[[z],r],[[y],[i],[s],[e]]=>(ft y,i,s,e)=LD (ft z) (jW r)
 |430,[_,_],[[r]]=>r=1
 |431,[_,_,_],[[r]]=>r=1
 |n,a,b=>Ny n a b
def Nv:Nat->List (List Int)->List (List Int)->Prop
 |300,[r],[[z]]=>z=aT (ya (mn r))
 |301,[r,a],[[z]]=>z=yq (l9 r) (l9 a)
 |302,[[z],a],[[i],[f]]=>Nq (bds z) (l9 a) i f
 |303,[[z]],[[r]]=>r=aT (ss (bds z))
 |304,[[z],a],[r,[f]]=>match H8 (bds z) (l9 a)with
  |some b=>mn r=b/\f=1
  |none=>mn r=vn/\f=0
 |305,[[z],[x]],[[y]]=>Az y=K2 (bds z) (ab x)
 |306,[[c],[i],[r]],[[y]]=>ae y=(ae c).take i.toNat++ae r++(ae c).drop i.toNat
 |307,[[c],[i],[j]],[[y]]=>ae y=(ae c).take i.toNat++(ae c).drop j.toNat
 |308,[[z],r],[[y],[e]]=>(bds y,e)=Hc (bds z) (mn r)
 |309,[[z],r],[[y],[e]]=>(bds y,e)=MH (bds z) (mn r)
 |310,[],[[r]]=>r=1
 |311,[_,_],[[r]]=>r=1
 |312,[_],[[r]]=>r=1
 |320,[r],[[z]]=>z=aT (ya (mn r))
 |321,[[z]],[[r]]=>r=aT (ss (bds z))
 |322,[[z],a],[r,[f]]=>match H8 (bds z) (l9 a)with
  |some b=>mn r=b/\f=1
  |none=>mn r=vn/\f=0
 |323,[[z],a],[[y]]=>bds y=(bds z).filter (λb=> !(b.1==l9 a))
 |324,[[z],r],[[y],[e]]=>(bds y,e)=Hc (bds z) (mn r)
 |325,[[z],r],[[y],[e]]=>(bds y,e)=MH (bds z) (mn r)
 |326,[[z],[x]],[[y]]=>Az y=K2 (bds z) (ab x)
 |327,[[a],[b]],[[r]]=>r=aT (decide (bds a=bds b))
 |328,[[a],[b]],[[r]]=>r=aT (decide (Az a=Az b))
 |329,[_,_,_],[[r]]=>r=1
 |n,a,b=>Nw n a b
def SB:Nat->List (List Int)->List (List Int)->Prop
 |73,[[z],[b]],[[r]]=>r=idx b (ab z)
 |36,[[z],[b]],[[r]]=>ab r=jz (·==u8 b) (ab z)
 |37,[[z],[b]],[[r]]=>ab r=hS (·==u8 b) (ab z)
 |120,[[z]],[[r]]=>ab r=ix (·==32) (ab z)
 |121,[[z]],[[r]]=>ab r=ix (·==46) (ab z)
 |122,[[z]],[[r]]=>ab r=ix iB (ab z)
 |123,[[z]],[[r]]=>ab r=ix jd (ab z)
 |124,[[z]],[[r]]=>ab r=ix dT (ab z)
 |125,[[z]],[[a],[b],[c]]=>(ab a,ab b,c)=kB 64 (ab z)
 |126,[[z]],[[a],[b],[c]]=>(ab a,ab b,c)=kB 58 (ab z)
 |127,[[z]],[[r]]=>r=aT ((ab z).contains 46)
 |128,[[z]],[[r]]=>r=aT (dd (ab z))
 |44,[[s],[b]],[[r]]=>r=aT ((ab s).all λc=>(ab b).contains c)
 |65,[[s],[b]],[[r]]=>r=aT ((ab s).all λc=>(ab b).contains c)
 |28,[[z]],[[r]]=>ab r=lower (ab z)
 |17,[[z]],[[r]]=>ab r=lower (ab z)
 |31,[[z],[c]],[[r]]=>r=aT ((ab z).contains (u8 c))
 |47,[[z]],[[r]]=>r=aT (gg (ab z))
 |30,[[z]],[[r]]=>r=aT (gg (ab z))
 |27,[[z]],[[r]]=>r=aT (hT (ab z))
 |24,[[z]],[[r]]=>r=aT (D5 (ab z))
 |29,[[z]],[[r]]=>r=aT (D5 (ab z))
 |50,[[c]],[[r]]=>r=aT (jQ (u8 c))
 |51,[[c]],[[r]]=>r=aT (lY (u8 c))
 |52,[[c]],[[r]]=>r=aT (dT (u8 c))
 |10,[[z]],[[a],[e]]=>(ab a,e)=BX (ab z)
 |11,[[z]],[[a],[e]]=>(ab a,e)=BX (ab z)
 |35,[[w]],[[c],[t],[o]]=>match BM (ab w)with
  |some (code,ql)=>ab c=code/\t=aT (!ql.isEmpty)/\o=1
  |none=>ab c=[]/\t=0/\o=0
 |32,[[w]],[[c,t],[o]]=>match BM (ab w)with
  |some (code,ql)=>ab c=code/\ab t=ql/\o=1
  |none=>o=0/\ab c=[]/\ab t=[]
 |33,[[s]],[[d],[p],[o]]=>match vm (ab s) [] false with
  |some (BN,bU)=>ab d=BN/\p=aT bU/\o=1
  |none=>ab d=[]/\p=0/\o=0
 |34,[[s],[t]],[[r]]=>ab r=cond ((ab t).isPrefixOf (ab s)) ((ab s).drop (ab t).length) (ab s)
 |12,[[w],[s]],[[a],[e]]=>(ab a,e)=Ez (ab w) (ab s)
 |13,[[w],[s]],[[a],[e]]=>(ab a,e)=Ez (ab w) (ab s)
 |14,[[a,b],[c,d]],[[r]]=>r=aT (D0 (ab a) (ab b) (ab c) (ab d))
 |21,[[a,b],[c,d]],[[r]]=>r=aT (D0 (ab a) (ab b) (ab c) (ab d))
 |15,[[m],[w]],[[a,b],[e]]=>(ab a,ab b,e)=wY (ab m) (ab w)
 |18,[[m],[w]],[[a,b],[e]]=>(ab a,ab b,e)=wY (ab m) (ab w)
 |16,[[m,w]],[[r]]=>r=aT (xk (ab m) (ab w))
 |19,[[m,w]],[[r]]=>r=aT (xk (ab m) (ab w))
 |20,[[m,w]],[[r]]=>ab r=ab m++[32]++ab w
 |202,[[z]],[[r]]=>ab r=ix nt (ab z)
 |203,[[z]],[[r]]=>ab r=ix J9 (ab z)
 |200,[[z]],[[r]]=>r=aT (gn (ab z))
 |207,[[z]],[[r]]=>r=aT (gn (ab z))
 |201,[[z]],[[r]]=>r=aT (z1 (ab z))
 |208,[[z]],[[r]]=>r=aT (z1 (ab z))
 |204,[[z]],[[r]]=>r=idx 58 (ab z)
 |205,[[z]],[[r]]=>r=aT (hT (ab z))
 |206,[[z],[k]],[[a],[b],[c]]=>(ab a,ab b,c)=gQ (u8 k) (ab z)
 |211,[[z],[k]],[[a],[b],[c]]=>(ab a,ab b,c)=gQ (u8 k) (ab z)
 |209,[[z]],[[a],[b],[e]]=>(ab a,ab b,e)=Mm (ab z)
 |210,[[z]],[[a],[b],[e]]=>(ab a,ab b,e)=Mm (ab z)
 |220,[[z]],[[r],[e]]=>match zQ [] (ab z)with
  |some l=>qM r=l/\e=0
  |none=>qM r=[]/\e=2
 |221,[[z]],[[r],[e]]=>match zQ [] (ab z)with
  |some l=>qM r=l/\e=0
  |none=>qM r=[]/\e=2
 |222,[[r]],[[z]]=>ab z=Ey (qM r)
 |225,[[r]],[[z]]=>ab z=Ey (qM r)
 |223,[[z]],[[r]]=>r=aT (H5 (ab z))
 |224,[[z]],[[r]]=>r=aT (H5 (ab z))
 |230,[[c]],[[r]]=>r=idx c Bd
 |226,[],[[r]]=>r=1
 |227,[_],[[r]]=>r=1
 |228,[_],[[r]]=>r=1
 |229,[_,_],[[r]]=>r=1
 |9,[],[[r]]=>r=1
 |3,[_],[[r]]=>r=1
 |4,[_,_],[[r]]=>r=1
 |5,[_],[[r]]=>r=1
 |6,[_,_,_],[[r]]=>r=1
 |7,[_,_],[[r]]=>r=1
 |8,[_,_],[[r]]=>r=1
 |n,a,b=>Nv n a b
theorem uP (b:UInt8):u8 (b.toNat:Int)=b:=by simp[u8]
theorem xD {b:UInt8} {z:Int} (h0:0<=z) (h1:z<=255):((b.toNat:Int)=z)↔(b==u8 z)=true:=by
 rw[beq_iff_eq,<-UInt8.toNat_inj]
 unfold u8
 simp
 omega
theorem wO {c:Int} (h0:0<=c) (h1:c<=255):∀l:aI,(idx c l=-1/\u8 c∉l)∨(0<=idx c l/\(idx c l).toNat<l.length/\l.getD (idx c l).toNat 0=u8 c/\u8 c∈l/\∀j,j<(idx c l).toNat->l.getD j 0≠u8 c)
 |[]=> .inl ⟨rfl,by simp⟩
 |b::r=>by
  have hb:=xD (b:=b) h0 h1
  have ih:=wO h0 h1 r
  by_cases he:(b.toNat:Int)=c
  ·have hb':b=u8 c:=by simpa using hb.1 he
   right
   have:idx c (b::r)=0:=by simp[idx,he]
   rw[this]
   refine⟨Int.le_refl _,by simp,by simp[hb'],by simp[hb'],λj hj=>by simp at hj⟩
  ·have hb':¬b=u8 c:=λe=>he (hb.2 (by simpa using e))
   rcases ih with⟨h2,h3⟩|⟨h2,h3,h4,h5,h6⟩
   ·left
    exact⟨by simp[idx,he,h2],by simp[h3];exactλe=>hb' e.symm⟩
   ·right
    have e:idx c (b::r)=idx c r+1:=by
     show(if(b.toNat:Int)=c then 0 else if idx c r<0 then-1 else idx c r+1)=_
     rw[if_neg he,if_neg (by omega)]
    have qX:(idx c (b::r)).toNat=(idx c r).toNat+1:=by omega
    rw[qX]
    refine⟨by omega,by simp;omega,by simpa using h4,by simp[h5],λj hj=>?_⟩
    cases j with
    |zero=>simpa using hb'
    |succ j=>simpa using h6 j (by omega)
theorem J1 {c:Int} (h0:0<=c) (h1:c<=255) (l:aI):decide (0<=idx c l)=l.contains (u8 c):=by
 rcases wO h0 h1 l with⟨h2,h3⟩|⟨h2,_,_,h3,_⟩
 ·rw[h2];simp[h3]
 ·simp[h2,h3]
theorem h9 (b:Bool):0<=aT b/\aT b<=1:=by cases b<;>decide
theorem vl (b:Bool):decide (aT b=1)=b:=by cases b<;>rfl
theorem Ar {z:Int} (h0:0<=z) (h1:z<=255):((u8 z).toNat:Int)=z:=by unfold u8;simp;omega
theorem Fw (l:aI) (i:Nat) (h:i<l.length):l.take (i+1)=l.take i++[l.getD i 0]:=by
 rw[List.take_add_one];simp[List.getD,h]
theorem r7 {z:Int} (h:z<=aC):((ab z).length:Int)<=9223372036854775807:=by
 have:=qw h;unfold fs at this;omega
theorem Ac (p:UInt8->Bool) (l:aI) (x:UInt8):hS p (l++[x])=cond (p x) (hS p l) (l++[x]):=by
 unfold hS
 simp only[List.reverse_append,List.reverse_cons,List.reverse_nil,List.nil_append,List.singleton_append,List.dropWhile_cons]
 cases p x<;>simp
end Go.bG
set_option maxRecDepth 100000
namespace Go.bG
open Go Go.bo
def jS:FuncId->Nat->Option c0:=λ_ _=>none
def jT:Nat->List Nat:=λ_=>[]
def yy:D:= .int .u8 0 255
def HQ:D:= .int .i64 (-1) 9223372036854775807
def mo:D:= .int .i64 0 21
def S6:D:= .jh [32]
def SY:D:= .jh [46,46]
def S0:D:= .jh [46,45]
def SX:D:= .jh [58]
def S2:D:= .jh [97,98,99,100,101,102,103,104,105,106,107,108,109,110,111,112,113,114,115,116,117,118,119,120,121,122,65,66,67,68,69,70,71,72,73,74,75,76,77,78,79,80,81,82,83,84,85,86,87,88,89,90,48,49,50,51,52,53,54,55,56,57,46,45]
def SZ:D:= .jh [48,49,50,51,52,53,54,55,56,57]
def S7:D:= .jh [97,98,99,100,101,102,103,104,105,106,107,108,109,110,111,112,113,114,115,116,117,118,119,120,121,122,48,49,50,51,52,53,54,55,56,57,46,95,61,47,43,45]
def d64:D:= .int .u8 64 64
def OP:D:= .int .i64 (-1) 1
def HS:D:= .int .i64 0 9223372036854775807
def OT:D:= .int .i64 (-9223372036854775808) 9223372036854775807
def fB:bN:= .rd [.str,.str,.sub 1]
def p4:bN:= .rd [.str]
def pT:cD:=⟨75,204,[.str],[HQ]⟩
def To:FuncId->Nat->Option c0:=λf r=>match f,r with
 |75,2=>some ⟨[0],[(3,0,9223372036854775807)],[],[],[],[],[]⟩
 |_,_=>none
def TW:Nat->List Nat:=λn=>[1]
def pX:cD:=⟨54,50,[yy],[.bool]⟩
def tV:cD:=⟨105,51,[yy],[.bool]⟩
def ny:cD:=⟨55,52,[yy],[.bool]⟩
def ua:cD:=⟨91,30,[.str],[.bool]⟩
def TA:FuncId->Nat->Option c0:=λf r=>match f,r with
 |91,4=>some ⟨[0],[(3,0,9223372036854775807)],[],[],[],[],[]⟩
 |_,_=>none
def T8:Nat->List Nat:=λn=>[1]
def ub:cD:=⟨76,205,[.str],[.bool]⟩
def TB:FuncId->Nat->Option c0:=λf r=>match f,r with
 |76,6=>some ⟨[0,3,4],[(5,0,9223372036854775807)],[],[],[],[],[]⟩
 |_,_=>none
def T9:Nat->List Nat:=λn=>[1]
def tY:cD:=⟨53,206,[.str,d64],[.str,.str,.bool]⟩
def pW:cD:=⟨38,207,[.str],[.bool]⟩
def TC:FuncId->Nat->Option c0:=λf r=>match f,r with
 |38,3=>some ⟨[3,5],[(6,0,9223372036854775807)],[],[],[],[],[]⟩
 |_,_=>none
def Ua:Nat->List Nat:=λn=>[1]
def nA:cD:=⟨30,420,[.str],[.bool]⟩
def TI:FuncId->Nat->Option c0:=λf r=>match f,r with
 |30,2=>some ⟨[0],[(3,0,9223372036854775807)],[],[],[],[],[]⟩
 |_,_=>none
def Ug:Nat->List Nat:=λn=>[1]
def pV:cD:=⟨106,73,[.str,yy],[HQ]⟩
def pU:cD:=⟨69,126,[.str,SX],[.str,.str,.bool]⟩
def nz:cD:=⟨87,65,[.str,.str],[.bool]⟩
def Tq:FuncId->Nat->Option c0:=λf r=>match f,r with
 |87,2=>some ⟨[0,1,7],[(8,0,9223372036854775807)],[],[],[],[],[]⟩
 |_,_=>none
def TY:Nat->List Nat:=λn=>[1]
def SW:cD:=⟨42,128,[.str,SY],[.bool]⟩
def zU:lG:=⟨SW,41⟩
def uf:cD:=⟨86,122,[.str,S0],[.str]⟩
def TF:FuncId->Nat->Option c0:=λf r=>match f,r with
 |100,1=>some ⟨[1],[(0,0,0)],[],[],[],[],[]⟩
 |101,1=>some ⟨[1],[(0,0,0)],[],[],[],[],[]⟩
 |_,_=>none
def Ud:Nat->List Nat:=λn=>[1]
def ug:cD:=⟨86,123,[.str,S2],[.str]⟩
def TG:FuncId->Nat->Option c0:=λf r=>match f,r with
 |100,1=>some ⟨[1],[(0,0,0)],[],[],[],[],[]⟩
 |101,1=>some ⟨[1],[(0,0,0)],[],[],[],[],[]⟩
 |_,_=>none
def Ue:Nat->List Nat:=λn=>[1]
def ue:cD:=⟨86,124,[.str,SZ],[.str]⟩
def TE:FuncId->Nat->Option c0:=λf r=>match f,r with
 |100,1=>some ⟨[1],[(0,0,0)],[],[],[],[],[]⟩
 |101,1=>some ⟨[1],[(0,0,0)],[],[],[],[],[]⟩
 |_,_=>none
def Uc:Nat->List Nat:=λn=>[1]
def tW:cD:=⟨88,47,[.str],[.bool]⟩
def ud:cD:=⟨72,27,[.str],[.bool]⟩
def uh:cD:=⟨86,202,[.str,S7],[.str]⟩
def TH:FuncId->Nat->Option c0:=λf r=>match f,r with
 |100,1=>some ⟨[1],[(0,0,0)],[],[],[],[],[]⟩
 |101,1=>some ⟨[1],[(0,0,0)],[],[],[],[],[]⟩
 |_,_=>none
def Uf:Nat->List Nat:=λn=>[1]
def pY:cD:=⟨34,200,[.str],[.bool]⟩
def tZ:cD:=⟨41,400,[.str],[.bool]⟩
def Tz:FuncId->Nat->Option c0:=λf r=>match f,r with
 |41,2=>some ⟨[0,5],[(6,0,9223372036854775807)],[],[],[],[],[]⟩
 |_,_=>none
def T7:Nat->List Nat:=λn=>[1]
def zo:cD:=⟨89,510,[.str,.str],[OP]⟩
def rX:cL:=⟨6,500,[fB],[.d .bool],0⟩
def Tp:FuncId->Nat->Option c0:=λf r=>match f,r with
 |6,3=>some ⟨[0],[(3,0,9223372036854775807),(4,0,9223372036854775807)],[],[],[],[],[]⟩
 |_,_=>none
def TX:Nat->List Nat:=λn=>[1,1]
def tU:cD:=⟨42,501,[.str,S6],[.bool]⟩
def oJ:cD:=⟨24,502,[.str],[.bool]⟩
def tT:cL:=⟨35,503,[p4],[.d .bool],0⟩
def Tn:FuncId->Nat->Option c0:=λf r=>match f,r with
 |35,2=>some ⟨[0,5,6],[(7,0,9223372036854775807)],[],[],[],[],[]⟩
 |_,_=>none
def TV:Nat->List Nat:=λn=>[1]
def nw:cL:=⟨13,504,[fB],[.d .bool],0⟩
def Tl:FuncId->Nat->Option c0:=λf r=>match f,r with
 |13,5=>some ⟨[0,9,10],[(11,0,9223372036854775807)],[],[],[(3,[.str],9)],[],[]⟩
 |_,_=>none
def TT:Nat->List Nat:=λn=>[1,1,1,1]
def rW:cL:=⟨36,505,[fB,.d .str],[.d HS,.d .bool],0⟩
def Tm:FuncId->Nat->Option c0:=λf r=>match f,r with
 |48,3=>some ⟨[0,1,2,8],[(9,0,9223372036854775807),(10,0,9223372036854775807)],[],[],[],[],[]⟩
 |_,_=>none
def TU:Nat->List Nat:=λn=>[1,1]
def nx:cL:=⟨21,506,[fB,.d .str],[.d HS,.d mo],0⟩
def oI:cL:=⟨18,507,[fB,.d .str],[.d .str,.d mo],0⟩
def wQ:cL:=⟨16,508,[fB,.d .str],[fB,.d mo],0⟩
def nv:cL:=⟨14,509,[fB,.d .str,.d .str],[fB,.d mo],0⟩
def uc:cL:=⟨33,512,[p4,.d .str],[.d .bool],0⟩
def TD:FuncId->Nat->Option c0:=λf r=>match f,r with
 |46,2=>some ⟨[0,1,7],[(8,0,9223372036854775807)],[],[],[],[],[]⟩
 |_,_=>none
def Ub:Nat->List Nat:=λn=>[1]
def rV:cL:=⟨11,511,[fB,.d .str,p4],[.d mo],0⟩
def Tk:FuncId->Nat->Option c0:=λf r=>match f,r with
 |40,2=>some ⟨[0,1,7],[(8,0,9223372036854775807)],[],[],[],[],[]⟩
 |_,_=>none
def TS:Nat->List Nat:=λn=>[1]
def pS:cL:=⟨8,513,[fB,.d .str,p4],[fB,.d mo],84⟩
def r5:cL:=⟨5,520,[],[.d .bool],0⟩
def jx:cL:=⟨20,530,[fB],[.d .bool],0⟩
def Tv:FuncId->Nat->Option c0:=λf r=>match f,r with
 |20,4=>some ⟨[0],[(3,0,9223372036854775807)],[],[],[],[],[]⟩
 |20,10=>some ⟨[0,3,4],[(5,0,9223372036854775807)],[],[],[],[],[]⟩
 |_,_=>none
def T3:Nat->List Nat:=λn=>[1]
def kK:cL:=⟨29,531,[fB,.d .str],[.d OT],0⟩
def Tx:FuncId->Nat->Option c0:=λf r=>match f,r with
 |29,2=>some ⟨[0,1],[(5,0,9223372036854775807)],[],[],[],[],[]⟩
 |_,_=>none
def T5:Nat->List Nat:=λn=>[1]
def r0:cL:=⟨15,532,[fB,.d .str,.d .str],[fB,.d mo],0⟩
def Tu:FuncId->Nat->Option c0:=λf r=>match f,r with
 |15,8=>some ⟨[0,1,2],[(8,0,9223372036854775807)],[],[],[],[],[]⟩
 |_,_=>none
def T2:Nat->List Nat:=λn=>[1]
def rZ:cL:=⟨17,533,[fB,.d .str],[fB,.d mo],0⟩
def r4:cL:=⟨19,534,[fB,.d .str],[.d .str,.d mo],0⟩
def tX:cL:=⟨31,535,[p4,.d .str],[p4],66⟩
def Ty:FuncId->Nat->Option c0:=λf r=>match f,r with
 |31,4=>some ⟨[0,1],[(7,0,9223372036854775807)],[],[6],[(5,[.str],9)],[],[]⟩
 |_,_=>none
def T6:Nat->List Nat:=λn=>[1,1,1,1,1]
def wR:cL:=⟨9,536,[fB,.d .str,p4],[fB,.d mo],84⟩
def Tr:FuncId->Nat->Option c0:=λf r=>match f,r with
 |9,8=>some ⟨[0,1,2,8],[(10,0,9223372036854775807)],[],[],[],[],[(9,[.str])]⟩
 |_,_=>none
def TZ:Nat->List Nat:=λn=>[1,1,1,1]
def wS:cL:=⟨12,537,[fB,.d .str,p4],[.d mo],0⟩
def Ts:FuncId->Nat->Option c0:=λf r=>match f,r with
 |12,7=>some ⟨[0,2,7],[(8,0,9223372036854775807)],[],[],[],[],[]⟩
 |12,11=>some ⟨[0,2,7,8],[(10,0,9223372036854775807)],[],[9],[],[],[]⟩
 |_,_=>none
def T0:Nat->List Nat:=λn=>cond (Nat.beq n 15) [1,1] [1]
def r3:cL:=⟨10,538,[fB,fB],[.d .bool],0⟩
def Tw:FuncId->Nat->Option c0:=λf r=>match f,r with
 |10,4=>some ⟨[0,1],[(5,0,9223372036854775807)],[],[],[],[],[]⟩
 |10,9=>some ⟨[0,1,5],[(6,0,9223372036854775807)],[],[],[],[],[]⟩
 |_,_=>none
def T4:Nat->List Nat:=λn=>[1]
def rY:cL:=⟨7,539,[fB],[fB],85⟩
def Tt:FuncId->Nat->Option c0:=λf r=>match f,r with
 |7,3=>some ⟨[0],[(4,0,9223372036854775807)],[],[],[(3,[.str,.str,.sub 1],39)],[],[]⟩
 |_,_=>none
def T1:Nat->List Nat:=λn=>[1,1,1,1]
def wT:cL:=⟨4,540,[fB,.d .str,.d .str],[.d .bool],0⟩
def sh:Nat->List Nat×List Nat
 |204=>([1],[1])
 |50=>([1],[1])
 |51=>([1],[1])
 |52=>([1],[1])
 |30=>([1],[1])
 |205=>([1],[1])
 |206=>([1,1],[1,1,1])
 |207=>([1],[1])
 |420=>([1],[1])
 |73=>([1,1],[1])
 |126=>([1],[1,1,1])
 |65=>([1,1],[1])
 |128=>([1],[1])
 |122=>([1],[1])
 |123=>([1],[1])
 |124=>([1],[1])
 |47=>([1],[1])
 |27=>([1],[1])
 |202=>([1],[1])
 |200=>([1],[1])
 |400=>([1],[1])
 |510=>([1,1],[1])
 |500=>([1],[1])
 |501=>([1],[1])
 |502=>([1],[1])
 |503=>([1],[1])
 |504=>([1],[1])
 |505=>([1,1],[1,1])
 |506=>([1,1],[1,1])
 |507=>([1,1],[1,1])
 |508=>([1,1],[1,1])
 |509=>([1,1,1],[1,1])
 |512=>([1,1],[1])
 |511=>([1,1,1],[1])
 |513=>([1,1,1],[1,1])
 |520=>([],[1])
 |530=>([1],[1])
 |531=>([1,1],[1])
 |532=>([1,1,1],[1,1])
 |533=>([1,1],[1,1])
 |534=>([1,1],[1,1])
 |535=>([1,1],[1])
 |536=>([1,1,1],[1,1])
 |537=>([1,1,1],[1])
 |538=>([1,1],[1])
 |539=>([1],[1])
 |540=>([1,1,1],[1])
 |541=>([1,1,1],[1])
 |_=>([],[])
abbrev gX (P:Program) (gl:dt) (c:cD) (bf:ew) (li:FuncId->Nat->Option c0) (dx:Nat->List Nat) (lens:List Nat) (B:(Nat->List (List Int)->List (List Int)->Prop)->(List (List Int)->List (List Int)->Prop)->Prop):Prop:=∀S K,vf sh dx S K lens (dD c.args) c.res (c.tree P gl bf li 600 6)=B S K
end Go.bG
namespace Go.bG
open Go Go.bo
theorem Fh {l:aI} (h:l≠[]):∃r x,l=r++[x]:=⟨_,_,(List.dropLast_concat_getLast h).symm⟩
theorem Xp:ab 0=[]:=rfl
theorem eq_nil {z af:Int} (h:af=aa 4 [z,0]):decide (af=1)=(ab z==[]):=by
 rw[h];simp only[aa,Xp]
 cases hz:ab z with
 |nil=>rfl
 |cons x r=>simp
def FZ (S:Nat->List (List Int)->List (List Int)->Prop) (K:List (List Int)->List (List Int)->Prop):Prop:=
 ∀z0:Int,0<=z0->z0<=aC->
 ∀af:Int,0<=af->af<=1->af=aa 4 [59,z0]->
 (((decide (af=1))=true->
  ad 2 [z0,0,0]/\
  ∀z2:Int,0<=z2->z2<=aC->z2=aa 2 [z0,0,0]->
  ∀z3:Int,0<=z3->z3<=9223372036854775807->z3=aa 0 [z0]->
  ad 2 [z0,1,z3]/\
  ∀z4:Int,0<=z4->z4<=aC->z4=aa 2 [z0,1,z3]->
  K [[z0]] [[z2],[z4],[(cond (true) 1 0)]]
 )/\((decide (af=1))=false->
  ∀z2:Int,(-1)<=z2->z2<=9223372036854775807->S 73 [[z0],[58]] [[z2]]->
  (((decide (0<=z2))=true->
   ad 2 [z0,0,z2]/\
   ∀z3:Int,0<=z3->z3<=aC->z3=aa 2 [z0,0,z2]->
   ∀z4:Int,0<=z4->z4<=1->0<=(z2+9223372036854775809)-18446744073709551616*z4->(z2+9223372036854775809)-18446744073709551616*z4<18446744073709551616->
   ∀z5:Int,0<=z5->z5<=9223372036854775807->z5=aa 0 [z0]->
   ad 2 [z0,((z2+((-18446744073709551616)*z4))+1),z5]/\
   ∀ai:Int,0<=ai->ai<=aC->ai=aa 2 [z0,((z2+((-18446744073709551616)*z4))+1),z5]->
   K [[z0]] [[z3],[ai],[(cond (true) 1 0)]]
  )/\((decide (0<=z2))=false->
   K [[z0]] [[z0],[0],[(cond (false) 1 0)]]
  ))
 ))
def F5 (S:Nat->List (List Int)->List (List Int)->Prop) (K:List (List Int)->List (List Int)->Prop):Prop:=
 ∀z0:Int,0<=z0->z0<=aC->∀af:Int,0<=af->af<=aC->
 ∀z2:Int,0<=z2->z2<=9223372036854775807->z2=aa 0 [z0]->
 ∃(eX:List (List Int)->Prop) (dm:List (List Int)->Nat),eX [[0]]/\(∀z4:Int,0<=z4->z4<=9223372036854775807->eX [[z4]]->
  (((decide (z4<z2))=true->
   ad 1 [z0,z4]/\
   ∀z5:Int,0<=z5->z5<=255->z5=aa 1 [z0,z4]->
   ∀ai:Int,(-1)<=ai->ai<=9223372036854775807->S 73 [[af],[z5]] [[ai]]->
   (((decide (ai<0))=true->
    K [[z0],[af]] [[(cond (false) 1 0)]]
   )/\((decide (ai<0))=false->
    ∀aq:Int,0<=aq->aq<=1->0<=(z4+9223372036854775809)-18446744073709551616*aq->(z4+9223372036854775809)-18446744073709551616*aq<18446744073709551616->
    ad 39 [((z4+((-18446744073709551616)*aq))+1),0,9223372036854775807]/\
    (eX [[((z4+((-18446744073709551616)*aq))+1)]]/\dm [[((z4+((-18446744073709551616)*aq))+1)]]<dm [[z4]])
   ))
  )/\((decide (z4<z2))=false->
   K [[z0],[af]] [[(cond (true) 1 0)]]
  ))
 )
theorem VU {c n:Int} (h0:0<=c) (h1:c<=255) (hn:ab n=[u8 c]) {id:Nat} (hid:∀z a b r,SB id [[z]] [[a],[b],[r]]=((ab a,ab b,r)=kB c (ab z))):
 (∀z0:Int,0<=z0->z0<=aC->
 ∀af:Int,0<=af->af<=1->af=aa 4 [n,z0]->
 (((decide (af=1))=true->
  ad 2 [z0,0,0]/\
  ∀z2:Int,0<=z2->z2<=aC->z2=aa 2 [z0,0,0]->
  ∀z3:Int,0<=z3->z3<=9223372036854775807->z3=aa 0 [z0]->
  ad 2 [z0,1,z3]/\
  ∀z4:Int,0<=z4->z4<=aC->z4=aa 2 [z0,1,z3]->
  bZ SB [.str,.str,.bool] id [[z0]] [[z2],[z4],[(cond (true) 1 0)]]
 )/\((decide (af=1))=false->
  ∀z2:Int,(-1)<=z2->z2<=9223372036854775807->SB 73 [[z0],[c]] [[z2]]->
  (((decide (0<=z2))=true->
   ad 2 [z0,0,z2]/\
   ∀z3:Int,0<=z3->z3<=aC->z3=aa 2 [z0,0,z2]->
   ∀z4:Int,0<=z4->z4<=1->0<=(z2+9223372036854775809)-18446744073709551616*z4->(z2+9223372036854775809)-18446744073709551616*z4<18446744073709551616->
   ∀z5:Int,0<=z5->z5<=9223372036854775807->z5=aa 0 [z0]->
   ad 2 [z0,((z2+((-18446744073709551616)*z4))+1),z5]/\
   ∀ai:Int,0<=ai->ai<=aC->ai=aa 2 [z0,((z2+((-18446744073709551616)*z4))+1),z5]->
   bZ SB [.str,.str,.bool] id [[z0]] [[z3],[ai],[(cond (true) 1 0)]]
  )/\((decide (0<=z2))=false->
   bZ SB [.str,.str,.bool] id [[z0]] [[z0],[0],[(cond (false) 1 0)]]
  ))
 ))):=by
  intro z0 a0 a1 af b0 b1 hz1
  simp only[aa,hn]at hz1
  refine⟨λh=>?_,λh z2 bY c1 h2=>?_⟩
  ·have hs:ab z0=[u8 c]:=by
    by_cases h':[u8 c]=ab z0
    ·exact h'.symm
    ·rw[if_neg h']at hz1;subst hz1;simp at h
   refine⟨⟨by omega,by omega,by omega⟩,λz2 bY c1 h2 z3 d0 d1 h3=>?_⟩
   simp only[aa,hs,List.length_singleton]at h3
   refine⟨⟨by omega,by omega,by rw[hs];simp only[List.length_singleton];omega⟩,λz4 cA e1 h4=>⟨⟨bY,c1,cA,e1,by decide,by decide,trivial⟩,?_⟩⟩
   rw[hid]
   have e2:ab z2=[]:=by rw[h2];simp[aa,gR]
   have en:ab z4=[]:=by rw[h4];simp[aa,gR,hs]
   have O5:idx c [u8 c]=0:=by simp[idx,Ar h0 h1]
   rw[e2,en,hs]
   simp[kB,O5]
  ·have h2:z2=idx c (ab z0):=h2
   refine⟨λhp=>?_,λhp=>⟨⟨a0,a1,Int.le_refl _,mh,by decide,by decide,trivial⟩,?_⟩⟩
   ·have hp:0<=z2:=by simpa using hp
    have hr:=rR c (ab z0)
    have hL:=r7 a1
    refine⟨⟨by omega,by omega,by omega⟩,λz3 d0 d1 h3 z4 cA e1 e2 e3 z5 f0 f1 h5=>?_⟩
    simp only[aa]at h5
    have Pd:z2+-18446744073709551616*z4+1=z2+1:=by omega
    rw[Pd]
    refine⟨⟨by omega,by omega,by omega⟩,λai g0 g1 h6=>⟨⟨d0,d1,g0,g1,by decide,by decide,trivial⟩,?_⟩⟩
    rw[hid]
    have e3:ab z3=(ab z0).take z2.toNat:=by rw[h3];simp[aa,gR]
    have n9:ab ai=(ab z0).drop (z2.toNat+1):=by
     rw[h6];simp only[aa,gR]
     rw[show(z2+1).toNat=z2.toNat+1 by omega]
     exact List.take_of_length_le (by simp;omega)
    rw[e3,n9]
    unfold kB
    rw[<-h2,show decide (0<=z2)=true by simpa using hp]
    rfl
   ·rw[hid]
    unfold kB
    rw[<-h2,hp]
    rfl
theorem VV:FZ SB (bZ SB [.str,.str,.bool] 126):=VU (c:=58) (n:=59) (by decide) (by decide) (by decide) λ_ _ _ _=>rfl
theorem Bh (p:UInt8->Bool) (l:aI) (i:Nat) (h:i<l.length):(l.take (i+1)).all p=((l.take i).all p&&p (l.getD i 0)):=by
 rw[Fw l i h];simp
theorem Bg (p:UInt8->Bool) (l:aI) (i:Nat) (h:i<l.length) (hp:p (l.getD i 0)=false):l.all p=false:=by
 rw[List.all_eq_false]
 refine⟨l.getD i 0,?_,λe=>by rw[hp]at e;cases e⟩
 simp[List.getD,h]
theorem FF {z q L:Int} (h:z<L) (hL:L<=9223372036854775807) (h0:0<=z) (q0:0<=q) (e2:0<=(z+9223372036854775809)-18446744073709551616*q):z+-18446744073709551616*q+1=z+1:=by omega
theorem Wd {id:Nat} (hid:∀s b r,SB id [[s],[b]] [[r]]=(r=aT ((ab s).all λc=>(ab b).contains c))):
 (∀z0:Int,0<=z0->z0<=aC->∀af:Int,0<=af->af<=aC->
 ∀z2:Int,0<=z2->z2<=9223372036854775807->z2=aa 0 [z0]->
 ∃(eX:List (List Int)->Prop) (dm:List (List Int)->Nat),eX [[0]]/\(∀z4:Int,0<=z4->z4<=9223372036854775807->eX [[z4]]->
  (((decide (z4<z2))=true->
   ad 1 [z0,z4]/\
   ∀z5:Int,0<=z5->z5<=255->z5=aa 1 [z0,z4]->
   ∀ai:Int,(-1)<=ai->ai<=9223372036854775807->SB 73 [[af],[z5]] [[ai]]->
   (((decide (ai<0))=true->
    bZ SB [.bool] id [[z0],[af]] [[(cond (false) 1 0)]]
   )/\((decide (ai<0))=false->
    ∀aq:Int,0<=aq->aq<=1->0<=(z4+9223372036854775809)-18446744073709551616*aq->(z4+9223372036854775809)-18446744073709551616*aq<18446744073709551616->
    ad 39 [((z4+((-18446744073709551616)*aq))+1),0,9223372036854775807]/\
    (eX [[((z4+((-18446744073709551616)*aq))+1)]]/\dm [[((z4+((-18446744073709551616)*aq))+1)]]<dm [[z4]])
   ))
  )/\((decide (z4<z2))=false->
   bZ SB [.bool] id [[z0],[af]] [[(cond (true) 1 0)]]
  ))
 )):=by
  intro z0 a0 a1 af b0 b1 z2 bY c1 h2
  simp only[aa]at h2
  refine⟨λbl=>∃i:Nat,bl=[[(i:Int)]]/\i<=(ab z0).length/\((ab z0).take i).all (λc=>(ab af).contains c)=true,λbl=>(ab z0).length-((bl.getD 0 []).getD 0 0).toNat,⟨0,rfl,Nat.zero_le _,rfl⟩,?_⟩
  rintro z4 d0 d1 ⟨i,e,hi,hall⟩
  obtain rfl:z4=i:=by simpa using e
  refine⟨λhp=>?_,λhp=>⟨⟨by decide,by decide,trivial⟩,?_⟩⟩
  ·have hp:(i:Int)<z2:=by simpa using hp
   refine⟨⟨d0,by omega⟩,λz5 cA e1 h5 ai f0 f1 h6=>?_⟩
   have h6:ai=idx z5 (ab af):=h6
   simp only[aa,Int.toNat_natCast]at h5
   have hu:u8 z5=(ab z0).getD i 0:=by rw[h5,uP]
   have hm:=J1 cA e1 (ab af)
   rw[hu,<-h6]at hm
   refine⟨λhq=>⟨⟨by decide,by decide,trivial⟩,?_⟩,λhq aq g0 g1 g2 g3=>?_⟩
   ·rw[hid,Bg _ _ i (by omega) (by rw[<-hm];simpa using hq)];rfl
   ·have hq:0<=ai:=by simpa using hq
    rw[FF (L:=z2) hp c1 d0 g0 g2]
    refine⟨⟨by omega,by omega⟩,⟨i+1,by simp,by omega,?_⟩,?_⟩
    ·rw[Bh _ _ _ (by omega),hall,<-hm];simpa using hq
    ·show(ab z0).length-((i:Int)+1).toNat<(ab z0).length-(i:Int).toNat
     omega
  ·have hp:¬(i:Int)<z2:=by simpa using hp
   rw[List.take_of_length_le (by omega)]at hall
   rw[hid,hall];rfl
theorem V0:F5 SB (bZ SB [.bool] 65):=Wd λ_ _ _=>rfl
def Gs (S:Nat->List (List Int)->List (List Int)->Prop) (K:List (List Int)->List (List Int)->Prop):Prop:=
 ∀z0:Int,0<=z0->z0<=aC->
 ∀af:Int,0<=af->af<=1->af=aa 4 [z0,0]->
 (((decide (af=1))=true->
  K [[z0]] [[z0]]
 )/\((decide (af=1))=false->
  ∃(gq:List (List Int)->Prop) (jH:List (List Int)->Nat),gq [[z0]]/\(∀z3:Int,0<=z3->z3<=aC->gq [[z3]]->
   ∀z4:Int,0<=z4->z4<=9223372036854775807->z4=aa 0 [z3]->
   (((decide (0<z4))=true->
    ∀z5:Int,0<=z5->z5<=9223372036854775807->z5=aa 0 [z3]->
    ad 1 [z3,(z5+(-1))]/\
    ∀ai:Int,0<=ai->ai<=255->ai=aa 1 [z3,(z5+(-1))]->
    ∀aq:Int,0<=aq->aq<=1->aq=aa 43 [12125,ai]->
    ((((!(decide (aq=1))))=true->
     ∃(eN:List (List Int)->Prop) (fb:List (List Int)->Nat),eN [[z3]]/\(∀z9:Int,0<=z9->z9<=aC->eN [[z9]]->
      ∀ao:Int,0<=ao->ao<=9223372036854775807->ao=aa 0 [z9]->
      (((decide (0<ao))=true->
       ad 1 [z9,0]/\
       ∀ax:Int,0<=ax->ax<=255->ax=aa 1 [z9,0]->
       ∀z12:Int,0<=z12->z12<=1->z12=aa 43 [12125,ax]->
       ((((!(decide (z12=1))))=true->
        K [[z0]] [[z9]]
       )/\(((!(decide (z12=1))))=false->
        ∀aj:Int,0<=aj->aj<=9223372036854775807->aj=aa 0 [z9]->
        ad 2 [z9,1,aj]/\
        ∀aw:Int,0<=aw->aw<=aC->aw=aa 2 [z9,1,aj]->
        (eN [[aw]]/\fb [[aw]]<fb [[z9]])
       ))
      )/\((decide (0<ao))=false->
       K [[z0]] [[z9]]
      ))
     )
    )/\(((!(decide (aq=1))))=false->
     ∀ak:Int,0<=ak->ak<=9223372036854775807->ak=aa 0 [z3]->
     ad 2 [z3,0,(ak+(-1))]/\
     ∀z9:Int,0<=z9->z9<=aC->z9=aa 2 [z3,0,(ak+(-1))]->
     (gq [[z9]]/\jH [[z9]]<jH [[z3]])
    ))
   )/\((decide (0<z4))=false->
    ∃(dC:List (List Int)->Prop) (eu:List (List Int)->Nat),dC [[z3]]/\(∀ai:Int,0<=ai->ai<=aC->dC [[ai]]->
     ∀aq:Int,0<=aq->aq<=9223372036854775807->aq=aa 0 [ai]->
     (((decide (0<aq))=true->
      ad 1 [ai,0]/\
      ∀ak:Int,0<=ak->ak<=255->ak=aa 1 [ai,0]->
      ∀z9:Int,0<=z9->z9<=1->z9=aa 43 [12125,ak]->
      ((((!(decide (z9=1))))=true->
       K [[z0]] [[ai]]
      )/\(((!(decide (z9=1))))=false->
       ∀ao:Int,0<=ao->ao<=9223372036854775807->ao=aa 0 [ai]->
       ad 2 [ai,1,ao]/\
       ∀ax:Int,0<=ax->ax<=aC->ax=aa 2 [ai,1,ao]->
       (dC [[ax]]/\eu [[ax]]<eu [[ai]])
      ))
     )/\((decide (0<aq))=false->
      K [[z0]] [[ai]]
     ))
    )
   ))
  )
 ))
def Gt (S:Nat->List (List Int)->List (List Int)->Prop) (K:List (List Int)->List (List Int)->Prop):Prop:=
 ∀z0:Int,0<=z0->z0<=aC->
 ∀af:Int,0<=af->af<=1->af=aa 4 [z0,0]->
 (((decide (af=1))=true->
  K [[z0]] [[z0]]
 )/\((decide (af=1))=false->
  ∃(gq:List (List Int)->Prop) (jH:List (List Int)->Nat),gq [[z0]]/\(∀z3:Int,0<=z3->z3<=aC->gq [[z3]]->
   ∀z4:Int,0<=z4->z4<=9223372036854775807->z4=aa 0 [z3]->
   (((decide (0<z4))=true->
    ∀z5:Int,0<=z5->z5<=9223372036854775807->z5=aa 0 [z3]->
    ad 1 [z3,(z5+(-1))]/\
    ∀ai:Int,0<=ai->ai<=255->ai=aa 1 [z3,(z5+(-1))]->
    ∀aq:Int,0<=aq->aq<=1->aq=aa 43 [8267443711659794979134808499087199072256874527605039863196959864303977456569186565734100443375465041388132907546406408792979960403300126342849461211344038,ai]->
    ((((!(decide (aq=1))))=true->
     ∃(eN:List (List Int)->Prop) (fb:List (List Int)->Nat),eN [[z3]]/\(∀z9:Int,0<=z9->z9<=aC->eN [[z9]]->
      ∀ao:Int,0<=ao->ao<=9223372036854775807->ao=aa 0 [z9]->
      (((decide (0<ao))=true->
       ad 1 [z9,0]/\
       ∀ax:Int,0<=ax->ax<=255->ax=aa 1 [z9,0]->
       ∀z12:Int,0<=z12->z12<=1->z12=aa 43 [8267443711659794979134808499087199072256874527605039863196959864303977456569186565734100443375465041388132907546406408792979960403300126342849461211344038,ax]->
       ((((!(decide (z12=1))))=true->
        K [[z0]] [[z9]]
       )/\(((!(decide (z12=1))))=false->
        ∀aj:Int,0<=aj->aj<=9223372036854775807->aj=aa 0 [z9]->
        ad 2 [z9,1,aj]/\
        ∀aw:Int,0<=aw->aw<=aC->aw=aa 2 [z9,1,aj]->
        (eN [[aw]]/\fb [[aw]]<fb [[z9]])
       ))
      )/\((decide (0<ao))=false->
       K [[z0]] [[z9]]
      ))
     )
    )/\(((!(decide (aq=1))))=false->
     ∀ak:Int,0<=ak->ak<=9223372036854775807->ak=aa 0 [z3]->
     ad 2 [z3,0,(ak+(-1))]/\
     ∀z9:Int,0<=z9->z9<=aC->z9=aa 2 [z3,0,(ak+(-1))]->
     (gq [[z9]]/\jH [[z9]]<jH [[z3]])
    ))
   )/\((decide (0<z4))=false->
    ∃(dC:List (List Int)->Prop) (eu:List (List Int)->Nat),dC [[z3]]/\(∀ai:Int,0<=ai->ai<=aC->dC [[ai]]->
     ∀aq:Int,0<=aq->aq<=9223372036854775807->aq=aa 0 [ai]->
     (((decide (0<aq))=true->
      ad 1 [ai,0]/\
      ∀ak:Int,0<=ak->ak<=255->ak=aa 1 [ai,0]->
      ∀z9:Int,0<=z9->z9<=1->z9=aa 43 [8267443711659794979134808499087199072256874527605039863196959864303977456569186565734100443375465041388132907546406408792979960403300126342849461211344038,ak]->
      ((((!(decide (z9=1))))=true->
       K [[z0]] [[ai]]
      )/\(((!(decide (z9=1))))=false->
       ∀ao:Int,0<=ao->ao<=9223372036854775807->ao=aa 0 [ai]->
       ad 2 [ai,1,ao]/\
       ∀ax:Int,0<=ax->ax<=aC->ax=aa 2 [ai,1,ao]->
       (dC [[ax]]/\eu [[ax]]<eu [[ai]])
      ))
     )/\((decide (0<aq))=false->
      K [[z0]] [[ai]]
     ))
    )
   ))
  )
 ))
def Gr (S:Nat->List (List Int)->List (List Int)->Prop) (K:List (List Int)->List (List Int)->Prop):Prop:=
 ∀z0:Int,0<=z0->z0<=aC->
 ∀af:Int,0<=af->af<=1->af=aa 4 [z0,0]->
 (((decide (af=1))=true->
  K [[z0]] [[z0]]
 )/\((decide (af=1))=false->
  ∃(gq:List (List Int)->Prop) (jH:List (List Int)->Nat),gq [[z0]]/\(∀z3:Int,0<=z3->z3<=aC->gq [[z3]]->
   ∀z4:Int,0<=z4->z4<=9223372036854775807->z4=aa 0 [z3]->
   (((decide (0<z4))=true->
    ∀z5:Int,0<=z5->z5<=9223372036854775807->z5=aa 0 [z3]->
    ad 1 [z3,(z5+(-1))]/\
    ∀ai:Int,0<=ai->ai<=255->ai=aa 1 [z3,(z5+(-1))]->
    ∀aq:Int,0<=aq->aq<=1->aq=aa 43 [284767230291263911083031,ai]->
    ((((!(decide (aq=1))))=true->
     ∃(eN:List (List Int)->Prop) (fb:List (List Int)->Nat),eN [[z3]]/\(∀z9:Int,0<=z9->z9<=aC->eN [[z9]]->
      ∀ao:Int,0<=ao->ao<=9223372036854775807->ao=aa 0 [z9]->
      (((decide (0<ao))=true->
       ad 1 [z9,0]/\
       ∀ax:Int,0<=ax->ax<=255->ax=aa 1 [z9,0]->
       ∀z12:Int,0<=z12->z12<=1->z12=aa 43 [284767230291263911083031,ax]->
       ((((!(decide (z12=1))))=true->
        K [[z0]] [[z9]]
       )/\(((!(decide (z12=1))))=false->
        ∀aj:Int,0<=aj->aj<=9223372036854775807->aj=aa 0 [z9]->
        ad 2 [z9,1,aj]/\
        ∀aw:Int,0<=aw->aw<=aC->aw=aa 2 [z9,1,aj]->
        (eN [[aw]]/\fb [[aw]]<fb [[z9]])
       ))
      )/\((decide (0<ao))=false->
       K [[z0]] [[z9]]
      ))
     )
    )/\(((!(decide (aq=1))))=false->
     ∀ak:Int,0<=ak->ak<=9223372036854775807->ak=aa 0 [z3]->
     ad 2 [z3,0,(ak+(-1))]/\
     ∀z9:Int,0<=z9->z9<=aC->z9=aa 2 [z3,0,(ak+(-1))]->
     (gq [[z9]]/\jH [[z9]]<jH [[z3]])
    ))
   )/\((decide (0<z4))=false->
    ∃(dC:List (List Int)->Prop) (eu:List (List Int)->Nat),dC [[z3]]/\(∀ai:Int,0<=ai->ai<=aC->dC [[ai]]->
     ∀aq:Int,0<=aq->aq<=9223372036854775807->aq=aa 0 [ai]->
     (((decide (0<aq))=true->
      ad 1 [ai,0]/\
      ∀ak:Int,0<=ak->ak<=255->ak=aa 1 [ai,0]->
      ∀z9:Int,0<=z9->z9<=1->z9=aa 43 [284767230291263911083031,ak]->
      ((((!(decide (z9=1))))=true->
       K [[z0]] [[ai]]
      )/\(((!(decide (z9=1))))=false->
       ∀ao:Int,0<=ao->ao<=9223372036854775807->ao=aa 0 [ai]->
       ad 2 [ai,1,ao]/\
       ∀ax:Int,0<=ax->ax<=aC->ax=aa 2 [ai,1,ao]->
       (dC [[ax]]/\eu [[ax]]<eu [[ai]])
      ))
     )/\((decide (0<aq))=false->
      K [[z0]] [[ai]]
     ))
    )
   ))
  )
 ))
theorem Io {n z q:Int} {p:UInt8->Bool} (hn:∀c,(ab n).contains c=p c) (h:q=aa 43 [n,z]):decide (q=1)=p (u8 z):=by
 rw[h];simp only[aa]
 have:=hn (u8 z)
 unfold u8 at this⊢
 rw[<-this]
 by_cases hm:UInt8.ofNat z.toNat∈ab n
 ·simp[hm]
 ·simp[hm]
theorem zP {n:Int} {p:UInt8->Bool} (hn:∀c,(ab n).contains c=p c) {id:Nat} (hid:∀z r,SB id [[z]] [[r]]=(ab r=ix p (ab z))):
 (∀z0:Int,0<=z0->z0<=aC->
 ∀af:Int,0<=af->af<=1->af=aa 4 [z0,0]->
 (((decide (af=1))=true->
   bZ SB [.str] id [[z0]] [[z0]]
 )/\((decide (af=1))=false->
  ∃(gq:List (List Int)->Prop) (jH:List (List Int)->Nat),gq [[z0]]/\(∀z3:Int,0<=z3->z3<=aC->gq [[z3]]->
   ∀z4:Int,0<=z4->z4<=9223372036854775807->z4=aa 0 [z3]->
   (((decide (0<z4))=true->
    ∀z5:Int,0<=z5->z5<=9223372036854775807->z5=aa 0 [z3]->
    ad 1 [z3,(z5+(-1))]/\
    ∀ai:Int,0<=ai->ai<=255->ai=aa 1 [z3,(z5+(-1))]->
    ∀aq:Int,0<=aq->aq<=1->aq=aa 43 [n,ai]->
    ((((!(decide (aq=1))))=true->
     ∃(eN:List (List Int)->Prop) (fb:List (List Int)->Nat),eN [[z3]]/\(∀z9:Int,0<=z9->z9<=aC->eN [[z9]]->
      ∀ao:Int,0<=ao->ao<=9223372036854775807->ao=aa 0 [z9]->
      (((decide (0<ao))=true->
       ad 1 [z9,0]/\
       ∀ax:Int,0<=ax->ax<=255->ax=aa 1 [z9,0]->
       ∀z12:Int,0<=z12->z12<=1->z12=aa 43 [n,ax]->
       ((((!(decide (z12=1))))=true->
         bZ SB [.str] id [[z0]] [[z9]]
       )/\(((!(decide (z12=1))))=false->
        ∀aj:Int,0<=aj->aj<=9223372036854775807->aj=aa 0 [z9]->
        ad 2 [z9,1,aj]/\
        ∀aw:Int,0<=aw->aw<=aC->aw=aa 2 [z9,1,aj]->
        (eN [[aw]]/\fb [[aw]]<fb [[z9]])
       ))
      )/\((decide (0<ao))=false->
       bZ SB [.str] id [[z0]] [[z9]]
      ))
     )
    )/\(((!(decide (aq=1))))=false->
     ∀ak:Int,0<=ak->ak<=9223372036854775807->ak=aa 0 [z3]->
     ad 2 [z3,0,(ak+(-1))]/\
     ∀z9:Int,0<=z9->z9<=aC->z9=aa 2 [z3,0,(ak+(-1))]->
     (gq [[z9]]/\jH [[z9]]<jH [[z3]])
    ))
   )/\((decide (0<z4))=false->
    ∃(dC:List (List Int)->Prop) (eu:List (List Int)->Nat),dC [[z3]]/\(∀ai:Int,0<=ai->ai<=aC->dC [[ai]]->
     ∀aq:Int,0<=aq->aq<=9223372036854775807->aq=aa 0 [ai]->
     (((decide (0<aq))=true->
      ad 1 [ai,0]/\
      ∀ak:Int,0<=ak->ak<=255->ak=aa 1 [ai,0]->
      ∀z9:Int,0<=z9->z9<=1->z9=aa 43 [n,ak]->
      ((((!(decide (z9=1))))=true->
        bZ SB [.str] id [[z0]] [[ai]]
      )/\(((!(decide (z9=1))))=false->
       ∀ao:Int,0<=ao->ao<=9223372036854775807->ao=aa 0 [ai]->
       ad 2 [ai,1,ao]/\
       ∀ax:Int,0<=ax->ax<=aC->ax=aa 2 [ai,1,ao]->
       (dC [[ax]]/\eu [[ax]]<eu [[ai]])
      ))
     )/\((decide (0<aq))=false->
      bZ SB [.str] id [[z0]] [[ai]]
     ))
    )
   ))
  )
 ))):=by
  intro z0 a0 a1 af b0 b1 hz1
  rw[eq_nil hz1]
  have inner:∀z3:Int,0<=z3->z3<=aC->ab z3=hS p (ab z0)->∃(eN:List (List Int)->Prop) (fb:List (List Int)->Nat),eN [[z3]]/\(∀z9:Int,0<=z9->z9<=aC->eN [[z9]]->
   ∀ao:Int,0<=ao->ao<=9223372036854775807->ao=aa 0 [z9]->
   (((decide (0<ao))=true->
    ad 1 [z9,0]/\
    ∀ax:Int,0<=ax->ax<=255->ax=aa 1 [z9,0]->
    ∀z12:Int,0<=z12->z12<=1->z12=aa 43 [n,ax]->
    ((((!(decide (z12=1))))=true->
     bZ SB [.str] id [[z0]] [[z9]]
    )/\(((!(decide (z12=1))))=false->
     ∀aj:Int,0<=aj->aj<=9223372036854775807->aj=aa 0 [z9]->
     ad 2 [z9,1,aj]/\
     ∀aw:Int,0<=aw->aw<=aC->aw=aa 2 [z9,1,aj]->
     (eN [[aw]]/\fb [[aw]]<fb [[z9]])
    ))
   )/\((decide (0<ao))=false->
    bZ SB [.str] id [[z0]] [[z9]]
   ))):=by
   intro z3 a0 a1 h3
   refine⟨λbl=>∃z,bl=[[z]]/\jz p (ab z)=jz p (hS p (ab z0)),λbl=>(ab ((bl.getD 0 []).getD 0 0)).length,⟨z3,rfl,by rw[h3]⟩,?_⟩
   rintro z9 bY c1 ⟨z,e,hz⟩
   obtain rfl:z9=z:=by simpa using e
   intro z4 d0 d1 ik
   simp only[aa]at ik
   cases hl:ab z9 with
   |nil=>
    rw[hl]at ik hz
    simp only[List.length_nil]at ik
    subst ik
    refine⟨λhp=>by simp at hp,λ_=>⟨⟨bY,c1,trivial⟩,?_⟩⟩
    rw[hid,hl];exact hz
   |cons x r=>
    rw[hl]at ik hz
    simp only[List.length_cons]at ik
    refine⟨λ_=>⟨⟨Int.le_refl _,by rw[hl];simp only[List.length_cons];omega⟩,?_⟩,λhp=>by simp at hp;omega⟩
    intro z5 cA e1 tR
    simp only[aa,hl,Int.toNat_zero,List.getD_cons_zero]at tR
    intro ai f0 f1 oE
    rw[Io hn oE,tR,uP]
    refine⟨λhe=>⟨⟨bY,c1,trivial⟩,?_⟩,λhe=>?_⟩
    ·rw[hid,hl]
     have he:p x=false:=by simpa using he
     show x::r=jz p (hS p (ab z0))
     rw[<-hz]
     simp[jz,List.dropWhile_cons,he]
    ·have he:p x=true:=by simpa using he
     intro aj f0 f1 oE
     simp only[aa,hl,List.length_cons]at oE
     refine⟨⟨by omega,by omega,by rw[hl];simp only[List.length_cons];omega⟩,?_⟩
     intro aq g0 g1 wM
     have hr:ab aq=r:=by
      rw[wM];simp only[aa,gR,hl]
      rw[show(1:Int).toNat=1 from rfl,List.drop_one,List.tail_cons]
      exact List.take_of_length_le (by omega)
     refine⟨⟨aq,rfl,?_⟩,?_⟩
     ·rw[hr,<-hz];simp only[jz,List.dropWhile_cons,he,if_true]
     ·show(ab aq).length<(ab z9).length
      rw[hr,hl];simp
  refine⟨λh=>⟨⟨a0,a1,trivial⟩,?_⟩,λh=>?_⟩
  ·rw[hid]
   have:ab z0=[]:=by simpa using h
   rw[this];rfl
  ·refine⟨λbl=>∃z,bl=[[z]]/\hS p (ab z)=hS p (ab z0),λbl=>(ab ((bl.getD 0 []).getD 0 0)).length,⟨z0,rfl,rfl⟩,?_⟩
   rintro z3 bY c1 ⟨z,e,hz⟩
   obtain rfl:z3=z:=by simpa using e
   intro z4 d0 d1 ik
   simp only[aa]at ik
   by_cases hl:ab z3=[]
   ·have aau:=ik
    rw[hl]at ik
    simp only[List.length_nil]at ik
    subst ik
    refine⟨λhp=>by simp at hp,λ_=>inner z3 bY c1 ?_⟩
    rw[hl]at hz⊢
    exact hz
   ·obtain⟨r,x,hl⟩:=Fh hl
    rw[hl]at ik hz
    simp only[List.length_append,List.length_cons,List.length_nil]at ik
    refine⟨λ_=>?_,λhp=>by simp at hp;omega⟩
    intro z5 d0 d1 tR
    simp only[aa,hl,List.length_append,List.length_cons,List.length_nil]at tR
    refine⟨⟨by omega,by rw[hl];simp only[List.length_append,List.length_cons,List.length_nil];omega⟩,?_⟩
    intro ai f0 f1 oE
    have ht:(z5+-1).toNat=r.length:=by omega
    simp only[aa,hl,ht]at oE
    rw[show((r++[x]).getD r.length 0)=x by simp[List.getD]]at oE
    intro aq g0 g1 wM
    rw[Io hn wM,oE,uP]
    refine⟨λhe=>inner z3 bY c1 ?_,λhe=>?_⟩
    ·have he:p x=false:=by simpa using he
     rw[hl,<-hz,Ac,he,cond_false]
    ·have he:p x=true:=by simpa using he
     intro aq f0 f1 wM
     simp only[aa,hl,List.length_append,List.length_cons,List.length_nil]at wM
     have Sc:(aq+-1).toNat=r.length:=by omega
     refine⟨⟨by omega,by omega,by rw[hl];simp only[List.length_append,List.length_cons,List.length_nil];omega⟩,?_⟩
     intro ak g0 g1 Ss
     have hr:ab ak=r:=by
      rw[Ss];simp only[aa,gR,hl,Sc]
      simp
     refine⟨⟨ak,rfl,?_⟩,?_⟩
     ·rw[hr,<-hz,Ac,he,cond_true]
     ·show(ab ak).length<(ab z3).length
      rw[hr,hl];simp
theorem qF {q p:UInt8->Bool} (h:((List.range 256).all λi=>q (UInt8.ofNat i)==p (UInt8.ofNat i))=true) (c:UInt8):q c=p c:=by
 have:=List.all_eq_true.1 h c.toNat (List.mem_range.2 c.toNat_lt)
 simpa using this
theorem Wp:Gs SB (bZ SB [.str] 122):=zP (n:=12125) (p:=iB) (qF (by decide+kernel)) λ_ _=>rfl
theorem Wq:Gt SB (bZ SB [.str] 123):=zP (n:=8267443711659794979134808499087199072256874527605039863196959864303977456569186565734100443375465041388132907546406408792979960403300126342849461211344038) (p:=jd) (qF (by decide+kernel)) λ_ _=>rfl
theorem Wo:Gr SB (bZ SB [.str] 124):=zP (n:=284767230291263911083031) (p:=dT) (qF (by decide+kernel)) λ_ _=>rfl
end Go.bG
namespace Go.bG
open Go Go.bo
def F4 (S:Nat->List (List Int)->List (List Int)->Prop) (K:List (List Int)->List (List Int)->Prop):Prop:=
 ∀z0:Int,0<=z0->z0<=aC->
 ∀af:Int,0<=af->af<=1->af=aa 4 [z0,0]->
 ((((!(decide (af=1))))=true->
  ∀z2:Int,0<=z2->z2<=9223372036854775807->z2=aa 0 [z0]->
  (((decide (z2<=230))=true->
   ∀z3:Int,0<=z3->z3<=aC->S 123 [[z0]] [[z3]]->
   ∀z4:Int,0<=z4->z4<=1->z4=aa 4 [z3,0]->
   (((decide (z4=1))=true->
    ∀z5:Int,0<=z5->z5<=1->S 65 [[z0],[3092260449727753699381237987134896180985020549865866695797500355328521677512090486983914513878993150076419119825652852662229468458769751959831595687466918]] [[z5]]->
    (((decide (z5=1))=true->
     ∀ai:Int,0<=ai->ai<=aC->S 122 [[z0]] [[ai]]->
     ∀aq:Int,0<=aq->aq<=1->aq=aa 4 [ai,z0]->
     (((decide (aq=1))=true->
      ad 41 [z0]/\
      ∀ak:Int,0<=ak->ak<=1->S 128 [[z0]] [[ak]]->
      K [[z0]] [[(cond ((!(decide (ak=1)))) 1 0)]]
     )/\((decide (aq=1))=false->
      K [[z0]] [[(cond (false) 1 0)]]
     ))
    )/\((decide (z5=1))=false->
     K [[z0]] [[(cond (false) 1 0)]]
    ))
   )/\((decide (z4=1))=false->
    K [[z0]] [[(cond (false) 1 0)]]
   ))
  )/\((decide (z2<=230))=false->
   K [[z0]] [[(cond (false) 1 0)]]
  ))
 )/\(((!(decide (af=1))))=false->
  K [[z0]] [[(cond (false) 1 0)]]
 ))
theorem zA (p:UInt8->Bool) (l:aI):(jz p l).length<=l.length:=(List.dropWhile_sublist p).length_le
theorem Xe (p:UInt8->Bool) (l:aI):(hS p l).length<=l.length:=by
 unfold hS;rw[List.length_reverse]
 have:=zA p l.reverse
 rwa [List.length_reverse]at this
theorem Uj {p:UInt8->Bool} {l:aI} (h:l.length<=(jz p l).length):jz p l=l:=(List.dropWhile_suffix p).eq_of_length (Nat.le_antisymm (zA p l) h)
theorem Xd {p:UInt8->Bool} {l:aI} (h:l.length<=(hS p l).length):hS p l=l:=by
 have:jz p l.reverse=l.reverse:=Uj (by unfold hS at h;rw[List.length_reverse]at h;rw[List.length_reverse];exact h)
 unfold hS;unfold jz at this;rw[this,List.reverse_reverse]
theorem Ix (r:aI) (x:UInt8):(r++[x]).getD r.length 0=x:=by simp[List.getD]
theorem Yc (p:UInt8->Bool) (s:aI):ix p s=s↔∀i,i<s.length->p (s.getD i 0)=true->0<i/\i+1<s.length:=by
 by_cases hs:s=[]
 ·subst hs;exact⟨λ_ i h=>by simp at h,λ_=>rfl⟩
 ·constructor
  ·intro h i hi hp
   have hl:s.length<=(ix p s).length:=by rw[h];exact Nat.le_refl _
   have h1:=zA p (hS p s)
   have hr:hS p s=s:=Xd (Nat.le_trans hl h1)
   have ht:jz p s=s:=by unfold ix at h;rwa [hr]at h
   refine⟨Nat.pos_of_ne_zero λh0=>?_,Nat.lt_of_le_of_ne hi λh0=>?_⟩
   ·subst h0
    cases s with
    |nil=>exact hs rfl
    |cons x r=>
     have hp:p x=true:=hp
     have h2:jz p (x::r)=jz p r:=by simp[jz,List.dropWhile_cons,hp]
     have:=zA p r
     rw[h2]at ht
     rw[ht]at this
     simp at this
     omega
   ·obtain⟨r,x,rfl⟩:=Fh hs
    have:i=r.length:=by simp at h0;omega
    subst this
    rw[Ix]at hp
    rw[Ac,hp,cond_true]at hr
    have:=Xe p r
    rw[hr]at this
    simp at this
    omega
  ·intro h
   have hr:hS p s=s:=by
    obtain⟨r,x,rfl⟩:=Fh hs
    rw[Ac]
    cases hx:p x with
    |false=>rfl
    |true=>have:=(h r.length (by simp) (by rw[Ix];exact hx)).2;simp at this
   unfold ix;rw[hr]
   cases s with
   |nil=>rfl
   |cons x r=>
    cases hx:p x with
    |false=>simp[jz,List.dropWhile_cons,hx]
    |true=>have:=(h 0 (by simp) hx).1;omega
theorem NT (p:UInt8->Bool) (s:aI):s.all p=true↔∀i,i<s.length->p (s.getD i 0)=true:=by
 rw[List.all_eq_true]
 constructor
 ·intro h i hi
  refine h _ ?_
  simp[List.getD,hi]
 ·intro h x hx
  obtain⟨i,hi,rfl⟩:=List.getElem_of_mem hx
  have:=h i hi
  simpa [List.getD,hi]using this
theorem OR (s:aI):dd s=false↔∀i,i<s.length->¬(s.getD i 0=46/\s.getD (i+1) 0=46):=by
 unfold dd
 rw[List.any_eq_false]
 constructor
 ·intro h i hi al
  exact h i (List.mem_range.2 hi) (by rw[al.1,al.2];rfl)
 ·intro h i hi al
  rw[Bool.and_eq_true,beq_iff_eq,beq_iff_eq]at al
  exact h i (List.mem_range.1 hi) al
theorem K5 (inn fQ:UInt8->Bool) (s:aI):p7 inn fQ s=true↔∀i,i<s.length->inn (s.getD i 0)=true/\(fQ (s.getD i 0)=true->0<i/\i+1<s.length)/\¬(s.getD i 0=46/\0<i/\s.getD (i-1) 0=46):=by
 unfold p7
 rw[List.all_eq_true]
 constructor
 ·intro h i hi
  have:=h i (List.mem_range.2 hi)
  simp only[Bool.and_eq_true,Bool.or_eq_true,Bool.not_eq_true',Nat.blt_eq,Bool.and_eq_false_iff,beq_eq_false_iff_ne]at this
  refine⟨this.1.1,λhe=>?_,λal=>?_⟩
  ·rcases this.1.2 with h1|h1
   ·rw[h1]at he;cases he
   ·exact h1
  ·have h3:Nat.blt 0 i=true:=by rw[Nat.blt_eq];exact al.2.1
   rcases this.2 with(h1|h1)|h1
   ·exact h1 al.1
   ·rw[h3]at h1;cases h1
   ·exact h1 al.2.2
 ·intro h i hi
  obtain⟨h1,h2,h3⟩:=h i (List.mem_range.1 hi)
  simp only[Bool.and_eq_true,Bool.or_eq_true,Bool.not_eq_true',Nat.blt_eq,Bool.and_eq_false_iff,beq_eq_false_iff_ne]
  refine⟨⟨h1,?_⟩,?_⟩
  ·cases he:fQ (s.getD i 0)with
   |false=>exact .inl rfl
   |true=>exact .inr (h2 he)
  ·by_cases e1:s.getD i 0=46
   ·by_cases e2:s.getD (i-1) 0=46
    ·left;right
     cases hb:Nat.blt 0 i with
     |false=>rfl
     |true=>rw[Nat.blt_eq]at hb;exact absurd ⟨e1,hb,e2⟩ h3
    ·exact .inr e2
   ·exact .inl (.inl e1)
theorem zI (inn fQ:UInt8->Bool) (s:aI):p7 inn fQ s=(s.all inn&&decide (ix fQ s=s)&& !dd s):=by
 rw[Bool.eq_iff_iff,K5,Bool.and_eq_true,Bool.and_eq_true,NT,decide_eq_true_eq,Yc,Bool.not_eq_true',OR]
 constructor
 ·intro h
  refine⟨⟨λi hi=>(h i hi).1,λi hi=>(h i hi).2.1⟩,λi hi al=>?_⟩
  by_cases hj:i+1<s.length
  ·exact(h (i+1) hj).2.2 ⟨al.2,by omega,by simpa using al.1⟩
  ·have:s.getD (i+1) 0=0:=by simp[List.getD,show s.length<=i+1 by omega]
   rw[this]at al;exact absurd al.2 (by decide)
 ·rintro⟨⟨h1,h2⟩,h3⟩ i hi
  refine⟨h1 i hi,h2 i hi,λal=>?_⟩
  exact h3 (i-1) (by omega) ⟨al.2.2,by rw[show i-1+1=i by omega];exact al.1⟩
theorem HT {p:UInt8->Bool}:∀{l:aI},l.all p=true->l.dropWhile p=[]
 |[],_=>rfl
 |x::r,h=>by
  simp only[List.all_cons,Bool.and_eq_true]at h
  rw[List.dropWhile_cons,if_pos h.1]
  exact HT h.2
theorem Fy {p:UInt8->Bool} {s:aI} (h:s.all p=true):ix p s=[]:=by
 have:hS p s=[]:=by
  unfold hS
  have:s.reverse.all p=true:=by rw[List.all_reverse];exact h
  rw[HT this];rfl
 unfold ix;rw[this];rfl
theorem lM {z a b:Int} (h:z=aa 4 [a,b]):decide (z=1)=decide (ab a=ab b):=by
 rw[h];simp only[aa]
 by_cases e:ab a=ab b<;>simp[e]
theorem zF {z a:Int} (h:z=aa 4 [a,0]):(!decide (z=1))=Nat.blt 0 (ab a).length:=by
 rw[eq_nil h]
 cases ab a with
 |nil=>rfl
 |cons x r=>simp
theorem ui {z a n:Int} (m:Nat) (hm:n=(m:Int)) (h:z=aa 0 [a]):decide (z<=n)=Nat.ble (ab a).length m:=by
 rw[h,hm];simp only[aa]
 rw[Bool.eq_iff_iff,decide_eq_true_eq,Nat.ble_eq];omega
theorem DY {z a n:Int} (m:Nat) (hm:n=(m:Int)) (h:z=aa 0 [a]):decide (n<z)= !Nat.ble (ab a).length m:=by
 rw[h,hm];simp only[aa]
 rw[Bool.eq_iff_iff,decide_eq_true_eq,Bool.not_eq_true',<-Bool.not_eq_true,Nat.ble_eq];omega
theorem ek {z:Int} {b:Bool} (h:z=aT b):decide (z=1)=b:=by rw[h,vl]
theorem lA {id:Nat} {zs:List (List Int)} {b:Bool} (h:SB id zs [[aT b]]):bZ SB [.bool] id zs [[aT b]]:=⟨⟨(h9 b).1,(h9 b).2,trivial⟩,h⟩
theorem VD (s:aI) {n:Int} (hn:∀c,(ab n).contains c=jd c):(s.all λc=>(ab n).contains c)=s.all jd:=by
 congr 1;funext c;exact hn c
theorem VZ:F4 SB (bZ SB [.bool] 47):=by
 intro z0 a0 a1 af b0 b1 h1
 have bc:∀b:Bool,gg (ab z0)=b->bZ SB [.bool] 47 [[z0]] [[aT b]]:=λb h=>lA (by show aT b=aT (gg (ab z0));rw[h])
 refine⟨λhp z2 bY c1 h2=>⟨λhq z3 d0 d1 h3 z4 cA e1 h4=>⟨λhr z5 f0 f1 h5=>?_,λhr=>bc false ?_⟩,λhq=>bc false ?_⟩,λhp=>bc false ?_⟩
 ·rw[zF h1]at hp
  rw[ui (n:=230) 230 rfl h2]at hq
  have h5:z5=aT ((ab z0).all λc=>(ab _).contains c):=h5
  rw[VD (ab z0) (qF (by decide+kernel))]at h5
  rw[ek h5]
  refine⟨λhs ai g0 g1 h6 aq i0 i1 h7=>?_,λhs=>bc false ?_⟩
  ·have h6:ab ai=ix iB (ab z0):=h6
   rw[lM h7,h6]
   refine⟨λht=>⟨?_,λak pO gP bC=>?_⟩,λht=>bc false ?_⟩
   ·show(ab z0).length<=4294967280
    rw[Nat.ble_eq]at hq;omega
   ·have bC:ak=aT (dd (ab z0)):=bC
    rw[ek bC]
    refine bc _ ?_
    unfold gg;rw[hp,hq,zI,hs,ht];rfl
   ·unfold gg;rw[zI,ht];simp
  ·unfold gg;rw[zI,hs];simp
 ·have h3:ab z3=ix jd (ab z0):=h3
  rw[eq_nil h4,h3]at hr
  unfold gg;rw[zI]
  cases ha:(ab z0).all jd with
  |false=>simp
  |true=>rw[Fy ha]at hr;simp at hr
 ·rw[ui (n:=230) 230 rfl h2]at hq
  unfold gg;rw[hq];simp
 ·rw[zF h1]at hp
  unfold gg;rw[hp];rfl
def Gp (S:Nat->List (List Int)->List (List Int)->Prop) (K:List (List Int)->List (List Int)->Prop):Prop:=
 ∀z0:Int,0<=z0->z0<=aC->
 ∀af:Int,0<=af->af<=aC->∀z2:Int,0<=z2->z2<=aC->∀z3:Int,0<=z3->z3<=1->S 126 [[z0]] [[af],[z2],[z3]]->
 ∀z4:Int,0<=z4->z4<=1->S 47 [[af]] [[z4]]->
 (((decide (z4=1))=true->
  ((((!(decide (z3=1))))=true->
   K [[z0]] [[(cond (true) 1 0)]]
  )/\(((!(decide (z3=1))))=false->
   ∀z5:Int,0<=z5->z5<=1->z5=aa 4 [z2,0]->
   ((((!(decide (z5=1))))=true->
    ∀ai:Int,0<=ai->ai<=9223372036854775807->ai=aa 0 [z2]->
    (((decide (ai<=5))=true->
     ∀aq:Int,0<=aq->aq<=aC->S 124 [[z2]] [[aq]]->
     ∀ak:Int,0<=ak->ak<=1->ak=aa 4 [aq,0]->
     (((decide (ak=1))=true->
      ∀z9:Int,0<=z9->z9<=1->S 65 [[z2],[284767230291263911083031]] [[z9]]->
      K [[z0]] [[(cond (decide (z9=1)) 1 0)]]
     )/\((decide (ak=1))=false->
      K [[z0]] [[(cond (false) 1 0)]]
     ))
    )/\((decide (ai<=5))=false->
     K [[z0]] [[(cond (false) 1 0)]]
    ))
   )/\(((!(decide (z5=1))))=false->
    K [[z0]] [[(cond (false) 1 0)]]
   ))
  ))
 )/\((decide (z4=1))=false->
  K [[z0]] [[(cond (false) 1 0)]]
 ))
def Gq (S:Nat->List (List Int)->List (List Int)->Prop) (K:List (List Int)->List (List Int)->Prop):Prop:=
 ∀z0:Int,0<=z0->z0<=255->
 (((decide (97<=z0))=true->
  K [[z0]] [[(cond (decide (z0<=122)) 1 0)]]
 )/\((decide (97<=z0))=false->
  K [[z0]] [[(cond (false) 1 0)]]
 ))
def F2 (S:Nat->List (List Int)->List (List Int)->Prop) (K:List (List Int)->List (List Int)->Prop):Prop:=
 ∀z0:Int,0<=z0->z0<=255->
 (((decide (65<=z0))=true->
  K [[z0]] [[(cond (decide (z0<=90)) 1 0)]]
 )/\((decide (65<=z0))=false->
  K [[z0]] [[(cond (false) 1 0)]]
 ))
def F1 (S:Nat->List (List Int)->List (List Int)->Prop) (K:List (List Int)->List (List Int)->Prop):Prop:=
 ∀z0:Int,0<=z0->z0<=255->
 (((decide (48<=z0))=true->
  K [[z0]] [[(cond (decide (z0<=57)) 1 0)]]
 )/\((decide (48<=z0))=false->
  K [[z0]] [[(cond (false) 1 0)]]
 ))
theorem Xz {s:aI} (h:idx 58 s<0):hT s=gg s:=by
 have:decide (0<=idx 58 s)=false:=by simpa using h
 unfold hT kB
 rw[this]
 simp
theorem Wm:Gp SB (bZ SB [.bool] 27):=by
 intro z0 a0 a1 af b0 b1 z2 bY c1 z3 d0 d1 e5 z4 cA e1 h4
 have e5:(ab af,ab z2,z3)=kB 58 (ab z0):=e5
 have h4:z4=aT (gg (ab af)):=h4
 have hv:hT (ab z0)=(gg (ab af)&&(decide (z3=0)||nF (ab z2))):=by unfold hT;rw[<-e5]
 have bc:∀b:Bool,hT (ab z0)=b->bZ SB [.bool] 27 [[z0]] [[aT b]]:=λb h=>lA (by show aT b=aT (hT (ab z0));rw[h])
 have h3:(!decide (z3=1))=decide (z3=0):=by
  rcases(show z3=0∨z3=1 by omega)with rfl|rfl<;>rfl
 rw[ek h4,h3]
 refine⟨λhp=>⟨λhq=>bc true ?_,λhq z5 f0 f1 h5=>?_⟩,λhp=>bc false ?_⟩
 ·rw[hv,hp,hq];rfl
 ·have hn:=zF h5
  refine⟨λhr ai g0 g1 h6=>⟨λhs aq i0 i1 h7 ak pO gP bC=>?_,λhs=>bc false ?_⟩,λhr=>bc false ?_⟩
  ·rw[hr]at hn
   rw[ui (n:=5) 5 rfl h6]at hs
   have h7:ab aq=ix dT (ab z2):=h7
   rw[eq_nil bC,h7]
   refine⟨λht z9 cX k1 bm=>?_,λht=>bc false ?_⟩
   ·have bm:z9=aT ((ab z2).all λc=>(ab 284767230291263911083031).contains c):=bm
    have e:((ab z2).all λc=>(ab 284767230291263911083031).contains c)=(ab z2).all dT:=congrArg (List.all (ab z2)) (funext (qF (p:=dT) (by decide+kernel)))
    rw[e]at bm
    rw[ek bm]
    refine bc _ ?_
    rw[hv,hp,hq];unfold nF;rw[<-hn,hs];simp
   ·rw[hv,hp,hq];unfold nF
    cases ha:(ab z2).all dT with
    |false=>simp
    |true=>rw[Fy ha]at ht;simp at ht
  ·rw[ui (n:=5) 5 rfl h6]at hs
   rw[hv,hp,hq];unfold nF;rw[hs];simp
  ·rw[hr]at hn
   rw[hv,hp,hq];unfold nF;rw[<-hn];rfl
 ·rw[hv,hp];rfl
theorem DF {lo hi:Nat} {z:Int} (h0:0<=z) (h1:z<=255):(Nat.ble lo (u8 z).toNat&&Nat.ble (u8 z).toNat hi)=(decide ((lo:Int)<=z)&&decide (z<=(hi:Int))):=by
 have:=Ar h0 h1
 rw[Bool.eq_iff_iff]
 simp[Nat.ble_eq]
 omega
theorem Wn:Gq SB (bZ SB [.bool] 50):=by
 intro z0 a0 a1
 have e:=DF (lo:=97) (hi:=122) a0 a1
 have bc:∀b:Bool,jQ (u8 z0)=b->bZ SB [.bool] 50 [[z0]] [[aT b]]:=λb h=>lA (by show aT b=aT (jQ (u8 z0));rw[h])
 refine⟨λh=>bc _ ?_,λh=>bc false ?_⟩
 ·unfold jQ;rw[e];have h:decide (((97:Nat):Int)<=z0)=true:=h;rw[h];rfl
 ·unfold jQ;rw[e];have h:decide (((97:Nat):Int)<=z0)=false:=h;rw[h];rfl
theorem VX:F2 SB (bZ SB [.bool] 51):=by
 intro z0 a0 a1
 have e:=DF (lo:=65) (hi:=90) a0 a1
 have bc:∀b:Bool,lY (u8 z0)=b->bZ SB [.bool] 51 [[z0]] [[aT b]]:=λb h=>lA (by show aT b=aT (lY (u8 z0));rw[h])
 refine⟨λh=>bc _ ?_,λh=>bc false ?_⟩
 ·unfold lY;rw[e];have h:decide (((65:Nat):Int)<=z0)=true:=h;rw[h];rfl
 ·unfold lY;rw[e];have h:decide (((65:Nat):Int)<=z0)=false:=h;rw[h];rfl
theorem VW:F1 SB (bZ SB [.bool] 52):=by
 intro z0 a0 a1
 have e:=DF (lo:=48) (hi:=57) a0 a1
 have bc:∀b:Bool,dT (u8 z0)=b->bZ SB [.bool] 52 [[z0]] [[aT b]]:=λb h=>lA (by show aT b=aT (dT (u8 z0));rw[h])
 refine⟨λh=>bc _ ?_,λh=>bc false ?_⟩
 ·unfold dT;rw[e];have h:decide (((48:Nat):Int)<=z0)=true:=h;rw[h];rfl
 ·unfold dT;rw[e];have h:decide (((48:Nat):Int)<=z0)=false:=h;rw[h];rfl
theorem wW {z a b:Int} (h:z=aa 5 [a,b]):decide (z=1)=Op.bytesLess (ab a) (ab b):=by
 rw[h];simp only[aa]
 cases Op.bytesLess (ab a) (ab b)<;>simp
theorem uj:∀l:aI,Op.bytesLess l l=false
 |[]=>rfl
 |x::r=>by
  have:=uj r
  simp[Op.bytesLess,this]
end Go.bG
namespace Go.bG
open Go Go.bo
def Gk (S:Nat->List (List Int)->List (List Int)->Prop) (K:List (List Int)->List (List Int)->Prop):Prop:=
 ∀z0:Int,0<=z0->z0<=aC->
 ∀af:Int,0<=af->af<=9223372036854775807->af=aa 0 [z0]->
 (((decide (af<1))=true->
  K [[z0]] [[(cond (false) 1 0)]]
 )/\((decide (af<1))=false->
  ∀z2:Int,0<=z2->z2<=9223372036854775807->z2=aa 0 [z0]->
  (((decide (230<z2))=true->
   K [[z0]] [[(cond (false) 1 0)]]
  )/\((decide (230<z2))=false->
   ∃(eX:List (List Int)->Prop) (dm:List (List Int)->Nat),eX [[0]]/\(∀z4:Int,0<=z4->z4<=9223372036854775807->eX [[z4]]->
    ∀z5:Int,0<=z5->z5<=9223372036854775807->z5=aa 0 [z0]->
    (((decide (z4<z5))=true->
     ad 1 [z0,z4]/\
     ∀ai:Int,0<=ai->ai<=255->ai=aa 1 [z0,z4]->
     (((decide (ai=46))=true->
      ad 1 [z0,z4]/\
      ∀aq:Int,0<=aq->aq<=255->aq=aa 1 [z0,z4]->
      ∀ak:Int,0<=ak->ak<=1->S 50 [[aq]] [[ak]]->
      ((((!(decide (ak=1))))=true->
       ad 1 [z0,z4]/\
       ∀z9:Int,0<=z9->z9<=255->z9=aa 1 [z0,z4]->
       ∀ao:Int,0<=ao->ao<=1->S 51 [[z9]] [[ao]]->
       ((((!(decide (ao=1))))=true->
        ad 1 [z0,z4]/\
        ∀ax:Int,0<=ax->ax<=255->ax=aa 1 [z0,z4]->
        ∀z12:Int,0<=z12->z12<=1->S 52 [[ax]] [[z12]]->
        ((((!(decide (z12=1))))=true->
         (((decide (z4=0))=true->
          K [[z0]] [[(cond (false) 1 0)]]
         )/\((decide (z4=0))=false->
          ∀aj:Int,0<=aj->aj<=9223372036854775807->aj=aa 0 [z0]->
          (((decide (z4=(aj+(-1))))=true->
           K [[z0]] [[(cond (false) 1 0)]]
          )/\((decide (z4=(aj+(-1))))=false->
           ad 1 [z0,z4]/\
           ∀aw:Int,0<=aw->aw<=255->aw=aa 1 [z0,z4]->
           (((decide (aw=46))=true->
            ad 1 [z0,(z4+(-1))]/\
            ∀aE:Int,0<=aE->aE<=255->aE=aa 1 [z0,(z4+(-1))]->
            (((decide (aE=46))=true->
             K [[z0]] [[(cond (false) 1 0)]]
            )/\((decide (aE=46))=false->
             ∀aA:Int,0<=aA->aA<=1->0<=(z4+9223372036854775809)-18446744073709551616*aA->(z4+9223372036854775809)-18446744073709551616*aA<18446744073709551616->
             ad 39 [((z4+((-18446744073709551616)*aA))+1),0,9223372036854775807]/\
             (eX [[((z4+((-18446744073709551616)*aA))+1)]]/\dm [[((z4+((-18446744073709551616)*aA))+1)]]<dm [[z4]])
            ))
           )/\((decide (aw=46))=false->
            ∀aE:Int,0<=aE->aE<=1->0<=(z4+9223372036854775809)-18446744073709551616*aE->(z4+9223372036854775809)-18446744073709551616*aE<18446744073709551616->
            ad 39 [((z4+((-18446744073709551616)*aE))+1),0,9223372036854775807]/\
            (eX [[((z4+((-18446744073709551616)*aE))+1)]]/\dm [[((z4+((-18446744073709551616)*aE))+1)]]<dm [[z4]])
           ))
          ))
         ))
        )/\(((!(decide (z12=1))))=false->
         (((decide (z4=0))=true->
          K [[z0]] [[(cond (false) 1 0)]]
         )/\((decide (z4=0))=false->
          ∀aj:Int,0<=aj->aj<=9223372036854775807->aj=aa 0 [z0]->
          (((decide (z4=(aj+(-1))))=true->
           K [[z0]] [[(cond (false) 1 0)]]
          )/\((decide (z4=(aj+(-1))))=false->
           ad 1 [z0,z4]/\
           ∀aw:Int,0<=aw->aw<=255->aw=aa 1 [z0,z4]->
           (((decide (aw=46))=true->
            ad 1 [z0,(z4+(-1))]/\
            ∀aE:Int,0<=aE->aE<=255->aE=aa 1 [z0,(z4+(-1))]->
            (((decide (aE=46))=true->
             K [[z0]] [[(cond (false) 1 0)]]
            )/\((decide (aE=46))=false->
             ∀aA:Int,0<=aA->aA<=1->0<=(z4+9223372036854775809)-18446744073709551616*aA->(z4+9223372036854775809)-18446744073709551616*aA<18446744073709551616->
             ad 39 [((z4+((-18446744073709551616)*aA))+1),0,9223372036854775807]/\
             (eX [[((z4+((-18446744073709551616)*aA))+1)]]/\dm [[((z4+((-18446744073709551616)*aA))+1)]]<dm [[z4]])
            ))
           )/\((decide (aw=46))=false->
            ∀aE:Int,0<=aE->aE<=1->0<=(z4+9223372036854775809)-18446744073709551616*aE->(z4+9223372036854775809)-18446744073709551616*aE<18446744073709551616->
            ad 39 [((z4+((-18446744073709551616)*aE))+1),0,9223372036854775807]/\
            (eX [[((z4+((-18446744073709551616)*aE))+1)]]/\dm [[((z4+((-18446744073709551616)*aE))+1)]]<dm [[z4]])
           ))
          ))
         ))
        ))
       )/\(((!(decide (ao=1))))=false->
        (((decide (z4=0))=true->
         K [[z0]] [[(cond (false) 1 0)]]
        )/\((decide (z4=0))=false->
         ∀ax:Int,0<=ax->ax<=9223372036854775807->ax=aa 0 [z0]->
         (((decide (z4=(ax+(-1))))=true->
          K [[z0]] [[(cond (false) 1 0)]]
         )/\((decide (z4=(ax+(-1))))=false->
          ad 1 [z0,z4]/\
          ∀z12:Int,0<=z12->z12<=255->z12=aa 1 [z0,z4]->
          (((decide (z12=46))=true->
           ad 1 [z0,(z4+(-1))]/\
           ∀aj:Int,0<=aj->aj<=255->aj=aa 1 [z0,(z4+(-1))]->
           (((decide (aj=46))=true->
            K [[z0]] [[(cond (false) 1 0)]]
           )/\((decide (aj=46))=false->
            ∀aw:Int,0<=aw->aw<=1->0<=(z4+9223372036854775809)-18446744073709551616*aw->(z4+9223372036854775809)-18446744073709551616*aw<18446744073709551616->
            ad 39 [((z4+((-18446744073709551616)*aw))+1),0,9223372036854775807]/\
            (eX [[((z4+((-18446744073709551616)*aw))+1)]]/\dm [[((z4+((-18446744073709551616)*aw))+1)]]<dm [[z4]])
           ))
          )/\((decide (z12=46))=false->
           ∀aj:Int,0<=aj->aj<=1->0<=(z4+9223372036854775809)-18446744073709551616*aj->(z4+9223372036854775809)-18446744073709551616*aj<18446744073709551616->
           ad 39 [((z4+((-18446744073709551616)*aj))+1),0,9223372036854775807]/\
           (eX [[((z4+((-18446744073709551616)*aj))+1)]]/\dm [[((z4+((-18446744073709551616)*aj))+1)]]<dm [[z4]])
          ))
         ))
        ))
       ))
      )/\(((!(decide (ak=1))))=false->
       (((decide (z4=0))=true->
        K [[z0]] [[(cond (false) 1 0)]]
       )/\((decide (z4=0))=false->
        ∀z9:Int,0<=z9->z9<=9223372036854775807->z9=aa 0 [z0]->
        (((decide (z4=(z9+(-1))))=true->
         K [[z0]] [[(cond (false) 1 0)]]
        )/\((decide (z4=(z9+(-1))))=false->
         ad 1 [z0,z4]/\
         ∀ao:Int,0<=ao->ao<=255->ao=aa 1 [z0,z4]->
         (((decide (ao=46))=true->
          ad 1 [z0,(z4+(-1))]/\
          ∀ax:Int,0<=ax->ax<=255->ax=aa 1 [z0,(z4+(-1))]->
          (((decide (ax=46))=true->
           K [[z0]] [[(cond (false) 1 0)]]
          )/\((decide (ax=46))=false->
           ∀z12:Int,0<=z12->z12<=1->0<=(z4+9223372036854775809)-18446744073709551616*z12->(z4+9223372036854775809)-18446744073709551616*z12<18446744073709551616->
           ad 39 [((z4+((-18446744073709551616)*z12))+1),0,9223372036854775807]/\
           (eX [[((z4+((-18446744073709551616)*z12))+1)]]/\dm [[((z4+((-18446744073709551616)*z12))+1)]]<dm [[z4]])
          ))
         )/\((decide (ao=46))=false->
          ∀ax:Int,0<=ax->ax<=1->0<=(z4+9223372036854775809)-18446744073709551616*ax->(z4+9223372036854775809)-18446744073709551616*ax<18446744073709551616->
          ad 39 [((z4+((-18446744073709551616)*ax))+1),0,9223372036854775807]/\
          (eX [[((z4+((-18446744073709551616)*ax))+1)]]/\dm [[((z4+((-18446744073709551616)*ax))+1)]]<dm [[z4]])
         ))
        ))
       ))
      ))
     )/\((decide (ai=46))=false->
      ad 1 [z0,z4]/\
      ∀aq:Int,0<=aq->aq<=255->aq=aa 1 [z0,z4]->
      ad 1 [z0,z4]/\
      ∀ak:Int,0<=ak->ak<=255->ak=aa 1 [z0,z4]->
      ∀z9:Int,0<=z9->z9<=1->S 50 [[ak]] [[z9]]->
      ((((!(decide (z9=1))))=true->
       ad 1 [z0,z4]/\
       ∀ao:Int,0<=ao->ao<=255->ao=aa 1 [z0,z4]->
       ∀ax:Int,0<=ax->ax<=1->S 51 [[ao]] [[ax]]->
       ((((!(decide (ax=1))))=true->
        ad 1 [z0,z4]/\
        ∀z12:Int,0<=z12->z12<=255->z12=aa 1 [z0,z4]->
        ∀aj:Int,0<=aj->aj<=1->S 52 [[z12]] [[aj]]->
        ((((!(decide (aj=1))))=true->
         ((((!(decide (aq=45))))=true->
          K [[z0]] [[(cond (false) 1 0)]]
         )/\(((!(decide (aq=45))))=false->
          (((decide (aq=45))=true->
           (((decide (z4=0))=true->
            K [[z0]] [[(cond (false) 1 0)]]
           )/\((decide (z4=0))=false->
            ∀aw:Int,0<=aw->aw<=9223372036854775807->aw=aa 0 [z0]->
            (((decide (z4=(aw+(-1))))=true->
             K [[z0]] [[(cond (false) 1 0)]]
            )/\((decide (z4=(aw+(-1))))=false->
             ad 1 [z0,z4]/\
             ∀aE:Int,0<=aE->aE<=255->aE=aa 1 [z0,z4]->
             (((decide (aE=46))=true->
              ad 1 [z0,(z4+(-1))]/\
              ∀aA:Int,0<=aA->aA<=255->aA=aa 1 [z0,(z4+(-1))]->
              (((decide (aA=46))=true->
               K [[z0]] [[(cond (false) 1 0)]]
              )/\((decide (aA=46))=false->
               ∀aF:Int,0<=aF->aF<=1->0<=(z4+9223372036854775809)-18446744073709551616*aF->(z4+9223372036854775809)-18446744073709551616*aF<18446744073709551616->
               ad 39 [((z4+((-18446744073709551616)*aF))+1),0,9223372036854775807]/\
               (eX [[((z4+((-18446744073709551616)*aF))+1)]]/\dm [[((z4+((-18446744073709551616)*aF))+1)]]<dm [[z4]])
              ))
             )/\((decide (aE=46))=false->
              ∀aA:Int,0<=aA->aA<=1->0<=(z4+9223372036854775809)-18446744073709551616*aA->(z4+9223372036854775809)-18446744073709551616*aA<18446744073709551616->
              ad 39 [((z4+((-18446744073709551616)*aA))+1),0,9223372036854775807]/\
              (eX [[((z4+((-18446744073709551616)*aA))+1)]]/\dm [[((z4+((-18446744073709551616)*aA))+1)]]<dm [[z4]])
             ))
            ))
           ))
          )/\((decide (aq=45))=false->
           ∀aw:Int,0<=aw->aw<=1->0<=(z4+9223372036854775809)-18446744073709551616*aw->(z4+9223372036854775809)-18446744073709551616*aw<18446744073709551616->
           ad 39 [((z4+((-18446744073709551616)*aw))+1),0,9223372036854775807]/\
           (eX [[((z4+((-18446744073709551616)*aw))+1)]]/\dm [[((z4+((-18446744073709551616)*aw))+1)]]<dm [[z4]])
          ))
         ))
        )/\(((!(decide (aj=1))))=false->
         (((decide (aq=45))=true->
          (((decide (z4=0))=true->
           K [[z0]] [[(cond (false) 1 0)]]
          )/\((decide (z4=0))=false->
           ∀aw:Int,0<=aw->aw<=9223372036854775807->aw=aa 0 [z0]->
           (((decide (z4=(aw+(-1))))=true->
            K [[z0]] [[(cond (false) 1 0)]]
           )/\((decide (z4=(aw+(-1))))=false->
            ad 1 [z0,z4]/\
            ∀aE:Int,0<=aE->aE<=255->aE=aa 1 [z0,z4]->
            (((decide (aE=46))=true->
             ad 1 [z0,(z4+(-1))]/\
             ∀aA:Int,0<=aA->aA<=255->aA=aa 1 [z0,(z4+(-1))]->
             (((decide (aA=46))=true->
              K [[z0]] [[(cond (false) 1 0)]]
             )/\((decide (aA=46))=false->
              ∀aF:Int,0<=aF->aF<=1->0<=(z4+9223372036854775809)-18446744073709551616*aF->(z4+9223372036854775809)-18446744073709551616*aF<18446744073709551616->
              ad 39 [((z4+((-18446744073709551616)*aF))+1),0,9223372036854775807]/\
              (eX [[((z4+((-18446744073709551616)*aF))+1)]]/\dm [[((z4+((-18446744073709551616)*aF))+1)]]<dm [[z4]])
             ))
            )/\((decide (aE=46))=false->
             ∀aA:Int,0<=aA->aA<=1->0<=(z4+9223372036854775809)-18446744073709551616*aA->(z4+9223372036854775809)-18446744073709551616*aA<18446744073709551616->
             ad 39 [((z4+((-18446744073709551616)*aA))+1),0,9223372036854775807]/\
             (eX [[((z4+((-18446744073709551616)*aA))+1)]]/\dm [[((z4+((-18446744073709551616)*aA))+1)]]<dm [[z4]])
            ))
           ))
          ))
         )/\((decide (aq=45))=false->
          ∀aw:Int,0<=aw->aw<=1->0<=(z4+9223372036854775809)-18446744073709551616*aw->(z4+9223372036854775809)-18446744073709551616*aw<18446744073709551616->
          ad 39 [((z4+((-18446744073709551616)*aw))+1),0,9223372036854775807]/\
          (eX [[((z4+((-18446744073709551616)*aw))+1)]]/\dm [[((z4+((-18446744073709551616)*aw))+1)]]<dm [[z4]])
         ))
        ))
       )/\(((!(decide (ax=1))))=false->
        (((decide (aq=45))=true->
         (((decide (z4=0))=true->
          K [[z0]] [[(cond (false) 1 0)]]
         )/\((decide (z4=0))=false->
          ∀z12:Int,0<=z12->z12<=9223372036854775807->z12=aa 0 [z0]->
          (((decide (z4=(z12+(-1))))=true->
           K [[z0]] [[(cond (false) 1 0)]]
          )/\((decide (z4=(z12+(-1))))=false->
           ad 1 [z0,z4]/\
           ∀aj:Int,0<=aj->aj<=255->aj=aa 1 [z0,z4]->
           (((decide (aj=46))=true->
            ad 1 [z0,(z4+(-1))]/\
            ∀aw:Int,0<=aw->aw<=255->aw=aa 1 [z0,(z4+(-1))]->
            (((decide (aw=46))=true->
             K [[z0]] [[(cond (false) 1 0)]]
            )/\((decide (aw=46))=false->
             ∀aE:Int,0<=aE->aE<=1->0<=(z4+9223372036854775809)-18446744073709551616*aE->(z4+9223372036854775809)-18446744073709551616*aE<18446744073709551616->
             ad 39 [((z4+((-18446744073709551616)*aE))+1),0,9223372036854775807]/\
             (eX [[((z4+((-18446744073709551616)*aE))+1)]]/\dm [[((z4+((-18446744073709551616)*aE))+1)]]<dm [[z4]])
            ))
           )/\((decide (aj=46))=false->
            ∀aw:Int,0<=aw->aw<=1->0<=(z4+9223372036854775809)-18446744073709551616*aw->(z4+9223372036854775809)-18446744073709551616*aw<18446744073709551616->
            ad 39 [((z4+((-18446744073709551616)*aw))+1),0,9223372036854775807]/\
            (eX [[((z4+((-18446744073709551616)*aw))+1)]]/\dm [[((z4+((-18446744073709551616)*aw))+1)]]<dm [[z4]])
           ))
          ))
         ))
        )/\((decide (aq=45))=false->
         ∀z12:Int,0<=z12->z12<=1->0<=(z4+9223372036854775809)-18446744073709551616*z12->(z4+9223372036854775809)-18446744073709551616*z12<18446744073709551616->
         ad 39 [((z4+((-18446744073709551616)*z12))+1),0,9223372036854775807]/\
         (eX [[((z4+((-18446744073709551616)*z12))+1)]]/\dm [[((z4+((-18446744073709551616)*z12))+1)]]<dm [[z4]])
        ))
       ))
      )/\(((!(decide (z9=1))))=false->
       (((decide (aq=45))=true->
        (((decide (z4=0))=true->
         K [[z0]] [[(cond (false) 1 0)]]
        )/\((decide (z4=0))=false->
         ∀ao:Int,0<=ao->ao<=9223372036854775807->ao=aa 0 [z0]->
         (((decide (z4=(ao+(-1))))=true->
          K [[z0]] [[(cond (false) 1 0)]]
         )/\((decide (z4=(ao+(-1))))=false->
          ad 1 [z0,z4]/\
          ∀ax:Int,0<=ax->ax<=255->ax=aa 1 [z0,z4]->
          (((decide (ax=46))=true->
           ad 1 [z0,(z4+(-1))]/\
           ∀z12:Int,0<=z12->z12<=255->z12=aa 1 [z0,(z4+(-1))]->
           (((decide (z12=46))=true->
            K [[z0]] [[(cond (false) 1 0)]]
           )/\((decide (z12=46))=false->
            ∀aj:Int,0<=aj->aj<=1->0<=(z4+9223372036854775809)-18446744073709551616*aj->(z4+9223372036854775809)-18446744073709551616*aj<18446744073709551616->
            ad 39 [((z4+((-18446744073709551616)*aj))+1),0,9223372036854775807]/\
            (eX [[((z4+((-18446744073709551616)*aj))+1)]]/\dm [[((z4+((-18446744073709551616)*aj))+1)]]<dm [[z4]])
           ))
          )/\((decide (ax=46))=false->
           ∀z12:Int,0<=z12->z12<=1->0<=(z4+9223372036854775809)-18446744073709551616*z12->(z4+9223372036854775809)-18446744073709551616*z12<18446744073709551616->
           ad 39 [((z4+((-18446744073709551616)*z12))+1),0,9223372036854775807]/\
           (eX [[((z4+((-18446744073709551616)*z12))+1)]]/\dm [[((z4+((-18446744073709551616)*z12))+1)]]<dm [[z4]])
          ))
         ))
        ))
       )/\((decide (aq=45))=false->
        ∀ao:Int,0<=ao->ao<=1->0<=(z4+9223372036854775809)-18446744073709551616*ao->(z4+9223372036854775809)-18446744073709551616*ao<18446744073709551616->
        ad 39 [((z4+((-18446744073709551616)*ao))+1),0,9223372036854775807]/\
        (eX [[((z4+((-18446744073709551616)*ao))+1)]]/\dm [[((z4+((-18446744073709551616)*ao))+1)]]<dm [[z4]])
       ))
      ))
     ))
    )/\((decide (z4<z5))=false->
     K [[z0]] [[(cond (true) 1 0)]]
    ))
   )
  ))
 ))
def oO (inn fQ:UInt8->Bool) (s:aI) (i:Nat):Prop:=inn (s.getD i 0)=true/\(fQ (s.getD i 0)=true->0<i/\i+1<s.length)/\¬(s.getD i 0=46/\0<i/\s.getD (i-1) 0=46)
theorem K4 (inn fQ:UInt8->Bool) (s:aI):p7 inn fQ s=true↔∀i,i<s.length->oO inn fQ s i:=K5 inn fQ s
theorem UL {inn fQ:UInt8->Bool} {s:aI} {i:Nat} (hi:i<s.length) (h:¬oO inn fQ s i):p7 inn fQ s=false:=by
 cases ho:p7 inn fQ s with
 |false=>rfl
 |true=>exact absurd ((K4 inn fQ s).1 ho i hi) h
def A0 (inn fQ:UInt8->Bool) (z0:Int) (bl:List (List Int)):Prop:=∃i:Nat,bl=[[(i:Int)]]/\i<=(ab z0).length/\∀j,j<i->oO inn fQ (ab z0) j
def A1 (z0:Int) (bl:List (List Int)):Nat:=(ab z0).length-((bl.getD 0 []).getD 0 0).toNat
def FN (I:List (List Int)->Prop) (M:List (List Int)->Nat) (i:Int):Prop:=∀aA:Int,0<=aA->aA<=1->0<=(i+9223372036854775809)-18446744073709551616*aA->(i+9223372036854775809)-18446744073709551616*aA<18446744073709551616->
 ad 39 [((i+((-18446744073709551616)*aA))+1),0,9223372036854775807]/\(I [[((i+((-18446744073709551616)*aA))+1)]]/\M [[((i+((-18446744073709551616)*aA))+1)]]<M [[i]])
theorem NL {inn fQ:UInt8->Bool} {z0:Int} {i:Nat} (h1:z0<=aC) (hi:i<(ab z0).length) (hall:∀j,j<i->oO inn fQ (ab z0) j) (h:oO inn fQ (ab z0) i):FN (A0 inn fQ z0) (A1 z0) i:=by
 intro q q0 q1 q2 q3
 have hL:=r7 h1
 rw[FF (L:=((ab z0).length:Int)) (by omega) hL (Int.natCast_nonneg _) q0 q2]
 refine⟨⟨by omega,by omega⟩,⟨i+1,by simp,by omega,λj hj=>?_⟩,?_⟩
 ·by_cases hj':j=i
  ·subst hj';exact h
  ·exact hall j (by omega)
 ·show(ab z0).length-((i:Int)+1).toNat<(ab z0).length-(i:Int).toNat
  omega
theorem yg {z0 z i n:Int} {k:Nat} (hi:i=(k:Int)) (hn:0<=n) (c7:n<=255) (h:z=aa 1 [z0,i]):decide (z=n)=((ab z0).getD k 0==u8 n):=by
 rw[h,hi];simp only[aa,Int.toNat_natCast]
 rw[Bool.eq_iff_iff,decide_eq_true_eq,xD hn c7]
theorem XD {K:Prop} {A:Prop} {z0:Int} {i:Nat} (hi:i<(ab z0).length) (he:iB ((ab z0).getD i 0)=true) (cl:jd ((ab z0).getD i 0)=true)
 (hK:¬oO jd iB (ab z0) i->K) (hA:oO jd iB (ab z0) i->A):
   (((decide ((i:Int)=0))=true->
    K
   )/\((decide ((i:Int)=0))=false->
    ∀aj:Int,0<=aj->aj<=9223372036854775807->aj=aa 0 [z0]->
    (((decide ((i:Int)=(aj+(-1))))=true->
     K
    )/\((decide ((i:Int)=(aj+(-1))))=false->
     ad 1 [z0,(i:Int)]/\
     ∀aw:Int,0<=aw->aw<=255->aw=aa 1 [z0,(i:Int)]->
     (((decide (aw=46))=true->
      ad 1 [z0,((i:Int)+(-1))]/\
      ∀aE:Int,0<=aE->aE<=255->aE=aa 1 [z0,((i:Int)+(-1))]->
      (((decide (aE=46))=true->
       K
      )/\((decide (aE=46))=false->
       A
      ))
     )/\((decide (aw=46))=false->
      A
     ))
    ))
   )):=by
 refine⟨λh=>hK λho=>?_,λh aj a0 a1 eU=>?_⟩
 ·have:=(ho.2.1 he).1
  have:(i:Int)=0:=by simpa using h
  omega
 ·have h0:¬(i:Int)=0:=by simpa using h
  simp only[aa]at eU
  refine⟨λh=>hK λho=>?_,λh=>⟨⟨Int.natCast_nonneg _,by omega⟩,λaw b0 b1 ct=>?_⟩⟩
  ·have:=(ho.2.1 he).2
   have:(i:Int)=aj+-1:=by simpa using h
   omega
  ·have h1:¬(i:Int)=aj+-1:=by simpa using h
   rw[yg (n:=46) (k:=i) rfl (by decide) (by decide) ct]
   refine⟨λh=>⟨⟨by omega,by omega⟩,λaE bY c1 c6=>?_⟩,λh=>hA ⟨cl,λ_=>⟨by omega,by omega⟩,λal=>?_⟩⟩
   ·rw[yg (n:=46) (k:=i-1) (by omega) (by decide) (by decide) c6]
    have h:(ab z0).getD i 0=46:=beq_iff_eq.1 h
    refine⟨λh'=>hK λho=>ho.2.2 ⟨h,by omega,beq_iff_eq.1 h'⟩,λh'=>hA ⟨cl,λ_=>⟨by omega,by omega⟩,λal=>?_⟩⟩
    have:((ab z0).getD (i-1) 0==u8 46)=true:=beq_iff_eq.2 al.2.2
    rw[this]at h';cases h'
   ·have:((ab z0).getD i 0==u8 46)=true:=beq_iff_eq.2 al.1
    rw[this]at h;cases h
theorem Bn {z0 i z q:Int} {k:Nat} {f:UInt8->Bool} (hi:i=(k:Int)) (h:z=aa 1 [z0,i]) (hq:q=aT (f (u8 z))):decide (q=1)=f ((ab z0).getD k 0):=by
 rw[ek hq,h,hi];simp only[aa,Int.toNat_natCast,uP]
theorem one_le {af z0:Int} (h:af=aa 0 [z0]):decide (af<1)= !Nat.blt 0 (ab z0).length:=by
 rw[h];simp only[aa]
 rw[Bool.eq_iff_iff,decide_eq_true_eq,Bool.not_eq_true',<-Bool.not_eq_true,Nat.blt_eq];omega
theorem Wi:Gk SB (bZ SB [.bool] 30):=by
 intro z0 a0 a1 af b0 b1 h1
 have bc:∀b:Bool,gg (ab z0)=b->bZ SB [.bool] 30 [[z0]] [[aT b]]:=λb h=>lA (by show aT b=aT (gg (ab z0));rw[h])
 rw[one_le h1]
 refine⟨λh=>bc false ?_,λh z2 bY c1 h2=>?_⟩
 ·rw[Bool.not_eq_true']at h;unfold gg;rw[h];rfl
 rw[Bool.not_eq_false']at h
 rw[DY (n:=230) 230 rfl h2]
 refine⟨λh'=>bc false ?_,λh'=>⟨A0 jd iB z0,A1 z0,⟨0,rfl,Nat.zero_le _,λj hj=>by omega⟩,?_⟩⟩
 ·rw[Bool.not_eq_true']at h';unfold gg;rw[h'];simp
 rw[Bool.not_eq_false']at h'
 rintro z4 d0 d1 ⟨i,e,hi,hall⟩ z5 cA e1 h5
 obtain rfl:z4=i:=by simpa using e
 simp only[aa]at h5
 refine⟨λhp=>?_,λhp=>bc true ?_⟩
 ·have hp:(i:Int)<z5:=by simpa using hp
  have hlt:i<(ab z0).length:=by omega
  have hc1:ad 1 [z0,(i:Int)]:=⟨d0,by omega⟩
  have hK:¬oO jd iB (ab z0) i->bZ SB [.bool] 30 [[z0]] [[aT false]]:=λhn=>bc false (by unfold gg;rw[UL hlt hn];simp)
  have hA:oO jd iB (ab z0) i->FN (A0 jd iB z0) (A1 z0) i:=NL a1 hlt hall
  have e5:iB ((ab z0).getD i 0)=true->_:=λhe=>XD hlt he (by unfold jd;rw[he];simp) hK hA
  refine⟨hc1,λai f0 f1 h6=>?_⟩
  rw[yg (n:=46) (k:=i) rfl (by decide) (by decide) h6]
  refine⟨λpt=>?_,λpt=>?_⟩
  ·have hs:=e5 (by unfold iB;rw[show((ab z0).getD i 0==46)=true from pt];rfl)
   refine⟨hc1,λaq g0 g1 h7 ak i0 i1 bC=>⟨λ_=>⟨hc1,λz9 pO gP bm ao cX k1 dp=>⟨λ_=>⟨hc1,λax l0 l1 cx z12 m0 jf dh=>⟨λ_=>hs,λ_=>hs⟩⟩,λ_=>hs⟩⟩,λ_=>hs⟩⟩
  ·refine⟨hc1,λaq g0 g1 h7=>⟨hc1,λak i0 i1 bC z9 pO gP bm=>?_⟩⟩
   have Ux:¬(ab z0).getD i 0=46:=λe=>by
    have:((ab z0).getD i 0==u8 46)=true:=beq_iff_eq.2 e
    rw[this]at pt;cases pt
   have OX:=yg (n:=45) (k:=i) rfl (by decide) (by decide) h7
   rw[OX]
   have ig:(jQ ((ab z0).getD i 0)=true∨lY ((ab z0).getD i 0)=true∨dT ((ab z0).getD i 0)=true)->_:=λdi=>And.intro (λoe:((ab z0).getD i 0==u8 45)=true=>e5 (by unfold iB;rw[show((ab z0).getD i 0==45)=true from oe];simp)) (λoe:((ab z0).getD i 0==u8 45)=false=>hA ⟨(by
    unfold jd
    rcases di with h|h|h<;>rw[h]<;>simp),(λhe=>by
    unfold iB at he
    rw[show((ab z0).getD i 0==45)=false from oe,show((ab z0).getD i 0==46)=false from pt]at he
    cases he),λal=>Ux al.1⟩)
   rw[Bn (f:=jQ) (k:=i) rfl bC bm]
   refine⟨λUA=>⟨hc1,λao cX k1 dp ax l0 l1 cx=>?_⟩,λPX=>ig (.inl (by simpa using PX))⟩
   rw[Bn (f:=lY) (k:=i) rfl dp cx]
   refine⟨λUz=>⟨hc1,λz12 m0 jf dh aj n0 n1 eU=>?_⟩,λPM=>ig (.inr (.inl (by simpa using PM)))⟩
   rw[Bn (f:=dT) (k:=i) rfl dh eU]
   refine⟨λUy=>⟨λKU=>hK λho=>?_,λoe=>?_⟩,λPL=>ig (.inr (.inr (by simpa using PL)))⟩
   ·have cl:=ho.1
    unfold jd iB at cl
    rw[show jQ ((ab z0).getD i 0)=false by simpa using UA,show lY ((ab z0).getD i 0)=false by simpa using Uz,show dT ((ab z0).getD i 0)=false by simpa using Uy,show((ab z0).getD i 0==45)=false from by rw[Bool.not_eq_true']at KU;exact KU,show((ab z0).getD i 0==46)=false from pt]at cl
    cases cl
   ·rw[Bool.not_eq_false']at oe
    have hs:=e5 (by unfold iB;rw[show((ab z0).getD i 0==45)=true from oe];simp)
    exact⟨λ_=>hs,λh=>by rw[oe]at h;cases h⟩
 ·have hp:¬(i:Int)<z5:=by simpa using hp
  unfold gg
  rw[h,h',(K4 jd iB (ab z0)).2 λj hj=>hall j (by omega)];rfl
theorem SC {c:Int} (h0:0<=c) (h1:c<=255) {l:aI} {i:Nat} (hi:i<l.length) (he:l.getD i 0=u8 c) (hb:∀j,j<i->l.getD j 0≠u8 c):idx c l=(i:Int):=by
 rcases wO h0 h1 l with⟨_,h2⟩|⟨h2,h3,h4,_,h5⟩
 ·refine absurd ?_ h2
  rw[<-he]
  simp[List.getD,hi]
 ·rcases Nat.lt_trichotomy i (idx c l).toNat with h|h|h
  ·exact absurd he (h5 i h)
  ·omega
  ·exact absurd h4 (hb _ h)
theorem SE {c:Int} (h0:0<=c) (h1:c<=255) {l:aI} (hb:∀j,j<l.length->l.getD j 0≠u8 c):idx c l=-1:=by
 rcases wO h0 h1 l with⟨h2,_⟩|⟨h2,h3,h4,_,h5⟩
 ·exact h2
 ·exact absurd h4 (hb _ h3)
end Go.bG
namespace Go.bG
open Go Go.bo
def Gu (S:Nat->List (List Int)->List (List Int)->Prop) (K:List (List Int)->List (List Int)->Prop):Prop:=
 ∀z0:Int,0<=z0->z0<=aC->
 ∀af:Int,0<=af->af<=1->af=aa 4 [z0,0]->
 (((decide (af=1))=true->
  K [[z0]] [[z0]]
 )/\((decide (af=1))=false->
  ∃(gq:List (List Int)->Prop) (jH:List (List Int)->Nat),gq [[z0]]/\(∀z3:Int,0<=z3->z3<=aC->gq [[z3]]->
   ∀z4:Int,0<=z4->z4<=9223372036854775807->z4=aa 0 [z3]->
   (((decide (0<z4))=true->
    ∀z5:Int,0<=z5->z5<=9223372036854775807->z5=aa 0 [z3]->
    ad 1 [z3,(z5+(-1))]/\
    ∀ai:Int,0<=ai->ai<=255->ai=aa 1 [z3,(z5+(-1))]->
    ∀aq:Int,0<=aq->aq<=1->aq=aa 43 [79221403731691789204265450354666987086070872538664503581038852739373042335165977954796146613462291367,ai]->
    ((((!(decide (aq=1))))=true->
     ∃(eN:List (List Int)->Prop) (fb:List (List Int)->Nat),eN [[z3]]/\(∀z9:Int,0<=z9->z9<=aC->eN [[z9]]->
      ∀ao:Int,0<=ao->ao<=9223372036854775807->ao=aa 0 [z9]->
      (((decide (0<ao))=true->
       ad 1 [z9,0]/\
       ∀ax:Int,0<=ax->ax<=255->ax=aa 1 [z9,0]->
       ∀z12:Int,0<=z12->z12<=1->z12=aa 43 [79221403731691789204265450354666987086070872538664503581038852739373042335165977954796146613462291367,ax]->
       ((((!(decide (z12=1))))=true->
        K [[z0]] [[z9]]
       )/\(((!(decide (z12=1))))=false->
        ∀aj:Int,0<=aj->aj<=9223372036854775807->aj=aa 0 [z9]->
        ad 2 [z9,1,aj]/\
        ∀aw:Int,0<=aw->aw<=aC->aw=aa 2 [z9,1,aj]->
        (eN [[aw]]/\fb [[aw]]<fb [[z9]])
       ))
      )/\((decide (0<ao))=false->
       K [[z0]] [[z9]]
      ))
     )
    )/\(((!(decide (aq=1))))=false->
     ∀ak:Int,0<=ak->ak<=9223372036854775807->ak=aa 0 [z3]->
     ad 2 [z3,0,(ak+(-1))]/\
     ∀z9:Int,0<=z9->z9<=aC->z9=aa 2 [z3,0,(ak+(-1))]->
     (gq [[z9]]/\jH [[z9]]<jH [[z3]])
    ))
   )/\((decide (0<z4))=false->
    ∃(dC:List (List Int)->Prop) (eu:List (List Int)->Nat),dC [[z3]]/\(∀ai:Int,0<=ai->ai<=aC->dC [[ai]]->
     ∀aq:Int,0<=aq->aq<=9223372036854775807->aq=aa 0 [ai]->
     (((decide (0<aq))=true->
      ad 1 [ai,0]/\
      ∀ak:Int,0<=ak->ak<=255->ak=aa 1 [ai,0]->
      ∀z9:Int,0<=z9->z9<=1->z9=aa 43 [79221403731691789204265450354666987086070872538664503581038852739373042335165977954796146613462291367,ak]->
      ((((!(decide (z9=1))))=true->
       K [[z0]] [[ai]]
      )/\(((!(decide (z9=1))))=false->
       ∀ao:Int,0<=ao->ao<=9223372036854775807->ao=aa 0 [ai]->
       ad 2 [ai,1,ao]/\
       ∀ax:Int,0<=ax->ax<=aC->ax=aa 2 [ai,1,ao]->
       (dC [[ax]]/\eu [[ax]]<eu [[ai]])
      ))
     )/\((decide (0<aq))=false->
      K [[z0]] [[ai]]
     ))
    )
   ))
  )
 ))
def FX (S:Nat->List (List Int)->List (List Int)->Prop) (K:List (List Int)->List (List Int)->Prop):Prop:=
 ∀z0:Int,0<=z0->z0<=aC->
 ∃(qx:List (List Int)->Prop) (xH:List (List Int)->Nat),qx [[0]]/\(∀z2:Int,0<=z2->z2<=9223372036854775807->qx [[z2]]->
  ∀z3:Int,0<=z3->z3<=9223372036854775807->z3=aa 0 [z0]->
  (((decide (z2<z3))=true->
   ad 1 [z0,z2]/\
   ∀z4:Int,0<=z4->z4<=255->z4=aa 1 [z0,z2]->
   (((decide (z4=58))=true->
    K [[z0]] [[z2]]
   )/\((decide (z4=58))=false->
    ∀z5:Int,0<=z5->z5<=1->0<=(z2+9223372036854775809)-18446744073709551616*z5->(z2+9223372036854775809)-18446744073709551616*z5<18446744073709551616->
    ad 39 [((z2+((-18446744073709551616)*z5))+1),0,9223372036854775807]/\
    (qx [[((z2+((-18446744073709551616)*z5))+1)]]/\xH [[((z2+((-18446744073709551616)*z5))+1)]]<xH [[z2]])
   ))
  )/\((decide (z2<z3))=false->
   K [[z0]] [[(-1)]]
  ))
 )
def Gl (S:Nat->List (List Int)->List (List Int)->Prop) (K:List (List Int)->List (List Int)->Prop):Prop:=
 ∀z0:Int,0<=z0->z0<=aC->
 ∀af:Int,(-1)<=af->af<=9223372036854775807->S 204 [[z0]] [[af]]->
 (((decide (af<0))=true->
  ∀z2:Int,0<=z2->z2<=1->S 30 [[z0]] [[z2]]->
  K [[z0]] [[(cond (decide (z2=1)) 1 0)]]
 )/\((decide (af<0))=false->
  ∀z2:Int,0<=z2->z2<=1->0<=(af+9223372036854775809)-18446744073709551616*z2->(af+9223372036854775809)-18446744073709551616*z2<18446744073709551616->
  ∀z3:Int,0<=z3->z3<=9223372036854775807->z3=aa 0 [z0]->
  ad 2 [z0,((af+((-18446744073709551616)*z2))+1),z3]/\
  ∀z4:Int,0<=z4->z4<=aC->z4=aa 2 [z0,((af+((-18446744073709551616)*z2))+1),z3]->
  ∃(dC:List (List Int)->Prop) (eu:List (List Int)->Nat),dC [[0]]/\(∀ai:Int,0<=ai->ai<=9223372036854775807->dC [[ai]]->
   ∀aq:Int,0<=aq->aq<=9223372036854775807->aq=aa 0 [z4]->
   (((decide (ai<aq))=true->
    ad 1 [z4,ai]/\
    ∀ak:Int,0<=ak->ak<=255->ak=aa 1 [z4,ai]->
    ∀z9:Int,0<=z9->z9<=1->S 52 [[ak]] [[z9]]->
    ((((!(decide (z9=1))))=true->
     K [[z0]] [[(cond (false) 1 0)]]
    )/\(((!(decide (z9=1))))=false->
     ∀ao:Int,0<=ao->ao<=1->0<=(ai+9223372036854775809)-18446744073709551616*ao->(ai+9223372036854775809)-18446744073709551616*ao<18446744073709551616->
     ad 39 [((ai+((-18446744073709551616)*ao))+1),0,9223372036854775807]/\
     (dC [[((ai+((-18446744073709551616)*ao))+1)]]/\eu [[((ai+((-18446744073709551616)*ao))+1)]]<eu [[ai]])
    ))
   )/\((decide (ai<aq))=false->
    ad 2 [z0,0,af]/\
    ∀ak:Int,0<=ak->ak<=aC->ak=aa 2 [z0,0,af]->
    ∀z9:Int,0<=z9->z9<=1->S 30 [[ak]] [[z9]]->
    (((decide (z9=1))=true->
     ∀ao:Int,0<=ao->ao<=9223372036854775807->ao=aa 0 [z4]->
     (((decide (1<=ao))=true->
      ∀ax:Int,0<=ax->ax<=9223372036854775807->ax=aa 0 [z4]->
      K [[z0]] [[(cond (decide (ax<=5)) 1 0)]]
     )/\((decide (1<=ao))=false->
      K [[z0]] [[(cond (false) 1 0)]]
     ))
    )/\((decide (z9=1))=false->
     K [[z0]] [[(cond (false) 1 0)]]
    ))
   ))
  )
 ))
def Gh (S:Nat->List (List Int)->List (List Int)->Prop) (K:List (List Int)->List (List Int)->Prop):Prop:=
 ∀z0:Int,0<=z0->z0<=aC->∀af:Int,64<=af->af<=64->
 ∀z2:Int,0<=z2->z2<=9223372036854775807->z2=aa 0 [z0]->
 (((decide (z2=0))=true->
  K [[z0],[af]] [[0],[0],[(cond (false) 1 0)]]
 )/\((decide (z2=0))=false->
  ∀z3:Int,0<=z3->z3<=9223372036854775807->z3=aa 0 [z0]->
  (((decide (255<z3))=true->
   K [[z0],[af]] [[0],[0],[(cond (false) 1 0)]]
  )/\((decide (255<z3))=false->
   ad 1 [z0,0]/\
   ∀z4:Int,0<=z4->z4<=255->z4=aa 1 [z0,0]->
   ((((!(decide (z4=af))))=true->
    K [[z0],[af]] [[0],[0],[(cond (false) 1 0)]]
   )/\(((!(decide (z4=af))))=false->
    ∀z5:Int,(-1)<=z5->z5<=9223372036854775807->S 204 [[z0]] [[z5]]->
    (((decide (z5<0))=true->
     K [[z0],[af]] [[0],[0],[(cond (false) 1 0)]]
    )/\((decide (z5<0))=false->
     ∀ai:Int,0<=ai->ai<=1->0<=(z5+9223372036854775809)-18446744073709551616*ai->(z5+9223372036854775809)-18446744073709551616*ai<18446744073709551616->
     ∀aq:Int,0<=aq->aq<=9223372036854775807->aq=aa 0 [z0]->
     ad 2 [z0,((z5+((-18446744073709551616)*ai))+1),aq]/\
     ∀ak:Int,0<=ak->ak<=aC->ak=aa 2 [z0,((z5+((-18446744073709551616)*ai))+1),aq]->
     ∀z9:Int,0<=z9->z9<=1->S 205 [[ak]] [[z9]]->
     ((((!(decide (z9=1))))=true->
      K [[z0],[af]] [[0],[0],[(cond (false) 1 0)]]
     )/\(((!(decide (z9=1))))=false->
      ad 2 [z0,1,z5]/\
      ∀ao:Int,0<=ao->ao<=aC->ao=aa 2 [z0,1,z5]->
      ∀ax:Int,0<=ax->ax<=1->0<=(z5+9223372036854775809)-18446744073709551616*ax->(z5+9223372036854775809)-18446744073709551616*ax<18446744073709551616->
      ∀z12:Int,0<=z12->z12<=9223372036854775807->z12=aa 0 [z0]->
      ad 2 [z0,((z5+((-18446744073709551616)*ax))+1),z12]/\
      ∀aj:Int,0<=aj->aj<=aC->aj=aa 2 [z0,((z5+((-18446744073709551616)*ax))+1),z12]->
      K [[z0],[af]] [[ao],[aj],[(cond (true) 1 0)]]
     ))
    ))
   ))
  ))
 ))
def Gm (S:Nat->List (List Int)->List (List Int)->Prop) (K:List (List Int)->List (List Int)->Prop):Prop:=
 ∀z0:Int,0<=z0->z0<=aC->
 ∀af:Int,0<=af->af<=aC->∀z2:Int,0<=z2->z2<=aC->∀z3:Int,0<=z3->z3<=1->S 206 [[z0],[64]] [[af],[z2],[z3]]->
 ∃(eE:List (List Int)->Prop) (eb:List (List Int)->Nat),eE [[0]]/\(∀z5:Int,0<=z5->z5<=9223372036854775807->eE [[z5]]->
  ∀ai:Int,0<=ai->ai<=9223372036854775807->ai=aa 0 [af]->
  (((decide (z5<ai))=true->
   ad 1 [af,z5]/\
   ∀aq:Int,0<=aq->aq<=255->aq=aa 1 [af,z5]->
   ∀ak:Int,0<=ak->ak<=1->S 50 [[aq]] [[ak]]->
   ((((!(decide (ak=1))))=true->
    ∀z9:Int,0<=z9->z9<=1->S 52 [[aq]] [[z9]]->
    ((((!(decide (z9=1))))=true->
     ((((!(decide (aq=46))))=true->
      ((((!(decide (aq=95))))=true->
       ((((!(decide (aq=61))))=true->
        ((((!(decide (aq=47))))=true->
         ((((!(decide (aq=43))))=true->
          ((((!(decide (aq=45))))=true->
           K [[z0]] [[(cond (false) 1 0)]]
          )/\(((!(decide (aq=45))))=false->
           ∀ao:Int,0<=ao->ao<=1->0<=(z5+9223372036854775809)-18446744073709551616*ao->(z5+9223372036854775809)-18446744073709551616*ao<18446744073709551616->
           ad 39 [((z5+((-18446744073709551616)*ao))+1),0,9223372036854775807]/\
           (eE [[((z5+((-18446744073709551616)*ao))+1)]]/\eb [[((z5+((-18446744073709551616)*ao))+1)]]<eb [[z5]])
          ))
         )/\(((!(decide (aq=43))))=false->
          ∀ao:Int,0<=ao->ao<=1->0<=(z5+9223372036854775809)-18446744073709551616*ao->(z5+9223372036854775809)-18446744073709551616*ao<18446744073709551616->
          ad 39 [((z5+((-18446744073709551616)*ao))+1),0,9223372036854775807]/\
          (eE [[((z5+((-18446744073709551616)*ao))+1)]]/\eb [[((z5+((-18446744073709551616)*ao))+1)]]<eb [[z5]])
         ))
        )/\(((!(decide (aq=47))))=false->
         ∀ao:Int,0<=ao->ao<=1->0<=(z5+9223372036854775809)-18446744073709551616*ao->(z5+9223372036854775809)-18446744073709551616*ao<18446744073709551616->
         ad 39 [((z5+((-18446744073709551616)*ao))+1),0,9223372036854775807]/\
         (eE [[((z5+((-18446744073709551616)*ao))+1)]]/\eb [[((z5+((-18446744073709551616)*ao))+1)]]<eb [[z5]])
        ))
       )/\(((!(decide (aq=61))))=false->
        ∀ao:Int,0<=ao->ao<=1->0<=(z5+9223372036854775809)-18446744073709551616*ao->(z5+9223372036854775809)-18446744073709551616*ao<18446744073709551616->
        ad 39 [((z5+((-18446744073709551616)*ao))+1),0,9223372036854775807]/\
        (eE [[((z5+((-18446744073709551616)*ao))+1)]]/\eb [[((z5+((-18446744073709551616)*ao))+1)]]<eb [[z5]])
       ))
      )/\(((!(decide (aq=95))))=false->
       ∀ao:Int,0<=ao->ao<=1->0<=(z5+9223372036854775809)-18446744073709551616*ao->(z5+9223372036854775809)-18446744073709551616*ao<18446744073709551616->
       ad 39 [((z5+((-18446744073709551616)*ao))+1),0,9223372036854775807]/\
       (eE [[((z5+((-18446744073709551616)*ao))+1)]]/\eb [[((z5+((-18446744073709551616)*ao))+1)]]<eb [[z5]])
      ))
     )/\(((!(decide (aq=46))))=false->
      ∀ao:Int,0<=ao->ao<=1->0<=(z5+9223372036854775809)-18446744073709551616*ao->(z5+9223372036854775809)-18446744073709551616*ao<18446744073709551616->
      ad 39 [((z5+((-18446744073709551616)*ao))+1),0,9223372036854775807]/\
      (eE [[((z5+((-18446744073709551616)*ao))+1)]]/\eb [[((z5+((-18446744073709551616)*ao))+1)]]<eb [[z5]])
     ))
    )/\(((!(decide (z9=1))))=false->
     ∀ao:Int,0<=ao->ao<=1->0<=(z5+9223372036854775809)-18446744073709551616*ao->(z5+9223372036854775809)-18446744073709551616*ao<18446744073709551616->
     ad 39 [((z5+((-18446744073709551616)*ao))+1),0,9223372036854775807]/\
     (eE [[((z5+((-18446744073709551616)*ao))+1)]]/\eb [[((z5+((-18446744073709551616)*ao))+1)]]<eb [[z5]])
    ))
   )/\(((!(decide (ak=1))))=false->
    ∀z9:Int,0<=z9->z9<=1->0<=(z5+9223372036854775809)-18446744073709551616*z9->(z5+9223372036854775809)-18446744073709551616*z9<18446744073709551616->
    ad 39 [((z5+((-18446744073709551616)*z9))+1),0,9223372036854775807]/\
    (eE [[((z5+((-18446744073709551616)*z9))+1)]]/\eb [[((z5+((-18446744073709551616)*z9))+1)]]<eb [[z5]])
   ))
  )/\((decide (z5<ai))=false->
   (((decide (z3=1))=true->
    ∀aq:Int,0<=aq->aq<=9223372036854775807->aq=aa 0 [af]->
    (((decide (1<=aq))=true->
     ∀ak:Int,0<=ak->ak<=9223372036854775807->ak=aa 0 [af]->
     K [[z0]] [[(cond (decide (ak<=200)) 1 0)]]
    )/\((decide (1<=aq))=false->
     K [[z0]] [[(cond (false) 1 0)]]
    ))
   )/\((decide (z3=1))=false->
    K [[z0]] [[(cond (false) 1 0)]]
   ))
  ))
 )
theorem Wr:Gu SB (bZ SB [.str] 202):=zP (n:=79221403731691789204265450354666987086070872538664503581038852739373042335165977954796146613462291367) (p:=nt) (qF (by decide+kernel)) λ_ _=>rfl
theorem Bc {I:List (List Int)->Prop} {M:List (List Int)->Nat} {L:Int} {i:Nat} (hlt:(i:Int)<L) (hL:L<=9223372036854775807) (hI:I [[((i+1:Nat):Int)]]) (hE:M [[((i+1:Nat):Int)]]<M [[(i:Int)]]):
 ∀q:Int,0<=q->q<=1->0<=((i:Int)+9223372036854775809)-18446744073709551616*q->((i:Int)+9223372036854775809)-18446744073709551616*q<18446744073709551616->
  ad 39 [(((i:Int)+((-18446744073709551616)*q))+1),0,9223372036854775807]/\
  (I [[(((i:Int)+((-18446744073709551616)*q))+1)]]/\M [[(((i:Int)+((-18446744073709551616)*q))+1)]]<M [[(i:Int)]]):=by
 intro q q0 q1 q2 q3
 rw[FF (L:=L) hlt hL (Int.natCast_nonneg _) q0 q2]
 exact⟨⟨by omega,by omega⟩,by simpa using hI,by simpa using hE⟩
def pf (n:Nat) (bl:List (List Int)):Nat:=n-((bl.getD 0 []).getD 0 0).toNat
theorem BK {n i:Nat} (h:i<n):pf n [[((i+1:Nat):Int)]]<pf n [[(i:Int)]]:=by
 show n-(((i+1:Nat):Int)).toNat<n-((i:Int)).toNat
 omega
theorem VS:FX SB (bZ SB [.int .i64 (-1) 9223372036854775807] 204):=by
 intro z0 a0 a1
 have hL:=r7 a1
 refine⟨λbl=>∃i:Nat,bl=[[(i:Int)]]/\i<=(ab z0).length/\∀j,j<i->(ab z0).getD j 0≠u8 58,pf (ab z0).length,⟨0,rfl,Nat.zero_le _,λj h=>by omega⟩,?_⟩
 rintro z2 b0 b1 ⟨i,e,hi,hb⟩ z3 bY c1 h3
 obtain rfl:z2=i:=by simpa using e
 simp only[aa]at h3
 have fin:∀r:Int,-1<=r->r<=9223372036854775807->r=idx 58 (ab z0)->bZ SB [.int .i64 (-1) 9223372036854775807] 204 [[z0]] [[r]]:=λr xf r1 h=>⟨⟨xf,r1,trivial⟩,h⟩
 refine⟨λhp=>?_,λhp=>fin _ (by decide) (by decide) ?_⟩
 ·have hp:(i:Int)<z3:=by simpa using hp
  refine⟨⟨b0,by omega⟩,λz4 d0 d1 h4=>?_⟩
  simp only[aa,Int.toNat_natCast]at h4
  have hu:=xD (b:=(ab z0).getD i 0) (z:=58) (by decide) (by decide)
  rw[<-h4]at hu
  refine⟨λhq=>fin _ (by omega) (by omega) ?_,λhq=>Bc (I:=λbl=>∃i:Nat,bl=[[(i:Int)]]/\i<=(ab z0).length/\∀j,j<i->(ab z0).getD j 0≠u8 58) (M:=pf (ab z0).length) (L:=z3) hp c1 ⟨i+1,rfl,by omega,λj hj=>?_⟩ (BK (by omega))⟩
  ·exact(SC (by decide) (by decide) (by omega) (beq_iff_eq.1 (hu.1 (of_decide_eq_true hq))) hb).symm
  ·by_cases he:j=i
   ·subst he
    intro h
    have:=hu.2 (by rw[h];simp)
    exact of_decide_eq_false hq this
   ·exact hb j (by omega)
 ·have hp:¬(i:Int)<z3:=by simpa using hp
  exact(SE (by decide) (by decide) λj hj=>hb j (by omega)).symm
theorem Ao {s z L:Int} {n:Nat} (hz:z=(n:Int)) (h:n<=(ab s).length) (hL:L=aa 0 [s]):(0<=z/\z<=L/\L<=((ab s).length:Int))/\∀y,y=aa 2 [s,z,L]->ab y=(ab s).drop n:=by
 subst hz
 simp only[aa]at hL
 refine⟨⟨by omega,by omega,by omega⟩,λy hy=>?_⟩
 rw[hy];simp only[aa,gR]
 rw[show((n:Int)).toNat=n by omega]
 exact List.take_of_length_le (by simp;omega)
theorem Wj:Gl SB (bZ SB [.bool] 205):=by
 intro z0 a0 a1 af b0 b1 h1
 have hL:=r7 a1
 have h1:af=idx 58 (ab z0):=h1
 have bc:∀b:Bool,hT (ab z0)=b->bZ SB [.bool] 205 [[z0]] [[aT b]]:=λb h=>lA (by show aT b=aT (hT (ab z0));rw[h])
 have hr:=rR 58 (ab z0)
 refine⟨λhn z2 bY c1 h2=>?_,λhn z2 bY c1 aU bL z3 d0 d1 h3=>?_⟩
 ·have h2:z2=aT (gg (ab z0)):=h2
  have hn:af<0:=of_decide_eq_true hn
  rw[ek h2]
  exact bc _ (Xz (by omega))
 ·have hn:¬af<0:=of_decide_eq_false hn
  have hw:af+-18446744073709551616*z2+1=((af.toNat+1:Nat):Int):=by omega
  rw[hw]
  obtain⟨s1,s2⟩:=Ao (s:=z0) (z:=((af.toNat+1:Nat):Int)) (L:=z3) (n:=af.toNat+1) rfl (by omega) h3
  refine⟨s1,λz4 cA e1 h4=>?_⟩
  have en:=s2 z4 h4
  have aam:=r7 e1
  have iF:hT (ab z0)=(gg ((ab z0).take af.toNat)&&nF (ab z4)):=by
   unfold hT kB
   have:decide (0<=idx 58 (ab z0))=true:=decide_eq_true (by omega)
   rw[this,en,h1]
   simp
  refine⟨λbl=>∃i:Nat,bl=[[(i:Int)]]/\i<=(ab z4).length/\((ab z4).take i).all dT=true,pf (ab z4).length,⟨0,rfl,Nat.zero_le _,rfl⟩,?_⟩
  rintro ai f0 f1 ⟨i,e,hi,hall⟩ aq g0 g1 h7
  obtain rfl:ai=i:=by simpa using e
  simp only[aa]at h7
  refine⟨λhp=>?_,λhp=>?_⟩
  ·have hp:(i:Int)<aq:=by simpa using hp
   refine⟨⟨f0,by omega⟩,λak i0 i1 bC z9 pO gP bm=>?_⟩
   simp only[aa,Int.toNat_natCast]at bC
   have bm:z9=aT (dT (u8 ak)):=bm
   rw[bC,uP]at bm
   rw[ek bm]
   refine⟨λhd=>bc false ?_,λhd=>Bc (I:=λbl=>∃i:Nat,bl=[[(i:Int)]]/\i<=(ab z4).length/\((ab z4).take i).all dT=true) (M:=pf (ab z4).length) (L:=aq) hp g1 ⟨i+1,rfl,by omega,?_⟩ (BK (by omega))⟩
   ·have hd:dT ((ab z4).getD i 0)=false:=by simpa using hd
    rw[iF];unfold nF;rw[Bg dT _ i (by omega) hd];simp
   ·have hd:dT ((ab z4).getD i 0)=true:=by simpa using hd
    rw[Bh _ _ _ (by omega),hall,hd];rfl
  ·have hp:¬(i:Int)<aq:=by simpa using hp
   rw[List.take_of_length_le (by omega)]at hall
   refine⟨⟨Int.le_refl _,by omega,by omega⟩,λak i0 i1 bC z9 pO gP bm=>?_⟩
   have vz:ab ak=(ab z0).take af.toNat:=by
    rw[bC];simp only[aa,gR]
    rw[show(0:Int).toNat=0 from rfl,List.drop_zero];rfl
   have bm:z9=aT (gg (ab ak)):=bm
   rw[ek bm,vz]
   have RQ:nF (ab z4)=(Nat.blt 0 (ab z4).length&&Nat.ble (ab z4).length 5):=by unfold nF;rw[hall,Bool.and_true]
   rw[RQ]at iF
   refine⟨λal ao cX k1 dp=>?_,λal=>bc false (by rw[iF,al];rfl)⟩
   simp only[aa]at dp
   refine⟨λhq ax l0 l1 cx=>?_,λhq=>bc false ?_⟩
   ·simp only[aa]at cx
    have hq:1<=ao:=of_decide_eq_true hq
    refine bc _ ?_
    rw[iF,al,show Nat.blt 0 (ab z4).length=true by rw[Nat.blt_eq];omega,Bool.true_and,Bool.true_and,Bool.eq_iff_iff,decide_eq_true_eq,Nat.ble_eq];omega
   ·have hq:¬1<=ao:=of_decide_eq_false hq
    rw[iF,show Nat.blt 0 (ab z4).length=false by
     cases hb:Nat.blt 0 (ab z4).length with
     |false=>rfl
     |true=>rw[Nat.blt_eq]at hb;omega];simp
theorem zq {id:Nat} {zs:List (List Int)} {a b:Int} {c:Bool} (a0:0<=a) (a1:a<=aC) (b0:0<=b) (b1:b<=aC) (h:SB id zs [[a],[b],[aT c]]):bZ SB [.str,.str,.bool] id zs [[a],[b],[aT c]]:=⟨⟨a0,a1,b0,b1,(h9 c).1,(h9 c).2,trivial⟩,h⟩
theorem sf {k:UInt8} {s:aI} (h:(Nat.blt 0 s.length&&Nat.ble s.length 255&&s.getD 0 0==k&&decide (0<=idx 58 s)&&hT (s.drop ((idx 58 s).toNat+1)))=false):gQ k s=([],[],0):=by unfold gQ;rw[h];rfl
theorem We {k:Int} (cX:0<=k) (k1:k<=255) (hk:k≠58) {id:Nat} (hid:∀z a b c,SB id [[z],[k]] [[a],[b],[c]]=((ab a,ab b,c)=gQ (u8 k) (ab z))):
 (∀z0:Int,0<=z0->z0<=aC->∀af:Int,k<=af->af<=k->
 ∀z2:Int,0<=z2->z2<=9223372036854775807->z2=aa 0 [z0]->
 (((decide (z2=0))=true->
  bZ SB [.str,.str,.bool] id [[z0],[af]] [[0],[0],[(cond (false) 1 0)]]
 )/\((decide (z2=0))=false->
  ∀z3:Int,0<=z3->z3<=9223372036854775807->z3=aa 0 [z0]->
  (((decide (255<z3))=true->
   bZ SB [.str,.str,.bool] id [[z0],[af]] [[0],[0],[(cond (false) 1 0)]]
  )/\((decide (255<z3))=false->
   ad 1 [z0,0]/\
   ∀z4:Int,0<=z4->z4<=255->z4=aa 1 [z0,0]->
   ((((!(decide (z4=af))))=true->
    bZ SB [.str,.str,.bool] id [[z0],[af]] [[0],[0],[(cond (false) 1 0)]]
   )/\(((!(decide (z4=af))))=false->
    ∀z5:Int,(-1)<=z5->z5<=9223372036854775807->SB 204 [[z0]] [[z5]]->
    (((decide (z5<0))=true->
     bZ SB [.str,.str,.bool] id [[z0],[af]] [[0],[0],[(cond (false) 1 0)]]
    )/\((decide (z5<0))=false->
     ∀ai:Int,0<=ai->ai<=1->0<=(z5+9223372036854775809)-18446744073709551616*ai->(z5+9223372036854775809)-18446744073709551616*ai<18446744073709551616->
     ∀aq:Int,0<=aq->aq<=9223372036854775807->aq=aa 0 [z0]->
     ad 2 [z0,((z5+((-18446744073709551616)*ai))+1),aq]/\
     ∀ak:Int,0<=ak->ak<=aC->ak=aa 2 [z0,((z5+((-18446744073709551616)*ai))+1),aq]->
     ∀z9:Int,0<=z9->z9<=1->SB 205 [[ak]] [[z9]]->
     ((((!(decide (z9=1))))=true->
      bZ SB [.str,.str,.bool] id [[z0],[af]] [[0],[0],[(cond (false) 1 0)]]
     )/\(((!(decide (z9=1))))=false->
      ad 2 [z0,1,z5]/\
      ∀ao:Int,0<=ao->ao<=aC->ao=aa 2 [z0,1,z5]->
      ∀ax:Int,0<=ax->ax<=1->0<=(z5+9223372036854775809)-18446744073709551616*ax->(z5+9223372036854775809)-18446744073709551616*ax<18446744073709551616->
      ∀z12:Int,0<=z12->z12<=9223372036854775807->z12=aa 0 [z0]->
      ad 2 [z0,((z5+((-18446744073709551616)*ax))+1),z12]/\
      ∀aj:Int,0<=aj->aj<=aC->aj=aa 2 [z0,((z5+((-18446744073709551616)*ax))+1),z12]->
      bZ SB [.str,.str,.bool] id [[z0],[af]] [[ao],[aj],[(cond (true) 1 0)]]
     ))
    ))
   ))
  ))
 ))):=by
  intro z0 a0 a1 af b0 b1 z2 bY c1 h2
  have hL:=r7 a1
  obtain rfl:af=k:=by omega
  simp only[aa]at h2
  have ef:gQ (u8 af) (ab z0)=([],[],0)->bZ SB [.str,.str,.bool] id [[z0],[af]] [[0],[0],[(cond (false) 1 0)]]:=λh=>zq (c:=false) (Int.le_refl _) mh (Int.le_refl _) mh (by rw[hid,h];rfl)
  have iE:Nat.blt 0 (ab z0).length= !decide (z2=0):=by
   rw[Bool.eq_iff_iff,Nat.blt_eq];simp;omega
  refine⟨λh=>ef (sf (by rw[iE,h];rfl)),λh z3 d0 d1 h3=>?_⟩
  have wL:¬z2=0:=of_decide_eq_false h
  rw[h]at iE
  have tv:=DY (n:=255) 255 rfl h3
  refine⟨λh'=>ef (sf (by
   rw[h']at tv
   have:Nat.ble (ab z0).length 255=false:=by simpa using tv.symm
   rw[this];simp)),λh'=>⟨⟨Int.le_refl _,by omega⟩,λz4 cA e1 h4=>?_⟩⟩
  rw[h']at tv
  have tv:Nat.ble (ab z0).length 255=true:=by simpa using tv.symm
  have Ri:decide (z4=af)=((ab z0).getD 0 0==u8 af):=by
   rw[h4];simp only[aa,Int.toNat_zero]
   rw[Bool.eq_iff_iff,decide_eq_true_eq,xD cX k1]
  rw[Ri]
  refine⟨λhk=>ef (sf (by
   have:((ab z0).getD 0 0==u8 af)=false:=by simpa using hk
   rw[this];simp)),λfS z5 f0 f1 h5=>?_⟩
  have fS:((ab z0).getD 0 0==u8 af)=true:=by simpa using fS
  have h5:z5=idx 58 (ab z0):=h5
  have hr:=rR 58 (ab z0)
  refine⟨λhn=>ef (sf (by
   have hn:z5<0:=of_decide_eq_true hn
   rw[show decide (0<=idx 58 (ab z0))=false from decide_eq_false (by omega)];simp)),λhn ai g0 g1 g2 g3 aq i0 i1 h7=>?_⟩
  have hn:¬z5<0:=of_decide_eq_false hn
  have h1:1<=z5:=by
   rcases wO (c:=58) (by decide) (by decide) (ab z0)with⟨q,_⟩|⟨q1,q2,q3,_⟩
   ·omega
   ·by_cases h0:z5=0
    ·rw[<-h5,h0]at q3
     have q3:(ab z0).getD 0 0=u8 58:=q3
     rw[q3]at fS
     have:=beq_iff_eq.1 fS
     have:=congrArg UInt8.toNat this
     have e1:=Ar cX k1
     have e2:=Ar (z:=58) (by decide) (by decide)
     omega
    ·omega
  have hw:∀q:Int,0<=q->q<=1->0<=(z5+9223372036854775809)-18446744073709551616*q->z5+-18446744073709551616*q+1=((z5.toNat+1:Nat):Int):=λq q0 q1 q2=>by omega
  rw[hw ai g0 g1 g2]
  obtain⟨s1,s2⟩:=Ao (s:=z0) (z:=((z5.toNat+1:Nat):Int)) (L:=aq) (n:=z5.toNat+1) rfl (by omega) h7
  refine⟨s1,λak pO gP bC z9 l0 l1 bm=>?_⟩
  have vz:=s2 ak bC
  have bm:z9=aT (hT (ab ak)):=bm
  rw[ek bm,vz]
  have hi:decide (0<=idx 58 (ab z0))=true:=decide_eq_true (by omega)
  refine⟨λhs=>ef (sf (by
   have hs:hT ((ab z0).drop (z5.toNat+1))=false:=by simpa using hs
   rw[<-h5,hs];simp)),λhs=>⟨⟨by decide,by omega,by omega⟩,λao m0 jf dp ax n0 n1 da jU z12 UG o1 dh=>?_⟩⟩
  have hs:hT ((ab z0).drop (z5.toNat+1))=true:=by simpa using hs
  rw[hw ax n0 n1 da]
  obtain⟨t1,t2⟩:=Ao (s:=z0) (z:=((z5.toNat+1:Nat):Int)) (L:=z12) (n:=z5.toNat+1) rfl (by omega) dh
  refine⟨t1,λaj p0 p1 eU=>zq (c:=true) m0 jf p0 p1 ?_⟩
  rw[hid,t2 aj eU]
  have s7:ab ao=((ab z0).take z5.toNat).drop 1:=by
   rw[dp];simp only[aa,gR]
   rw[List.drop_take];rfl
  have hbl:Nat.blt 0 (ab z0).length=true:=by rw[iE];rfl
  unfold gQ
  rw[hbl,tv,fS,hi,<-h5,hs,s7]
  rfl
theorem Wf:Gh SB (bZ SB [.str,.str,.bool] 206):=We (k:=64) (by decide) (by decide) (by decide) λ_ _ _ _=>rfl
theorem UB {z0 af z3:Int} {k:UInt8} {inn:UInt8->Bool} {most:Nat} {ur:Int} (hm:ur=(most:Int)) {id:Nat} (hid:∀r,SB id [[z0]] [[r]]=(r=aT (kM k inn most (ab z0)))) (h3:0<=z3/\z3<=1) (hp:(gQ k (ab z0)).1=ab af) (Da:(gQ k (ab z0)).2.2=z3) (hall:(ab af).all inn=true):
 (((decide (z3=1))=true->
  ∀aq:Int,0<=aq->aq<=9223372036854775807->aq=aa 0 [af]->
  (((decide (1<=aq))=true->
   ∀ak:Int,0<=ak->ak<=9223372036854775807->ak=aa 0 [af]->
   bZ SB [.bool] id [[z0]] [[(cond (decide (ak<=ur)) 1 0)]]
  )/\((decide (1<=aq))=false->
   bZ SB [.bool] id [[z0]] [[(cond (false) 1 0)]]
  ))
 )/\((decide (z3=1))=false->
  bZ SB [.bool] id [[z0]] [[(cond (false) 1 0)]]
 )):=by
 have bc:∀b:Bool,kM k inn most (ab z0)=b->bZ SB [.bool] id [[z0]] [[aT b]]:=λb h=>lA (by rw[hid,h])
 have hv:kM k inn most (ab z0)=(decide (z3=1)&&Nat.blt 0 (ab af).length&&Nat.ble (ab af).length most):=by
  unfold kM;rw[hp,Da,hall,Bool.and_true]
 refine⟨λh aq a0 a1 h7=>?_,λh=>bc false (by rw[hv,h];rfl)⟩
 simp only[aa]at h7
 refine⟨λh1 ak b0 b1 bC=>bc _ ?_,λh1=>bc false ?_⟩
 ·have h1:1<=aq:=of_decide_eq_true h1
  rw[hv,h,show Nat.blt 0 (ab af).length=true by rw[Nat.blt_eq];omega,ui most hm bC];rfl
 ·have h1:¬1<=aq:=of_decide_eq_false h1
  rw[hv,show Nat.blt 0 (ab af).length=false by
   cases hb:Nat.blt 0 (ab af).length with
   |false=>rfl
   |true=>rw[Nat.blt_eq]at hb;omega];simp
theorem UC {k:UInt8} {inn:UInt8->Bool} {most:Nat} {s l:aI} (hp:(gQ k s).1=l) {i:Nat} (hi:i<l.length) (hf:inn (l.getD i 0)=false):kM k inn most s=false:=by
 unfold kM;rw[hp,Bg inn l i hi hf];simp
theorem Wk:Gm SB (bZ SB [.bool] 207):=by
 intro z0 a0 a1 af b0 b1 z2 bY c1 z3 d0 d1 iC
 have iC:(ab af,ab z2,z3)=gQ 64 (ab z0):=iC
 have hp:(gQ 64 (ab z0)).1=ab af:=by rw[<-iC]
 have Da:(gQ 64 (ab z0)).2.2=z3:=by rw[<-iC]
 have hL:=r7 b1
 have bc:∀b:Bool,gn (ab z0)=b->bZ SB [.bool] 207 [[z0]] [[aT b]]:=λb h=>lA (by show aT b=aT (gn (ab z0));rw[h])
 refine⟨λbl=>∃i:Nat,bl=[[(i:Int)]]/\i<=(ab af).length/\((ab af).take i).all nt=true,pf (ab af).length,⟨0,rfl,Nat.zero_le _,rfl⟩,?_⟩
 rintro z5 cA e1 ⟨i,e,hi,hall⟩ ai f0 f1 h6
 obtain rfl:z5=i:=by simpa using e
 simp only[aa]at h6
 refine⟨λhlt=>?_,λcu=>?_⟩
 ·have hlt:(i:Int)<ai:=by simpa using hlt
  refine⟨⟨cA,by omega⟩,λaq g0 g1 h7 ak i0 i1 bC=>?_⟩
  simp only[aa,Int.toNat_natCast]at h7
  have bC:ak=aT (jQ (u8 aq)):=bC
  have yA:u8 aq=(ab af).getD i 0:=by rw[h7,uP]
  rw[yA]at bC
  have on:nt ((ab af).getD i 0)=true->_:=λh=>Bc (I:=λbl=>∃i:Nat,bl=[[(i:Int)]]/\i<=(ab af).length/\((ab af).take i).all nt=true) (M:=pf (ab af).length) (L:=ai) hlt f1 ⟨i+1,rfl,by omega,by rw[Bh _ _ _ (by omega),hall,h];rfl⟩ (BK (by omega))
  have dN:∀n:Int,0<=n->n<=255->decide (aq=n)=((ab af).getD i 0==u8 n):=λn h0 h1=>by
   rw[Bool.eq_iff_iff,decide_eq_true_eq,h7,xD h0 h1]
  rw[ek bC,dN 46 (by decide) (by decide),dN 95 (by decide) (by decide),dN 61 (by decide) (by decide),dN 47 (by decide) (by decide),dN 43 (by decide) (by decide),dN 45 (by decide) (by decide)]
  have cl:nt ((ab af).getD i 0)=(jQ ((ab af).getD i 0)||dT ((ab af).getD i 0)||((ab af).getD i 0==u8 46||((ab af).getD i 0==u8 95||((ab af).getD i 0==u8 61||((ab af).getD i 0==u8 47||((ab af).getD i 0==u8 43||((ab af).getD i 0==u8 45||false))))))):=rfl
  refine⟨λhs z9 pO gP bm=>?_,λhs=>on (by rw[cl,show jQ ((ab af).getD i 0)=true by simpa using hs];rfl)⟩
  have hs:jQ ((ab af).getD i 0)=false:=by simpa using hs
  have bm:z9=aT (dT (u8 aq)):=bm
  rw[yA]at bm
  rw[ek bm]
  refine⟨λhd=>?_,λhd=>on (by rw[cl,show dT ((ab af).getD i 0)=true by simpa using hd];simp)⟩
  have hd:dT ((ab af).getD i 0)=false:=by simpa using hd
  rw[hs,hd]at cl
  refine⟨λq1=>⟨λq2=>⟨λq3=>⟨λq4=>⟨λq5=>⟨λq6=>bc false (UC (k:=64) (inn:=nt) (most:=200) hp (i:=i) (by omega) ?_),λq6=>on ?_⟩,λq5=>on ?_⟩,λq4=>on ?_⟩,λq3=>on ?_⟩,λq2=>on ?_⟩,λq1=>on ?_⟩
  ·simp only[Bool.not_eq_true']at q1 q2 q3 q4 q5 q6
   rw[cl,q1,q2,q3,q4,q5,q6];rfl
  all_goals rw[cl]
  ·simp only[Bool.not_eq_false']at q6;rw[q6];simp
  ·simp only[Bool.not_eq_false']at q5;rw[q5];simp
  ·simp only[Bool.not_eq_false']at q4;rw[q4];simp
  ·simp only[Bool.not_eq_false']at q3;rw[q3];simp
  ·simp only[Bool.not_eq_false']at q2;rw[q2];simp
  ·simp only[Bool.not_eq_false']at q1;rw[q1];simp
 ·have cu:¬(i:Int)<ai:=by simpa using cu
  rw[List.take_of_length_le (by omega)]at hall
  exact UB (k:=64) (inn:=nt) (most:=200) rfl (λ_=>rfl) ⟨d0,d1⟩ hp Da hall
end Go.bG
namespace Go.bG
open Go Go.bo
def Gw (S:Nat->List (List Int)->List (List Int)->Prop) (K:List (List Int)->List (List Int)->Prop):Prop:=
 ∀z0:Int,0<=z0->z0<=aC->
 ∀af:Int,0<=af->af<=9223372036854775807->af=aa 0 [z0]->
 (((decide (255<af))=true->
  K [[z0]] [[(cond (false) 1 0)]]
 )/\((decide (255<af))=false->
  ∀z2:Int,0<=z2->z2<=9223372036854775807->z2=aa 0 [z0]->
  (((decide (1<=z2))=true->
   ad 2 [z0,0,1]/\
   ∀z3:Int,0<=z3->z3<=aC->z3=aa 2 [z0,0,1]->
   ∀z4:Int,0<=z4->z4<=1->z4=aa 4 [z3,65]->
   ((((!(decide (z4=1))))=true->
    K [[z0]] [[(cond (false) 1 0)]]
   )/\(((!(decide (z4=1))))=false->
    ∀z5:Int,0<=z5->z5<=9223372036854775807->z5=aa 0 [z0]->
    ad 2 [z0,1,z5]/\
    ∀ai:Int,0<=ai->ai<=aC->ai=aa 2 [z0,1,z5]->
    ∀aq:Int,0<=aq->aq<=aC->∀ak:Int,0<=ak->ak<=aC->∀z9:Int,0<=z9->z9<=1->S 126 [[ai]] [[aq],[ak],[z9]]->
    (((decide (z9=1))=true->
     ∀ao:Int,0<=ao->ao<=1->ao=aa 4 [aq,0]->
     ((((!(decide (ao=1))))=true->
      ∀ax:Int,0<=ax->ax<=9223372036854775807->ax=aa 0 [aq]->
      (((decide (ax<=200))=true->
       ∀z12:Int,0<=z12->z12<=aC->S 202 [[aq]] [[z12]]->
       ∀aj:Int,0<=aj->aj<=1->aj=aa 4 [z12,0]->
       (((decide (aj=1))=true->
        ∀aw:Int,0<=aw->aw<=1->S 65 [[aq],[29623484903295033747957742255491238963424329677582429956179748554116486405127370353604394274421496743]] [[aw]]->
        (((decide (aw=1))=true->
         ∀aE:Int,0<=aE->aE<=1->S 27 [[ak]] [[aE]]->
         K [[z0]] [[(cond (decide (aE=1)) 1 0)]]
        )/\((decide (aw=1))=false->
         K [[z0]] [[(cond (false) 1 0)]]
        ))
       )/\((decide (aj=1))=false->
        K [[z0]] [[(cond (false) 1 0)]]
       ))
      )/\((decide (ax<=200))=false->
       K [[z0]] [[(cond (false) 1 0)]]
      ))
     )/\(((!(decide (ao=1))))=false->
      K [[z0]] [[(cond (false) 1 0)]]
     ))
    )/\((decide (z9=1))=false->
     K [[z0]] [[(cond (false) 1 0)]]
    ))
   ))
  )/\((decide (1<=z2))=false->
   K [[z0]] [[(cond (false) 1 0)]]
  ))
 ))
theorem SD {c:UInt8} {t:aI} (h:c≠58):idx 58 (c::t)=if idx 58 t<0 then-1 else idx 58 t+1:=by
 have:¬(c.toNat:Int)=58:=λe=>h (by rw[<-UInt8.toNat_inj];show c.toNat=58;omega)
 show(if(c.toNat:Int)=58 then 0 else if idx 58 t<0 then-1 else idx 58 t+1)=_
 rw[if_neg this]
theorem Ww {k:UInt8} (hk:k≠58) {t:aI} (hl:t.length+1<=255):gQ k (k::t)=cond (decide (0<=idx 58 t)&&hT (t.drop ((idx 58 t).toNat+1))) (t.take (idx 58 t).toNat,t.drop ((idx 58 t).toNat+1),1) ([],[],0):=by
 unfold gQ
 rw[SD hk,show Nat.blt 0 (k::t).length=true by rw[Nat.blt_eq];simp,show Nat.ble (k::t).length 255=true by rw[Nat.ble_eq];simpa using hl]
 have hr:=rR 58 t
 have hb:((k::t).getD 0 0==k)=true:=by show(k==k)=true;simp
 rw[hb]
 by_cases hn:idx 58 t<0
 ·rw[if_pos hn,show decide (0<=idx 58 t)=false from decide_eq_false (by omega)]
  simp
 ·rw[if_neg hn,show decide (0<=idx 58 t)=true from decide_eq_true (by omega),show decide (0<=idx 58 t+1)=true from decide_eq_true (by omega),show(idx 58 t+1).toNat=(idx 58 t).toNat+1 by omega]
  simp
theorem Ln {k:UInt8} {s:aI} (h:s.getD 0 0≠k∨s=[]):(gQ k s).2.2=0:=by
 rw[sf]
 rcases h with h|h
 ·rw[show(s.getD 0 0==k)=false by simpa using h];simp
 ·rw[h];rfl
theorem Wx {k:UInt8} {s:aI} (h:Nat.ble s.length 255=false):(gQ k s).2.2=0:=by
 rw[sf]
 rw[h];simp
theorem zD {k:UInt8} {inn:UInt8->Bool} {most:Nat} {s:aI} (h:(gQ k s).2.2=0):kM k inn most s=false:=by unfold kM;rw[h];rfl
theorem VE (inn:UInt8->Bool) (s:aI) {n:Int} (hn:∀c,(ab n).contains c=inn c):(s.all λc=>(ab n).contains c)=s.all inn:=by
 congr 1;funext c;exact hn c
theorem Wc {k:UInt8} {Kk BJ ur:Int} {inn:UInt8->Bool} {most tid:Nat} (hk:k≠58) (Rk:ab Kk=[k]) (dR:∀c,(ab BJ).contains c=inn c) (hm:ur=(most:Int)) (ht:∀z r,SB tid [[z]] [[r]]=(ab r=ix inn (ab z))) {id:Nat} (hid:∀z r,SB id [[z]] [[r]]=(r=aT (kM k inn most (ab z)))):
(∀z0:Int,0<=z0->z0<=aC->
 ∀af:Int,0<=af->af<=9223372036854775807->af=aa 0 [z0]->
 (((decide (255<af))=true->
  bZ SB [.bool] id [[z0]] [[(cond (false) 1 0)]]
 )/\((decide (255<af))=false->
  ∀z2:Int,0<=z2->z2<=9223372036854775807->z2=aa 0 [z0]->
  (((decide (1<=z2))=true->
   ad 2 [z0,0,1]/\
   ∀z3:Int,0<=z3->z3<=aC->z3=aa 2 [z0,0,1]->
   ∀z4:Int,0<=z4->z4<=1->z4=aa 4 [z3,Kk]->
   ((((!(decide (z4=1))))=true->
    bZ SB [.bool] id [[z0]] [[(cond (false) 1 0)]]
   )/\(((!(decide (z4=1))))=false->
    ∀z5:Int,0<=z5->z5<=9223372036854775807->z5=aa 0 [z0]->
    ad 2 [z0,1,z5]/\
    ∀ai:Int,0<=ai->ai<=aC->ai=aa 2 [z0,1,z5]->
    ∀aq:Int,0<=aq->aq<=aC->∀ak:Int,0<=ak->ak<=aC->∀z9:Int,0<=z9->z9<=1->SB 126 [[ai]] [[aq],[ak],[z9]]->
    (((decide (z9=1))=true->
     ∀ao:Int,0<=ao->ao<=1->ao=aa 4 [aq,0]->
     ((((!(decide (ao=1))))=true->
      ∀ax:Int,0<=ax->ax<=9223372036854775807->ax=aa 0 [aq]->
      (((decide (ax<=ur))=true->
       ∀z12:Int,0<=z12->z12<=aC->SB tid [[aq]] [[z12]]->
       ∀aj:Int,0<=aj->aj<=1->aj=aa 4 [z12,0]->
       (((decide (aj=1))=true->
        ∀aw:Int,0<=aw->aw<=1->SB 65 [[aq],[BJ]] [[aw]]->
        (((decide (aw=1))=true->
         ∀aE:Int,0<=aE->aE<=1->SB 27 [[ak]] [[aE]]->
         bZ SB [.bool] id [[z0]] [[(cond (decide (aE=1)) 1 0)]]
        )/\((decide (aw=1))=false->
         bZ SB [.bool] id [[z0]] [[(cond (false) 1 0)]]
        ))
       )/\((decide (aj=1))=false->
        bZ SB [.bool] id [[z0]] [[(cond (false) 1 0)]]
       ))
      )/\((decide (ax<=ur))=false->
       bZ SB [.bool] id [[z0]] [[(cond (false) 1 0)]]
      ))
     )/\(((!(decide (ao=1))))=false->
      bZ SB [.bool] id [[z0]] [[(cond (false) 1 0)]]
     ))
    )/\((decide (z9=1))=false->
     bZ SB [.bool] id [[z0]] [[(cond (false) 1 0)]]
    ))
   ))
  )/\((decide (1<=z2))=false->
   bZ SB [.bool] id [[z0]] [[(cond (false) 1 0)]]
  ))
 ))):=by
  intro z0 a0 a1 af b0 b1 h1
  have bc:∀b:Bool,kM k inn most (ab z0)=b->bZ SB [.bool] id [[z0]] [[aT b]]:=λb h=>lA (by rw[hid,h])
  have vI:=DY (n:=255) 255 rfl h1
  refine⟨λhb=>bc false (zD (Wx (by rw[hb]at vI;simpa using vI.symm))),λhb z2 bY c1 h2=>?_⟩
  rw[hb]at vI
  have hlen:(ab z0).length<=255:=by
   have:Nat.ble (ab z0).length 255=true:=by simpa using vI.symm
   exact Nat.le_of_ble_eq_true this
  simp only[aa]at h2
  refine⟨λhp=>⟨⟨Int.le_refl _,by decide,by have:=of_decide_eq_true hp;omega⟩,λz3 d0 d1 h3 z4 cA e1 h4=>?_⟩,λhp=>bc false (zD (Ln (.inr ?_)))⟩
  ·cases hs:ab z0 with
   |nil=>rw[hs]at h2;have:=of_decide_eq_true hp;simp at h2;omega
   |cons c t=>
    have e3:ab z3=[c]:=by rw[h3];simp only[aa,gR,hs];rfl
    rw[lM h4,e3,Rk]
    refine⟨λhne=>bc false (zD (Ln (.inl ?_))),λheq z5 f0 f1 h5=>?_⟩
    ·rw[hs];intro h
     have h:c=k:=h
     rw[h]at hne;simp at hne
    ·have QJ:c=k:=by simpa using heq
     subst QJ
     have ov:t.length+1<=255:=by rw[hs]at hlen;simpa using hlen
     obtain⟨s1,s2⟩:=Ao (s:=z0) (z:=1) (L:=z5) (n:=1) rfl (by rw[hs];simp) h5
     refine⟨s1,λai g0 g1 h6 aq i0 i1 ak pO gP z9 cX k1 hC=>?_⟩
     have n9:ab ai=t:=by rw[s2 ai h6,hs];rfl
     have hC:(ab aq,ab ak,z9)=kB 58 (ab ai):=hC
     rw[n9]at hC
     have iC:=Ww hk ov
     unfold kB at hC
     cases hi:decide (0<=idx 58 t)with
     |false=>
      rw[hi]at hC iC
      simp only[cond_false,Prod.mk.injEq]at hC
      obtain⟨_,_,rfl⟩:=hC
      exact⟨λh=>by simp at h,λ_=>bc false (zD (by rw[hs,iC];rfl))⟩
     |true=>
      rw[hi]at hC iC
      simp only[cond_true,Prod.mk.injEq]at hC
      obtain⟨yA,vz,rfl⟩:=hC
      rw[Bool.true_and]at iC
      have hv:kM c inn most (ab z0)=(hT (ab ak)&&Nat.blt 0 (ab aq).length&&Nat.ble (ab aq).length most&&(ab aq).all inn):=by
       unfold kM
       rw[hs,iC,<-yA,<-vz]
       cases hT (ab ak)<;>rfl
      refine⟨λ_ ao l0 l1 dp=>?_,λh=>by simp at h⟩
      have hn:=zF dp
      refine⟨λhq ax m0 jf cx=>?_,λhq=>bc false (by rw[hq]at hn;rw[hv,<-hn];simp)⟩
      rw[hq]at hn
      rw[ui most hm cx]
      refine⟨λhr z12 n0 n1 dh aj UG o1 eU=>?_,λhr=>bc false (by rw[hv,hr];simp)⟩
      rw[ht]at dh
      rw[eq_nil eU,dh]
      refine⟨λhs aw p0 p1 ct=>?_,λhs=>bc false ?_⟩
      ·have ct:aw=aT ((ab aq).all λc=>(ab BJ).contains c):=ct
       rw[VE inn _ dR]at ct
       rw[ek ct]
       refine⟨λha aE q0 q1 c6=>?_,λha=>bc false (by rw[hv,ha];simp)⟩
       have c6:aE=aT (hT (ab ak)):=c6
       rw[ek c6]
       refine bc _ ?_
       rw[hv,<-hn,hr,ha];simp
      ·rw[hv]
       cases ha:(ab aq).all inn with
       |false=>simp
       |true=>rw[Fy ha]at hs;simp at hs
  ·have hp:¬1<=z2:=of_decide_eq_false hp
   exact List.length_eq_zero_iff.1 (by omega)
theorem Wt:Gw SB (bZ SB [.bool] 200):=Wc (k:=64) (inn:=nt) (most:=200) (tid:=202) (by decide) (by decide) (qF (by decide+kernel)) rfl (λ_ _=>rfl) (λ_ _=>rfl)
end Go.bG
namespace Go.bG
open Go Go.bo
def Gj (S:Nat->List (List Int)->List (List Int)->Prop) (K:List (List Int)->List (List Int)->Prop):Prop:=
 ∀z0:Int,0<=z0->z0<=aC->
 ∀af:Int,0<=af->af<=9223372036854775807->af=aa 0 [z0]->
 ∃(gq:List (List Int)->Prop) (jH:List (List Int)->Nat),gq [[0]]/\(∀z3:Int,0<=z3->z3<=9223372036854775807->gq [[z3]]->
  (((decide (z3<af))=true->
   ad 1 [z0,z3]/\
   ∀z4:Int,0<=z4->z4<=255->z4=aa 1 [z0,z3]->
   (((decide (z4<32))=true->
    K [[z0]] [[(cond (false) 1 0)]]
   )/\((decide (z4<32))=false->
    ad 1 [z0,z3]/\
    ∀z5:Int,0<=z5->z5<=255->z5=aa 1 [z0,z3]->
    (((decide (126<z5))=true->
     K [[z0]] [[(cond (false) 1 0)]]
    )/\((decide (126<z5))=false->
     ∀ai:Int,0<=ai->ai<=1->0<=(z3+9223372036854775809)-18446744073709551616*ai->(z3+9223372036854775809)-18446744073709551616*ai<18446744073709551616->
     ad 39 [((z3+((-18446744073709551616)*ai))+1),0,9223372036854775807]/\
     (gq [[((z3+((-18446744073709551616)*ai))+1)]]/\jH [[((z3+((-18446744073709551616)*ai))+1)]]<jH [[z3]])
    ))
   ))
  )/\((decide (z3<af))=false->
   K [[z0]] [[(cond (true) 1 0)]]
  ))
 )
theorem eF {b:Bool} (h:(!b)=true):b=false:=by cases b<;>first|rfl|cases h
theorem dM {b:Bool} (h:(!b)=false):b=true:=by cases b<;>first|rfl|cases h
def Nr (z0:Int) (bl:List (List Int)):Prop:=∃i:Nat,bl=[[(i:Int)]]/\i<=(ab z0).length/\nG ((ab z0).take i)=true
def GN (z0:Int) (bl:List (List Int)):Nat:=(ab z0).length-((bl.getD 0 []).getD 0 0).toNat
theorem Lu {t:aI} {i:Nat} (h:i<t.length):t.getD i 0∈t:=by simp[List.getD,h]
theorem Wh:Gj SB (bZ SB [.bool] 400):=by
 intro z0 a0 a1 af _ c1 h1
 have h1:af=((ab z0).length:Int):=h1
 have bc:∀b:Bool,nG (ab z0)=b->bZ SB [.bool] 400 [[z0]] [[aT b]]:=λb h=>lA (by show aT b=aT (nG (ab z0));rw[h])
 have ef:∀i,i<(ab z0).length->(((ab z0).getD i 0).toNat<32∨126<((ab z0).getD i 0).toNat)->bZ SB [.bool] 400 [[z0]] [[cond false 1 0]]:=λi hi h=>bc false (by
  cases hp:nG (ab z0)with
  |false=>rfl
  |true=>
   have:=List.all_eq_true.1 hp _ (Lu hi)
   simp only[Bool.and_eq_true,Nat.ble_eq]at this
   omega)
 refine⟨Nr z0,GN z0,⟨0,rfl,Nat.zero_le _,rfl⟩,?_⟩
 rintro z3 d0 d1 ⟨i,e,hi,hI⟩
 obtain rfl:z3=i:=by simpa using e
 refine⟨λhlt=>?_,λcu=>bc true ?_⟩
 ·have hlt:=of_decide_eq_true hlt
  have bM:i<(ab z0).length:=by omega
  have hg:∀z:Int,z=aa 1 [z0,(i:Int)]->z=(((ab z0).getD i 0).toNat:Int):=λz h=>by
   rw[h];simp only[aa,Int.toNat_natCast]
  refine⟨⟨by omega,by omega⟩,λz4 _ _ h4=>⟨λhc=>ef i bM (.inl ?_),λhc=>⟨⟨by omega,by omega⟩,λz5 _ _ h5=>⟨λhd=>ef i bM (.inr ?_),λhd ai x0 x1 cT dk=>?_⟩⟩⟩⟩
  ·have:=hg z4 h4;have:=of_decide_eq_true hc;omega
  ·have:=hg z5 h5;have:=of_decide_eq_true hd;omega
  ·have en:=hg z4 h4;have mq:=hg z5 h5
   have hc:=of_decide_eq_false hc;have hd:=of_decide_eq_false hd
   refine⟨⟨by omega,by omega⟩,⟨i+1,by rw[show((i:Int)+(-18446744073709551616)*ai)+1=((i+1:Nat):Int) by omega],by omega,?_⟩,?_⟩
   ·unfold nG at hI⊢
    rw[Fw _ _ bM,List.all_append,hI]
    simp only[List.all_cons,List.all_nil,Bool.and_true,Bool.true_and,Bool.and_eq_true,Nat.ble_eq]
    omega
   ·show(ab z0).length-(((i:Int)+(-18446744073709551616)*ai)+1).toNat<(ab z0).length-((i:Int)).toNat;omega
 ·have:=of_decide_eq_false cu
  rwa [List.take_of_length_le (by omega)]at hI
end Go.bG
namespace Go.bG
open Go Go.bo
def Gx (S:Nat->List (List Int)->List (List Int)->Prop) (K:List (List Int)->List (List Int)->Prop):Prop:=
 ∀z0:Int,0<=z0->z0<=aC->
 ∃(qx:List (List Int)->Prop) (xH:List (List Int)->Nat),qx [[0]]/\(∀z2:Int,0<=z2->z2<=9223372036854775807->qx [[z2]]->
  ∀z3:Int,0<=z3->z3<=9223372036854775807->z3=aa 0 [z0]->
  (((decide (z2<z3))=true->
   ad 1 [z0,z2]/\
   ∀z4:Int,0<=z4->z4<=255->z4=aa 1 [z0,z2]->
   (((decide (z4<33))=true->
    K [[z0]] [[(cond (false) 1 0)]]
   )/\((decide (z4<33))=false->
    ad 1 [z0,z2]/\
    ∀z5:Int,0<=z5->z5<=255->z5=aa 1 [z0,z2]->
    (((decide (126<z5))=true->
     K [[z0]] [[(cond (false) 1 0)]]
    )/\((decide (126<z5))=false->
     ∀ai:Int,0<=ai->ai<=1->0<=(z2+9223372036854775809)-18446744073709551616*ai->(z2+9223372036854775809)-18446744073709551616*ai<18446744073709551616->
     ad 39 [((z2+((-18446744073709551616)*ai))+1),0,9223372036854775807]/\
     (qx [[((z2+((-18446744073709551616)*ai))+1)]]/\xH [[((z2+((-18446744073709551616)*ai))+1)]]<xH [[z2]])
    ))
   ))
  )/\((decide (z2<z3))=false->
   ∀z4:Int,0<=z4->z4<=9223372036854775807->z4=aa 0 [z0]->
   (((decide (1<=z4))=true->
    ∀z5:Int,0<=z5->z5<=9223372036854775807->z5=aa 0 [z0]->
    K [[z0]] [[(cond (decide (z5<=64)) 1 0)]]
   )/\((decide (1<=z4))=false->
    K [[z0]] [[(cond (false) 1 0)]]
   ))
  ))
 )
theorem L9 (t:aI):cf t=((decide (1<=t.length)&&decide (t.length<=64))&&t.all λc=>Nat.ble 33 c.toNat&&Nat.ble c.toNat 126):=by
 unfold cf nG
 have h1:(!t.isEmpty)=decide (1<=t.length):=by cases t<;>simp
 have h2:Nat.ble t.length 64=decide (t.length<=64):=by rw[Bool.eq_iff_iff,Nat.ble_eq,decide_eq_true_eq]
 have h3:((t.all λc=>Nat.ble 32 c.toNat&&Nat.ble c.toNat 126)&& !t.contains 32)=t.all λc=>Nat.ble 33 c.toNat&&Nat.ble c.toNat 126:=by
  rw[Bool.eq_iff_iff]
  simp only[Bool.and_eq_true,List.all_eq_true,Nat.ble_eq,Bool.not_eq_true',List.contains_eq_mem,decide_eq_false_iff_not]
  constructor
  ·rintro⟨h,hn⟩ c hc
   have h4:=h c hc
   refine⟨?_,h4.2⟩
   have:c.toNat≠32:=λe=>hn (by rw[show(32:UInt8)=c from(UInt8.toNat_inj.1 e).symm];exact hc)
   omega
  ·intro h
   exact⟨λc hc=>⟨by have:=(h c hc).1;omega,(h c hc).2⟩,λhm=>by have:=(h 32 hm).1;revert this;decide⟩
 rw[h1,h2,h3,Bool.and_assoc]
def NF (z0:Int) (bl:List (List Int)):Prop:=∃i:Nat,bl=[[(i:Int)]]/\i<=(ab z0).length/\((ab z0).take i).all (λc=>Nat.ble 33 c.toNat&&Nat.ble c.toNat 126)=true
theorem Wu:Gx SB (bZ SB [.bool] 420):=by
 intro z0 a0 a1
 have bc:∀b:Bool,cf (ab z0)=b->bZ SB [.bool] 420 [[z0]] [[aT b]]:=λb h=>lA (by show aT b=aT (cf (ab z0));rw[h])
 have ef:∀i,i<(ab z0).length->(((ab z0).getD i 0).toNat<33∨126<((ab z0).getD i 0).toNat)->bZ SB [.bool] 420 [[z0]] [[cond false 1 0]]:=λi hi h=>bc false (by
  cases hp:cf (ab z0)with
  |false=>rfl
  |true=>
   rw[L9]at hp
   simp only[Bool.and_eq_true,List.all_eq_true,Nat.ble_eq]at hp
   have:=hp.2 _ (Lu hi)
   omega)
 refine⟨NF z0,GN z0,⟨0,rfl,Nat.zero_le _,rfl⟩,?_⟩
 rintro z2 d0 d1 ⟨i,e,hi,hI⟩ z3 _ _ h3
 obtain rfl:z2=i:=by simpa using e
 have h3:z3=((ab z0).length:Int):=h3
 refine⟨λhlt=>?_,λcu z4 _ _ h4=>?_⟩
 ·have hlt:=of_decide_eq_true hlt
  have bM:i<(ab z0).length:=by omega
  have hg:∀z:Int,z=aa 1 [z0,(i:Int)]->z=(((ab z0).getD i 0).toNat:Int):=λz h=>by
   rw[h];simp only[aa,Int.toNat_natCast]
  refine⟨⟨by omega,by omega⟩,λz4 _ _ h4=>⟨λhc=>ef i bM (.inl ?_),λhc=>⟨⟨by omega,by omega⟩,λz5 _ _ h5=>⟨λhd=>ef i bM (.inr ?_),λhd ai x0 x1 cT dk=>?_⟩⟩⟩⟩
  ·have:=hg z4 h4;have:=of_decide_eq_true hc;omega
  ·have:=hg z5 h5;have:=of_decide_eq_true hd;omega
  ·have en:=hg z4 h4;have mq:=hg z5 h5
   have hc:=of_decide_eq_false hc;have hd:=of_decide_eq_false hd
   refine⟨⟨by omega,by omega⟩,⟨i+1,by rw[show((i:Int)+(-18446744073709551616)*ai)+1=((i+1:Nat):Int) by omega],by omega,?_⟩,?_⟩
   ·rw[Fw _ _ bM,List.all_append,hI]
    simp only[List.all_cons,List.all_nil,Bool.and_true,Bool.true_and,Bool.and_eq_true,Nat.ble_eq]
    omega
   ·show(ab z0).length-(((i:Int)+(-18446744073709551616)*ai)+1).toNat<(ab z0).length-((i:Int)).toNat;omega
 ·have:=of_decide_eq_false cu
  rw[List.take_of_length_le (by omega)]at hI
  have h4:z4=((ab z0).length:Int):=h4
  have cA:cf (ab z0)=(decide (1<=(ab z0).length)&&decide ((ab z0).length<=64)):=by rw[L9,hI,Bool.and_true]
  refine⟨λh1 z5 _ _ h5=>bc _ ?_,λh1=>bc false ?_⟩
  ·have h5:z5=((ab z0).length:Int):=h5
   rw[cA,decide_eq_true (by have:=of_decide_eq_true h1;omega),Bool.true_and,Bool.eq_iff_iff]
   simp only[decide_eq_true_eq];omega
  ·rw[cA,decide_eq_false (by have:=of_decide_eq_false h1;omega)];rfl
end Go.bG
namespace Go.bG
open Go Go.bo
def FY (S:Nat->List (List Int)->List (List Int)->Prop) (K:List (List Int)->List (List Int)->Prop):Prop:=
 ∀z0:Int,0<=z0->z0<=aC->
 ∀af:Int,0<=af->af<=1->af=aa 4 [33,z0]->
 (((decide (af=1))=true->
  K [[z0]] [[(cond (true) 1 0)]]
 )/\((decide (af=1))=false->
  ∀z2:Int,(-1)<=z2->z2<=9223372036854775807->S 73 [[z0],[32]] [[z2]]->
  K [[z0]] [[(cond (decide (0<=z2)) 1 0)]]
 ))
def Gi (S:Nat->List (List Int)->List (List Int)->Prop) (K:List (List Int)->List (List Int)->Prop):Prop:=
 ∀z0:Int,0<=z0->z0<=aC->
 ∀af:Int,0<=af->af<=1->af=aa 4 [z0,0]->
 ((((!(decide (af=1))))=true->
  ∀z2:Int,0<=z2->z2<=9223372036854775807->z2=aa 0 [z0]->
  (((decide (z2<=64))=true->
   ∀z3:Int,0<=z3->z3<=1->S 400 [[z0]] [[z3]]->
   (((decide (z3=1))=true->
    ∀z4:Int,0<=z4->z4<=1->S 501 [[z0]] [[z4]]->
    K [[z0]] [[(cond ((!(decide (z4=1)))) 1 0)]]
   )/\((decide (z3=1))=false->
    K [[z0]] [[(cond (false) 1 0)]]
   ))
  )/\((decide (z2<=64))=false->
   K [[z0]] [[(cond (false) 1 0)]]
  ))
 )/\(((!(decide (af=1))))=false->
  K [[z0]] [[(cond (false) 1 0)]]
 ))
def F3 (S:Nat->List (List Int)->List (List Int)->Prop) (K:List (List Int)->List (List Int)->Prop):Prop:=
 ∀z0:Int,0<=z0->z0<=au->
 ∀af:Int,0<=af->
 ∀z2:Int,(-2)<=z2->z2<=9223372036854775807->
 ∀z3:Int,0<=z3->z3<=9223372036854775807->z3=aa 20 [z0]->
 ∃(eE:List (List Int)->Prop) (eb:List (List Int)->Nat),eE [[z3],[0]]/\(∀z5:Int,0<=z5->z5<=9223372036854775807->∀ai:Int,0<=ai->ai<=9223372036854775807->eE [[z5],[ai]]->
  (((decide (ai<z3))=true->
   (((decide (z5<=200))=true->
    ad 30 [ai,z3]/\
    ad 21 [z0,ai]/\
    ∀aq:Int,0<=aq->aq<=bR->aq=aa 21 [z0,ai,2]->
    ∀ak:Int,0<=ak->
    ∀z9:Int,(-2)<=z9->z9<=9223372036854775807->
    ∀ao:Int,0<=ao->ao<=140737488351232->ao=aa 20 [aq]->
    ∀ax:Int,0<=ax->ax<=1->0<=((z5+ao)+9223372036854775808)-18446744073709551616*ax->((z5+ao)+9223372036854775808)-18446744073709551616*ax<18446744073709551616->
    ∀z12:Int,0<=z12->z12<=1->0<=(ai+9223372036854775809)-18446744073709551616*z12->(ai+9223372036854775809)-18446744073709551616*z12<18446744073709551616->
    ad 39 [(z5+(ao+((-18446744073709551616)*ax))),0,9223372036854775807]/\
    ad 39 [((ai+((-18446744073709551616)*z12))+1),0,9223372036854775807]/\
    (eE [[(z5+(ao+((-18446744073709551616)*ax)))],[((ai+((-18446744073709551616)*z12))+1)]]/\eb [[(z5+(ao+((-18446744073709551616)*ax)))],[((ai+((-18446744073709551616)*z12))+1)]]<eb [[z5],[ai]])
   )/\((decide (z5<=200))=false->
    K [[z0]] [[(cond (true) 1 0)]]
   ))
  )/\((decide (ai<z3))=false->
   K [[z0]] [[(cond (decide (200<z5)) 1 0)]]
  ))
 )
def FW (S:Nat->List (List Int)->List (List Int)->Prop) (K:List (List Int)->List (List Int)->Prop):Prop:=
 ∀z0:Int,0<=z0->z0<=au->
 ∀af:Int,0<=af->
 ∀z2:Int,(-2)<=z2->z2<=9223372036854775807->
 ∀z3:Int,0<=z3->z3<=9223372036854775807->z3=aa 20 [z0]->
 ∃(eE:List (List Int)->Prop) (eb:List (List Int)->Nat),eE [[0]]/\(∀z5:Int,0<=z5->z5<=9223372036854775807->eE [[z5]]->
  (((decide (z5<z3))=true->
   ad 30 [z5,z3]/\
   ad 21 [z0,z5]/\
   ∀ai:Int,0<=ai->ai<=aC->ai=aa 21 [z0,z5,0]->
   ∀aq:Int,0<=aq->aq<=1->S 502 [[ai]] [[aq]]->
   ((((!(decide (aq=1))))=true->
    K [[z0]] [[(cond (false) 1 0)]]
   )/\(((!(decide (aq=1))))=false->
    (((decide (0<z5))=true->
     ad 30 [(z5+(-1)),z3]/\
     ad 21 [z0,(z5+(-1))]/\
     ∀ak:Int,0<=ak->ak<=aC->ak=aa 21 [z0,(z5+(-1)),0]->
     ∀z9:Int,0<=z9->z9<=1->z9=aa 5 [ak,ai]->
     ((((!(decide (z9=1))))=true->
      K [[z0]] [[(cond (false) 1 0)]]
     )/\(((!(decide (z9=1))))=false->
      ∀ao:Int,0<=ao->ao<=1->0<=(z5+9223372036854775809)-18446744073709551616*ao->(z5+9223372036854775809)-18446744073709551616*ao<18446744073709551616->
      ad 39 [((z5+((-18446744073709551616)*ao))+1),0,9223372036854775807]/\
      (eE [[((z5+((-18446744073709551616)*ao))+1)]]/\eb [[((z5+((-18446744073709551616)*ao))+1)]]<eb [[z5]])
     ))
    )/\((decide (0<z5))=false->
     (eE [[1]]/\eb [[1]]<eb [[z5]])
    ))
   ))
  )/\((decide (z5<z3))=false->
   K [[z0]] [[(cond (true) 1 0)]]
  ))
 )
theorem VT:FY SB (bZ SB [.bool] 501):=by
 intro z0 a0 a1 af b0 b1 hz1
 simp only[aa]at hz1
 refine⟨λh=>⟨⟨by decide,by decide,trivial⟩,?_⟩,λh z2 bY c1 h2=>⟨⟨(h9 _).1,(h9 _).2,trivial⟩,?_⟩⟩
 ·have:ab z0=[32]:=by
   have e:ab 33=[32]:=by decide
   rw[e]at hz1
   by_cases h':[32]=ab z0
   ·exact h'.symm
   ·rw[if_neg h']at hz1;subst hz1;simp at h
  show(1:Int)=aT ((ab z0).contains 32)
  rw[this];rfl
 ·have h2:z2=idx 32 (ab z0):=h2
  show(cond (decide (0<=z2)) 1 0:Int)=aT ((ab z0).contains 32)
  rw[h2,J1 (by decide) (by decide)];rfl
theorem Wg:Gi SB (bZ SB [.bool] 502):=by
 intro z0 a0 a1 af _ _ h1
 have h1:=lM h1
 have tN:ab (0:Int)=[]:=by decide
 rw[tN]at h1
 have bc:∀b:Bool,cf (ab z0)=b->bZ SB [.bool] 502 [[z0]] [[aT b]]:=λb h=>lA (by show aT b=aT (cf (ab z0));rw[h])
 refine⟨λhn z2 _ _ h2=>?_,λhn=>bc false ?_⟩
 rotate_left
 ·have:=dM hn
  rw[h1]at this
  rw[of_decide_eq_true this];rfl
 have hne:(ab z0).isEmpty=false:=by
  have:=eF hn
  rw[h1]at this
  have:=of_decide_eq_false this
  cases h:ab z0 with
  |nil=>exact absurd h this
  |cons _ _=>rfl
 have h2:z2=((ab z0).length:Int):=h2
 have cA:cf (ab z0)=(Nat.ble (ab z0).length 64&&(nG (ab z0)&& !(ab z0).contains 32)):=by unfold cf;rw[hne];rfl
 refine⟨λvK z3 _ _ h3=>?_,λvK=>bc false ?_⟩
 rotate_left
 ·have:=of_decide_eq_false vK
  rw[cA,show Nat.ble (ab z0).length 64=false from by
   cases h:Nat.ble (ab z0).length 64 with
   |false=>rfl
   |true=>have:=Nat.le_of_ble_eq_true h;omega];rfl
 have hb:Nat.ble (ab z0).length 64=true:=Nat.ble_eq_true_of_le (by have:=of_decide_eq_true vK;omega)
 rw[hb,Bool.true_and]at cA
 have h3:z3=aT (nG (ab z0)):=h3
 have I8:=ek h3
 refine⟨λhp z4 _ _ h4=>?_,λhp=>bc false (by rw[cA,<-I8,hp];rfl)⟩
 have h4:z4=aT ((ab z0).contains 32):=h4
 have QO:=ek h4
 have:=bc (!decide (z4=1)) (by rw[cA,<-I8,hp,QO];rfl)
 exact this
theorem fD (z:Int):(aB z).length=(ae z).length:=by simp[aB]
theorem ks {z:Int} {i:Nat} (h:i<(ae z).length):(aB z).getD i cg=gT ((ae z).getD i []):=by simp[aB,List.getD,h]
theorem fi (z:Int):(aH z).length=(ae z).length:=by simp[aH]
theorem jF {z:Int} {i:Nat} (h:i<(ae z).length):(aH z).getD i []=ab (((ae z).getD i []).getD 0 0):=by simp[aH,List.getD,h]
def nE (l:List du) (i:Nat):Nat:=l.length+((l.take i).map λu=>u.bh.length).sum
theorem Ll {l:List du} {i:Nat} (h:i<l.length):nE l (i+1)=nE l i+(l.getD i cg).bh.length:=by
 unfold nE
 rw[List.take_add_one]
 simp only[List.getElem?_eq_getElem h,Option.toList_some,List.map_append,List.map_cons,List.map_nil,List.sum_append,List.sum_cons,List.sum_nil,List.getD,Option.getD_some]
 omega
theorem Lk (l:List du):nE l l.length=qk l:=by unfold nE qk;rw[List.take_length]
theorem Wv {l:List du} {i j:Nat} (h:i<=j) (hj:j<=l.length):nE l i<=nE l j:=by
 obtain⟨k,rfl⟩:=Nat.exists_eq_add_of_le h
 clear h
 induction k with
 |zero=>exact Nat.le_refl _
 |succ k ih=>
  have:=ih (by omega)
  rw[<-Nat.add_assoc,Ll (by omega)];omega
def Nb (z0:Int) (bl:List (List Int)):Prop:=∃i n:Nat,bl=[[(n:Int)],[(i:Int)]]/\i<=(ae z0).length/\n=nE (aB z0) i
def Nc (z0:Int) (bl:List (List Int)):Nat:=(ae z0).length-((bl.getD 1 []).getD 0 0).toNat
theorem VY:F3 SB (cz SB [.d .bool] 500):=by
 intro z0 a0 a1 af _ z2 _ _ z3 _ c1 h3
 have h3:z3=((ae z0).length:Int):=h3
 have bc:∀b:Bool,decide (200<qk (aB z0))=b->cz SB [.d .bool] 500 [[z0]] [[aT b]]:=λb h=>⟨⟨(h9 _).1,(h9 _).2,trivial⟩,by show aT b=aT (decide (200<qk (aB z0)));rw[h]⟩
 have hl:=fD z0
 refine⟨Nb z0,Nc z0,⟨0,(ae z0).length,by rw[h3];rfl,Nat.zero_le _,by simp[nE,hl]⟩,?_⟩
 rintro z5 d0 d1 ai cA e1 ⟨i,n,e,hi,hn⟩
 obtain⟨rfl,rfl⟩:z5=n/\ai=i:=by simpa using e
 refine⟨λhlt=>⟨λh2=>?_,λh2=>?_⟩,λcu=>?_⟩
 ·have hlt:=of_decide_eq_true hlt
  have h2:=of_decide_eq_true h2
  have bM:i<(ae z0).length:=by omega
  refine⟨⟨by omega,by omega⟩,⟨by omega,by omega⟩,λaq _ _ h7 ak _ z9 _ _ ao f0 f1 dp ax x0 x1 cT dk z12 de cZ Zw MT=>?_⟩
  have h7:aq=((ae z0).getD i []).getD 2 0:=by rw[h7];simp only[aa,Int.toNat_natCast];rfl
  have dp:ao=(((aB z0).getD i cg).bh.length:Int):=by
   rw[ks bM,dp]
   show((ae aq).length:Int)=_
   rw[h7]
   show _=((aH (((ae z0).getD i []).getD 2 0)).length:Int)
   rw[fi]
  have hs:=Ll (l:=aB z0) (i:=i) (by omega)
  have Zx:ax=0:=by omega
  have Zy:z12=0:=by omega
  subst Zx;subst Zy
  refine⟨⟨by omega,by omega⟩,⟨by omega,by omega⟩,⟨i+1,nE (aB z0) (i+1),?_,by omega,rfl⟩,?_⟩
  ·rw[hs,<-hn,dp,show(n:Int)+((((aB z0).getD i cg).bh.length:Int)+(-18446744073709551616)*0)=((n+((aB z0).getD i cg).bh.length:Nat):Int) by omega,show(i:Int)+(-18446744073709551616)*0+1=((i+1:Nat):Int) by omega]
  ·show(ae z0).length-((i:Int)+(-18446744073709551616)*0+1).toNat<(ae z0).length-((i:Int)).toNat;omega
 ·have h2:=of_decide_eq_false h2
  refine bc true (decide_eq_true ?_)
  have:=Wv (l:=aB z0) (i:=i) (j:=(aB z0).length) (by omega) (Nat.le_refl _)
  rw[Lk]at this
  omega
 ·have cu:=of_decide_eq_false cu
  have Q9:i=(aB z0).length:=by omega
  refine bc (decide (200<(n:Int))) ?_
  rw[hn,Q9,Lk]
  rw[decide_eq_decide];omega
def A4 (z0:Int) (bl:List (List Int)):Prop:=∃i:Nat,bl=[[(i:Int)]]/\i<=(ae z0).length/\∀j:Nat,j<i->(cf ((aH z0).getD j [])&&(decide (j=0)||Op.bytesLess ((aH z0).getD (j-1) []) ((aH z0).getD j [])))=true
def kY (z0:Int) (bl:List (List Int)):Nat:=(ae z0).length-((bl.getD 0 []).getD 0 0).toNat
theorem VR:FW SB (cz SB [.d .bool] 503):=by
 intro z0 a0 a1 af _ z2 _ _ z3 _ c1 h3
 have h3:z3=((ae z0).length:Int):=h3
 have bc:∀b:Bool,eo (aH z0)=b->cz SB [.d .bool] 503 [[z0]] [[aT b]]:=λb h=>⟨⟨(h9 _).1,(h9 _).2,trivial⟩,by show aT b=aT (eo (aH z0));rw[h]⟩
 have hl:=fi z0
 have ef:∀i:Nat,i<(ae z0).length->(cf ((aH z0).getD i [])&&(decide (i=0)||Op.bytesLess ((aH z0).getD (i-1) []) ((aH z0).getD i [])))=false->cz SB [.d .bool] 503 [[z0]] [[aT false]]:=λi hi h=>bc false (by
  cases hp:eo (aH z0)with
  |false=>rfl
  |true=>
   have:=List.all_eq_true.1 hp i (List.mem_range.2 (by omega))
   rw[this]at h;cases h)
 refine⟨A4 z0,kY z0,⟨0,rfl,Nat.zero_le _,λj hj=>absurd hj (Nat.not_lt_zero j)⟩,?_⟩
 rintro z5 d0 d1 ⟨i,e,hi,hI⟩
 obtain rfl:z5=i:=by simpa using e
 refine⟨λhlt=>?_,λcu=>bc true ?_⟩
 ·have hlt:=of_decide_eq_true hlt
  have bM:i<(ae z0).length:=by omega
  refine⟨⟨by omega,by omega⟩,⟨by omega,by omega⟩,λai _ _ h6 aq _ _ h7=>?_⟩
  have h6:ab ai=(aH z0).getD i []:=by rw[jF bM,h6];simp only[aa,Int.toNat_natCast];rfl
  have h7:aq=aT (cf (ab ai)):=h7
  have rr:=ek h7
  rw[h6]at rr
  refine⟨λhn=>ef i bM (by rw[<-rr,eF hn];rfl),λhn=>⟨λhp=>?_,λhp=>?_⟩⟩
  ·have hp:=of_decide_eq_true hp
   refine⟨⟨by omega,by omega⟩,⟨by omega,by omega⟩,λak _ _ bC z9 _ _ bm=>?_⟩
   have bC:ab ak=(aH z0).getD (i-1) []:=by
    rw[jF (by omega),bC]
    simp only[aa]
    rw[show((i:Int)+(-1)).toNat=i-1 by omega];rfl
   have bm:decide (z9=1)=Op.bytesLess ((aH z0).getD (i-1) []) ((aH z0).getD i []):=by
    rw[bm]
    simp only[aa,bC,h6]
    cases Op.bytesLess ((aH z0).getD (i-1) []) ((aH z0).getD i [])<;>rfl
   have e6:decide (i=0)=false:=decide_eq_false (by omega)
   refine⟨λhq=>ef i bM (by rw[<-bm,eF hq,e6,Bool.or_false,Bool.and_false]),λhq ao x0 x1 cT dk=>⟨⟨by omega,by omega⟩,⟨i+1,by rw[show(i:Int)+(-18446744073709551616)*ao+1=((i+1:Nat):Int) by omega],by omega,λj hj=>?_⟩,?_⟩⟩
   ·rcases Nat.lt_or_ge j i with h|h
    ·exact hI j h
    ·obtain rfl:j=i:=by omega
     rw[<-rr,dM hn,<-bm,dM hq,Bool.or_true];rfl
   ·show(ae z0).length-((i:Int)+(-18446744073709551616)*ao+1).toNat<(ae z0).length-((i:Int)).toNat;omega
  ·have hp:=of_decide_eq_false hp
   obtain rfl:i=0:=by omega
   refine⟨⟨1,rfl,by omega,λj hj=>?_⟩,?_⟩
   ·obtain rfl:j=0:=by omega
    rw[<-rr,dM hn];rfl
   ·show(ae z0).length-(1:Int).toNat<(ae z0).length-((0:Nat):Int).toNat;omega
 ·have:=of_decide_eq_false cu
  unfold eo
  rw[List.all_eq_true]
  intro j hj
  exact hI j (by have:=List.mem_range.1 hj;omega)
end Go.bG
namespace Go.bG
open Go Go.bo
def FR (S:Nat->List (List Int)->List (List Int)->Prop) (K:List (List Int)->List (List Int)->Prop):Prop:=
 ∀z0:Int,0<=z0->z0<=au->
 ∀af:Int,0<=af->
 ∀z2:Int,(-2)<=z2->z2<=9223372036854775807->
 ∀z3:Int,0<=z3->z3<=9223372036854775807->z3=aa 20 [z0]->
 (((decide (16<z3))=true->
  K [[z0]] [[(cond (false) 1 0)]]
 )/\((decide (16<z3))=false->
  ∃(eE:List (List Int)->Prop) (eb:List (List Int)->Nat),eE [[0],[0],[0],[(-1)]]/\(∀z5:Int,0<=z5->z5<=9223372036854775807->∀ai:Int,0<=ai->ai<=au->∀aq:Int,0<=aq->aq<=9223372036854775807->∀ak:Int,(-2)<=ak->ak<=9223372036854775807->eE [[z5],[ai],[aq],[ak]]->
   (((decide (z5<z3))=true->
    ad 30 [z5,z3]/\
    ad 21 [z0,z5]/\
    ∀z9:Int,0<=z9->z9<=aC->z9=aa 21 [z0,z5,0]->
    ∀ao:Int,0<=ao->ao<=aC->ao=aa 21 [z0,z5,1]->
    ∀ax:Int,0<=ax->ax<=bR->ax=aa 21 [z0,z5,2]->
    ∀z12:Int,0<=z12->
    ∀aj:Int,(-2)<=aj->aj<=9223372036854775807->
    ∀aw:Int,0<=aw->aw<=140737488351232->aw=aa 20 [ax]->
    ∀aE:Int,0<=aE->aE<=1->S 200 [[ao]] [[aE]]->
    ((((!(decide (aE=1))))=true->
     K [[z0]] [[(cond (false) 1 0)]]
    )/\(((!(decide (aE=1))))=false->
     (((decide (4<aw))=true->
      K [[z0]] [[(cond (false) 1 0)]]
     )/\((decide (4<aw))=false->
      ad 22 [ax,0,aw]/\
      ∀aA:Int,0<=aA->aA<=au->aA=aa 22 [ax,0,aw]->
      ∀aF:Int,0<=aF->aF<=1->S 503 [[aA]] [[aF]]->
      ((((!(decide (aF=1))))=true->
       K [[z0]] [[(cond (false) 1 0)]]
      )/\(((!(decide (aF=1))))=false->
       ad 31 [ai,aq]/\
       ad 23 [ai,1]/\
       ∀aK:Int,0<=aK->aK<=au->aK=aa 23 [ai,z9]->
       ∀aN:Int,(-2)<=aN->aN<=9223372036854775807->
       ∀z20:Int,0<=z20->z20<=1->0<=(z5+9223372036854775809)-18446744073709551616*z20->(z5+9223372036854775809)-18446744073709551616*z20<18446744073709551616->
       ad 39 [((z5+((-18446744073709551616)*z20))+1),0,9223372036854775807]/\
       (eE [[((z5+((-18446744073709551616)*z20))+1)],[aK],[(aq+1)],[aN]]/\eb [[((z5+((-18446744073709551616)*z20))+1)],[aK],[(aq+1)],[aN]]<eb [[z5],[ai],[aq],[ak]])
      ))
     ))
    ))
   )/\((decide (z5<z3))=false->
    ad 22 [ai,0,aq]/\
    ∀z9:Int,0<=z9->z9<=au->z9=aa 22 [ai,0,aq]->
    ∀ao:Int,0<=ao->ao<=1->S 503 [[z9]] [[ao]]->
    K [[z0]] [[(cond (decide (ao=1)) 1 0)]]
   ))
  )
 ))
theorem whole {z y n:Int} (hn:n=((ae z).length:Int)) (h:y=aa 22 [z,0,n]):ae y=ae z:=by
 rw[h]
 simp only[aa,dO,hn]
 rw[show((0:Int)).toNat=0 by rfl,List.drop_zero,List.take_of_length_le (by omega)]
def p8 (u:du):Bool:=gn u.dV&&(Nat.ble u.bh.length 4&&eo u.bh)
def M5 (z0:Int) (bl:List (List Int)):Prop:=∃(i:Nat) (c k:Int),bl=[[(i:Int)],[c],[(i:Int)],[k]]/\i<=(ae z0).length/\aH c=((aB z0).take i).map (·.tok)/\∀j:Nat,j<i->p8 ((aB z0).getD j cg)=true
def M6 (z0:Int) (bl:List (List Int)):Nat:=(ae z0).length-((bl.getD 0 []).getD 0 0).toNat
theorem VN:FR SB (cz SB [.d .bool] 504):=by
 intro z0 a0 a1 af _ z2 _ _ z3 _ c1 h3
 have h3:z3=((ae z0).length:Int):=h3
 have hl:=fD z0
 have bc:∀b:Bool,c4 (aB z0)=b->cz SB [.d .bool] 504 [[z0]] [[aT b]]:=λb h=>⟨⟨(h9 _).1,(h9 _).2,trivial⟩,by show aT b=aT (c4 (aB z0));rw[h]⟩
 refine⟨λeP=>bc false ?_,λeP=>⟨M5 z0,M6 z0,⟨0,0,-1,rfl,Nat.zero_le _,by simp[aH,dW],λj hj=>absurd hj (Nat.not_lt_zero j)⟩,?_⟩⟩
 ·have:=of_decide_eq_true eP
  unfold c4
  rw[show Nat.ble (aB z0).length 16=false from by
   cases h:Nat.ble (aB z0).length 16 with
   |false=>rfl
   |true=>have:=Nat.le_of_ble_eq_true h;omega];rfl
 have eP:=of_decide_eq_false eP
 have vS:Nat.ble (aB z0).length 16=true:=Nat.ble_eq_true_of_le (by omega)
 have ef:∀i:Nat,i<(ae z0).length->p8 ((aB z0).getD i cg)=false->cz SB [.d .bool] 504 [[z0]] [[aT false]]:=λi hi h=>bc false (by
  unfold c4
  rw[vS,Bool.true_and]
  cases hp:(aB z0).all (λu=>gn u.dV&&(Nat.ble u.bh.length 4&&eo u.bh))with
  |false=>rfl
  |true=>
   have:=List.all_eq_true.1 hp ((aB z0).getD i cg) (by
    have:i<(aB z0).length:=by omega
    simp[List.getD,this])
   unfold p8 at h
   rw[this]at h;cases h)
 rintro z5 d0 d1 ai cA e1 aq f0 f1 ak g0 g1 ⟨i,c,k,e,hi,ht,bb⟩
 obtain⟨rfl,rfl,rfl,rfl⟩:z5=i/\ai=c/\aq=i/\ak=k:=by simpa using e
 have di:(ae ai).length=i:=by
  have:=congrArg List.length ht
  rw[fi,List.length_map,List.length_take]at this
  omega
 refine⟨λhlt=>?_,λcu=>?_⟩
 ·have hlt:=of_decide_eq_true hlt
  have bM:i<(ae z0).length:=by omega
  refine⟨⟨by omega,by omega⟩,⟨by omega,by omega⟩,λz9 _ _ bm ao _ _ dp ax _ _ cx z12 _ aj _ _ aw _ _ ct aE _ _ c6=>?_⟩
  generalize hu:(aB z0).getD i cg=u at*
  have oz:=hu
  rw[ks bM]at oz
  have bm:ab z9=u.tok:=by rw[bm,<-oz];simp only[aa,Int.toNat_natCast];rfl
  have dp:ab ao=u.dV:=by rw[dp,<-oz];simp only[aa,Int.toNat_natCast];rfl
  have cx:aH ax=u.bh:=by rw[cx,<-oz];simp only[aa,Int.toNat_natCast];rfl
  have ct:aw=((ae ax).length:Int):=ct
  have Z1:(ae ax).length=u.bh.length:=by rw[<-cx,fi]
  have c6:aE=aT (gn (ab ao)):=c6
  have CF:=ek c6
  rw[dp]at CF
  have ef:=ef i bM
  rw[hu]at ef
  refine⟨λhn=>ef (by unfold p8;rw[<-CF,eF hn];rfl),λhn=>⟨λh4=>ef ?_,λh4=>⟨⟨by omega,by omega,by omega⟩,λaA _ _ Px aF _ _ fy=>?_⟩⟩⟩
  ·have h4:=of_decide_eq_true h4
   unfold p8
   rw[show Nat.ble u.bh.length 4=false from by
    cases h:Nat.ble u.bh.length 4 with
    |false=>rfl
    |true=>have:=Nat.le_of_ble_eq_true h;omega,Bool.false_and,Bool.and_false]
  ·have h4:=of_decide_eq_false h4
   have Qv:Nat.ble u.bh.length 4=true:=Nat.ble_eq_true_of_le (by omega)
   have hw:=whole ct Px
   have Sa:aH aA=u.bh:=by rw[<-cx];unfold aH;rw[hw]
   have fy:aF=aT (eo (aH aA)):=fy
   have CG:=ek fy
   rw[Sa]at CG
   refine⟨λhq=>ef (by unfold p8;rw[<-CG,eF hq,Bool.and_false,Bool.and_false]),λhq=>⟨?_,?_,λaK _ _ gG aN _ _ z20 x0 x1 cT dk=>⟨⟨by omega,by omega⟩,⟨i+1,aK,aN,?_,by omega,?_,λj hj=>?_⟩,?_⟩⟩⟩
   ·show(i:Int)=((ae ai).length:Int);omega
   ·show(ae ai).length+(1:Int)<=1073741824;omega
   ·rw[show(i:Int)+(-18446744073709551616)*z20+1=((i+1:Nat):Int) by omega,show(i:Int)+1=((i+1:Nat):Int) by omega]
   ·have:ae aK=ae ai++[[z9]]:=by rw[gG];simp only[aa,dO]
    have e1:aH aK=aH ai++[ab z9]:=by unfold aH;rw[this];simp
    have y5:i<(aB z0).length:=by omega
    rw[e1,ht,bm,List.take_add_one,List.map_append]
    have:(aB z0)[i]?=some u:=by
     rw[<-hu];simp[List.getD,y5]
    rw[this];rfl
   ·rcases Nat.lt_or_ge j i with h|h
    ·exact bb j h
    ·obtain rfl:j=i:=by omega
     rw[hu]
     unfold p8
     rw[<-CF,dM hn,Qv,<-CG,dM hq];rfl
   ·show(ae z0).length-((i:Int)+(-18446744073709551616)*z20+1).toNat<(ae z0).length-((i:Int)).toNat;omega
 ·have cu:=of_decide_eq_false cu
  obtain rfl:i=(ae z0).length:=by omega
  refine⟨⟨by omega,by omega,by omega⟩,λz9 _ _ bm ao _ _ dp=>?_⟩
  have hw:=whole (by rw[di]) bm
  have dp:ao=aT (eo (aH z9)):=dp
  have pA:=ek dp
  have Sd:aH z9=(aB z0).map (·.tok):=by
   rw[show aH z9=aH ai by unfold aH;rw[hw],ht,List.take_of_length_le (by omega)]
  rw[Sd]at pA
  refine bc (decide (ao=1)) ?_
  rw[pA]
  unfold c4
  rw[vS,Bool.true_and,List.all_eq_true.2 λu hu=>?_,Bool.true_and]
  obtain⟨j,hj,rfl⟩:=List.getElem_of_mem hu
  have:=bb j (by omega)
  unfold p8 at this
  simpa [List.getD,hj]using this
end Go.bG
namespace Go.bG
open Go Go.bo
theorem zw (a b:UInt8) (x y:aI):Op.bytesLess (a::x) (b::y)=true↔a.toNat<b.toNat∨(a=b/\Op.bytesLess x y=true):=by
 simp only[Op.bytesLess,Bool.or_eq_true,Bool.and_eq_true,beq_iff_eq,decide_eq_true_eq,UInt8.lt_iff_toNat_lt]
theorem D2 (x:aI):Op.bytesLess x []=false:=by cases x<;>rfl
theorem Kw:∀x y:aI,Op.bytesLess x y=true->Op.bytesLess y x=true->False
 |x,[],h,_=>by rw[D2]at h;cases h
 |[],_::_,_,h=>by cases h
 |a::x,b::y,h,h'=>by
  rw[zw]at h h'
  rcases h with h|⟨rfl,h⟩
  ·rcases h' with h'|⟨e,_⟩
   ·omega
   ·rw[e]at h;omega
  ·rcases h' with h'|⟨_,h'⟩
   ·omega
   ·exact Kw x y h h'
theorem D3:∀x y:aI,Op.bytesLess x y=true∨Op.bytesLess y x=true∨x=y
 |[],[]=> .inr (.inr rfl)
 |[],_::_=> .inl rfl
 |_::_,[]=> .inr (.inl rfl)
 |a::x,b::y=>by
  rw[zw,zw]
  rcases Nat.lt_trichotomy a.toNat b.toNat with h|h|h
  ·exact .inl (.inl h)
  ·have e:a=b:=UInt8.toNat_inj.1 h
   subst e
   rcases D3 x y with h|h|h
   ·exact .inl (.inr ⟨rfl,h⟩)
   ·exact .inr (.inl (.inr ⟨rfl,h⟩))
   ·exact .inr (.inr (by rw[h]))
  ·exact .inr (.inl (.inl h))
theorem r8:∀x y z:aI,Op.bytesLess x y=true->Op.bytesLess y z=true->Op.bytesLess x z=true
 |_,[],_,h,_=>by rw[D2]at h;cases h
 |_,_::_,[],_,h=>by rw[D2]at h;cases h
 |[],_::_,_::_,_,_=>rfl
 |a::x,b::y,c::z,h,h'=>by
  rw[zw]at h h'⊢
  rcases h with h|⟨rfl,h⟩
  ·rcases h' with h'|⟨rfl,_⟩
   ·exact .inl (by omega)
   ·exact .inl h
  ·rcases h' with h'|⟨rfl,h'⟩
   ·exact .inl h'
   ·exact .inr ⟨rfl,r8 x y z h h'⟩
def FV (S:Nat->List (List Int)->List (List Int)->Prop) (K:List (List Int)->List (List Int)->Prop):Prop:=
 ∀z0:Int,0<=z0->z0<=au->∀af:Int,0<=af->af<=aC->
 ∀z2:Int,0<=z2->
 ∀z3:Int,(-2)<=z3->z3<=9223372036854775807->
 ∀z4:Int,0<=z4->z4<=9223372036854775807->z4=aa 20 [z0]->
 ∃(dC:List (List Int)->Prop) (eu:List (List Int)->Nat),dC [[0],[z4]]/\(∀ai:Int,0<=ai->ai<=9223372036854775807->∀aq:Int,0<=aq->aq<=9223372036854775807->dC [[ai],[aq]]->
  (((decide (ai<aq))=true->
   ∀ak:Int,0<=ak->ak<=1->0<=((ai+aq)+9223372036854775808)-18446744073709551616*ak->((ai+aq)+9223372036854775808)-18446744073709551616*ak<18446744073709551616->
   ∀z9:Int,(-1)<=z9->z9<=0->0<=(ai+(aq+((-18446744073709551616)*ak)))-18446744073709551616*z9->(ai+(aq+((-18446744073709551616)*ak)))-18446744073709551616*z9<18446744073709551616->
   ∀ao:Int,0<=ao->ao<=9223372036854775807->0<=(ai+(aq+(((-18446744073709551616)*ak)+((-18446744073709551616)*z9))))-2*ao->(ai+(aq+(((-18446744073709551616)*ak)+((-18446744073709551616)*z9))))-2*ao<2->
   ad 30 [ao,z4]/\
   ad 21 [z0,ao]/\
   ∀ax:Int,0<=ax->ax<=aC->ax=aa 21 [z0,ao,0]->
   ∀z12:Int,0<=z12->z12<=aC->z12=aa 21 [z0,ao,1]->
   ∀aj:Int,0<=aj->aj<=bR->aj=aa 21 [z0,ao,2]->
   ∀aw:Int,0<=aw->
   ∀aE:Int,(-2)<=aE->aE<=9223372036854775807->
   ∀aA:Int,0<=aA->aA<=140737488351232->aA=aa 20 [aj]->
   ∀aF:Int,(-1)<=aF->aF<=1->S 510 [[ax],[af]] [[aF]]->
   (((decide (aF<0))=true->
    ∀aK:Int,0<=aK->aK<=1->0<=(ao+9223372036854775809)-18446744073709551616*aK->(ao+9223372036854775809)-18446744073709551616*aK<18446744073709551616->
    ad 39 [((ao+((-18446744073709551616)*aK))+1),0,9223372036854775807]/\
    (dC [[((ao+((-18446744073709551616)*aK))+1)],[aq]]/\eu [[((ao+((-18446744073709551616)*aK))+1)],[aq]]<eu [[ai],[aq]])
   )/\((decide (aF<0))=false->
    (dC [[ai],[ao]]/\eu [[ai],[ao]]<eu [[ai],[aq]])
   ))
  )/\((decide (ai<aq))=false->
   (((decide (ai<z4))=true->
    ad 30 [ai,z4]/\
    ad 21 [z0,ai]/\
    ∀ak:Int,0<=ak->ak<=aC->ak=aa 21 [z0,ai,0]->
    ∀z9:Int,0<=z9->z9<=aC->z9=aa 21 [z0,ai,1]->
    ∀ao:Int,0<=ao->ao<=bR->ao=aa 21 [z0,ai,2]->
    ∀ax:Int,0<=ax->
    ∀z12:Int,(-2)<=z12->z12<=9223372036854775807->
    ∀aj:Int,0<=aj->aj<=140737488351232->aj=aa 20 [ao]->
    ∀aw:Int,(-1)<=aw->aw<=1->S 510 [[ak],[af]] [[aw]]->
    K [[z0],[af]] [[ai],[(cond (decide (aw=0)) 1 0)]]
   )/\((decide (ai<z4))=false->
    K [[z0],[af]] [[ai],[(cond (false) 1 0)]]
   ))
  ))
 )
theorem LL {l:List aI} (hr:eo l=true) {j k:Nat} (wi:j<k) (hk:k<l.length):Op.bytesLess (l.getD j []) (l.getD k [])=true:=by
 have step:∀i:Nat,i+1<l.length->Op.bytesLess (l.getD i []) (l.getD (i+1) [])=true:=λi hi=>by
  have:=List.all_eq_true.1 hr (i+1) (List.mem_range.2 hi)
  simp only[Bool.and_eq_true,Bool.or_eq_true,decide_eq_true_eq]at this
  rcases this.2 with h|h
  ·omega
  ·simpa using h
 obtain⟨d,rfl⟩:=Nat.exists_eq_add_of_lt wi
 clear wi
 induction d with
 |zero=>exact step j hk
 |succ d ih=>exact r8 _ _ _ (ih (by omega)) (step (j+d+1) hk)
theorem My (l:List du) (j:Nat):(l.map (·.tok)).getD j []=(l.getD j cg).tok:=by
 simp only[List.getD,List.getElem?_map]
 cases l[j]?<;>rfl
theorem EL {l:List du} (hr:eo (l.map (·.tok))=true) {j k:Nat} (wi:j<k) (hk:k<l.length):Op.bytesLess (l.getD j cg).tok (l.getD k cg).tok=true:=by
 have:=LL hr wi (by simpa using hk)
 rwa [My,My]at this
def Ns (z0:Int) (t:aI) (bl:List (List Int)):Prop:=∃lo hi:Nat,bl=[[(lo:Int)],[(hi:Int)]]/\lo<=hi/\hi<=(aB z0).length/\(eo ((aB z0).map (·.tok))=true->(∀j:Nat,j<lo->Op.bytesLess ((aB z0).getD j cg).tok t=true)/\∀j:Nat,hi<=j->j<(aB z0).length->Op.bytesLess ((aB z0).getD j cg).tok t=false)
def Nt (bl:List (List Int)):Nat:=((bl.getD 1 []).getD 0 0).toNat-((bl.getD 0 []).getD 0 0).toNat
theorem VQ:FV SB (cz SB [.d (.int .i64 0 9223372036854775807),.d .bool] 505):=by
 intro z0 a0 a1 af n0 n1 z2 _ z3 _ _ z4 b0 b1 h4
 have h4:z4=((ae z0).length:Int):=h4
 have hlen:=fD z0
 have LN:∀{z i:Int} {k:Nat},i=(k:Int)->k<(ae z0).length->z=aa 21 [z0,i,0]->ab z=((aB z0).getD k cg).tok:=λhi hk h=>by
  rw[ks hk,h,hi];rfl
 generalize ht:ab af=t
 have ln:∀{z x:Int} {k:Nat},ab x=((aB z0).getD k cg).tok->SB 510 [[x],[af]] [[z]]->z=cond (Op.bytesLess ((aB z0).getD k cg).tok t) (-1) (cond (decide (((aB z0).getD k cg).tok=t)) 0 1):=λ{z x k} hx h=>by
  have h:z=cond (Op.bytesLess (ab x) (ab af)) (-1) (cond (decide (ab x=ab af)) 0 1):=h
  rw[h,hx,ht]
 refine⟨Ns z0 t,Nt,⟨0,(ae z0).length,by rw[h4];rfl,Nat.zero_le _,by omega,λ_=>⟨λj h=>absurd h (Nat.not_lt_zero j),λj h h2=>by omega⟩⟩,?_⟩
 rintro ai bY c1 aq d0 d1 ⟨lo,hi,e,aan,Q8,hI⟩
 obtain⟨rfl,rfl⟩:ai=lo/\aq=hi:=by simpa using e
 refine⟨λhlt ak cA e1 e2 e3 z9 f0 f1 f2 f3 ao g0 g1 g2 g3=>?_,λcu=>?_⟩
 ·have hlt:=of_decide_eq_true hlt
  have aav:ak+z9=0:=by omega
  have cx:ao=(((lo+hi)/2:Nat):Int):=by omega
  generalize hk:(lo+hi)/2=k at cx
  have dS:lo<=k:=by omega
  have hk2:k<hi:=by omega
  subst cx
  have jN:k<(ae z0).length:=by omega
  have e7:k<(aB z0).length:=by omega
  refine⟨⟨by omega,by omega⟩,⟨by omega,by omega⟩,λax _ _ cx z12 _ _ _ aj _ _ _ aw _ aE _ _ aA _ _ _ aF _ _ fy=>?_⟩
  have fy:=ln (LN (k:=k) rfl jN cx) fy
  refine⟨λhn aK i0 i1 i2 i3=>⟨⟨by omega,by omega⟩,⟨k+1,hi,by rw[show((k:Int)+(-18446744073709551616)*aK)+1=((k+1:Nat):Int) by omega],by omega,Q8,λhr=>⟨λj hj=>?_,(hI hr).2⟩⟩,?_⟩,λhn=>⟨⟨lo,k,rfl,dS,by omega,λhr=>⟨(hI hr).1,λj hj hl=>?_⟩⟩,?_⟩⟩
  ·have hn:=of_decide_eq_true hn
   have hb:Op.bytesLess ((aB z0).getD k cg).tok t=true:=by
    cases hb:Op.bytesLess ((aB z0).getD k cg).tok t with
    |true=>rfl
    |false=>
     rw[hb]at fy
     cases hd:decide (((aB z0).getD k cg).tok=t)<;>rw[hd]at fy<;>simp only[cond_true,cond_false]at fy<;>omega
   rcases Nat.lt_or_ge j k with h|h
   ·exact r8 _ _ _ (EL hr h e7) hb
   ·rw[show j=k by omega];exact hb
  ·show((hi:Int)).toNat-(((k:Int)+(-18446744073709551616)*aK)+1).toNat<((hi:Int)).toNat-((lo:Int)).toNat;omega
  ·have hn:=of_decide_eq_false hn
   have hb:Op.bytesLess ((aB z0).getD k cg).tok t=false:=by
    cases hb:Op.bytesLess ((aB z0).getD k cg).tok t with
    |false=>rfl
    |true=>rw[hb]at fy;simp only[cond_true]at fy;omega
   rcases Nat.lt_or_ge k j with h|h
   ·cases kI:Op.bytesLess ((aB z0).getD j cg).tok t with
    |false=>rfl
    |true=>rw[r8 _ _ _ (EL hr h hl) kI]at hb;cases hb
   ·rw[show j=k by omega];exact hb
  ·show((k:Int)).toNat-((lo:Int)).toNat<((hi:Int)).toNat-((lo:Int)).toNat;omega
 ·have cu:=of_decide_eq_false cu
  have al:hi=lo:=by omega
  subst al
  have bc:∀f:Bool,(f=true->hi<(aB z0).length)->(eo ((aB z0).map (·.tok))=true->(f=true↔hi<(aB z0).length/\((aB z0).getD hi cg).tok=t))->cz SB [.d (.int .i64 0 9223372036854775807),.d .bool] 505 [[z0],[af]] [[(hi:Int)],[cond f 1 0]]:=λf hf fe=>by
   refine⟨⟨by omega,c1,by cases f<;>decide,by cases f<;>decide,trivial⟩,?_⟩
   show sJ (aB z0) (ab af) (hi:Int) (cond f 1 0)
   rw[ht]
   refine⟨⟨by omega,by omega⟩,?_,λhr=>⟨λj hj=>(hI hr).1 j (by omega),λj h1 h2=>(hI hr).2 j (by omega) h2,?_⟩⟩
   ·intro h
    have:f=true:=by cases f with|true=>rfl|false=>cases h
    have:=hf this;omega
   ·have h3:=fe hr
    rw[Int.toNat_natCast]
    cases f with
    |true=>exact⟨λ_=>⟨by have:=(h3.1 rfl).1;omega,(h3.1 rfl).2⟩,λ_=>rfl⟩
    |false=>exact⟨λh=>(by cases h),λh=>(by have:=h3.2 ⟨by omega,h.2⟩;cases this)⟩
  refine⟨λhl=>?_,λhl=>?_⟩
  ·have hl:=of_decide_eq_true hl
   have jN:hi<(ae z0).length:=by omega
   refine⟨⟨by omega,by omega⟩,⟨by omega,by omega⟩,λak _ _ bC z9 _ _ _ ao _ _ _ ax _ z12 _ _ aj _ _ _ aw _ _ ct=>?_⟩
   have ct:=ln (LN (k:=hi) rfl jN bC) ct
   refine bc (decide (aw=0)) (λ_=>by omega) λhr=>?_
   have hb:=(hI hr).2 hi (Nat.le_refl _) (by omega)
   rw[hb]at ct
   simp only[cond_false]at ct
   rw[decide_eq_true_eq]
   by_cases hd:((aB z0).getD hi cg).tok=t
   ·rw[decide_eq_true hd]at ct
    exact⟨λ_=>⟨by omega,hd⟩,λ_=>ct⟩
   ·rw[decide_eq_false hd]at ct
    simp only[cond_false]at ct
    exact⟨λh=>(by omega),λh=>(hd h.2).elim⟩
  ·have hl:=of_decide_eq_false hl
   exact bc false (λh=>by cases h) (λ_=>⟨λh=>(by cases h),λh=>(by omega)⟩)
end Go.bG
namespace Go.bG
open Go Go.bo
def FU (S:Nat->List (List Int)->List (List Int)->Prop) (K:List (List Int)->List (List Int)->Prop):Prop:=
 ∀z0:Int,0<=z0->z0<=au->∀af:Int,0<=af->af<=aC->
 ∀z2:Int,0<=z2->
 ∀z3:Int,(-2)<=z3->z3<=9223372036854775807->
 ∀z4:Int,0<=z4->z4<=9223372036854775807->z4=aa 20 [z0]->
 ad 22 [z0,0,z4]/\
 ∀z5:Int,0<=z5->z5<=au->z5=aa 22 [z0,0,z4]->
 ∀ai:Int,0<=ai->ai<=1->S 504 [[z5]] [[ai]]->
 ((((!(decide (ai=1))))=true->
  K [[z0],[af]] [[0],[1]]
 )/\(((!(decide (ai=1))))=false->
  ad 22 [z0,0,z4]/\
  ∀aq:Int,0<=aq->aq<=au->aq=aa 22 [z0,0,z4]->
  ∀ak:Int,0<=ak->ak<=9223372036854775807->∀z9:Int,0<=z9->z9<=1->S 505 [[aq],[af]] [[ak],[z9]]->
  ((((!(decide (z9=1))))=true->
   K [[z0],[af]] [[0],[14]]
  )/\(((!(decide (z9=1))))=false->
   K [[z0],[af]] [[ak],[0]]
  ))
 ))
def FT (S:Nat->List (List Int)->List (List Int)->Prop) (K:List (List Int)->List (List Int)->Prop):Prop:=
 ∀z0:Int,0<=z0->z0<=au->∀af:Int,0<=af->af<=aC->
 ∀z2:Int,0<=z2->
 ∀z3:Int,(-2)<=z3->z3<=9223372036854775807->
 ∀z4:Int,0<=z4->z4<=9223372036854775807->z4=aa 20 [z0]->
 ad 22 [z0,0,z4]/\
 ∀z5:Int,0<=z5->z5<=au->z5=aa 22 [z0,0,z4]->
 ∀ai:Int,0<=ai->ai<=9223372036854775807->∀aq:Int,0<=aq->aq<=21->S 506 [[z5],[af]] [[ai],[aq]]->
 ((((!(decide (aq=0))))=true->
  K [[z0],[af]] [[0],[aq]]
 )/\(((!(decide (aq=0))))=false->
  ad 30 [ai,z4]/\
  ad 21 [z0,ai]/\
  ∀ak:Int,0<=ak->ak<=aC->ak=aa 21 [z0,ai,1]->
  K [[z0],[af]] [[ak],[0]]
 ))
theorem dr {z y n:Int} (hn:n=((ae z).length:Int)) (h:y=aa 22 [z,0,n]):aB y=aB z:=by unfold aB;rw[whole hn h]
theorem EK {l:List du} (h:c4 l=true):eo (l.map (·.tok))=true:=by
 unfold c4 at h
 simp only[Bool.and_eq_true]at h
 exact h.2.2
theorem Lp {l:List du} {t:aI} {i f:Int} (h:sJ l t i f) (hr:c4 l=true):l.findIdx? (λu=>decide (u.tok=t))=cond (decide (f=1)) (some i.toNat) none:=by
 obtain⟨⟨h1,h2⟩,h3,h4⟩:=h
 obtain⟨h5,h6,h7⟩:=h4 (EK hr)
 by_cases hf:f=1
 ·rw[decide_eq_true hf,cond_true]
  obtain⟨g1,g2⟩:=h7.1 hf
  rw[List.findIdx?_eq_some_iff_getElem]
  refine⟨by omega,?_,λj hj=>?_⟩
  ·rw[decide_eq_true_eq,<-g2]
   have:i.toNat<l.length:=by omega
   simp[List.getD,this]
  ·have y6:j<l.length:=by omega
   have:=h5 j (by omega)
   simp only[List.getD,List.getElem?_eq_getElem y6,Option.getD_some]at this
   rw[Bool.not_eq_true,decide_eq_false_iff_not]
   intro e
   rw[e,uj]at this;cases this
 ·rw[decide_eq_false hf,cond_false]
  rw[List.findIdx?_eq_none_iff]
  intro u hu
  rw[decide_eq_false_iff_not]
  intro e
  obtain⟨j,hj,rfl⟩:=List.getElem_of_mem hu
  have hg:l.getD j cg=l[j]:=by simp[List.getD,hj]
  rcases Int.lt_or_le (j:Int) i with h|h
  ·have:=h5 j h
   rw[hg,e,uj]at this;cases this
  ·rcases Int.lt_or_eq_of_le h with h|h
   ·have hk:=EL (EK hr) (show i.toNat<j by omega) hj
    rw[hg,e]at hk
    have:=h6 i.toNat (by omega) (by omega)
    rw[this]at hk;cases hk
   ·refine hf (h7.2 ⟨by omega,?_⟩)
    rw[show i.toNat=j by omega,hg];exact e
theorem VP:FU SB (cz SB [.d (.int .i64 0 9223372036854775807),.d (.int .i64 0 21)] 506):=by
 intro z0 a0 a1 af n0 n1 z2 _ z3 _ _ z4 b0 b1 h4
 have h4:z4=((ae z0).length:Int):=h4
 have bc:∀i e:Int,(0<=i/\i<=9223372036854775807)->(0<=e/\e<=21)->cP (aB z0) (ab af)=(i,e)->cz SB [.d (.int .i64 0 9223372036854775807),.d (.int .i64 0 21)] 506 [[z0],[af]] [[i],[e]]:=λi e hi he h=>⟨⟨hi.1,hi.2,he.1,he.2,trivial⟩,by show(i,e)=cP (aB z0) (ab af);rw[h]⟩
 refine⟨⟨by omega,by omega,by omega⟩,λz5 _ _ h5 ai _ _ h6=>?_⟩
 have h6:ai=aT (c4 (aB z5)):=h6
 rw[dr h4 h5]at h6
 have pB:=ek h6
 refine⟨λhn=>bc 0 1 (by decide) (by decide) (by unfold cP;rw[<-pB,eF hn];rfl),λhn=>⟨⟨by omega,by omega,by omega⟩,λaq _ _ h7 ak bY c1 z9 _ _ bm=>?_⟩⟩
 have hr:c4 (aB z0)=true:=by rw[<-pB];exact dM hn
 have bm:sJ (aB aq) (ab af) ak z9:=bm
 rw[dr h4 h7]at bm
 have hf:=Lp bm hr
 refine⟨λhq=>bc 0 14 (by decide) (by decide) (by unfold cP;rw[hr,hf,eF hq];rfl),λhq=>bc ak 0 ⟨bY,c1⟩ (by decide) ?_⟩
 unfold cP
 rw[hr,hf,dM hq]
 show(((ak.toNat:Nat):Int),(0:Int))=(ak,0)
 rw[Int.toNat_of_nonneg bY]
theorem DR {l:List du} {t:aI} (h:(cP l t).2=0):0<=(cP l t).1/\(cP l t).1<l.length:=by
 unfold cP at h⊢
 cases hr:c4 l with
 |false=>rw[hr]at h;cases h
 |true=>
  rw[hr]at h
  simp only[cond_true]at h⊢
  cases hf:l.findIdx? (λu=>decide (u.tok=t))with
  |none=>rw[hf]at h;cases h
  |some k=>
   have:=(List.findIdx?_eq_some_iff_getElem.1 hf).1
   simp only;omega
theorem VO:FT SB (cz SB [.d .str,.d (.int .i64 0 21)] 507):=by
 intro z0 a0 a1 af n0 n1 z2 _ z3 _ _ z4 b0 b1 h4
 have h4:z4=((ae z0).length:Int):=h4
 refine⟨⟨by omega,by omega,by omega⟩,λz5 _ _ h5 ai _ _ aq bY c1 h7=>?_⟩
 have h7:(ai,aq)=cP (aB z5) (ab af):=h7
 rw[dr h4 h5]at h7
 have e1:(cP (aB z0) (ab af)).1=ai:=by rw[<-h7]
 have e2:(cP (aB z0) (ab af)).2=aq:=by rw[<-h7]
 have tN:ab (0:Int)=[]:=by decide
 refine⟨λhn=>⟨⟨Int.le_refl _,mh,bY,c1,trivial⟩,?_⟩,λhn=>?_⟩
 ·show(ab 0,aq)=j0 (aB z0) (ab af)
  unfold j0
  rw[e2,eF hn,tN];rfl
 ·have hz:aq=0:=of_decide_eq_true (dM hn)
  have hk:=DR (l:=aB z0) (t:=ab af) (by rw[e2];exact hz)
  rw[e1,fD]at hk
  refine⟨⟨by omega,by omega⟩,⟨by omega,by omega⟩,λak d0 d1 bC=>⟨⟨d0,d1,by decide,by decide,trivial⟩,?_⟩⟩
  show(ab ak,(0:Int))=j0 (aB z0) (ab af)
  unfold j0
  rw[e2,e1,hz,ks (by omega)]
  have:ab ak=(gT ((ae z0).getD ai.toNat [])).dV:=by rw[bC];rfl
  rw[this];rfl
end Go.bG
namespace Go.bG
open Go Go.bo
def Gn (S:Nat->List (List Int)->List (List Int)->Prop) (K:List (List Int)->List (List Int)->Prop):Prop:=
 ∀z0:Int,0<=z0->z0<=au->∀af:Int,0<=af->af<=aC->
 ∀z2:Int,0<=z2->
 ∀z3:Int,(-2)<=z3->z3<=9223372036854775807->
 ∀z4:Int,0<=z4->z4<=9223372036854775807->z4=aa 20 [z0]->
 ∃(dC:List (List Int)->Prop) (eu:List (List Int)->Nat),dC [[0]]/\(∀ai:Int,0<=ai->ai<=9223372036854775807->dC [[ai]]->
  (((decide (ai<z4))=true->
   ad 30 [ai,z4]/\
   ad 21 [z0,ai]/\
   ∀aq:Int,0<=aq->aq<=aC->aq=aa 21 [z0,ai,0]->
   ∀ak:Int,0<=ak->ak<=1->ak=aa 4 [af,aq]->
   (((decide (ak=1))=true->
    K [[z0],[af]] [[(cond (true) 1 0)]]
   )/\((decide (ak=1))=false->
    ∀z9:Int,0<=z9->z9<=1->0<=(ai+9223372036854775809)-18446744073709551616*z9->(ai+9223372036854775809)-18446744073709551616*z9<18446744073709551616->
    ad 39 [((ai+((-18446744073709551616)*z9))+1),0,9223372036854775807]/\
    (dC [[((ai+((-18446744073709551616)*z9))+1)]]/\eu [[((ai+((-18446744073709551616)*z9))+1)]]<eu [[ai]])
   ))
  )/\((decide (ai<z4))=false->
   K [[z0],[af]] [[(cond (false) 1 0)]]
  ))
 )
def FQ (S:Nat->List (List Int)->List (List Int)->Prop) (K:List (List Int)->List (List Int)->Prop):Prop:=
 ∀z0:Int,0<=z0->z0<=au->∀af:Int,0<=af->af<=aC->∀z2:Int,0<=z2->z2<=au->
 ∀z3:Int,0<=z3->
 ∀z4:Int,(-2)<=z4->z4<=9223372036854775807->
 ∀z5:Int,0<=z5->z5<=9223372036854775807->z5=aa 20 [z0]->
 ∀ai:Int,0<=ai->
 ∀aq:Int,(-2)<=aq->aq<=9223372036854775807->
 ∀ak:Int,0<=ak->ak<=9223372036854775807->ak=aa 20 [z2]->
 ad 22 [z0,0,z5]/\
 ∀z9:Int,0<=z9->z9<=au->z9=aa 22 [z0,0,z5]->
 ∀ao:Int,0<=ao->ao<=9223372036854775807->∀ax:Int,0<=ax->ax<=21->S 506 [[z9],[af]] [[ao],[ax]]->
 ((((!(decide (ax=0))))=true->
  K [[z0],[af],[z2]] [[ax]]
 )/\(((!(decide (ax=0))))=false->
  ∃(qy:List (List Int)->Prop) (xI:List (List Int)->Nat),qy [[0]]/\(∀aj:Int,0<=aj->aj<=9223372036854775807->qy [[aj]]->
   (((decide (aj<ak))=true->
    ad 30 [aj,ak]/\
    ad 21 [z2,aj]/\
    ∀aw:Int,0<=aw->aw<=aC->aw=aa 21 [z2,aj,0]->
    ad 30 [ao,z5]/\
    ad 21 [z0,ao]/\
    ∀aE:Int,0<=aE->aE<=bR->aE=aa 21 [z0,ao,2]->
    ∀aA:Int,0<=aA->
    ∀aF:Int,(-2)<=aF->aF<=9223372036854775807->
    ∀aK:Int,0<=aK->aK<=140737488351232->aK=aa 20 [aE]->
    ad 22 [aE,0,aK]/\
    ∀aN:Int,0<=aN->aN<=au->aN=aa 22 [aE,0,aK]->
    ∀z20:Int,0<=z20->z20<=1->S 512 [[aN],[aw]] [[z20]]->
    ((((!(decide (z20=1))))=true->
     K [[z0],[af],[z2]] [[13]]
    )/\(((!(decide (z20=1))))=false->
     ∀z21:Int,0<=z21->z21<=1->0<=(aj+9223372036854775809)-18446744073709551616*z21->(aj+9223372036854775809)-18446744073709551616*z21<18446744073709551616->
     ad 39 [((aj+((-18446744073709551616)*z21))+1),0,9223372036854775807]/\
     (qy [[((aj+((-18446744073709551616)*z21))+1)]]/\xI [[((aj+((-18446744073709551616)*z21))+1)]]<xI [[aj]])
    ))
   )/\((decide (aj<ak))=false->
    K [[z0],[af],[z2]] [[0]]
   ))
  )
 ))
theorem Aq {z:Int} {i:Nat} (h:i<(ae z).length):(aH z).getD i []∈aH z:=by
 have:i<(aH z).length:=by rw[fi];exact h
 simp[List.getD,this]
theorem uQ {z y n:Int} (hn:n=((ae z).length:Int)) (h:y=aa 22 [z,0,n]):aH y=aH z:=by unfold aH;rw[whole hn h]
def M7 (z0:Int) (t:aI) (bl:List (List Int)):Prop:=∃i:Nat,bl=[[(i:Int)]]/\i<=(ae z0).length/\∀j:Nat,j<i->(aH z0).getD j []≠t
theorem Wl:Gn SB (cz SB [.d .bool] 512):=by
 intro z0 a0 a1 af n0 n1 z2 _ z3 _ _ z4 b0 b1 h4
 have h4:z4=((ae z0).length:Int):=h4
 have hl:=fi z0
 have bc:∀b:Bool,(aH z0).contains (ab af)=b->cz SB [.d .bool] 512 [[z0],[af]] [[aT b]]:=λb h=>⟨⟨(h9 _).1,(h9 _).2,trivial⟩,by show aT b=aT ((aH z0).contains (ab af));rw[h]⟩
 refine⟨M7 z0 (ab af),kY z0,⟨0,rfl,Nat.zero_le _,λj hj=>absurd hj (Nat.not_lt_zero j)⟩,?_⟩
 rintro ai d0 d1 ⟨i,e,hi,hI⟩
 obtain rfl:ai=i:=by simpa using e
 refine⟨λhlt=>?_,λcu=>bc false ?_⟩
 ·have hlt:=of_decide_eq_true hlt
  have bM:i<(ae z0).length:=by omega
  refine⟨⟨by omega,by omega⟩,⟨by omega,by omega⟩,λaq _ _ h7 ak _ _ bC=>?_⟩
  have h7:ab aq=(aH z0).getD i []:=by rw[jF bM,h7];simp only[aa,Int.toNat_natCast];rfl
  have bC:=lM bC
  rw[h7]at bC
  refine⟨λhq=>bc true ?_,λhq z9 x0 x1 cT dk=>⟨⟨by omega,by omega⟩,⟨i+1,by rw[show(i:Int)+(-18446744073709551616)*z9+1=((i+1:Nat):Int) by omega],by omega,λj hj=>?_⟩,?_⟩⟩
  ·rw[bC]at hq
   rw[List.contains_iff_mem,of_decide_eq_true hq];exact Aq bM
  ·rcases Nat.lt_or_ge j i with h|h
   ·exact hI j h
   ·obtain rfl:j=i:=by omega
    rw[bC]at hq
    exactλe=>of_decide_eq_false hq e.symm
  ·show(ae z0).length-((i:Int)+(-18446744073709551616)*z9+1).toNat<(ae z0).length-((i:Int)).toNat;omega
 ·have:=of_decide_eq_false cu
  cases hc:(aH z0).contains (ab af)with
  |false=>rfl
  |true=>
   rw[List.contains_iff_mem]at hc
   obtain⟨j,hj,he⟩:=List.getElem_of_mem hc
   exact(hI j (by omega) (by simp[List.getD,hj,he])).elim
def M1 (z2:Int) (bh:List aI) (bl:List (List Int)):Prop:=∃i:Nat,bl=[[(i:Int)]]/\i<=(ae z2).length/\∀j:Nat,j<i->bh.contains ((aH z2).getD j [])=true
theorem VM:FQ SB (cz SB [.d (.int .i64 0 21)] 511):=by
 intro z0 a0 a1 af n0 n1 z2 m0 jf z3 _ z4 _ _ z5 _ _ h5 ai _ aq _ _ ak _ c1 bC
 have h5:z5=((ae z0).length:Int):=h5
 have bC:ak=((ae z2).length:Int):=bC
 have hl:=fi z2
 have bc:∀e:Int,(0<=e/\e<=21)->j7 (aB z0) (ab af) (aH z2)=e->cz SB [.d (.int .i64 0 21)] 511 [[z0],[af],[z2]] [[e]]:=λe he h=>⟨⟨he.1,he.2,trivial⟩,by show e=j7 (aB z0) (ab af) (aH z2);rw[h]⟩
 refine⟨⟨by omega,by omega,by omega⟩,λz9 _ _ bm ao _ _ ax cA e1 cx=>?_⟩
 have cx:(ao,ax)=cP (aB z9) (ab af):=cx
 rw[dr h5 bm]at cx
 have f1:(cP (aB z0) (ab af)).1=ao:=by rw[<-cx]
 have f2:(cP (aB z0) (ab af)).2=ax:=by rw[<-cx]
 refine⟨λhn=>bc ax ⟨cA,e1⟩ (by unfold j7;rw[f2,eF hn];rfl),λhn=>?_⟩
 have hz:ax=0:=of_decide_eq_true (dM hn)
 have hk:=DR (l:=aB z0) (t:=ab af) (by rw[f2];exact hz)
 rw[f1,fD]at hk
 have cW:j7 (aB z0) (ab af) (aH z2)=cond ((aH z2).all λs=>((aB z0).getD ao.toNat cg).bh.contains s) 0 13:=by unfold j7;rw[f2,f1,hz];rfl
 generalize hu:((aB z0).getD ao.toNat cg).bh=bh at cW
 refine⟨M1 z2 bh,kY z2,⟨0,rfl,Nat.zero_le _,λj hj=>absurd hj (Nat.not_lt_zero j)⟩,?_⟩
 rintro aj d0 d1 ⟨i,e,hi,hI⟩
 obtain rfl:aj=i:=by simpa using e
 refine⟨λhlt=>?_,λcu=>bc 0 (by decide) ?_⟩
 ·have hlt:=of_decide_eq_true hlt
  have bM:i<(ae z2).length:=by omega
  refine⟨⟨by omega,by omega⟩,⟨by omega,by omega⟩,λaw _ _ ct=>⟨⟨by omega,by omega⟩,⟨by omega,by omega⟩,λaE _ _ c6 aA _ aF _ _ aK g0 g1 gG=>?_⟩⟩
  have ct:ab aw=(aH z2).getD i []:=by rw[jF bM,ct];simp only[aa,Int.toNat_natCast];rfl
  have c6:aH aE=bh:=by rw[<-hu,ks (by omega),c6];rfl
  have gG:aK=((ae aE).length:Int):=gG
  refine⟨⟨by omega,by omega,by omega⟩,λaN _ _ lf z20 _ _ kE=>?_⟩
  have kE:z20=aT ((aH aN).contains (ab aw)):=kE
  rw[uQ gG lf,c6,ct]at kE
  have I7:=ek kE
  refine⟨λhq=>bc 13 (by decide) ?_,λhq z21 x0 x1 cT dk=>⟨⟨by omega,by omega⟩,⟨i+1,by rw[show(i:Int)+(-18446744073709551616)*z21+1=((i+1:Nat):Int) by omega],by omega,λj hj=>?_⟩,?_⟩⟩
  ·rw[cW]
   have hq:=eF hq
   rw[I7]at hq
   cases ha:(aH z2).all λs=>bh.contains s with
   |false=>rfl
   |true=>
    have:=List.all_eq_true.1 ha _ (Aq bM)
    rw[hq]at this;cases this
  ·rcases Nat.lt_or_ge j i with h|h
   ·exact hI j h
   ·obtain rfl:j=i:=by omega
    rw[<-I7];exact dM hq
  ·show(ae z2).length-((i:Int)+(-18446744073709551616)*z21+1).toNat<(ae z2).length-((i:Int)).toNat;omega
 ·have:=of_decide_eq_false cu
  rw[cW,List.all_eq_true.2 λs hs=>?_]
  ·rfl
  ·obtain⟨j,hj,rfl⟩:=List.getElem_of_mem hs
   have:=hI j (by omega)
   simpa [List.getD,hj]using this
end Go.bG
namespace Go.bG
open Go Go.bo
def je (x y:aI):Prop:=Op.bytesLess x y=true
theorem KF {l:List aI} (h:eo l=true):l.Pairwise je:=by
 rw[List.pairwise_iff_getElem]
 intro i j hi hj nk
 have:=LL h nk hj
 simp only[List.getD,List.getElem?_eq_getElem hi,List.getElem?_eq_getElem hj,Option.getD_some]at this
 exact this
theorem W6 {l:List aI} (h:l.Pairwise je) (hs:l.all cf=true):eo l=true:=by
 rw[List.pairwise_iff_getElem]at h
 unfold eo
 rw[List.all_eq_true]
 intro i hi
 have hi:i<l.length:=List.mem_range.1 hi
 rw[Bool.and_eq_true,Bool.or_eq_true]
 have e:l.getD i []=l[i]:=by simp[List.getD,hi]
 rw[e]
 refine⟨List.all_eq_true.1 hs _ (List.getElem_mem hi),?_⟩
 by_cases h0:i=0
 ·exact .inl (decide_eq_true h0)
 ·right
  have e1:l.getD (i-1) []=l[i-1]:=by simp[List.getD,show i-1<l.length by omega]
  rw[e1]
  exact h (i-1) i (by omega) hi (by omega)
theorem Ed (s:aI):∀(l:List aI) (x:aI),x∈eC s l↔x=s∨x∈l
 |[],x=>by simp[eC]
 |y::r,x=>by
  unfold eC
  by_cases h:y=s
  ·rw[decide_eq_true h,cond_true,<-h];simp
  ·rw[decide_eq_false h,cond_false]
   cases hb:Op.bytesLess s y with
   |true=>simp
   |false=>
    have ih:=Ed s r x
    simp only[cond_false,List.mem_cons,ih]
    constructor
    ·rintro(h|h|h)<;>simp[h]
    ·rintro(h|h|h)<;>simp[h]
theorem Kb (s:aI):∀{l:List aI},l.Pairwise je->(eC s l).Pairwise je
 |[],_=>by simp[eC]
 |y::r,h=>by
  unfold eC
  by_cases he:y=s
  ·rw[decide_eq_true he];exact h
  ·rw[decide_eq_false he,cond_false]
   have h':=List.pairwise_cons.1 h
   cases hb:Op.bytesLess s y with
   |true=>
    refine List.pairwise_cons.2 ⟨λz hz=>?_,h⟩
    rcases List.mem_cons.1 hz with rfl|hz
    ·exact hb
    ·exact r8 _ _ _ hb (h'.1 z hz)
   |false=>
    refine List.pairwise_cons.2 ⟨λz hz=>?_,Kb s h'.2⟩
    rcases(Ed s r z).1 hz with rfl|hz
    ·rcases D3 z y with h|h|h
     ·rw[h]at hb;cases hb
     ·exact h
     ·exact absurd h.symm he
    ·exact h'.1 z hz
theorem FB:∀{d a:List aI},a.Pairwise je->(hY a d).Pairwise je
 |[],_,h=>h
 |s::d,a,h=>FB (d:=d) (a:=eC s a) (Kb s h)
theorem Ee:∀{d a:List aI} (x:aI),x∈hY a d↔x∈a∨x∈d
 |[],a,x=>by simp[hY]
 |s::d,a,x=>by
  have ih:=Ee (d:=d) (a:=eC s a) x
  show x∈hY (eC s a) d↔_
  rw[ih,Ed]
  simp only[List.mem_cons]
  constructor
  ·rintro((h|h)|h)<;>simp[h]
  ·rintro(h|h|h)<;>simp[h]
theorem KE:∀{l bp:List aI},l.Pairwise je->bp.Pairwise je->(∀x,x∈l↔x∈bp)->l=bp
 |[],[],_,_,_=>rfl
 |[],y::r,_,_,h=>by have:=(h y).2 (by simp);cases this
 |x::r,[],_,_,h=>by have:=(h x).1 (by simp);cases this
 |x::r,y::s,h1,h2,h=>by
  have a1:=List.pairwise_cons.1 h1
  have a2:=List.pairwise_cons.1 h2
  have e:x=y:=by
   rcases List.mem_cons.1 ((h x).1 (by simp))with e|hx
   ·exact e
   ·rcases List.mem_cons.1 ((h y).2 (by simp))with e|hy
    ·exact e.symm
    ·exact absurd (a1.1 y hy) λh=>Kw _ _ h (a2.1 x hx)
  subst e
  refine congrArg _ (KE a1.2 a2.2 λz=>⟨λhz=>?_,λhz=>?_⟩)
  ·rcases List.mem_cons.1 ((h z).1 (List.mem_cons_of_mem _ hz))with e|h'
   ·subst e
    have:=a1.1 z hz
    unfold je at this;rw[uj]at this;cases this
   ·exact h'
  ·rcases List.mem_cons.1 ((h z).2 (List.mem_cons_of_mem _ hz))with e|h'
   ·subst e
    have:=a2.1 z hz
    unfold je at this;rw[uj]at this;cases this
   ·exact h'
end Go.bG
namespace Go.bG
open Go Go.bo
theorem W5 (l:List aI):eo l=true↔l.Pairwise je/\∀s∈l,cf s=true:=by
 refine⟨λh=>⟨KF h,λs hs=>?_⟩,λh=>W6 h.1 (List.all_eq_true.2 h.2)⟩
 unfold eo at h
 rw[List.all_eq_true]at h
 obtain⟨j,hj,rfl⟩:=List.getElem_of_mem hs
 have:=h j (List.mem_range.2 hj)
 rw[Bool.and_eq_true]at this
 have h:=this.1
 simp only[List.getD,List.getElem?_eq_getElem hj,Option.getD_some]at h
 exact h
def Yk (u:du):Prop:=gn u.dV=true/\u.bh.length<=4/\u.bh.Pairwise je/\(∀s∈u.bh,cf s=true)/\cf u.tok=true
theorem xm (l:List du):c4 l=true↔l.length<=16/\(∀u∈l,Yk u)/\l.Pairwise (λa b=>je a.tok b.tok):=by
 unfold c4
 simp only[Bool.and_eq_true,List.all_eq_true,W5,List.pairwise_map,List.mem_map]
 constructor
 ·rintro⟨h1,h2,h3,h4⟩
  exact⟨Nat.le_of_ble_eq_true h1,λu hu=>⟨(h2 u hu).1,Nat.le_of_ble_eq_true (h2 u hu).2.1,(h2 u hu).2.2.1,(h2 u hu).2.2.2,h4 _ ⟨u,hu,rfl⟩⟩,h3⟩
 ·rintro⟨h1,h2,h3⟩
  refine⟨Nat.ble_eq_true_of_le h1,λu hu=>⟨(h2 u hu).1,Nat.ble_eq_true_of_le (h2 u hu).2.1,(h2 u hu).2.2.1,(h2 u hu).2.2.2.1⟩,h3,?_⟩
  rintro s ⟨u,hu,rfl⟩
  exact(h2 u hu).2.2.2.2
theorem zp {l:List du} {t:aI} (hr:c4 l=false):cP l t=(0,1):=by unfold cP;rw[hr];rfl
end Go.bG
namespace Go.bG
open Go Go.bo
def Gv (S:Nat->List (List Int)->List (List Int)->Prop) (K:List (List Int)->List (List Int)->Prop):Prop:=
 ∀z0:Int,0<=z0->z0<=au->∀af:Int,0<=af->af<=21->S 509 [[0],[117],[1786254407]] [[z0],[af]]->
 ∀z2:Int,0<=z2->
 ∀z3:Int,(-2)<=z3->z3<=9223372036854775807->
 ∀z4:Int,0<=z4->z4<=9223372036854775807->z4=aa 20 [z0]->
 ad 22 [z0,0,z4]/\
 ∀z5:Int,0<=z5->z5<=au->z5=aa 22 [z0,0,z4]->
 ∀ai:Int,0<=ai->ai<=au->ai=aa 23 [0,35265235555321605]->
 ∀aq:Int,0<=aq->aq<=21->S 511 [[z5],[117],[ai]] [[aq]]->
 ∀ak:Int,0<=ak->ak<=au->ak=aa 23 [0,35265235555321605]->
 ad 22 [z0,0,z4]/\
 ∀z9:Int,0<=z9->z9<=au->z9=aa 22 [z0,0,z4]->
 ad 22 [ak,0,1]/\
 ∀ao:Int,0<=ao->ao<=au->ao=aa 22 [ak,0,1]->
 ad 84 [z9,117,ao]/\
 ∀ax:Int,0<=ax->ax<=au->∀z12:Int,0<=z12->z12<=21->S 513 [[z9],[117],[ao]] [[ax],[z12]]->
 ∀aj:Int,0<=aj->
 ∀aw:Int,(-2)<=aw->aw<=9223372036854775807->
 ∀aE:Int,0<=aE->aE<=9223372036854775807->aE=aa 20 [ax]->
 ad 22 [ax,0,aE]/\
 ∀aA:Int,0<=aA->aA<=au->aA=aa 22 [ax,0,aE]->
 ∀aF:Int,0<=aF->aF<=aC->∀aK:Int,0<=aK->aK<=21->S 507 [[aA],[117]] [[aF],[aK]]->
 (((decide (af=0))=true->
  (((decide (aq=13))=true->
   (((decide (z12=0))=true->
    (((decide (aK=0))=true->
     ∀aN:Int,0<=aN->aN<=1->aN=aa 4 [aF,1786254407]->
     (((decide (aN=1))=true->
      ad 22 [ax,0,aE]/\
      ∀z20:Int,0<=z20->z20<=au->z20=aa 22 [ax,0,aE]->
      ∀z21:Int,0<=z21->z21<=au->z21=aa 23 [0,35265235555321605]->
      ∀aJ:Int,0<=aJ->aJ<=21->S 511 [[z20],[117],[z21]] [[aJ]]->
      K [] [[(cond (decide (aJ=0)) 1 0)]]
     )/\((decide (aN=1))=false->
      K [] [[(cond (false) 1 0)]]
     ))
    )/\((decide (aK=0))=false->
     K [] [[(cond (false) 1 0)]]
    ))
   )/\((decide (z12=0))=false->
    K [] [[(cond (false) 1 0)]]
   ))
  )/\((decide (aq=13))=false->
   K [] [[(cond (false) 1 0)]]
  ))
 )/\((decide (af=0))=false->
  K [] [[(cond (false) 1 0)]]
 ))
theorem MM:aB 0=[]:=by unfold aB;rw[dW];rfl
theorem mU {z y n:Int} (hn:n=((ae z).length:Int)) (h:y=aa 22 [z,0,n]):ae y=ae z:=whole hn h
theorem K7 {z c:Int} (h:z=aa 23 [0,c]):ae z=[[c]]:=by
 rw[h]
 show ae (rc (ae 0++[[c]]))=_
 rw[dO,dW];rfl
def uz:aI:=[112,114,105,118,97,99,121]
theorem EB {z:Int} (h:z=aa 23 [0,35265235555321605]):aH z=[uz]:=by
 unfold aH
 rw[K7 h]
 have:ab 35265235555321605=uz:=by decide
 show [ab 35265235555321605]=_
 rw[this]
theorem Ws:Gv SB (cz SB [.d .bool] 520):=by
 intro z0 a0 a1 af _ _ h1 z2 _ z3 _ _ z4 _ _ h4
 have s1:ab 117=[116]:=by decide
 have s2:ab 1786254407=[64,97,58,104]:=by decide
 have h1:(aB z0,af)=jD (aB 0) (ab 117) (ab 1786254407):=h1
 rw[MM,s1,s2]at h1
 have r1:jD [] [116] [64,97,58,104]=([⟨[116],[64,97,58,104],[]⟩],0):=by decide
 rw[r1]at h1
 injection h1 with e1 e2
 have h4:z4=((ae z0).length:Int):=h4
 have cX:ad 22 [z0,0,z4]:=⟨by omega,by omega,by omega⟩
 refine⟨cX,λz5 _ _ h5 ai _ _ h6 aq _ _ h7 ak _ _ bC=>⟨cX,λz9 _ _ bm=>?_⟩⟩
 have aaF:(ae ak).length=1:=by rw[K7 bC];rfl
 refine⟨⟨by omega,by omega,by omega⟩,λao _ _ dp=>?_⟩
 have s7:ae ao=ae ak:=mU (by omega) dp
 refine⟨by show(ae ao).length<=100000000;rw[s7];omega,λax _ _ z12 _ _ dh aj _ aw _ _ aE _ _ c6=>?_⟩
 have c6:aE=((ae ax).length:Int):=c6
 have k1:ad 22 [ax,0,aE]:=⟨by omega,by omega,by omega⟩
 refine⟨k1,λaA _ _ eP aF _ _ aK _ _ gG=>?_⟩
 have h7:aq=j7 (aB z5) (ab 117) (aH ai):=h7
 rw[dr h4 h5,e1,s1,EB h6]at h7
 have h7:aq=13:=by rw[h7];decide
 have dh:(aB ax,z12)=j6 (aB z9) (ab 117) (aH ao):=dh
 have t10:aH ao=[uz]:=by unfold aH;rw[s7];exact EB bC
 rw[dr h4 bm,e1,s1,t10]at dh
 have r2:j6 [⟨[116],[64,97,58,104],[]⟩] [116] [uz]=([⟨[116],[64,97,58,104],[uz]⟩],0):=by decide
 rw[r2]at dh
 injection dh with e3 en
 have gG:(ab aF,aK)=j0 (aB aA) (ab 117):=gG
 rw[dr c6 eP,e3,s1]at gG
 have eR:j0 [⟨[116],[64,97,58,104],[uz]⟩] [116]=([64,97,58,104],0):=by decide
 rw[eR]at gG
 injection gG with mq n9
 subst h7 e2 en n9
 have bad:∀{p:Prop},decide ((0:Int)=0)=false->p:=λh=>absurd h (by decide)
 refine⟨λ_=>⟨λ_=>⟨λ_=>⟨λ_ aN _ _ lf=>?_,λh=>bad h⟩,λh=>bad h⟩,λh=>absurd h (by decide)⟩,λh=>bad h⟩
 have lf:=lM lf
 rw[mq,s2]at lf
 refine⟨λ_=>⟨k1,λz20 _ _ kE z21 _ _ pq aJ _ _ nd=>?_⟩,λh=>by rw[lf]at h;exact absurd h (by decide)⟩
 have nd:aJ=j7 (aB z20) (ab 117) (aH z21):=nd
 rw[dr c6 kE,e3,s1,EB pq]at nd
 have nd:aJ=0:=by rw[nd];decide
 subst nd
 exact⟨⟨by decide,by decide,trivial⟩,rfl⟩
end Go.bG
namespace Go.bG
open Go Go.bo
def Gb (S:Nat->List (List Int)->List (List Int)->Prop) (K:List (List Int)->List (List Int)->Prop):Prop:=
 ∀z0:Int,0<=z0->z0<=au->
 ∀af:Int,0<=af->
 ∀z2:Int,(-2)<=z2->z2<=9223372036854775807->
 ∀z3:Int,0<=z3->z3<=9223372036854775807->z3=aa 20 [z0]->
 (((decide (16<z3))=true->
  K [[z0]] [[(cond (false) 1 0)]]
 )/\((decide (16<z3))=false->
  ∃(eE:List (List Int)->Prop) (eb:List (List Int)->Nat),eE [[0]]/\(∀z5:Int,0<=z5->z5<=9223372036854775807->eE [[z5]]->
   (((decide (z5<z3))=true->
    ad 30 [z5,z3]/\
    ad 21 [z0,z5]/\
    ∀ai:Int,0<=ai->ai<=aC->ai=aa 21 [z0,z5,0]->
    ∀aq:Int,0<=aq->aq<=aC->aq=aa 21 [z0,z5,1]->
    ∀ak:Int,0<=ak->ak<=bR->ak=aa 21 [z0,z5,2]->
    ∀z9:Int,0<=z9->
    ∀ao:Int,(-2)<=ao->ao<=9223372036854775807->
    ∀ax:Int,0<=ax->ax<=140737488351232->ax=aa 20 [ak]->
    ∀z12:Int,0<=z12->z12<=1->S 420 [[ai]] [[z12]]->
    ((((!(decide (z12=1))))=true->
     K [[z0]] [[(cond (false) 1 0)]]
    )/\(((!(decide (z12=1))))=false->
     ∀aj:Int,0<=aj->aj<=1->S 207 [[aq]] [[aj]]->
     ((((!(decide (aj=1))))=true->
      K [[z0]] [[(cond (false) 1 0)]]
     )/\(((!(decide (aj=1))))=false->
      (((decide (0<z5))=true->
       ad 30 [(z5+(-1)),z3]/\
       ad 21 [z0,(z5+(-1))]/\
       ∀aw:Int,0<=aw->aw<=aC->aw=aa 21 [z0,(z5+(-1)),0]->
       ∀aE:Int,0<=aE->aE<=1->aE=aa 5 [aw,ai]->
       ((((!(decide (aE=1))))=true->
        K [[z0]] [[(cond (false) 1 0)]]
       )/\(((!(decide (aE=1))))=false->
        (((decide (4<ax))=true->
         K [[z0]] [[(cond (false) 1 0)]]
        )/\((decide (4<ax))=false->
         ∃(xN:List (List Int)->Prop) (AL:List (List Int)->Nat),xN [[0]]/\(∀aF:Int,0<=aF->aF<=9223372036854775807->xN [[aF]]->
          (((decide (aF<ax))=true->
           ad 30 [aF,ax]/\
           ad 21 [ak,aF]/\
           ∀aK:Int,0<=aK->aK<=aC->aK=aa 21 [ak,aF,0]->
           ∀aN:Int,0<=aN->aN<=1->S 420 [[aK]] [[aN]]->
           ((((!(decide (aN=1))))=true->
            K [[z0]] [[(cond (false) 1 0)]]
           )/\(((!(decide (aN=1))))=false->
            (((decide (0<aF))=true->
             ad 30 [(aF+(-1)),ax]/\
             ad 21 [ak,(aF+(-1))]/\
             ∀z20:Int,0<=z20->z20<=aC->z20=aa 21 [ak,(aF+(-1)),0]->
             ad 30 [aF,ax]/\
             ad 21 [ak,aF]/\
             ∀z21:Int,0<=z21->z21<=aC->z21=aa 21 [ak,aF,0]->
             ∀aJ:Int,0<=aJ->aJ<=1->aJ=aa 5 [z20,z21]->
             ((((!(decide (aJ=1))))=true->
              K [[z0]] [[(cond (false) 1 0)]]
             )/\(((!(decide (aJ=1))))=false->
              ∀aQ:Int,0<=aQ->aQ<=1->0<=(aF+9223372036854775809)-18446744073709551616*aQ->(aF+9223372036854775809)-18446744073709551616*aQ<18446744073709551616->
              ad 39 [((aF+((-18446744073709551616)*aQ))+1),0,9223372036854775807]/\
              (xN [[((aF+((-18446744073709551616)*aQ))+1)]]/\AL [[((aF+((-18446744073709551616)*aQ))+1)]]<AL [[aF]])
             ))
            )/\((decide (0<aF))=false->
             (xN [[1]]/\AL [[1]]<AL [[aF]])
            ))
           ))
          )/\((decide (aF<ax))=false->
           ∀aK:Int,0<=aK->aK<=1->0<=(z5+9223372036854775809)-18446744073709551616*aK->(z5+9223372036854775809)-18446744073709551616*aK<18446744073709551616->
           ad 39 [((z5+((-18446744073709551616)*aK))+1),0,9223372036854775807]/\
           (eE [[((z5+((-18446744073709551616)*aK))+1)]]/\eb [[((z5+((-18446744073709551616)*aK))+1)]]<eb [[z5]])
          ))
         )
        ))
       ))
      )/\((decide (0<z5))=false->
       (((decide (4<ax))=true->
        K [[z0]] [[(cond (false) 1 0)]]
       )/\((decide (4<ax))=false->
        ∃(xL:List (List Int)->Prop) (AJ:List (List Int)->Nat),xL [[0]]/\(∀aE:Int,0<=aE->aE<=9223372036854775807->xL [[aE]]->
         (((decide (aE<ax))=true->
          ad 30 [aE,ax]/\
          ad 21 [ak,aE]/\
          ∀aA:Int,0<=aA->aA<=aC->aA=aa 21 [ak,aE,0]->
          ∀aF:Int,0<=aF->aF<=1->S 420 [[aA]] [[aF]]->
          ((((!(decide (aF=1))))=true->
           K [[z0]] [[(cond (false) 1 0)]]
          )/\(((!(decide (aF=1))))=false->
           (((decide (0<aE))=true->
            ad 30 [(aE+(-1)),ax]/\
            ad 21 [ak,(aE+(-1))]/\
            ∀aK:Int,0<=aK->aK<=aC->aK=aa 21 [ak,(aE+(-1)),0]->
            ad 30 [aE,ax]/\
            ad 21 [ak,aE]/\
            ∀aN:Int,0<=aN->aN<=aC->aN=aa 21 [ak,aE,0]->
            ∀z20:Int,0<=z20->z20<=1->z20=aa 5 [aK,aN]->
            ((((!(decide (z20=1))))=true->
             K [[z0]] [[(cond (false) 1 0)]]
            )/\(((!(decide (z20=1))))=false->
             ∀z21:Int,0<=z21->z21<=1->0<=(aE+9223372036854775809)-18446744073709551616*z21->(aE+9223372036854775809)-18446744073709551616*z21<18446744073709551616->
             ad 39 [((aE+((-18446744073709551616)*z21))+1),0,9223372036854775807]/\
             (xL [[((aE+((-18446744073709551616)*z21))+1)]]/\AJ [[((aE+((-18446744073709551616)*z21))+1)]]<AJ [[aE]])
            ))
           )/\((decide (0<aE))=false->
            (xL [[1]]/\AJ [[1]]<AJ [[aE]])
           ))
          ))
         )/\((decide (aE<ax))=false->
          (eE [[1]]/\eb [[1]]<eb [[z5]])
         ))
        )
       ))
      ))
     ))
    ))
   )/\((decide (z5<z3))=false->
    K [[z0]] [[(cond (true) 1 0)]]
   ))
  )
 ))
def Ge (S:Nat->List (List Int)->List (List Int)->Prop) (K:List (List Int)->List (List Int)->Prop):Prop:=
 ∀z0:Int,0<=z0->z0<=au->∀af:Int,0<=af->af<=aC->
 ∀z2:Int,0<=z2->
 ∀z3:Int,(-2)<=z3->z3<=9223372036854775807->
 ∀z4:Int,0<=z4->z4<=9223372036854775807->z4=aa 20 [z0]->
 ∃(dC:List (List Int)->Prop) (eu:List (List Int)->Nat),dC [[0]]/\(∀ai:Int,0<=ai->ai<=9223372036854775807->dC [[ai]]->
  (((decide (ai<z4))=true->
   ad 30 [ai,z4]/\
   ad 21 [z0,ai]/\
   ∀aq:Int,0<=aq->aq<=aC->aq=aa 21 [z0,ai,0]->
   ∀ak:Int,0<=ak->ak<=1->ak=aa 4 [aq,af]->
   (((decide (ak=1))=true->
    K [[z0],[af]] [[ai]]
   )/\((decide (ak=1))=false->
    ∀z9:Int,0<=z9->z9<=1->0<=(ai+9223372036854775809)-18446744073709551616*z9->(ai+9223372036854775809)-18446744073709551616*z9<18446744073709551616->
    ad 39 [((ai+((-18446744073709551616)*z9))+1),0,9223372036854775807]/\
    (dC [[((ai+((-18446744073709551616)*z9))+1)]]/\eu [[((ai+((-18446744073709551616)*z9))+1)]]<eu [[ai]])
   ))
  )/\((decide (ai<z4))=false->
   K [[z0],[af]] [[(-1)]]
  ))
 )
def Gd (S:Nat->List (List Int)->List (List Int)->Prop) (K:List (List Int)->List (List Int)->Prop):Prop:=
 ∀z0:Int,0<=z0->z0<=au->∀af:Int,0<=af->af<=aC->
 ∀z2:Int,0<=z2->
 ∀z3:Int,(-2)<=z3->z3<=9223372036854775807->
 ∀z4:Int,0<=z4->z4<=9223372036854775807->z4=aa 20 [z0]->
 ad 22 [z0,0,z4]/\
 ∀z5:Int,0<=z5->z5<=au->z5=aa 22 [z0,0,z4]->
 ∀ai:Int,0<=ai->ai<=1->S 530 [[z5]] [[ai]]->
 ((((!(decide (ai=1))))=true->
  K [[z0],[af]] [[0],[1]]
 )/\(((!(decide (ai=1))))=false->
  ad 22 [z0,0,z4]/\
  ∀aq:Int,0<=aq->aq<=au->aq=aa 22 [z0,0,z4]->
  ∀ak:Int,(-9223372036854775808)<=ak->ak<=9223372036854775807->S 531 [[aq],[af]] [[ak]]->
  (((decide (ak<0))=true->
   K [[z0],[af]] [[0],[14]]
  )/\((decide (ak<0))=false->
   ad 30 [ak,z4]/\
   ad 21 [z0,ak]/\
   ∀z9:Int,0<=z9->z9<=aC->z9=aa 21 [z0,ak,1]->
   K [[z0],[af]] [[z9],[0]]
  ))
 ))
def iw (l:List du) (i:Nat):Bool:=cf (l.getD i cg).tok&&(gn (l.getD i cg).dV&&((decide (i=0)||Op.bytesLess (l.getD (i-1) cg).tok (l.getD i cg).tok)&&(Nat.ble (l.getD i cg).bh.length 4&&eo (l.getD i cg).bh)))
theorem LJ (l:List du):c4 l=(Nat.ble l.length 16&&(List.range l.length).all (iw l)):=by
 have hm:∀i,i<l.length->(l.map (·.tok)).getD i []=(l.getD i cg).tok:=λi hi=>by simp[List.getD,hi]
 unfold c4
 congr 1
 rw[Bool.eq_iff_iff,Bool.and_eq_true]
 unfold eo
 rw[List.length_map]
 simp only[List.all_eq_true,List.mem_range]
 constructor
 ·rintro⟨h1,h2⟩ i hi
  have h1:=h1 (l.getD i cg) (by simp only[List.getD,List.getElem?_eq_getElem hi,Option.getD_some];exact List.getElem_mem hi)
  have h2:=h2 i hi
  rw[hm i hi,hm (i-1) (by omega)]at h2
  unfold iw
  simp only[Bool.and_eq_true]at h1 h2⊢
  exact⟨h2.1,h1.1,h2.2,h1.2⟩
 ·intro h
  refine⟨λu hu=>?_,λi hi=>?_⟩
  ·obtain⟨i,hi,rfl⟩:=List.getElem_of_mem hu
   have:=h i hi
   unfold iw at this
   have e:l.getD i cg=l[i]:=by simp[List.getD,hi]
   rw[e]at this
   simp only[Bool.and_eq_true]at this⊢
   have bm:=this.2.2.2
   unfold eo at bm
   simp only[List.all_eq_true,List.mem_range,Bool.and_eq_true]at bm⊢
   exact⟨this.2.1,bm⟩
  ·have:=h i hi
   unfold iw at this
   rw[hm i hi,hm (i-1) (by omega)]
   simp only[Bool.and_eq_true]at this⊢
   exact⟨this.1,this.2.2.1⟩
def M3 (z0:Int) (bl:List (List Int)):Prop:=∃i:Nat,bl=[[(i:Int)]]/\i<=(ae z0).length/\∀j:Nat,j<i->iw (aB z0) j=true
theorem V6:Gb SB (cz SB [.d .bool] 530):=by
 intro z0 a0 a1 af _ z2 _ _ z3 _ c1 h3
 have h3:z3=((ae z0).length:Int):=h3
 have hl:=fD z0
 have bc:∀b:Bool,c4 (aB z0)=b->cz SB [.d .bool] 530 [[z0]] [[aT b]]:=λb h=>⟨⟨(h9 _).1,(h9 _).2,trivial⟩,by show aT b=aT (c4 (aB z0));rw[h]⟩
 refine⟨λeP=>bc false ?_,λeP=>⟨M3 z0,kY z0,⟨0,rfl,Nat.zero_le _,λj hj=>absurd hj (Nat.not_lt_zero j)⟩,?_⟩⟩
 ·have:=of_decide_eq_true eP
  unfold c4
  rw[show Nat.ble (aB z0).length 16=false from by
   cases h:Nat.ble (aB z0).length 16 with
   |false=>rfl
   |true=>have:=Nat.le_of_ble_eq_true h;omega];rfl
 have eP:=of_decide_eq_false eP
 have vS:Nat.ble (aB z0).length 16=true:=Nat.ble_eq_true_of_le (by omega)
 have ef:∀i:Nat,i<(ae z0).length->iw (aB z0) i=false->cz SB [.d .bool] 530 [[z0]] [[aT false]]:=λi hi h=>bc false (by
  rw[LJ,vS,Bool.true_and]
  cases hp:(List.range (aB z0).length).all (iw (aB z0))with
  |false=>rfl
  |true=>
   have:=List.all_eq_true.1 hp i (List.mem_range.2 (by omega))
   rw[this]at h;cases h)
 rintro z5 d0 d1 ⟨i,e,hi,hI⟩
 obtain rfl:z5=i:=by simpa using e
 refine⟨λhlt=>?_,λcu=>bc true ?_⟩
 rotate_left
 ·have:=of_decide_eq_false cu
  rw[LJ,vS,Bool.true_and,List.all_eq_true]
  intro j hj
  exact hI j (by have:=List.mem_range.1 hj;omega)
 have hlt:=of_decide_eq_true hlt
 have bM:i<(ae z0).length:=by omega
 refine⟨⟨by omega,by omega⟩,⟨by omega,by omega⟩,λai _ _ h6 aq _ _ h7 ak _ _ bC z9 _ ao _ _ ax _ _ cx z12 _ _ dh=>?_⟩
 generalize hu:(aB z0).getD i cg=u
 have oz:=hu
 rw[ks bM]at oz
 replace h6:ab ai=u.tok:=by rw[h6,<-oz];simp only[aa,Int.toNat_natCast];rfl
 replace h7:ab aq=u.dV:=by rw[h7,<-oz];simp only[aa,Int.toNat_natCast];rfl
 replace bC:aH ak=u.bh:=by rw[bC,<-oz];simp only[aa,Int.toNat_natCast];rfl
 have cx:ax=((ae ak).length:Int):=cx
 have Z3:(ae ak).length=u.bh.length:=by rw[<-bC,fi]
 have dh:z12=aT (cf (ab ai)):=dh
 have yW:=ek dh
 rw[h6]at yW
 refine⟨λhn=>ef i bM (by unfold iw;rw[hu,<-yW,eF hn];rfl),λhn aj _ _ eU=>?_⟩
 have eU:aj=aT (gn (ab aq)):=eU
 have yX:=ek eU
 rw[h7]at yX
 have KY:decide (4<ax)=true->iw (aB z0) i=false:=λh=>by
  have h:=of_decide_eq_true h
  unfold iw
  rw[hu,show Nat.ble u.bh.length 4=false from by
   cases h:Nat.ble u.bh.length 4 with
   |false=>rfl
   |true=>have:=Nat.le_of_ble_eq_true h;omega]
  simp
 refine⟨λhm=>ef i bM (by unfold iw;rw[hu,<-yX,eF hm];simp),λhm=>⟨λhp=>?_,λhp=>⟨λh4=>ef i bM (KY h4),λh4=>?_⟩⟩⟩
 ·have hp:=of_decide_eq_true hp
  refine⟨⟨by omega,by omega⟩,⟨by omega,by omega⟩,λaw _ _ ct aE _ _ c6=>?_⟩
  have ct:ab aw=((aB z0).getD (i-1) cg).tok:=by
   rw[ks (by omega),ct]
   simp only[aa]
   rw[show((i:Int)+(-1)).toNat=i-1 by omega];rfl
  have c6:decide (aE=1)=Op.bytesLess ((aB z0).getD (i-1) cg).tok u.tok:=by rw[wW c6,ct,h6]
  refine⟨λhq=>ef i bM (by unfold iw;rw[hu,<-c6,eF hq,decide_eq_false (show ¬i=0 by omega)];simp),λhq=>⟨λh4=>ef i bM (KY h4),λh4=>?_⟩⟩
  have h4:=of_decide_eq_false h4
  refine⟨A4 ak,kY ak,⟨0,rfl,Nat.zero_le _,λj hj=>absurd hj (Nat.not_lt_zero j)⟩,?_⟩
  rintro AE OM ON ⟨k,e,hk,hK⟩
  obtain rfl:AE=k:=by simpa using e
  refine⟨λhlt=>?_,λcu=>?_⟩
  ·have hlt:=of_decide_eq_true hlt
   have jN:k<(ae ak).length:=by omega
   have bad:(cf ((aH ak).getD k [])&&(decide (k=0)||Op.bytesLess ((aH ak).getD (k-1) []) ((aH ak).getD k [])))=false->iw (aB z0) i=false:=λh=>by
    unfold iw
    rw[hu,<-bC]
    have:eo (aH ak)=false:=by
     cases hp:eo (aH ak)with
     |false=>rfl
     |true=>
      have:=List.all_eq_true.1 hp k (List.mem_range.2 (by rw[fi];exact jN))
      rw[this]at h;cases h
    rw[this];simp
   refine⟨⟨by omega,by omega⟩,⟨by omega,by omega⟩,λuS _ _ g6 AF _ _ g7=>?_⟩
   have g6:ab uS=(aH ak).getD k []:=by rw[jF jN,g6];simp only[aa,Int.toNat_natCast];rfl
   have g7:AF=aT (cf (ab uS)):=g7
   have oc:=ek g7
   rw[g6]at oc
   refine⟨λhn=>ef i bM (bad (by rw[<-oc,eF hn];rfl)),λhn=>⟨λhp=>?_,λhp=>?_⟩⟩
   ·have hp:=of_decide_eq_true hp
    refine⟨⟨by omega,by omega⟩,⟨by omega,by omega⟩,λxF _ _ g8=>⟨⟨by omega,by omega⟩,⟨by omega,by omega⟩,λAG _ _ g9 AD _ _ g10=>?_⟩⟩
    have g8:ab xF=(aH ak).getD (k-1) []:=by
     rw[jF (by omega),g8]
     simp only[aa]
     rw[show((k:Int)+(-1)).toNat=k-1 by omega];rfl
    have g9:ab AG=(aH ak).getD k []:=by rw[jF jN,g9];simp only[aa,Int.toNat_natCast];rfl
    have g10:decide (AD=1)=Op.bytesLess ((aH ak).getD (k-1) []) ((aH ak).getD k []):=by rw[wW g10,g8,g9]
    have e6:decide (k=0)=false:=decide_eq_false (by omega)
    refine⟨λhq=>ef i bM (bad (by rw[<-g10,eF hq,e6,Bool.or_false,Bool.and_false])),λhq sy x0 x1 cT dk=>⟨⟨by omega,by omega⟩,⟨k+1,by rw[show(k:Int)+(-18446744073709551616)*sy+1=((k+1:Nat):Int) by omega],by omega,λj hj=>?_⟩,?_⟩⟩
    ·rcases Nat.lt_or_ge j k with h|h
     ·exact hK j h
     ·obtain rfl:j=k:=by omega
      rw[<-oc,dM hn,<-g10,dM hq,Bool.or_true];rfl
    ·show(ae ak).length-((k:Int)+(-18446744073709551616)*sy+1).toNat<(ae ak).length-((k:Int)).toNat;omega
   ·have hp:=of_decide_eq_false hp
    obtain rfl:k=0:=by omega
    refine⟨⟨1,rfl,by omega,λj hj=>?_⟩,?_⟩
    ·obtain rfl:j=0:=by omega
     rw[<-oc,dM hn];rfl
    ·show(ae ak).length-(1:Int).toNat<(ae ak).length-((0:Nat):Int).toNat;omega
  ·have cu:=of_decide_eq_false cu
   have Df:eo u.bh=true:=by
    rw[<-bC]
    unfold eo
    rw[List.all_eq_true]
    intro j hj
    exact hK j (by have:=List.mem_range.1 hj;rw[fi]at this;omega)
   have bb:iw (aB z0) i=true:=by
    unfold iw
    rw[hu,<-yW,dM hn,<-yX,dM hm,<-c6,dM hq,Bool.or_true,Nat.ble_eq_true_of_le (show u.bh.length<=4 by omega),Df];rfl
   intro FI x0 x1 cT dk
   refine⟨⟨by omega,by omega⟩,⟨i+1,by rw[show(i:Int)+(-18446744073709551616)*FI+1=((i+1:Nat):Int) by omega],by omega,λj hj=>?_⟩,?_⟩
   ·rcases Nat.lt_or_ge j i with h|h
    ·exact hI j h
    ·obtain rfl:j=i:=by omega
     exact bb
   ·show(ae z0).length-((i:Int)+(-18446744073709551616)*FI+1).toNat<(ae z0).length-((i:Int)).toNat;omega
 ·have h4:=of_decide_eq_false h4
  have hp:=of_decide_eq_false hp
  obtain rfl:i=0:=by omega
  refine⟨A4 ak,kY ak,⟨0,rfl,Nat.zero_le _,λj hj=>absurd hj (Nat.not_lt_zero j)⟩,?_⟩
  rintro AE OM ON ⟨k,e,hk,hK⟩
  obtain rfl:AE=k:=by simpa using e
  refine⟨λhlt=>?_,λcu=>?_⟩
  ·have hlt:=of_decide_eq_true hlt
   have jN:k<(ae ak).length:=by omega
   have bad:(cf ((aH ak).getD k [])&&(decide (k=0)||Op.bytesLess ((aH ak).getD (k-1) []) ((aH ak).getD k [])))=false->iw (aB z0) 0=false:=λh=>by
    unfold iw
    rw[hu,<-bC]
    have:eo (aH ak)=false:=by
     cases hp:eo (aH ak)with
     |false=>rfl
     |true=>
      have:=List.all_eq_true.1 hp k (List.mem_range.2 (by rw[fi];exact jN))
      rw[this]at h;cases h
    rw[this];simp
   refine⟨⟨by omega,by omega⟩,⟨by omega,by omega⟩,λuS _ _ g6 AF _ _ g7=>?_⟩
   have g6:ab uS=(aH ak).getD k []:=by rw[jF jN,g6];simp only[aa,Int.toNat_natCast];rfl
   have g7:AF=aT (cf (ab uS)):=g7
   have oc:=ek g7
   rw[g6]at oc
   refine⟨λhn=>ef 0 bM (bad (by rw[<-oc,eF hn];rfl)),λhn=>⟨λhp=>?_,λhp=>?_⟩⟩
   ·have hp:=of_decide_eq_true hp
    refine⟨⟨by omega,by omega⟩,⟨by omega,by omega⟩,λxF _ _ g8=>⟨⟨by omega,by omega⟩,⟨by omega,by omega⟩,λAG _ _ g9 AD _ _ g10=>?_⟩⟩
    have g8:ab xF=(aH ak).getD (k-1) []:=by
     rw[jF (by omega),g8]
     simp only[aa]
     rw[show((k:Int)+(-1)).toNat=k-1 by omega];rfl
    have g9:ab AG=(aH ak).getD k []:=by rw[jF jN,g9];simp only[aa,Int.toNat_natCast];rfl
    have g10:decide (AD=1)=Op.bytesLess ((aH ak).getD (k-1) []) ((aH ak).getD k []):=by rw[wW g10,g8,g9]
    have e6:decide (k=0)=false:=decide_eq_false (by omega)
    refine⟨λhq=>ef 0 bM (bad (by rw[<-g10,eF hq,e6,Bool.or_false,Bool.and_false])),λhq sy x0 x1 cT dk=>⟨⟨by omega,by omega⟩,⟨k+1,by rw[show(k:Int)+(-18446744073709551616)*sy+1=((k+1:Nat):Int) by omega],by omega,λj hj=>?_⟩,?_⟩⟩
    ·rcases Nat.lt_or_ge j k with h|h
     ·exact hK j h
     ·obtain rfl:j=k:=by omega
      rw[<-oc,dM hn,<-g10,dM hq,Bool.or_true];rfl
    ·show(ae ak).length-((k:Int)+(-18446744073709551616)*sy+1).toNat<(ae ak).length-((k:Int)).toNat;omega
   ·have hp:=of_decide_eq_false hp
    obtain rfl:k=0:=by omega
    refine⟨⟨1,rfl,by omega,λj hj=>?_⟩,?_⟩
    ·obtain rfl:j=0:=by omega
     rw[<-oc,dM hn];rfl
    ·show(ae ak).length-(1:Int).toNat<(ae ak).length-((0:Nat):Int).toNat;omega
  ·have cu:=of_decide_eq_false cu
   have Df:eo u.bh=true:=by
    rw[<-bC]
    unfold eo
    rw[List.all_eq_true]
    intro j hj
    exact hK j (by have:=List.mem_range.1 hj;rw[fi]at this;omega)
   have bb:iw (aB z0) 0=true:=by
    unfold iw
    rw[hu,<-yW,dM hn,<-yX,dM hm,Nat.ble_eq_true_of_le (show u.bh.length<=4 by omega),Df];rfl
   refine⟨⟨1,rfl,by omega,λj hj=>?_⟩,?_⟩
   ·obtain rfl:j=0:=by omega
    exact bb
   ·show(ae z0).length-(1:Int).toNat<(ae z0).length-((0:Nat):Int).toNat;omega
theorem V9:Ge SB (cz SB [.d (.int .i64 (-9223372036854775808) 9223372036854775807)] 531):=by
 intro z0 a0 a1 af _ _ z2 _ z3 _ _ z4 _ c1 h4
 have h4:z4=((ae z0).length:Int):=h4
 have hl:=fD z0
 refine⟨λbl=>∃i:Nat,bl=[[(i:Int)]]/\i<=(ae z0).length/\∀j:Nat,j<i->((aB z0).getD j cg).tok≠ab af,kY z0,⟨0,rfl,Nat.zero_le _,λj hj=>absurd hj (Nat.not_lt_zero j)⟩,?_⟩
 rintro ai d0 d1 ⟨i,e,hi,hI⟩
 obtain rfl:ai=i:=by simpa using e
 refine⟨λhlt=>?_,λcu=>?_⟩
 ·have hlt:=of_decide_eq_true hlt
  have bM:i<(ae z0).length:=by omega
  have y5:i<(aB z0).length:=by omega
  refine⟨⟨by omega,by omega⟩,⟨by omega,by omega⟩,λaq _ _ h7 ak _ _ bC=>?_⟩
  have h7:ab aq=((aB z0).getD i cg).tok:=by rw[ks bM,h7];simp only[aa,Int.toNat_natCast];rfl
  have bC:=lM bC
  rw[h7]at bC
  have hg:∀j (hj:j<(aB z0).length),(aB z0).getD j cg=(aB z0)[j]:=λj hj=>by simp[List.getD,hj]
  refine⟨λhq=>⟨⟨by omega,by omega,trivial⟩,?_⟩,λhq z9 x0 x1 cT dk=>⟨⟨by omega,by omega⟩,⟨i+1,by rw[show(i:Int)+(-18446744073709551616)*z9+1=((i+1:Nat):Int) by omega],by omega,λj hj=>?_⟩,?_⟩⟩
  ·rw[bC]at hq
   have hq:=of_decide_eq_true hq
   show(i:Int)=match(aB z0).findIdx? (λu=>decide (u.tok=ab af))with|some k=>(k:Int)|none=>-1
   have:(aB z0).findIdx? (λu=>decide (u.tok=ab af))=some i:=by
    rw[List.findIdx?_eq_some_iff_getElem]
    refine⟨y5,decide_eq_true (by rw[<-hg i y5];exact hq),λj hj=>?_⟩
    have:=hI j hj
    rw[hg j (by omega)]at this
    simpa using this
   rw[this]
  ·rcases Nat.lt_or_ge j i with h|h
   ·exact hI j h
   ·obtain rfl:j=i:=by omega
    rw[bC]at hq
    exact of_decide_eq_false hq
  ·show(ae z0).length-((i:Int)+(-18446744073709551616)*z9+1).toNat<(ae z0).length-((i:Int)).toNat;omega
 ·have cu:=of_decide_eq_false cu
  refine⟨⟨by decide,by decide,trivial⟩,?_⟩
  show(-1:Int)=match(aB z0).findIdx? (λu=>decide (u.tok=ab af))with|some k=>(k:Int)|none=>-1
  have:(aB z0).findIdx? (λu=>decide (u.tok=ab af))=none:=by
   rw[List.findIdx?_eq_none_iff]
   intro u hu
   obtain⟨j,hj,rfl⟩:=List.getElem_of_mem hu
   have:=hI j (by omega)
   have e:(aB z0).getD j cg=(aB z0)[j]:=by simp[List.getD,hj]
   rw[e]at this
   exact decide_eq_false this
  rw[this]
theorem zS {l:List du} {t:aI} {i:Int} (hr:c4 l=true) (h:i=match l.findIdx? (λu=>decide (u.tok=t))with|some k=>(k:Int)|none=>-1):(i<0->cP l t=(0,14))/\(¬i<0->cP l t=(i,0)/\0<=i/\i<l.length):=by
 unfold cP
 rw[hr,cond_true]
 cases hf:l.findIdx? (λu=>decide (u.tok=t))with
 |none=>rw[hf]at h;subst h;exact⟨λ_=>rfl,λh=>absurd (by decide) h⟩
 |some k=>
  rw[hf]at h
  have h:i=(k:Int):=h
  have:=(List.findIdx?_eq_some_iff_getElem.1 hf).1
  subst h
  exact⟨λh=>by omega,λ_=>⟨rfl,by omega,by omega⟩⟩
theorem V8:Gd SB (cz SB [.d .str,.d (.int .i64 0 21)] 534):=by
 intro z0 a0 a1 af _ _ z2 _ z3 _ _ z4 _ _ h4
 have h4:z4=((ae z0).length:Int):=h4
 have cX:ad 22 [z0,0,z4]:=⟨by omega,by omega,by omega⟩
 have tN:ab (0:Int)=[]:=by decide
 refine⟨cX,λz5 _ _ h5 ai _ _ h6=>?_⟩
 have h6:ai=aT (c4 (aB z5)):=h6
 rw[dr h4 h5]at h6
 have pB:=ek h6
 refine⟨λhn=>⟨⟨Int.le_refl _,mh,by decide,by decide,trivial⟩,?_⟩,λhn=>⟨cX,λaq _ _ h7 ak _ _ bC=>?_⟩⟩
 ·show(ab 0,(1:Int))=j0 (aB z0) (ab af)
  unfold j0
  rw[zp (by rw[<-pB,eF hn]),tN];rfl
 ·have hr:c4 (aB z0)=true:=by rw[<-pB];exact dM hn
  have bC:ak=match(aB aq).findIdx? (λu=>decide (u.tok=ab af))with|some k=>(k:Int)|none=>-1:=bC
  rw[dr h4 h7]at bC
  obtain⟨p1,bz⟩:=zS hr bC
  refine⟨λhq=>⟨⟨Int.le_refl _,mh,by decide,by decide,trivial⟩,?_⟩,λhq=>?_⟩
  ·show(ab 0,(14:Int))=j0 (aB z0) (ab af)
   unfold j0
   rw[p1 (of_decide_eq_true hq),tN];rfl
  ·obtain⟨q1,q2,q3⟩:=bz (of_decide_eq_false hq)
   rw[fD]at q3
   refine⟨⟨by omega,by omega⟩,⟨by omega,by omega⟩,λz9 d0 d1 bm=>⟨⟨d0,d1,by decide,by decide,trivial⟩,?_⟩⟩
   show(ab z9,(0:Int))=j0 (aB z0) (ab af)
   unfold j0
   rw[q1,ks (by omega)]
   have:ab z9=(gT ((ae z0).getD ak.toNat [])).dV:=by rw[bm];rfl
   rw[this];rfl
end Go.bG
namespace Go.bG
open Go Go.bo
def Ga (S:Nat->List (List Int)->List (List Int)->Prop) (K:List (List Int)->List (List Int)->Prop):Prop:=
 ∀z0:Int,0<=z0->z0<=au->∀af:Int,0<=af->af<=aC->∀z2:Int,0<=z2->z2<=aC->
 ∀z3:Int,0<=z3->
 ∀z4:Int,(-2)<=z4->z4<=9223372036854775807->
 ∀z5:Int,0<=z5->z5<=9223372036854775807->z5=aa 20 [z0]->
 ad 22 [z0,0,z5]/\
 ∀ai:Int,0<=ai->ai<=au->ai=aa 22 [z0,0,z5]->
 ∀aq:Int,0<=aq->aq<=1->S 530 [[ai]] [[aq]]->
 ((((!(decide (aq=1))))=true->
  ad 22 [z0,0,z5]/\
  ∀ak:Int,0<=ak->ak<=au->ak=aa 22 [z0,0,z5]->
  K [[z0],[af],[z2]] [[ak],[1]]
 )/\(((!(decide (aq=1))))=false->
  ∀ak:Int,0<=ak->ak<=1->S 420 [[af]] [[ak]]->
  ((((!(decide (ak=1))))=true->
   ad 22 [z0,0,z5]/\
   ∀z9:Int,0<=z9->z9<=au->z9=aa 22 [z0,0,z5]->
   K [[z0],[af],[z2]] [[z9],[1]]
  )/\(((!(decide (ak=1))))=false->
   ∀z9:Int,0<=z9->z9<=1->S 207 [[z2]] [[z9]]->
   ((((!(decide (z9=1))))=true->
    ad 22 [z0,0,z5]/\
    ∀ao:Int,0<=ao->ao<=au->ao=aa 22 [z0,0,z5]->
    K [[z0],[af],[z2]] [[ao],[1]]
   )/\(((!(decide (z9=1))))=false->
    ad 22 [z0,0,z5]/\
    ∀ao:Int,0<=ao->ao<=au->ao=aa 22 [z0,0,z5]->
    ∀ax:Int,(-9223372036854775808)<=ax->ax<=9223372036854775807->S 531 [[ao],[af]] [[ax]]->
    (((decide (0<=ax))=true->
     ad 22 [z0,0,z5]/\
     ∀z12:Int,0<=z12->z12<=au->z12=aa 22 [z0,0,z5]->
     K [[z0],[af],[z2]] [[z12],[6]]
    )/\((decide (0<=ax))=false->
     (((decide (z5=16))=true->
      ad 22 [z0,0,z5]/\
      ∀z12:Int,0<=z12->z12<=au->z12=aa 22 [z0,0,z5]->
      K [[z0],[af],[z2]] [[z12],[10]]
     )/\((decide (z5=16))=false->
      ∃(qy:List (List Int)->Prop) (xI:List (List Int)->Nat),qy [[0]]/\(∀aj:Int,0<=aj->aj<=9223372036854775807->qy [[aj]]->
       (((decide (aj<z5))=true->
        ad 30 [aj,z5]/\
        ad 21 [z0,aj]/\
        ∀aw:Int,0<=aw->aw<=aC->aw=aa 21 [z0,aj,0]->
        ∀aE:Int,0<=aE->aE<=1->aE=aa 5 [aw,af]->
        (((decide (aE=1))=true->
         ∀aA:Int,0<=aA->aA<=1->0<=(aj+9223372036854775809)-18446744073709551616*aA->(aj+9223372036854775809)-18446744073709551616*aA<18446744073709551616->
         ad 39 [((aj+((-18446744073709551616)*aA))+1),0,9223372036854775807]/\
         (qy [[((aj+((-18446744073709551616)*aA))+1)]]/\xI [[((aj+((-18446744073709551616)*aA))+1)]]<xI [[aj]])
        )/\((decide (aE=1))=false->
         ad 32 [0,aj,z5]/\
         ad 32 [aj,z5,z5]/\
         (ad 68 [z5,z4]->
         ∀aA:Int,0<=aA->aA<=9223372036854775809->aA=aa 33 [0,aj,z4]->
         ((
          ((
           ad 22 [z0,0,aj]/\
           ad 23 [0,aj]/\
           ∀aF:Int,0<=aF->aF<=au->aF=aa 22 [z0,0,aj]->
           ∀aK:Int,0<=aK->aK<=au->aK=aa 24 [0,aF]->
           (((decide (aj<=0))=true->
            ad 23 [0,1]/\
            ∀aN:Int,0<=aN->aN<=au->aN=aa 23 [0,af,z2,0]->
            ∀z20:Int,(-2)<=z20->z20<=9223372036854775807->
            ad 31 [aN,1]/\
            ad 22 [z0,aA,(z5+(((-1)*aj)+aA))]/\
            ad 23 [aN,(z5+((-1)*aj))]/\
            ∀z21:Int,0<=z21->z21<=au->z21=aa 22 [z0,aA,(z5+(((-1)*aj)+aA))]->
            ∀aJ:Int,0<=aJ->aJ<=au->aJ=aa 24 [aN,z21]->
            ∀aQ:Int,(-2)<=aQ->aQ<=9223372036854775807->
            ad 22 [aJ,0,((z5+((-1)*aj))+1)]/\
            ∀z24:Int,0<=z24->z24<=au->z24=aa 22 [aJ,0,((z5+((-1)*aj))+1)]->
            K [[z0],[af],[z2]] [[z24],[0]]
           )/\((decide (aj<=0))=false->
            ∀aN:Int,(-2)<=aN->aN<=9223372036854775807->
            ad 31 [aK,aj]/\
            ad 23 [aK,1]/\
            ∀z20:Int,0<=z20->z20<=au->z20=aa 23 [aK,af,z2,0]->
            ∀z21:Int,(-2)<=z21->z21<=9223372036854775807->
            ad 31 [z20,(aj+1)]/\
            ad 22 [z0,aA,(z5+(((-1)*aj)+aA))]/\
            ad 23 [z20,(z5+((-1)*aj))]/\
            ∀aJ:Int,0<=aJ->aJ<=au->aJ=aa 22 [z0,aA,(z5+(((-1)*aj)+aA))]->
            ∀aQ:Int,0<=aQ->aQ<=au->aQ=aa 24 [z20,aJ]->
            ∀z24:Int,(-2)<=z24->z24<=9223372036854775807->
            ad 22 [aQ,0,(z5+1)]/\
            ∀ah:Int,0<=ah->ah<=au->ah=aa 22 [aQ,0,(z5+1)]->
            K [[z0],[af],[z2]] [[ah],[0]]
           ))
          )/\(
           ((
            ad 22 [z0,0,aj]/\
            ad 23 [0,aj]/\
            ∀aF:Int,0<=aF->aF<=au->aF=aa 22 [z0,0,aj]->
            ∀aK:Int,0<=aK->aK<=au->aK=aa 24 [0,aF]->
            (((decide (aj<=0))=true->
             ad 23 [0,1]/\
             ∀aN:Int,0<=aN->aN<=au->aN=aa 23 [0,af,z2,0]->
             ∀z20:Int,(-2)<=z20->z20<=9223372036854775807->
             ad 31 [aN,1]/\
             ad 22 [z0,aA,(z5+(((-1)*aj)+aA))]/\
             ad 23 [aN,(z5+((-1)*aj))]/\
             ∀z21:Int,0<=z21->z21<=au->z21=aa 22 [z0,aA,(z5+(((-1)*aj)+aA))]->
             ∀aJ:Int,0<=aJ->aJ<=au->aJ=aa 24 [aN,z21]->
             ∀aQ:Int,(-2)<=aQ->aQ<=9223372036854775807->
             ad 22 [aJ,0,((z5+((-1)*aj))+1)]/\
             ∀z24:Int,0<=z24->z24<=au->z24=aa 22 [aJ,0,((z5+((-1)*aj))+1)]->
             K [[z0],[af],[z2]] [[z24],[0]]
            )/\((decide (aj<=0))=false->
             ∀aN:Int,(-2)<=aN->aN<=9223372036854775807->
             ad 31 [aK,aj]/\
             ad 23 [aK,1]/\
             ∀z20:Int,0<=z20->z20<=au->z20=aa 23 [aK,af,z2,0]->
             ∀z21:Int,(-2)<=z21->z21<=9223372036854775807->
             ad 31 [z20,(aj+1)]/\
             ad 22 [z0,aA,(z5+(((-1)*aj)+aA))]/\
             ad 23 [z20,(z5+((-1)*aj))]/\
             ∀aJ:Int,0<=aJ->aJ<=au->aJ=aa 22 [z0,aA,(z5+(((-1)*aj)+aA))]->
             ∀aQ:Int,0<=aQ->aQ<=au->aQ=aa 24 [z20,aJ]->
             ∀z24:Int,(-2)<=z24->z24<=9223372036854775807->
             ad 22 [aQ,0,(z5+1)]/\
             ∀ah:Int,0<=ah->ah<=au->ah=aa 22 [aQ,0,(z5+1)]->
             K [[z0],[af],[z2]] [[ah],[0]]
            ))
           )/\(
            ad 22 [z0,0,aj]/\
            ad 23 [0,aj]/\
            ∀aF:Int,0<=aF->aF<=au->aF=aa 22 [z0,0,aj]->
            ∀aK:Int,0<=aK->aK<=au->aK=aa 24 [0,aF]->
            (((decide (aj<=0))=true->
             ad 23 [0,1]/\
             ∀aN:Int,0<=aN->aN<=au->aN=aa 23 [0,af,z2,0]->
             ∀z20:Int,(-2)<=z20->z20<=9223372036854775807->
             ad 31 [aN,1]/\
             ad 22 [z0,aA,(z5+(((-1)*aj)+aA))]/\
             ad 23 [aN,(z5+((-1)*aj))]/\
             ∀z21:Int,0<=z21->z21<=au->z21=aa 22 [z0,aA,(z5+(((-1)*aj)+aA))]->
             ∀aJ:Int,0<=aJ->aJ<=au->aJ=aa 24 [aN,z21]->
             ∀aQ:Int,(-2)<=aQ->aQ<=9223372036854775807->
             ad 22 [aJ,0,((z5+((-1)*aj))+1)]/\
             ∀z24:Int,0<=z24->z24<=au->z24=aa 22 [aJ,0,((z5+((-1)*aj))+1)]->
             K [[z0],[af],[z2]] [[z24],[0]]
            )/\((decide (aj<=0))=false->
             ∀aN:Int,(-2)<=aN->aN<=9223372036854775807->
             ad 31 [aK,aj]/\
             ad 23 [aK,1]/\
             ∀z20:Int,0<=z20->z20<=au->z20=aa 23 [aK,af,z2,0]->
             ∀z21:Int,(-2)<=z21->z21<=9223372036854775807->
             ad 31 [z20,(aj+1)]/\
             ad 22 [z0,aA,(z5+(((-1)*aj)+aA))]/\
             ad 23 [z20,(z5+((-1)*aj))]/\
             ∀aJ:Int,0<=aJ->aJ<=au->aJ=aa 22 [z0,aA,(z5+(((-1)*aj)+aA))]->
             ∀aQ:Int,0<=aQ->aQ<=au->aQ=aa 24 [z20,aJ]->
             ∀z24:Int,(-2)<=z24->z24<=9223372036854775807->
             ad 22 [aQ,0,(z5+1)]/\
             ∀ah:Int,0<=ah->ah<=au->ah=aa 22 [aQ,0,(z5+1)]->
             K [[z0],[af],[z2]] [[ah],[0]]
            ))
           ))
          ))
         )/\(
          ((
           ((
            ad 22 [z0,0,aj]/\
            ad 23 [0,aj]/\
            ∀aF:Int,0<=aF->aF<=au->aF=aa 22 [z0,0,aj]->
            ∀aK:Int,0<=aK->aK<=au->aK=aa 24 [0,aF]->
            (((decide (aj<=0))=true->
             ad 23 [0,1]/\
             ∀aN:Int,0<=aN->aN<=au->aN=aa 23 [0,af,z2,0]->
             ∀z20:Int,(-2)<=z20->z20<=9223372036854775807->
             ad 31 [aN,1]/\
             ad 22 [z0,aA,(z5+(((-1)*aj)+aA))]/\
             ad 23 [aN,(z5+((-1)*aj))]/\
             ∀z21:Int,0<=z21->z21<=au->z21=aa 22 [z0,aA,(z5+(((-1)*aj)+aA))]->
             ∀aJ:Int,0<=aJ->aJ<=au->aJ=aa 24 [aN,z21]->
             ∀aQ:Int,(-2)<=aQ->aQ<=9223372036854775807->
             ad 22 [aJ,0,((z5+((-1)*aj))+1)]/\
             ∀z24:Int,0<=z24->z24<=au->z24=aa 22 [aJ,0,((z5+((-1)*aj))+1)]->
             K [[z0],[af],[z2]] [[z24],[0]]
            )/\((decide (aj<=0))=false->
             ∀aN:Int,(-2)<=aN->aN<=9223372036854775807->
             ad 31 [aK,aj]/\
             ad 23 [aK,1]/\
             ∀z20:Int,0<=z20->z20<=au->z20=aa 23 [aK,af,z2,0]->
             ∀z21:Int,(-2)<=z21->z21<=9223372036854775807->
             ad 31 [z20,(aj+1)]/\
             ad 22 [z0,aA,(z5+(((-1)*aj)+aA))]/\
             ad 23 [z20,(z5+((-1)*aj))]/\
             ∀aJ:Int,0<=aJ->aJ<=au->aJ=aa 22 [z0,aA,(z5+(((-1)*aj)+aA))]->
             ∀aQ:Int,0<=aQ->aQ<=au->aQ=aa 24 [z20,aJ]->
             ∀z24:Int,(-2)<=z24->z24<=9223372036854775807->
             ad 22 [aQ,0,(z5+1)]/\
             ∀ah:Int,0<=ah->ah<=au->ah=aa 22 [aQ,0,(z5+1)]->
             K [[z0],[af],[z2]] [[ah],[0]]
            ))
           )/\(
            ad 22 [z0,0,aj]/\
            ad 23 [0,aj]/\
            ∀aF:Int,0<=aF->aF<=au->aF=aa 22 [z0,0,aj]->
            ∀aK:Int,0<=aK->aK<=au->aK=aa 24 [0,aF]->
            (((decide (aj<=0))=true->
             ad 23 [0,1]/\
             ∀aN:Int,0<=aN->aN<=au->aN=aa 23 [0,af,z2,0]->
             ∀z20:Int,(-2)<=z20->z20<=9223372036854775807->
             ad 31 [aN,1]/\
             ad 22 [z0,aA,(z5+(((-1)*aj)+aA))]/\
             ad 23 [aN,(z5+((-1)*aj))]/\
             ∀z21:Int,0<=z21->z21<=au->z21=aa 22 [z0,aA,(z5+(((-1)*aj)+aA))]->
             ∀aJ:Int,0<=aJ->aJ<=au->aJ=aa 24 [aN,z21]->
             ∀aQ:Int,(-2)<=aQ->aQ<=9223372036854775807->
             ad 22 [aJ,0,((z5+((-1)*aj))+1)]/\
             ∀z24:Int,0<=z24->z24<=au->z24=aa 22 [aJ,0,((z5+((-1)*aj))+1)]->
             K [[z0],[af],[z2]] [[z24],[0]]
            )/\((decide (aj<=0))=false->
             ∀aN:Int,(-2)<=aN->aN<=9223372036854775807->
             ad 31 [aK,aj]/\
             ad 23 [aK,1]/\
             ∀z20:Int,0<=z20->z20<=au->z20=aa 23 [aK,af,z2,0]->
             ∀z21:Int,(-2)<=z21->z21<=9223372036854775807->
             ad 31 [z20,(aj+1)]/\
             ad 22 [z0,aA,(z5+(((-1)*aj)+aA))]/\
             ad 23 [z20,(z5+((-1)*aj))]/\
             ∀aJ:Int,0<=aJ->aJ<=au->aJ=aa 22 [z0,aA,(z5+(((-1)*aj)+aA))]->
             ∀aQ:Int,0<=aQ->aQ<=au->aQ=aa 24 [z20,aJ]->
             ∀z24:Int,(-2)<=z24->z24<=9223372036854775807->
             ad 22 [aQ,0,(z5+1)]/\
             ∀ah:Int,0<=ah->ah<=au->ah=aa 22 [aQ,0,(z5+1)]->
             K [[z0],[af],[z2]] [[ah],[0]]
            ))
           ))
          )/\(
           ad 22 [z0,0,aj]/\
           ad 23 [0,aj]/\
           ∀aF:Int,0<=aF->aF<=au->aF=aa 22 [z0,0,aj]->
           ∀aK:Int,0<=aK->aK<=au->aK=aa 24 [0,aF]->
           (((decide (aj<=0))=true->
            ad 23 [0,1]/\
            ∀aN:Int,0<=aN->aN<=au->aN=aa 23 [0,af,z2,0]->
            ∀z20:Int,(-2)<=z20->z20<=9223372036854775807->
            ad 31 [aN,1]/\
            ad 22 [z0,aA,(z5+(((-1)*aj)+aA))]/\
            ad 23 [aN,(z5+((-1)*aj))]/\
            ∀z21:Int,0<=z21->z21<=au->z21=aa 22 [z0,aA,(z5+(((-1)*aj)+aA))]->
            ∀aJ:Int,0<=aJ->aJ<=au->aJ=aa 24 [aN,z21]->
            ∀aQ:Int,(-2)<=aQ->aQ<=9223372036854775807->
            ad 22 [aJ,0,((z5+((-1)*aj))+1)]/\
            ∀z24:Int,0<=z24->z24<=au->z24=aa 22 [aJ,0,((z5+((-1)*aj))+1)]->
            K [[z0],[af],[z2]] [[z24],[0]]
           )/\((decide (aj<=0))=false->
            ∀aN:Int,(-2)<=aN->aN<=9223372036854775807->
            ad 31 [aK,aj]/\
            ad 23 [aK,1]/\
            ∀z20:Int,0<=z20->z20<=au->z20=aa 23 [aK,af,z2,0]->
            ∀z21:Int,(-2)<=z21->z21<=9223372036854775807->
            ad 31 [z20,(aj+1)]/\
            ad 22 [z0,aA,(z5+(((-1)*aj)+aA))]/\
            ad 23 [z20,(z5+((-1)*aj))]/\
            ∀aJ:Int,0<=aJ->aJ<=au->aJ=aa 22 [z0,aA,(z5+(((-1)*aj)+aA))]->
            ∀aQ:Int,0<=aQ->aQ<=au->aQ=aa 24 [z20,aJ]->
            ∀z24:Int,(-2)<=z24->z24<=9223372036854775807->
            ad 22 [aQ,0,(z5+1)]/\
            ∀ah:Int,0<=ah->ah<=au->ah=aa 22 [aQ,0,(z5+1)]->
            K [[z0],[af],[z2]] [[ah],[0]]
           ))
          ))
         ))
         )
        ))
       )/\((decide (aj<z5))=false->
        ad 32 [0,aj,z5]/\
        ad 32 [aj,z5,z5]/\
        (ad 68 [z5,z4]->
        ∀aw:Int,0<=aw->aw<=9223372036854775809->aw=aa 33 [0,aj,z4]->
        ((
         ((
          ad 22 [z0,0,aj]/\
          ad 23 [0,aj]/\
          ∀aE:Int,0<=aE->aE<=au->aE=aa 22 [z0,0,aj]->
          ∀aA:Int,0<=aA->aA<=au->aA=aa 24 [0,aE]->
          (((decide (aj<=0))=true->
           ad 23 [0,1]/\
           ∀aF:Int,0<=aF->aF<=au->aF=aa 23 [0,af,z2,0]->
           ∀aK:Int,(-2)<=aK->aK<=9223372036854775807->
           ad 31 [aF,1]/\
           ad 22 [z0,aw,(z5+(((-1)*aj)+aw))]/\
           ad 23 [aF,(z5+((-1)*aj))]/\
           ∀aN:Int,0<=aN->aN<=au->aN=aa 22 [z0,aw,(z5+(((-1)*aj)+aw))]->
           ∀z20:Int,0<=z20->z20<=au->z20=aa 24 [aF,aN]->
           ∀z21:Int,(-2)<=z21->z21<=9223372036854775807->
           ad 22 [z20,0,((z5+((-1)*aj))+1)]/\
           ∀aJ:Int,0<=aJ->aJ<=au->aJ=aa 22 [z20,0,((z5+((-1)*aj))+1)]->
           K [[z0],[af],[z2]] [[aJ],[0]]
          )/\((decide (aj<=0))=false->
           ∀aF:Int,(-2)<=aF->aF<=9223372036854775807->
           ad 31 [aA,aj]/\
           ad 23 [aA,1]/\
           ∀aK:Int,0<=aK->aK<=au->aK=aa 23 [aA,af,z2,0]->
           ∀aN:Int,(-2)<=aN->aN<=9223372036854775807->
           ad 31 [aK,(aj+1)]/\
           ad 22 [z0,aw,(z5+(((-1)*aj)+aw))]/\
           ad 23 [aK,(z5+((-1)*aj))]/\
           ∀z20:Int,0<=z20->z20<=au->z20=aa 22 [z0,aw,(z5+(((-1)*aj)+aw))]->
           ∀z21:Int,0<=z21->z21<=au->z21=aa 24 [aK,z20]->
           ∀aJ:Int,(-2)<=aJ->aJ<=9223372036854775807->
           ad 22 [z21,0,(z5+1)]/\
           ∀aQ:Int,0<=aQ->aQ<=au->aQ=aa 22 [z21,0,(z5+1)]->
           K [[z0],[af],[z2]] [[aQ],[0]]
          ))
         )/\(
          ((
           ad 22 [z0,0,aj]/\
           ad 23 [0,aj]/\
           ∀aE:Int,0<=aE->aE<=au->aE=aa 22 [z0,0,aj]->
           ∀aA:Int,0<=aA->aA<=au->aA=aa 24 [0,aE]->
           (((decide (aj<=0))=true->
            ad 23 [0,1]/\
            ∀aF:Int,0<=aF->aF<=au->aF=aa 23 [0,af,z2,0]->
            ∀aK:Int,(-2)<=aK->aK<=9223372036854775807->
            ad 31 [aF,1]/\
            ad 22 [z0,aw,(z5+(((-1)*aj)+aw))]/\
            ad 23 [aF,(z5+((-1)*aj))]/\
            ∀aN:Int,0<=aN->aN<=au->aN=aa 22 [z0,aw,(z5+(((-1)*aj)+aw))]->
            ∀z20:Int,0<=z20->z20<=au->z20=aa 24 [aF,aN]->
            ∀z21:Int,(-2)<=z21->z21<=9223372036854775807->
            ad 22 [z20,0,((z5+((-1)*aj))+1)]/\
            ∀aJ:Int,0<=aJ->aJ<=au->aJ=aa 22 [z20,0,((z5+((-1)*aj))+1)]->
            K [[z0],[af],[z2]] [[aJ],[0]]
           )/\((decide (aj<=0))=false->
            ∀aF:Int,(-2)<=aF->aF<=9223372036854775807->
            ad 31 [aA,aj]/\
            ad 23 [aA,1]/\
            ∀aK:Int,0<=aK->aK<=au->aK=aa 23 [aA,af,z2,0]->
            ∀aN:Int,(-2)<=aN->aN<=9223372036854775807->
            ad 31 [aK,(aj+1)]/\
            ad 22 [z0,aw,(z5+(((-1)*aj)+aw))]/\
            ad 23 [aK,(z5+((-1)*aj))]/\
            ∀z20:Int,0<=z20->z20<=au->z20=aa 22 [z0,aw,(z5+(((-1)*aj)+aw))]->
            ∀z21:Int,0<=z21->z21<=au->z21=aa 24 [aK,z20]->
            ∀aJ:Int,(-2)<=aJ->aJ<=9223372036854775807->
            ad 22 [z21,0,(z5+1)]/\
            ∀aQ:Int,0<=aQ->aQ<=au->aQ=aa 22 [z21,0,(z5+1)]->
            K [[z0],[af],[z2]] [[aQ],[0]]
           ))
          )/\(
           ad 22 [z0,0,aj]/\
           ad 23 [0,aj]/\
           ∀aE:Int,0<=aE->aE<=au->aE=aa 22 [z0,0,aj]->
           ∀aA:Int,0<=aA->aA<=au->aA=aa 24 [0,aE]->
           (((decide (aj<=0))=true->
            ad 23 [0,1]/\
            ∀aF:Int,0<=aF->aF<=au->aF=aa 23 [0,af,z2,0]->
            ∀aK:Int,(-2)<=aK->aK<=9223372036854775807->
            ad 31 [aF,1]/\
            ad 22 [z0,aw,(z5+(((-1)*aj)+aw))]/\
            ad 23 [aF,(z5+((-1)*aj))]/\
            ∀aN:Int,0<=aN->aN<=au->aN=aa 22 [z0,aw,(z5+(((-1)*aj)+aw))]->
            ∀z20:Int,0<=z20->z20<=au->z20=aa 24 [aF,aN]->
            ∀z21:Int,(-2)<=z21->z21<=9223372036854775807->
            ad 22 [z20,0,((z5+((-1)*aj))+1)]/\
            ∀aJ:Int,0<=aJ->aJ<=au->aJ=aa 22 [z20,0,((z5+((-1)*aj))+1)]->
            K [[z0],[af],[z2]] [[aJ],[0]]
           )/\((decide (aj<=0))=false->
            ∀aF:Int,(-2)<=aF->aF<=9223372036854775807->
            ad 31 [aA,aj]/\
            ad 23 [aA,1]/\
            ∀aK:Int,0<=aK->aK<=au->aK=aa 23 [aA,af,z2,0]->
            ∀aN:Int,(-2)<=aN->aN<=9223372036854775807->
            ad 31 [aK,(aj+1)]/\
            ad 22 [z0,aw,(z5+(((-1)*aj)+aw))]/\
            ad 23 [aK,(z5+((-1)*aj))]/\
            ∀z20:Int,0<=z20->z20<=au->z20=aa 22 [z0,aw,(z5+(((-1)*aj)+aw))]->
            ∀z21:Int,0<=z21->z21<=au->z21=aa 24 [aK,z20]->
            ∀aJ:Int,(-2)<=aJ->aJ<=9223372036854775807->
            ad 22 [z21,0,(z5+1)]/\
            ∀aQ:Int,0<=aQ->aQ<=au->aQ=aa 22 [z21,0,(z5+1)]->
            K [[z0],[af],[z2]] [[aQ],[0]]
           ))
          ))
         ))
        )/\(
         ((
          ((
           ad 22 [z0,0,aj]/\
           ad 23 [0,aj]/\
           ∀aE:Int,0<=aE->aE<=au->aE=aa 22 [z0,0,aj]->
           ∀aA:Int,0<=aA->aA<=au->aA=aa 24 [0,aE]->
           (((decide (aj<=0))=true->
            ad 23 [0,1]/\
            ∀aF:Int,0<=aF->aF<=au->aF=aa 23 [0,af,z2,0]->
            ∀aK:Int,(-2)<=aK->aK<=9223372036854775807->
            ad 31 [aF,1]/\
            ad 22 [z0,aw,(z5+(((-1)*aj)+aw))]/\
            ad 23 [aF,(z5+((-1)*aj))]/\
            ∀aN:Int,0<=aN->aN<=au->aN=aa 22 [z0,aw,(z5+(((-1)*aj)+aw))]->
            ∀z20:Int,0<=z20->z20<=au->z20=aa 24 [aF,aN]->
            ∀z21:Int,(-2)<=z21->z21<=9223372036854775807->
            ad 22 [z20,0,((z5+((-1)*aj))+1)]/\
            ∀aJ:Int,0<=aJ->aJ<=au->aJ=aa 22 [z20,0,((z5+((-1)*aj))+1)]->
            K [[z0],[af],[z2]] [[aJ],[0]]
           )/\((decide (aj<=0))=false->
            ∀aF:Int,(-2)<=aF->aF<=9223372036854775807->
            ad 31 [aA,aj]/\
            ad 23 [aA,1]/\
            ∀aK:Int,0<=aK->aK<=au->aK=aa 23 [aA,af,z2,0]->
            ∀aN:Int,(-2)<=aN->aN<=9223372036854775807->
            ad 31 [aK,(aj+1)]/\
            ad 22 [z0,aw,(z5+(((-1)*aj)+aw))]/\
            ad 23 [aK,(z5+((-1)*aj))]/\
            ∀z20:Int,0<=z20->z20<=au->z20=aa 22 [z0,aw,(z5+(((-1)*aj)+aw))]->
            ∀z21:Int,0<=z21->z21<=au->z21=aa 24 [aK,z20]->
            ∀aJ:Int,(-2)<=aJ->aJ<=9223372036854775807->
            ad 22 [z21,0,(z5+1)]/\
            ∀aQ:Int,0<=aQ->aQ<=au->aQ=aa 22 [z21,0,(z5+1)]->
            K [[z0],[af],[z2]] [[aQ],[0]]
           ))
          )/\(
           ad 22 [z0,0,aj]/\
           ad 23 [0,aj]/\
           ∀aE:Int,0<=aE->aE<=au->aE=aa 22 [z0,0,aj]->
           ∀aA:Int,0<=aA->aA<=au->aA=aa 24 [0,aE]->
           (((decide (aj<=0))=true->
            ad 23 [0,1]/\
            ∀aF:Int,0<=aF->aF<=au->aF=aa 23 [0,af,z2,0]->
            ∀aK:Int,(-2)<=aK->aK<=9223372036854775807->
            ad 31 [aF,1]/\
            ad 22 [z0,aw,(z5+(((-1)*aj)+aw))]/\
            ad 23 [aF,(z5+((-1)*aj))]/\
            ∀aN:Int,0<=aN->aN<=au->aN=aa 22 [z0,aw,(z5+(((-1)*aj)+aw))]->
            ∀z20:Int,0<=z20->z20<=au->z20=aa 24 [aF,aN]->
            ∀z21:Int,(-2)<=z21->z21<=9223372036854775807->
            ad 22 [z20,0,((z5+((-1)*aj))+1)]/\
            ∀aJ:Int,0<=aJ->aJ<=au->aJ=aa 22 [z20,0,((z5+((-1)*aj))+1)]->
            K [[z0],[af],[z2]] [[aJ],[0]]
           )/\((decide (aj<=0))=false->
            ∀aF:Int,(-2)<=aF->aF<=9223372036854775807->
            ad 31 [aA,aj]/\
            ad 23 [aA,1]/\
            ∀aK:Int,0<=aK->aK<=au->aK=aa 23 [aA,af,z2,0]->
            ∀aN:Int,(-2)<=aN->aN<=9223372036854775807->
            ad 31 [aK,(aj+1)]/\
            ad 22 [z0,aw,(z5+(((-1)*aj)+aw))]/\
            ad 23 [aK,(z5+((-1)*aj))]/\
            ∀z20:Int,0<=z20->z20<=au->z20=aa 22 [z0,aw,(z5+(((-1)*aj)+aw))]->
            ∀z21:Int,0<=z21->z21<=au->z21=aa 24 [aK,z20]->
            ∀aJ:Int,(-2)<=aJ->aJ<=9223372036854775807->
            ad 22 [z21,0,(z5+1)]/\
            ∀aQ:Int,0<=aQ->aQ<=au->aQ=aa 22 [z21,0,(z5+1)]->
            K [[z0],[af],[z2]] [[aQ],[0]]
           ))
          ))
         )/\(
          ad 22 [z0,0,aj]/\
          ad 23 [0,aj]/\
          ∀aE:Int,0<=aE->aE<=au->aE=aa 22 [z0,0,aj]->
          ∀aA:Int,0<=aA->aA<=au->aA=aa 24 [0,aE]->
          (((decide (aj<=0))=true->
           ad 23 [0,1]/\
           ∀aF:Int,0<=aF->aF<=au->aF=aa 23 [0,af,z2,0]->
           ∀aK:Int,(-2)<=aK->aK<=9223372036854775807->
           ad 31 [aF,1]/\
           ad 22 [z0,aw,(z5+(((-1)*aj)+aw))]/\
           ad 23 [aF,(z5+((-1)*aj))]/\
           ∀aN:Int,0<=aN->aN<=au->aN=aa 22 [z0,aw,(z5+(((-1)*aj)+aw))]->
           ∀z20:Int,0<=z20->z20<=au->z20=aa 24 [aF,aN]->
           ∀z21:Int,(-2)<=z21->z21<=9223372036854775807->
           ad 22 [z20,0,((z5+((-1)*aj))+1)]/\
           ∀aJ:Int,0<=aJ->aJ<=au->aJ=aa 22 [z20,0,((z5+((-1)*aj))+1)]->
           K [[z0],[af],[z2]] [[aJ],[0]]
          )/\((decide (aj<=0))=false->
           ∀aF:Int,(-2)<=aF->aF<=9223372036854775807->
           ad 31 [aA,aj]/\
           ad 23 [aA,1]/\
           ∀aK:Int,0<=aK->aK<=au->aK=aa 23 [aA,af,z2,0]->
           ∀aN:Int,(-2)<=aN->aN<=9223372036854775807->
           ad 31 [aK,(aj+1)]/\
           ad 22 [z0,aw,(z5+(((-1)*aj)+aw))]/\
           ad 23 [aK,(z5+((-1)*aj))]/\
           ∀z20:Int,0<=z20->z20<=au->z20=aa 22 [z0,aw,(z5+(((-1)*aj)+aw))]->
           ∀z21:Int,0<=z21->z21<=au->z21=aa 24 [aK,z20]->
           ∀aJ:Int,(-2)<=aJ->aJ<=9223372036854775807->
           ad 22 [z21,0,(z5+1)]/\
           ∀aQ:Int,0<=aQ->aQ<=au->aQ=aa 22 [z21,0,(z5+1)]->
           K [[z0],[af],[z2]] [[aQ],[0]]
          ))
         ))
        ))
        )
       ))
      )
     ))
    ))
   ))
  ))
 ))
def F9 (S:Nat->List (List Int)->List (List Int)->Prop) (K:List (List Int)->List (List Int)->Prop):Prop:=
 ∀z0:Int,0<=z0->z0<=au->∀af:Int,0<=af->af<=aC->
 ∀z2:Int,0<=z2->
 ∀z3:Int,(-2)<=z3->z3<=9223372036854775807->
 ∀z4:Int,0<=z4->z4<=9223372036854775807->z4=aa 20 [z0]->
 ad 22 [z0,0,z4]/\
 ∀z5:Int,0<=z5->z5<=au->z5=aa 22 [z0,0,z4]->
 ∀ai:Int,0<=ai->ai<=1->S 530 [[z5]] [[ai]]->
 ((((!(decide (ai=1))))=true->
  ad 22 [z0,0,z4]/\
  ∀aq:Int,0<=aq->aq<=au->aq=aa 22 [z0,0,z4]->
  K [[z0],[af]] [[aq],[1]]
 )/\(((!(decide (ai=1))))=false->
  ad 22 [z0,0,z4]/\
  ∀aq:Int,0<=aq->aq<=au->aq=aa 22 [z0,0,z4]->
  ∀ak:Int,(-9223372036854775808)<=ak->ak<=9223372036854775807->S 531 [[aq],[af]] [[ak]]->
  (((decide (ak<0))=true->
   ad 22 [z0,0,z4]/\
   ∀z9:Int,0<=z9->z9<=au->z9=aa 22 [z0,0,z4]->
   K [[z0],[af]] [[z9],[14]]
  )/\((decide (ak<0))=false->
   ad 32 [0,ak,z4]/\
   ((
    ((
     ad 22 [z0,0,ak]/\
     ad 23 [0,ak]/\
     ∀z9:Int,0<=z9->z9<=au->z9=aa 22 [z0,0,ak]->
     ∀ao:Int,0<=ao->ao<=au->ao=aa 24 [0,z9]->
     (((decide (ak<=0))=true->
      ∀ax:Int,0<=ax->ax<=1->0<=(ak+9223372036854775809)-18446744073709551616*ax->(ak+9223372036854775809)-18446744073709551616*ax<18446744073709551616->
      ad 32 [((ak+((-18446744073709551616)*ax))+1),z4,z4]/\
      (ad 68 [z4,z3]->
      ∀z12:Int,0<=z12->z12<=9223372036854775809->z12=aa 33 [0,((ak+((-18446744073709551616)*ax))+1),z3]->
      ad 22 [z0,z12,((z4+(((-1)*ak)+((18446744073709551616*ax)+z12)))+(-1))]/\
      ad 23 [0,((z4+(((-1)*ak)+(18446744073709551616*ax)))+(-1))]/\
      ∀aj:Int,0<=aj->aj<=au->aj=aa 22 [z0,z12,((z4+(((-1)*ak)+((18446744073709551616*ax)+z12)))+(-1))]->
      ∀aw:Int,0<=aw->aw<=au->aw=aa 24 [0,aj]->
      (((decide (((z4+(((-1)*ak)+(18446744073709551616*ax)))+(-1))<=0))=true->
       K [[z0],[af]] [[0],[0]]
      )/\((decide (((z4+(((-1)*ak)+(18446744073709551616*ax)))+(-1))<=0))=false->
       ∀aE:Int,(-2)<=aE->aE<=9223372036854775807->
       ad 22 [aw,0,((z4+(((-1)*ak)+(18446744073709551616*ax)))+(-1))]/\
       ∀aA:Int,0<=aA->aA<=au->aA=aa 22 [aw,0,((z4+(((-1)*ak)+(18446744073709551616*ax)))+(-1))]->
       K [[z0],[af]] [[aA],[0]]
      ))
      )
     )/\((decide (ak<=0))=false->
      ∀ax:Int,(-2)<=ax->ax<=9223372036854775807->
      ∀z12:Int,0<=z12->z12<=1->0<=(ak+9223372036854775809)-18446744073709551616*z12->(ak+9223372036854775809)-18446744073709551616*z12<18446744073709551616->
      ad 32 [((ak+((-18446744073709551616)*z12))+1),z4,z4]/\
      (ad 68 [z4,z3]->
      ∀aj:Int,0<=aj->aj<=9223372036854775809->aj=aa 33 [0,((ak+((-18446744073709551616)*z12))+1),z3]->
      ad 31 [ao,ak]/\
      ad 22 [z0,aj,((z4+(((-1)*ak)+((18446744073709551616*z12)+aj)))+(-1))]/\
      ad 23 [ao,((z4+(((-1)*ak)+(18446744073709551616*z12)))+(-1))]/\
      ∀aw:Int,0<=aw->aw<=au->aw=aa 22 [z0,aj,((z4+(((-1)*ak)+((18446744073709551616*z12)+aj)))+(-1))]->
      ∀aE:Int,0<=aE->aE<=au->aE=aa 24 [ao,aw]->
      ∀aA:Int,(-2)<=aA->aA<=9223372036854775807->
      ad 22 [aE,0,((z4+(18446744073709551616*z12))+(-1))]/\
      ∀aF:Int,0<=aF->aF<=au->aF=aa 22 [aE,0,((z4+(18446744073709551616*z12))+(-1))]->
      K [[z0],[af]] [[aF],[0]]
      )
     ))
    )/\(
     ∀z9:Int,0<=z9->z9<=1->0<=(ak+9223372036854775809)-18446744073709551616*z9->(ak+9223372036854775809)-18446744073709551616*z9<18446744073709551616->
     ad 32 [((ak+((-18446744073709551616)*z9))+1),z4,z4]/\
     (ad 68 [z4,z3]->
     ∀ao:Int,0<=ao->ao<=9223372036854775809->ao=aa 33 [0,((ak+((-18446744073709551616)*z9))+1),z3]->
     ad 22 [z0,0,ak]/\
     ad 23 [0,ak]/\
     ∀ax:Int,0<=ax->ax<=au->ax=aa 22 [z0,0,ak]->
     ∀z12:Int,0<=z12->z12<=au->z12=aa 24 [0,ax]->
     (((decide (ak<=0))=true->
      ad 22 [z0,ao,((z4+(((-1)*ak)+((18446744073709551616*z9)+ao)))+(-1))]/\
      ad 23 [0,((z4+(((-1)*ak)+(18446744073709551616*z9)))+(-1))]/\
      ∀aj:Int,0<=aj->aj<=au->aj=aa 22 [z0,ao,((z4+(((-1)*ak)+((18446744073709551616*z9)+ao)))+(-1))]->
      ∀aw:Int,0<=aw->aw<=au->aw=aa 24 [0,aj]->
      (((decide (((z4+(((-1)*ak)+(18446744073709551616*z9)))+(-1))<=0))=true->
       K [[z0],[af]] [[0],[0]]
      )/\((decide (((z4+(((-1)*ak)+(18446744073709551616*z9)))+(-1))<=0))=false->
       ∀aE:Int,(-2)<=aE->aE<=9223372036854775807->
       ad 22 [aw,0,((z4+(((-1)*ak)+(18446744073709551616*z9)))+(-1))]/\
       ∀aA:Int,0<=aA->aA<=au->aA=aa 22 [aw,0,((z4+(((-1)*ak)+(18446744073709551616*z9)))+(-1))]->
       K [[z0],[af]] [[aA],[0]]
      ))
     )/\((decide (ak<=0))=false->
      ∀aj:Int,(-2)<=aj->aj<=9223372036854775807->
      ad 31 [z12,ak]/\
      ad 22 [z0,ao,((z4+(((-1)*ak)+((18446744073709551616*z9)+ao)))+(-1))]/\
      ad 23 [z12,((z4+(((-1)*ak)+(18446744073709551616*z9)))+(-1))]/\
      ∀aw:Int,0<=aw->aw<=au->aw=aa 22 [z0,ao,((z4+(((-1)*ak)+((18446744073709551616*z9)+ao)))+(-1))]->
      ∀aE:Int,0<=aE->aE<=au->aE=aa 24 [z12,aw]->
      ∀aA:Int,(-2)<=aA->aA<=9223372036854775807->
      ad 22 [aE,0,((z4+(18446744073709551616*z9))+(-1))]/\
      ∀aF:Int,0<=aF->aF<=au->aF=aa 22 [aE,0,((z4+(18446744073709551616*z9))+(-1))]->
      K [[z0],[af]] [[aF],[0]]
     ))
     )
    ))
   )/\(
    ∀z9:Int,0<=z9->z9<=1->0<=(ak+9223372036854775809)-18446744073709551616*z9->(ak+9223372036854775809)-18446744073709551616*z9<18446744073709551616->
    ad 32 [((ak+((-18446744073709551616)*z9))+1),z4,z4]/\
    (ad 68 [z4,z3]->
    ∀ao:Int,0<=ao->ao<=9223372036854775809->ao=aa 33 [0,((ak+((-18446744073709551616)*z9))+1),z3]->
    ad 22 [z0,0,ak]/\
    ad 23 [0,ak]/\
    ∀ax:Int,0<=ax->ax<=au->ax=aa 22 [z0,0,ak]->
    ∀z12:Int,0<=z12->z12<=au->z12=aa 24 [0,ax]->
    (((decide (ak<=0))=true->
     ad 22 [z0,ao,((z4+(((-1)*ak)+((18446744073709551616*z9)+ao)))+(-1))]/\
     ad 23 [0,((z4+(((-1)*ak)+(18446744073709551616*z9)))+(-1))]/\
     ∀aj:Int,0<=aj->aj<=au->aj=aa 22 [z0,ao,((z4+(((-1)*ak)+((18446744073709551616*z9)+ao)))+(-1))]->
     ∀aw:Int,0<=aw->aw<=au->aw=aa 24 [0,aj]->
     (((decide (((z4+(((-1)*ak)+(18446744073709551616*z9)))+(-1))<=0))=true->
      K [[z0],[af]] [[0],[0]]
     )/\((decide (((z4+(((-1)*ak)+(18446744073709551616*z9)))+(-1))<=0))=false->
      ∀aE:Int,(-2)<=aE->aE<=9223372036854775807->
      ad 22 [aw,0,((z4+(((-1)*ak)+(18446744073709551616*z9)))+(-1))]/\
      ∀aA:Int,0<=aA->aA<=au->aA=aa 22 [aw,0,((z4+(((-1)*ak)+(18446744073709551616*z9)))+(-1))]->
      K [[z0],[af]] [[aA],[0]]
     ))
    )/\((decide (ak<=0))=false->
     ∀aj:Int,(-2)<=aj->aj<=9223372036854775807->
     ad 31 [z12,ak]/\
     ad 22 [z0,ao,((z4+(((-1)*ak)+((18446744073709551616*z9)+ao)))+(-1))]/\
     ad 23 [z12,((z4+(((-1)*ak)+(18446744073709551616*z9)))+(-1))]/\
     ∀aw:Int,0<=aw->aw<=au->aw=aa 22 [z0,ao,((z4+(((-1)*ak)+((18446744073709551616*z9)+ao)))+(-1))]->
     ∀aE:Int,0<=aE->aE<=au->aE=aa 24 [z12,aw]->
     ∀aA:Int,(-2)<=aA->aA<=9223372036854775807->
     ad 22 [aE,0,((z4+(18446744073709551616*z9))+(-1))]/\
     ∀aF:Int,0<=aF->aF<=au->aF=aa 22 [aE,0,((z4+(18446744073709551616*z9))+(-1))]->
     K [[z0],[af]] [[aF],[0]]
    ))
    )
   ))
  ))
 ))
def F8 (S:Nat->List (List Int)->List (List Int)->Prop) (K:List (List Int)->List (List Int)->Prop):Prop:=
 ∀z0:Int,0<=z0->z0<=au->
 (ad 85 [z0]->
 ∀af:Int,0<=af->
 ∀z2:Int,(-2)<=z2->z2<=9223372036854775807->
 ∀z3:Int,0<=z3->z3<=9223372036854775807->z3=aa 20 [z0]->
 ∃(eE:List (List Int)->Prop) (eb:List (List Int)->Nat),eE [[0],[0],[0],[(-1)]]/\(∀z5:Int,0<=z5->z5<=9223372036854775807->∀ai:Int,0<=ai->ai<=au->∀aq:Int,0<=aq->aq<=9223372036854775807->∀ak:Int,(-2)<=ak->ak<=9223372036854775807->eE [[z5],[ai],[aq],[ak]]->
  (((decide (z5<z3))=true->
   ad 30 [z5,z3]/\
   ad 21 [z0,z5]/\
   ∀z9:Int,0<=z9->z9<=aC->z9=aa 21 [z0,z5,0]->
   ∀ao:Int,0<=ao->ao<=aC->ao=aa 21 [z0,z5,1]->
   ∀ax:Int,0<=ax->ax<=bR->ax=aa 21 [z0,z5,2]->
   ∀z12:Int,0<=z12->
   ∀aj:Int,(-2)<=aj->aj<=9223372036854775807->
   ∀aw:Int,0<=aw->aw<=140737488351232->aw=aa 20 [ax]->
   ad 22 [ax,0,aw]/\
   ad 23 [0,aw]/\
   ∀aE:Int,0<=aE->aE<=au->aE=aa 22 [ax,0,aw]->
   ∀aA:Int,0<=aA->aA<=au->aA=aa 24 [0,aE]->
   (((decide (aw<=0))=true->
    ad 31 [ai,aq]/\
    ad 23 [ai,1]/\
    ∀aF:Int,0<=aF->aF<=au->aF=aa 23 [ai,z9,ao,0]->
    ∀aK:Int,(-2)<=aK->aK<=9223372036854775807->
    ∀aN:Int,0<=aN->aN<=1->0<=(z5+9223372036854775809)-18446744073709551616*aN->(z5+9223372036854775809)-18446744073709551616*aN<18446744073709551616->
    ad 39 [((z5+((-18446744073709551616)*aN))+1),0,9223372036854775807]/\
    (eE [[((z5+((-18446744073709551616)*aN))+1)],[aF],[(aq+1)],[aK]]/\eb [[((z5+((-18446744073709551616)*aN))+1)],[aF],[(aq+1)],[aK]]<eb [[z5],[ai],[aq],[ak]])
   )/\((decide (aw<=0))=false->
    ∀aF:Int,(-2)<=aF->aF<=9223372036854775807->
    ad 31 [ai,aq]/\
    ad 23 [ai,1]/\
    ad 22 [aA,0,aw]/\
    ad 79 [aw,140737488351232]/\
    ∀aK:Int,0<=aK->aK<=bR->aK=aa 22 [aA,0,aw]->
    ∀aN:Int,0<=aN->aN<=au->aN=aa 23 [ai,z9,ao,aK]->
    ∀z20:Int,(-2)<=z20->z20<=9223372036854775807->
    ∀z21:Int,0<=z21->z21<=1->0<=(z5+9223372036854775809)-18446744073709551616*z21->(z5+9223372036854775809)-18446744073709551616*z21<18446744073709551616->
    ad 39 [((z5+((-18446744073709551616)*z21))+1),0,9223372036854775807]/\
    (eE [[((z5+((-18446744073709551616)*z21))+1)],[aN],[(aq+1)],[z20]]/\eb [[((z5+((-18446744073709551616)*z21))+1)],[aN],[(aq+1)],[z20]]<eb [[z5],[ai],[aq],[ak]])
   ))
  )/\((decide (z5<z3))=false->
   ad 22 [ai,0,aq]/\
   ∀z9:Int,0<=z9->z9<=au->z9=aa 22 [ai,0,aq]->
   K [[z0]] [[z9]]
  ))
 )
 )
abbrev iM:bN:= .rd [.str,.str,.sub 1]
theorem AW {id:Nat} {zs:List (List Int)} {y e:Int} (de:0<=y) (cZ:y<=au) (cA:0<=e) (e1:e<=21) (h:SB id zs [[y],[e]]):cz SB [iM,.d (.int .i64 0 21)] id zs [[y],[e]]:=⟨⟨de,cZ,cA,e1,trivial⟩,h⟩
theorem FA {c a b y:Int} (h:y=aa 22 [c,a,b]):ae y=((ae c).drop a.toNat).take (b.toNat-a.toNat):=by rw[h];simp only[aa,dO]
theorem mX {c d y:Int} (h:y=aa 24 [c,d]):ae y=ae c++ae d:=by rw[h];simp only[aa,dO]
theorem As {c y:Int} {row:List Int} (h:y=aa 23 (c::row)):ae y=ae c++[row]:=by rw[h];simp only[aa,dO]
theorem Y0 (a b:Int):gT [a,b,0]=⟨ab a,ab b,[]⟩:=by
 unfold gT aH
 show(⟨ab a,ab b,(ae 0).map λr=>ab (r.getD 0 0)⟩:du)=_
 rw[dW];rfl
theorem Av {z:Int} {l:List (List Int)} (h:ae z=l):aB z=l.map gT:=by unfold aB;rw[h]
theorem jo {z k:Int} {n:Nat} (h:(ae z).length=n) (hk:(n:Int)+k<=1073741824):ad 23 [z,k]:=by show((ae z).length:Int)+k<=1073741824;rw[h];exact hk
theorem Ye {p:du->Bool} {l:List du} {i:Nat} (hi:i<=l.length) (h:∀j,j<i->p (l.getD j cg)=true) (hs:i<l.length->p (l.getD i cg)=false):l.takeWhile p=l.take i/\l.dropWhile p=l.drop i:=by
 have e:l=l.take i++l.drop i:=(List.take_append_drop i l).symm
 have ha:∀x∈l.take i,p x=true:=λx hx=>by
  obtain⟨j,hj,rfl⟩:=List.getElem_of_mem hx
  rw[List.length_take]at hj
  have:=h j (by omega)
  rw[List.getElem_take]
  simpa [List.getD,show j<l.length by omega]using this
 have hd:(l.drop i).takeWhile p=[]/\(l.drop i).dropWhile p=l.drop i:=by
  rcases Nat.lt_or_ge i l.length with hl|hl
  ·have h1:l.drop i=l[i]::l.drop (i+1):=List.drop_eq_getElem_cons hl
   have h2:=hs hl
   simp only[List.getD,List.getElem?_eq_getElem hl,Option.getD_some]at h2
   rw[h1,List.takeWhile_cons,List.dropWhile_cons,h2];simp
  ·rw[List.drop_eq_nil_of_le hl];simp
 constructor
 ·conv=>lhs;rw[e]
  rw[List.takeWhile_append_of_pos ha,hd.1,List.append_nil]
 ·conv=>lhs;rw[e]
  rw[List.dropWhile_append_of_pos ha,hd.2]
theorem Ap {z0 c w e a:Int} {i:Nat} {n:Int} (hn:n=((ae z0).length:Int)) (ha:a=(i:Int)) (hi:i<=(ae z0).length) (hc:ad 68 [n,c]) (hw:w=aa 33 [0,a,c]) (he:e=n-i+w):ad 22 [z0,w,e]/\∀y:Int,y=aa 22 [z0,w,e]->ae y=(ae z0).drop i:=by
 have hc:n<=c∨n=0:=hc
 have hw:w=if a=c then 0 else 0+a:=hw
 have hx:(w=0/\i=(ae z0).length)∨w=(i:Int):=by
  split at hw
  ·rcases hc with h|h
   ·exact .inl ⟨hw,by omega⟩
   ·exact .inl ⟨hw,by omega⟩
  ·exact .inr (by omega)
 rcases hx with⟨h,h'⟩|h
 ·refine⟨⟨by omega,by omega,by omega⟩,λy hy=>?_⟩
  rw[FA hy,show e.toNat-w.toNat=0 by omega,List.take_zero,h',List.drop_length]
 ·refine⟨⟨by omega,by omega,by omega⟩,λy hy=>?_⟩
  rw[FA hy,h,Int.toNat_natCast,List.take_of_length_le (by rw[List.length_drop];omega)]
theorem Jg {z0 y a:Int} {i:Nat} (ha:a=(i:Int)) (h:y=aa 22 [z0,0,a]):ae y=(ae z0).take i:=by
 rw[FA h,ha];simp
theorem V5:Ga SB (cz SB [iM,.d (.int .i64 0 21)] 532):=by
 intro z0 a0 a1 af b0 b1 z2 bY c1 z3 _ z4 _ _ z5 _ _ h5
 have h5:z5=((ae z0).length:Int):=h5
 have cX:ad 22 [z0,0,z5]:=⟨by omega,by omega,by omega⟩
 have hl:=fD z0
 have bc:∀{y e:Int},0<=y->y<=au->0<=e->e<=21->(aB y,e)=jD (aB z0) (ab af) (ab z2)->cz SB [iM,.d (.int .i64 0 21)] 532 [[z0],[af],[z2]] [[y],[e]]:=λh1 h2 h3 h4 h=>AW h1 h2 h3 h4 h
 refine⟨cX,λai _ _ h6 aq _ _ h7=>?_⟩
 have h7:aq=aT (c4 (aB ai)):=h7
 rw[dr h5 h6]at h7
 have rr:=ek h7
 have Ej:(c4 (aB z0)&&(cf (ab af)&&gn (ab z2)))=false->ad 22 [z0,0,z5]/\∀y:Int,0<=y->y<=au->y=aa 22 [z0,0,z5]->cz SB [iM,.d (.int .i64 0 21)] 532 [[z0],[af],[z2]] [[y],[1]]:=λh=>⟨cX,λy de cZ hy=>bc de cZ (by decide) (by decide) (by rw[dr h5 hy];unfold jD;rw[h];rfl)⟩
 refine⟨λhn=>Ej (by rw[<-rr,eF hn];rfl),λhn ak _ _ bC=>?_⟩
 have bC:ak=aT (cf (ab af)):=bC
 have I9:=ek bC
 refine⟨λhs=>Ej (by rw[<-I9,eF hs];simp),λhs z9 _ _ bm=>?_⟩
 have bm:z9=aT (gn (ab z2)):=bm
 have Ja:=ek bm
 refine⟨λhm=>Ej (by rw[<-Ja,eF hm];simp),λhm=>⟨cX,λao _ _ dp ax _ _ cx=>?_⟩⟩
 have hr:c4 (aB z0)=true:=by rw[<-rr];exact dM hn
 have hall:(c4 (aB z0)&&(cf (ab af)&&gn (ab z2)))=true:=by rw[hr,<-I9,dM hs,<-Ja,dM hm];rfl
 have cx:ax=match(aB ao).findIdx? (λu=>decide (u.tok=ab af))with|some k=>(k:Int)|none=>-1:=cx
 rw[dr h5 dp]at cx
 refine⟨λhp=>⟨cX,λy de cZ hy=>bc de cZ (by decide) (by decide) ?_⟩,λhp=>?_⟩
 ·rw[dr h5 hy]
  unfold jD
  rw[hall,cond_true]
  cases hf:(aB z0).findIdx? (λu=>decide (u.tok=ab af))with
  |none=>rw[hf]at cx;subst cx;exact absurd hp (by decide)
  |some k=>rfl
 have wo:((aB z0).findIdx? (λu=>decide (u.tok=ab af))).isSome=false:=by
  cases hf:(aB z0).findIdx? (λu=>decide (u.tok=ab af))with
  |none=>rfl
  |some k=>
   rw[hf]at cx
   have:=of_decide_eq_false hp
   have cx:ax=(k:Int):=cx
   omega
 refine⟨λeP=>⟨cX,λy de cZ hy=>bc de cZ (by decide) (by decide) ?_⟩,λeP=>?_⟩
 ·rw[dr h5 hy]
  unfold jD
  rw[hall,cond_true,wo,cond_false,decide_eq_true (show(aB z0).length=16 by have:=of_decide_eq_true eP;omega)];rfl
 have eP:=of_decide_eq_false eP
 have hle:(ae z0).length<=16:=by
  have:=((xm _).1 hr).1
  omega
 have done:∀i:Nat,i<=(ae z0).length->(∀j,j<i->Op.bytesLess ((aB z0).getD j cg).tok (ab af)=true)->(i<(ae z0).length->Op.bytesLess ((aB z0).getD i cg).tok (ab af)=false)->∀y:Int,0<=y->y<=au->ae y=(ae z0).take i++[af,z2,0]::(ae z0).drop i->cz SB [iM,.d (.int .i64 0 21)] 532 [[z0],[af],[z2]] [[y],[0]]:=λi hi h1 h2 y de cZ hy=>bc de cZ (by decide) (by decide) (by
  obtain⟨t1,t2⟩:=Ye (p:=λu=>Op.bytesLess u.tok (ab af)) (l:=aB z0) (i:=i) (by omega) h1 (λh=>h2 (by omega))
  unfold jD
  rw[hall,cond_true,wo,cond_false,decide_eq_false (show ¬(aB z0).length=16 by omega),cond_false,t1,t2,Av hy,List.map_append,List.map_cons,Y0]
  unfold aB
  rw[List.map_take,List.map_drop])
 refine⟨λbl=>∃i:Nat,bl=[[(i:Int)]]/\i<=(ae z0).length/\∀j:Nat,j<i->Op.bytesLess ((aB z0).getD j cg).tok (ab af)=true,kY z0,⟨0,rfl,Nat.zero_le _,λj hj=>absurd hj (Nat.not_lt_zero j)⟩,?_⟩
 rintro aj d0 d1 ⟨i,e,hi,hI⟩
 obtain rfl:aj=i:=by simpa using e
 have GC:(i<(ae z0).length->Op.bytesLess ((aB z0).getD i cg).tok (ab af)=false)->ad 68 [z5,z4]->∀aw:Int,0<=aw->aw<=9223372036854775809->aw=aa 33 [0,(i:Int),z4]->(
  ad 22 [z0,0,(i:Int)]/\
  ad 23 [0,(i:Int)]/\
  ∀aE:Int,0<=aE->aE<=au->aE=aa 22 [z0,0,(i:Int)]->
  ∀aA:Int,0<=aA->aA<=au->aA=aa 24 [0,aE]->
  (((decide ((i:Int)<=0))=true->
   ad 23 [0,1]/\
   ∀aF:Int,0<=aF->aF<=au->aF=aa 23 [0,af,z2,0]->
   ∀aK:Int,(-2)<=aK->aK<=9223372036854775807->
   ad 31 [aF,1]/\
   ad 22 [z0,aw,(z5+(((-1)*(i:Int))+aw))]/\
   ad 23 [aF,(z5+((-1)*(i:Int)))]/\
   ∀aN:Int,0<=aN->aN<=au->aN=aa 22 [z0,aw,(z5+(((-1)*(i:Int))+aw))]->
   ∀z20:Int,0<=z20->z20<=au->z20=aa 24 [aF,aN]->
   ∀z21:Int,(-2)<=z21->z21<=9223372036854775807->
   ad 22 [z20,0,((z5+((-1)*(i:Int)))+1)]/\
   ∀aJ:Int,0<=aJ->aJ<=au->aJ=aa 22 [z20,0,((z5+((-1)*(i:Int)))+1)]->
   cz SB [iM,.d (.int .i64 0 21)] 532 [[z0],[af],[z2]] [[aJ],[0]]
  )/\((decide ((i:Int)<=0))=false->
   ∀aF:Int,(-2)<=aF->aF<=9223372036854775807->
   ad 31 [aA,(i:Int)]/\
   ad 23 [aA,1]/\
   ∀aK:Int,0<=aK->aK<=au->aK=aa 23 [aA,af,z2,0]->
   ∀aN:Int,(-2)<=aN->aN<=9223372036854775807->
   ad 31 [aK,((i:Int)+1)]/\
   ad 22 [z0,aw,(z5+(((-1)*(i:Int))+aw))]/\
   ad 23 [aK,(z5+((-1)*(i:Int)))]/\
   ∀z20:Int,0<=z20->z20<=au->z20=aa 22 [z0,aw,(z5+(((-1)*(i:Int))+aw))]->
   ∀z21:Int,0<=z21->z21<=au->z21=aa 24 [aK,z20]->
   ∀aJ:Int,(-2)<=aJ->aJ<=9223372036854775807->
   ad 22 [z21,0,(z5+1)]/\
   ∀aQ:Int,0<=aQ->aQ<=au->aQ=aa 22 [z21,0,(z5+1)]->
   cz SB [iM,.d (.int .i64 0 21)] 532 [[z0],[af],[z2]] [[aQ],[0]]
  ))):=λJO hc w _ _ hw=>by
  obtain⟨oV,mV⟩:=Ap (e:=z5+(((-1)*(i:Int))+w)) h5 rfl hi hc hw (by omega)
  refine⟨⟨by omega,by omega,by omega⟩,jo (n:=0) (by rw[dW];rfl) (by omega),λaE _ _ c6 aA _ _ eP=>?_⟩
  have qU:ae aE=(ae z0).take i:=Jg rfl c6
  have qV:ae aA=(ae z0).take i:=by rw[mX eP,dW,List.nil_append,qU]
  have DS:(ae aA).length=i:=by rw[qV,List.length_take];omega
  refine⟨λhz=>?_,λhz aF _ _=>?_⟩
  ·have hz:=of_decide_eq_true hz
   have i0:i=0:=by omega
   subst i0
   refine⟨jo (n:=0) (by rw[dW];rfl) (by decide),λaF _ _ fy aK _ _=>?_⟩
   have BT:ae aF=[[af,z2,0]]:=by rw[As fy,dW];rfl
   refine⟨by show(1:Int)=((ae aF).length:Int);rw[BT];rfl,oV,jo (n:=1) (by rw[BT];rfl) (by omega),λaN _ _ lf z20 _ _ kE z21 _ _=>?_⟩
   have HW:ae z20=[af,z2,0]::ae z0:=by rw[mX kE,BT,mV _ lf];rfl
   have aaC:(ae z20).length=(ae z0).length+1:=by rw[HW];rfl
   refine⟨⟨by omega,by omega,by omega⟩,λy de cZ hy=>done 0 (Nat.zero_le _) hI JO y de cZ ?_⟩
   rw[mU (by omega) hy,HW];rfl
  ·refine⟨by show(i:Int)=((ae aA).length:Int);rw[DS],jo DS (by omega),λaK _ _ gG aN _ _=>?_⟩
   have vy:ae aK=(ae z0).take i++[[af,z2,0]]:=by rw[As gG,qV]
   have Kn:(ae aK).length=i+1:=by rw[vy,List.length_append,<-qV,DS];rfl
   refine⟨by show(i:Int)+1=((ae aK).length:Int);rw[Kn];omega,oV,jo Kn (by omega),λz20 _ _ kE z21 _ _ pq aJ _ _=>?_⟩
   have HX:ae z21=(ae z0).take i++[af,z2,0]::(ae z0).drop i:=by rw[mX pq,vy,mV _ kE,List.append_assoc];rfl
   have aaD:(ae z21).length=(ae z0).length+1:=by rw[HX,List.length_append,List.length_cons,List.length_take,List.length_drop];omega
   refine⟨⟨by omega,by omega,by omega⟩,λy de cZ hy=>done i hi hI JO y de cZ ?_⟩
   rw[mU (by omega) hy,HX]
 refine⟨λhlt=>?_,λcu=>⟨⟨by omega,by omega,by omega⟩,⟨by omega,by omega,by omega⟩,λhc w w0 w1 hw=>(λx=>⟨⟨x,⟨x,x⟩⟩,⟨⟨x,x⟩,x⟩⟩) (GC (λh=>by have:=of_decide_eq_false cu;omega) hc w w0 w1 hw)⟩⟩
 have hlt:=of_decide_eq_true hlt
 have bM:i<(ae z0).length:=by omega
 refine⟨⟨by omega,by omega⟩,⟨by omega,by omega⟩,λaw _ _ ct aE _ _ c6=>?_⟩
 have ct:ab aw=((aB z0).getD i cg).tok:=by rw[ks bM,ct];simp only[aa,Int.toNat_natCast];rfl
 have c6:=wW c6
 rw[ct]at c6
 refine⟨λhq aA x0 x1 cT dk=>⟨⟨by omega,by omega⟩,⟨i+1,by rw[show(i:Int)+(-18446744073709551616)*aA+1=((i+1:Nat):Int) by omega],by omega,λj hj=>?_⟩,?_⟩,λhq=>⟨⟨by omega,by omega,by omega⟩,⟨by omega,by omega,by omega⟩,λhc w w0 w1 hw=>(λx=>⟨⟨x,⟨x,x⟩⟩,⟨⟨x,x⟩,x⟩⟩) (GC (λ_=>by rw[<-c6];exact hq) hc w w0 w1 hw)⟩⟩
 ·rcases Nat.lt_or_ge j i with h|h
  ·exact hI j h
  ·obtain rfl:j=i:=by omega
   rw[<-c6];exact hq
 ·show(ae z0).length-((i:Int)+(-18446744073709551616)*aA+1).toNat<(ae z0).length-((i:Int)).toNat;omega
theorem V4:F9 SB (cz SB [iM,.d (.int .i64 0 21)] 533):=by
 intro z0 a0 a1 af b0 b1 z2 _ z3 _ _ z4 _ _ h4
 have h4:z4=((ae z0).length:Int):=h4
 have cX:ad 22 [z0,0,z4]:=⟨by omega,by omega,by omega⟩
 have hl:=fD z0
 have bc:∀{y e:Int},0<=y->y<=au->0<=e->e<=21->(aB y,e)=l3 (aB z0) (ab af)->cz SB [iM,.d (.int .i64 0 21)] 533 [[z0],[af]] [[y],[e]]:=λh1 h2 h3 h4 h=>AW h1 h2 h3 h4 h
 refine⟨cX,λz5 _ _ h5 ai _ _ h6=>?_⟩
 have h6:ai=aT (c4 (aB z5)):=h6
 rw[dr h4 h5]at h6
 have pB:=ek h6
 refine⟨λhn=>⟨cX,λy de cZ hy=>bc de cZ (by decide) (by decide) ?_⟩,λhn=>⟨cX,λaq _ _ h7 ak _ _ bC=>?_⟩⟩
 ·rw[dr h4 hy]
  unfold l3
  rw[zp (by rw[<-pB,eF hn])];rfl
 have hr:c4 (aB z0)=true:=by rw[<-pB];exact dM hn
 have hle:(ae z0).length<=16:=by
  have:=((xm _).1 hr).1
  omega
 have bC:ak=match(aB aq).findIdx? (λu=>decide (u.tok=ab af))with|some k=>(k:Int)|none=>-1:=bC
 rw[dr h4 h7]at bC
 obtain⟨p1,bz⟩:=zS hr bC
 refine⟨λhq=>⟨cX,λy de cZ hy=>bc de cZ (by decide) (by decide) ?_⟩,λhq=>?_⟩
 ·rw[dr h4 hy]
  unfold l3
  rw[p1 (of_decide_eq_true hq)];rfl
 obtain⟨q1,q2,q3⟩:=bz (of_decide_eq_false hq)
 rw[fD]at q3
 obtain⟨k,rfl⟩:=Int.eq_ofNat_of_zero_le q2
 have jN:k<(ae z0).length:=by omega
 have done:∀y:Int,0<=y->y<=au->ae y=(ae z0).take k++(ae z0).drop (k+1)->cz SB [iM,.d (.int .i64 0 21)] 533 [[z0],[af]] [[y],[0]]:=λy de cZ hy=>bc de cZ (by decide) (by decide) (by
  unfold l3
  rw[q1,Av hy,List.map_append]
  unfold aB
  rw[List.map_take,List.map_drop];rfl)
 have Kl:ad 22 [z0,0,(k:Int)]:=⟨by omega,by omega,by omega⟩
 have tS:ad 23 [0,(k:Int)]:=jo (n:=0) (by rw[dW];rfl) (by omega)
 have h0:∀{a b:Int},a=aa 22 [z0,0,(k:Int)]->b=aa 24 [0,a]->ae b=(ae z0).take k/\(ae b).length=k:=λ{a b} ha hb=>by
  have e:ae b=(ae z0).take k:=by rw[mX hb,dW,List.nil_append,Jg rfl ha]
  exact⟨e,by rw[e,List.length_take];omega⟩
 have qn:∀{b n y:Int},ae b=(ae z0).take k++(ae z0).drop (k+1)->n=((ae z0).length:Int)-1->ad 22 [b,0,n]/\(y=aa 22 [b,0,n]->ae y=(ae z0).take k++(ae z0).drop (k+1)):=λ{b n y} hb hn=>by
  have l:(ae b).length+1=(ae z0).length:=by rw[hb,List.length_append,List.length_take,List.length_drop];omega
  exact⟨⟨by omega,by omega,by omega⟩,λhy=>by rw[mU (by omega) hy,hb]⟩
 have A:∀v:Int,0<=v->v<=1->0<=((k:Int)+9223372036854775809)-18446744073709551616*v->((k:Int)+9223372036854775809)-18446744073709551616*v<18446744073709551616->v=0:=λv h1 h2 h3 h4=>by omega
 have kV:∀z9:Int,0<=z9->z9<=1->0<=((k:Int)+9223372036854775809)-18446744073709551616*z9->((k:Int)+9223372036854775809)-18446744073709551616*z9<18446744073709551616->(
  ad 32 [(((k:Int)+((-18446744073709551616)*z9))+1),z4,z4]/\
  (ad 68 [z4,z3]->
  ∀ao:Int,0<=ao->ao<=9223372036854775809->ao=aa 33 [0,(((k:Int)+((-18446744073709551616)*z9))+1),z3]->
  ad 22 [z0,0,(k:Int)]/\
  ad 23 [0,(k:Int)]/\
  ∀ax:Int,0<=ax->ax<=au->ax=aa 22 [z0,0,(k:Int)]->
  ∀z12:Int,0<=z12->z12<=au->z12=aa 24 [0,ax]->
  (((decide ((k:Int)<=0))=true->
   ad 22 [z0,ao,((z4+(((-1)*(k:Int))+((18446744073709551616*z9)+ao)))+(-1))]/\
   ad 23 [0,((z4+(((-1)*(k:Int))+(18446744073709551616*z9)))+(-1))]/\
   ∀aj:Int,0<=aj->aj<=au->aj=aa 22 [z0,ao,((z4+(((-1)*(k:Int))+((18446744073709551616*z9)+ao)))+(-1))]->
   ∀aw:Int,0<=aw->aw<=au->aw=aa 24 [0,aj]->
   (((decide (((z4+(((-1)*(k:Int))+(18446744073709551616*z9)))+(-1))<=0))=true->
    cz SB [iM,.d (.int .i64 0 21)] 533 [[z0],[af]] [[0],[0]]
   )/\((decide (((z4+(((-1)*(k:Int))+(18446744073709551616*z9)))+(-1))<=0))=false->
    ∀aE:Int,(-2)<=aE->aE<=9223372036854775807->
    ad 22 [aw,0,((z4+(((-1)*(k:Int))+(18446744073709551616*z9)))+(-1))]/\
    ∀aA:Int,0<=aA->aA<=au->aA=aa 22 [aw,0,((z4+(((-1)*(k:Int))+(18446744073709551616*z9)))+(-1))]->
    cz SB [iM,.d (.int .i64 0 21)] 533 [[z0],[af]] [[aA],[0]]
   ))
  )/\((decide ((k:Int)<=0))=false->
   ∀aj:Int,(-2)<=aj->aj<=9223372036854775807->
   ad 31 [z12,(k:Int)]/\
   ad 22 [z0,ao,((z4+(((-1)*(k:Int))+((18446744073709551616*z9)+ao)))+(-1))]/\
   ad 23 [z12,((z4+(((-1)*(k:Int))+(18446744073709551616*z9)))+(-1))]/\
   ∀aw:Int,0<=aw->aw<=au->aw=aa 22 [z0,ao,((z4+(((-1)*(k:Int))+((18446744073709551616*z9)+ao)))+(-1))]->
   ∀aE:Int,0<=aE->aE<=au->aE=aa 24 [z12,aw]->
   ∀aA:Int,(-2)<=aA->aA<=9223372036854775807->
   ad 22 [aE,0,((z4+(18446744073709551616*z9))+(-1))]/\
   ∀aF:Int,0<=aF->aF<=au->aF=aa 22 [aE,0,((z4+(18446744073709551616*z9))+(-1))]->
   cz SB [iM,.d (.int .i64 0 21)] 533 [[z0],[af]] [[aF],[0]]
  ))
  )):=λv v0 v1 v2 v3=>by
  have hv:=A v v0 v1 v2 v3
  subst hv
  refine⟨⟨by omega,by omega,by omega⟩,λhc w _ _ hw=>⟨Kl,tS,λax _ _ cx z12 _ _ dh=>?_⟩⟩
  obtain⟨BS,wV⟩:=h0 cx dh
  obtain⟨oV,mV⟩:=Ap (i:=k+1) (e:=(z4+(((-1)*(k:Int))+((18446744073709551616*0)+w)))+(-1)) h4 (by omega) (by omega) hc hw (by omega)
  refine⟨λhz=>?_,λhz aj _ _=>?_⟩
  ·have hz:=of_decide_eq_true hz
   have i0:k=0:=by omega
   subst i0
   refine⟨oV,jo (n:=0) (by rw[dW];rfl) (by omega),λaj _ _ eU aw _ _ ct=>?_⟩
   have vx:ae aw=(ae z0).take 0++(ae z0).drop (0+1):=by rw[mX ct,dW,mV _ eU];rfl
   refine⟨λhy=>?_,λhy aE _ _=>⟨(qn (y:=0) vx (by omega)).1,λy de cZ al=>done y de cZ ((qn vx (by omega)).2 al)⟩⟩
   have hy:=of_decide_eq_true hy
   exact done 0 (Int.le_refl _) o6 (by rw[dW,List.take_zero,List.nil_append,List.drop_eq_nil_of_le (by omega)])
  ·refine⟨by show(k:Int)=((ae z12).length:Int);rw[wV],oV,jo wV (by omega),λaw _ _ ct aE _ _ c6 aA _ _=>?_⟩
   have qU:ae aE=(ae z0).take k++(ae z0).drop (k+1):=by rw[mX c6,BS,mV _ ct]
   exact⟨(qn (y:=0) qU (by omega)).1,λy de cZ al=>done y de cZ ((qn qU (by omega)).2 al)⟩
 refine⟨⟨by omega,by omega,by omega⟩,⟨⟨Kl,tS,λz9 _ _ bm ao _ _ dp=>?_⟩,kV⟩,kV⟩
 obtain⟨BS,wV⟩:=h0 bm dp
 refine⟨λhz ax x0 x1 cT dk=>?_,λhz ax _ _ z12 x0 x1 cT dk=>?_⟩
 ·obtain rfl:=A ax x0 x1 cT dk
  refine⟨⟨by omega,by omega,by omega⟩,λhc w _ _ hw=>?_⟩
  obtain⟨oV,mV⟩:=Ap (i:=k+1) (e:=(z4+(((-1)*(k:Int))+((18446744073709551616*0)+w)))+(-1)) h4 (by omega) (by omega) hc hw (by omega)
  have hz:=of_decide_eq_true hz
  have i0:k=0:=by omega
  subst i0
  refine⟨oV,jo (n:=0) (by rw[dW];rfl) (by omega),λaj _ _ eU aw _ _ ct=>?_⟩
  have vx:ae aw=(ae z0).take 0++(ae z0).drop (0+1):=by rw[mX ct,dW,mV _ eU];rfl
  refine⟨λhy=>?_,λhy aE _ _=>⟨(qn (y:=0) vx (by omega)).1,λy de cZ al=>done y de cZ ((qn vx (by omega)).2 al)⟩⟩
  have hy:=of_decide_eq_true hy
  exact done 0 (Int.le_refl _) o6 (by rw[dW,List.take_zero,List.nil_append,List.drop_eq_nil_of_le (by omega)])
 ·obtain rfl:=A z12 x0 x1 cT dk
  refine⟨⟨by omega,by omega,by omega⟩,λhc w _ _ hw=>?_⟩
  obtain⟨oV,mV⟩:=Ap (i:=k+1) (e:=(z4+(((-1)*(k:Int))+((18446744073709551616*0)+w)))+(-1)) h4 (by omega) (by omega) hc hw (by omega)
  refine⟨by show(k:Int)=((ae ao).length:Int);rw[wV],oV,jo wV (by omega),λaw _ _ ct aE _ _ c6 aA _ _=>?_⟩
  have qU:ae aE=(ae z0).take k++(ae z0).drop (k+1):=by rw[mX c6,BS,mV _ ct]
  exact⟨(qn (y:=0) qU (by omega)).1,λy de cZ al=>done y de cZ ((qn qU (by omega)).2 al)⟩
theorem V3:F8 SB (cz SB [iM] 539):=by
 intro z0 a0 a1 fU af _ z2 _ _ z3 _ c1 h3
 have h3:z3=((ae z0).length:Int):=h3
 obtain⟨pJ,pK⟩:(ae z0).length<=1000000/\∀row∈ae z0,(ae (row.getD 2 0)).length<=1000000:=fU
 have hl:=fD z0
 refine⟨λbl=>∃(i:Nat) (c k:Int),bl=[[(i:Int)],[c],[(i:Int)],[k]]/\i<=(ae z0).length/\aB c=(aB z0).take i,λbl=>(ae z0).length-((bl.getD 0 []).getD 0 0).toNat,⟨0,0,-1,rfl,Nat.zero_le _,by rw[MM];rfl⟩,?_⟩
 rintro z5 d0 d1 ai f0 f1 aq g0 g1 ak _ _ ⟨i,c,k,e,hi,hI⟩
 simp only[List.cons.injEq,and_true]at e
 obtain⟨rfl,rfl,rfl,rfl⟩:=e
 have Ko:(ae ai).length=i:=by rw[<-fD,hI,List.length_take];omega
 refine⟨λhlt=>?_,λcu=>⟨⟨by omega,by omega,by omega⟩,λy de cZ hy=>⟨⟨de,cZ,trivial⟩,?_⟩⟩⟩
 rotate_left
 ·show aB y=aB z0
  rw[dr (by omega) hy,hI,List.take_of_length_le (by have:=of_decide_eq_false cu;omega)]
 have hlt:=of_decide_eq_true hlt
 have bM:i<(ae z0).length:=by omega
 refine⟨⟨by omega,by omega⟩,⟨by omega,by omega⟩,λz9 _ _ bm ao _ _ dp ax _ _ cx z12 _ aj _ _ aw _ _ ct=>?_⟩
 have ct:aw=((ae ax).length:Int):=ct
 have hg:(ae z0).getD i []∈ae z0:=by simp only[List.getD,List.getElem?_eq_getElem bM,Option.getD_some];exact List.getElem_mem bM
 have oa:z9=((ae z0).getD i []).getD 0 0:=by rw[bm];simp only[aa,Int.toNat_natCast];rfl
 have s7:ao=((ae z0).getD i []).getD 1 0:=by rw[dp];simp only[aa,Int.toNat_natCast];rfl
 have HV:ax=((ae z0).getD i []).getD 2 0:=by rw[cx];simp only[aa,Int.toNat_natCast];rfl
 have aaB:(ae ax).length<=1000000:=by rw[HV];exact pK _ hg
 have step:∀{c' r:Int},c'=aa 23 [ai,z9,ao,r]->aH r=aH ax->aB c'=(aB z0).take (i+1):=λ{c' r} hc hr=>by
  rw[Av (As hc),List.map_append]
  show aB ai++[gT [z9,ao,r]]=_
  have gL:(aB z0)[i]?=some (gT ((ae z0).getD i [])):=by unfold aB;rw[List.getElem?_map,List.getD,List.getElem?_eq_getElem bM];rfl
  rw[hI,List.take_add_one,gL]
  show _++[gT [z9,ao,r]]=_++[gT ((ae z0).getD i [])]
  have:gT [z9,ao,r]=gT ((ae z0).getD i []):=by
   unfold gT
   show(⟨ab z9,ab ao,aH r⟩:du)=_
   rw[hr,oa,s7,HV]
  rw[this]
 refine⟨⟨by omega,by omega,by omega⟩,jo (n:=0) (by rw[dW];rfl) (by omega),λaE _ _ c6 aA _ _ eP=>?_⟩
 have qV:ae aA=ae ax:=by rw[mX eP,dW,List.nil_append,mU ct c6]
 have mM:ad 31 [ai,(i:Int)]:=by show(i:Int)=((ae ai).length:Int);rw[Ko]
 have Kh:ad 23 [ai,1]:=jo Ko (by omega)
 refine⟨λhz=>⟨mM,Kh,λaF _ _ fy aK _ _ aN x0 x1 cT dk=>⟨⟨by omega,by omega⟩,⟨i+1,aF,aK,by rw[show(i:Int)+(-18446744073709551616)*aN+1=((i+1:Nat):Int) by omega];rfl,by omega,step fy ?_⟩,?_⟩⟩,λhz aF _ _=>⟨mM,Kh,⟨by omega,by omega,by rw[qV];omega⟩,by show aw<=140737488351232;omega,λaK _ _ gG aN _ _ lf z20 _ _ z21 x0 x1 cT dk=>⟨⟨by omega,by omega⟩,⟨i+1,aN,z20,by rw[show(i:Int)+(-18446744073709551616)*z21+1=((i+1:Nat):Int) by omega];rfl,by omega,step lf ?_⟩,?_⟩⟩⟩
 ·have hz:=of_decide_eq_true hz
  unfold aH
  rw[dW,List.eq_nil_of_length_eq_zero (show(ae ax).length=0 by omega)]
 ·show(ae z0).length-((i:Int)+(-18446744073709551616)*aN+1).toNat<(ae z0).length-((i:Int)).toNat;omega
 ·unfold aH
  rw[mU (by rw[qV];exact ct) gG,qV]
 ·show(ae z0).length-((i:Int)+(-18446744073709551616)*z21+1).toNat<(ae z0).length-((i:Int)).toNat;omega
end Go.bG
