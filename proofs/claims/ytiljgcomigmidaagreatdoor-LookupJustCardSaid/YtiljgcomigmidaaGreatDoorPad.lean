/- The address seat: what each function says,on texts. -/
import Derived.Test.YtiljgcomigmidaaGreatDoorPac
open Bool renaming and_eq_true->aO,not_eq_true'->fZ,eq_iff_iff->iJ,not_eq_false'->mB,or_eq_true->oA,false_or->sZ,true_and->wD,and_true->aan,and_eq_false_iff->auq,not_eq_true->aur,or_assoc->aus
open Go renaming FuncId->cB
open Go.IntKind renaming max->hT
open Go.Op renaming bytesLess->dz
open Int renaming le_refl->bD,toNat_natCast->eZ,natCast_nonneg->rN,toNat_zero->yY
open List renaming getD->aB,length_cons->cS,range->da,length_append->dm,length_nil->eF,map_append->ga,getElem?_eq_getElem->gy,append_assoc->gJ,take_append_drop->ju,nil_append->jK,mem_of_mem_take->j7,take_of_length_le->ky,mem_of_mem_drop->nQ,dropWhile_cons->oy,all_eq_true->pQ,cons_append->s9,getD_cons_zero->wE,map_take->y2,map_drop->y3,find?_cons->zc,drop_of_length_le->FT,drop_zero->J1,getElem_of_mem->J2,all_cons->J3,drop_eq_getElem_cons->Rh,drop_one->Ri,tail_cons->Rj,length_singleton->Rk,length_reverse->Rl,find?_append->RH,reverse_cons->aal,length_set->aa1,getElem_zip->aa2,map_set->auo,find?_eq_none->avj,getElem_set->avk,zip_append->avl
open List.cons renaming injEq->kz
open Nat renaming beq->aG,le_refl->aW,ble->bC,blt->b6,le_of_ble_eq_true->eE,zero_le->iI,lt_or_ge->mC,blt_eq->oz,ble_eq->pP,not_lt_zero->RG,lt_trichotomy->aut
open Option renaming getD_some->pS
open Option.some renaming injEq->aK
open Prod.mk renaming injEq->cv
open UInt8 renaming ofNat->kx,toNat_inj->Rf
set_option linter.unusedVariables false
set_option linter.unusedSimpArgs false
namespace Go.bH
open Go Go.bg
abbrev ax:=List UInt8
def u8 (z:Int):UInt8:=kx z.toNat
def aN (b:Bool):Int:=cond b 1 0
def fa (p:UInt8->Bool) (l:ax):ax:=l.dropWhile p
def fO (p:UInt8->Bool) (l:ax):ax:=(l.reverse.dropWhile p).reverse
def jr (p:UInt8->Bool) (l:ax):ax:=fa p (fO p l)
def dd (l:ax):Bool:=(da l.length).any λi=>l.getD i 0==46&&l.getD (i+1) 0==46
def mn (c:UInt8):Bool:=bC 97 c.toNat&&bC c.toNat 122
def mm (c:UInt8):Bool:=bC 65 c.toNat&&bC c.toNat 90
def dN (c:UInt8):Bool:=bC 48 c.toNat&&bC c.toNat 57
def yL:ax:=[33,35,36,37,38,39,42,43,47,61,63,94,95,96,123,124,125,126,45]
def oc (c:UInt8):Bool:=mn c||mm c||dN c||yL.contains c||c==46
def lE (c:UInt8):Bool:=c==46||c==45
def k9 (c:UInt8):Bool:=mn c||mm c||dN c||lE c
def uo (inn il:UInt8->Bool) (s:ax):Bool:=(da s.length).all λi=>
 inn (s.getD i 0)&&(!il (s.getD i 0)||(b6 0 i&&b6 (i+1) s.length))&& !(s.getD i 0==46&&b6 0 i&&s.getD (i-1) 0==46)
def jZ (s:ax):Bool:=b6 0 s.length&&bC s.length 64&&uo oc (·==46) s
def fT (s:ax):Bool:=b6 0 s.length&&bC s.length 230&&uo k9 lE s
def rz (s:ax):Bool:=b6 0 s.length&&bC s.length 5&&s.all dN
def mL (c:Int) (s:ax):ax×ax×Int:=cond (decide (0<=idx c s)) (s.take (idx c s).toNat,s.drop ((idx c s).toNat+1),1) (s,[],0)
def jq (s:ax):Bool:=fT (mL 58 s).1&&(decide ((mL 58 s).2.2=0)||rz (mL 58 s).2.1)
def lo (c:UInt8):UInt8:=cond (mm c) (kx (c.toNat+32)) c
def lower (s:ax):ax:=s.map lo
def qR (t:ax):ax×Int:=
 cond (decide (0<=idx 64 t)&&bC t.length 254&&jZ (t.take (idx 64 t).toNat)&&fT (t.drop ((idx 64 t).toNat+1))&&(t.drop ((idx 64 t).toNat+1)).contains 46) (lower t,0) ([],2)
def lF (s:ax):ax×Int:=qR (jr (·==32) s)
def nI:ax:=[32,45,46,40,41]
def eb:ax->ax->Bool->Option (ax×Bool)
 |[],d,p=>some (d,p)
 |c::r,d,p=>cond (dN c) (eb r (d++[c]) p) (cond (c==43&&d.isEmpty&& !p) (eb r d true) (cond (nI.contains c) (eb r d p) none))
def iN (w:ax):Option (ax×ax):=
 cond (w==[]) (some ([],[])) (cond (w==[71,66]) (some ([52,52],[48])) (cond (w==[85,83]) (some ([49],[])) (cond (w==[68,69]) (some ([52,57],[48])) (cond (w==[70,82]) (some ([51,51],[48])) (cond (w==[67,72]) (some ([52,49],[48])) none)))))
def qs (w code fX d:ax) (p:Bool):ax:=cond (!p&& !(w==[])) (code++cond (fX.isPrefixOf d) (d.drop fX.length) d) d
def sI (n:ax):ax×Int:=cond (b6 n.length 6||b6 15 n.length||n.getD 0 0==48) ([],2) (n,0)
def jn (w s:ax):ax×Int:=match iN w with
 |none=>([],7)
 |some (code,fX)=>match eb s [] false with
  |none=>([],2)
  |some (d,p)=>sI (qs w code fX d p)
def mZ (a b c d:ax):Bool:=cond (a==c) (dz b d) (dz a c)
def qQ:ax:=[101,109,97,105,108]
def ru:ax:=[109,115,105,115,100,110]
def nF (m:ax) (p:ax×Int):ax×ax×Int:=cond (decide (p.2=0)) (m,p.1,0) ([],[],p.2)
def lk (m w:ax):ax×ax×Int:=cond (m==qQ) (nF m (lF w)) (cond (m==ru) (nF m (jn [] w)) ([],[],1))
def ll (m w:ax):Bool:=decide ((lk m w).2.2=0)&&(m==(lk m w).1)&&(w==(lk m w).2.1)
def rm (c:UInt8):Bool:=mn c||dN c||([46,95,61,47,43,45]:ax).contains c
def WJ (c:UInt8):Bool:=mn c||mm c||dN c
def jm (k:UInt8) (s:ax):ax×ax×Int:=
 cond (b6 0 s.length&&bC s.length 255&&s.getD 0 0==k&&decide (0<=idx 58 s)&&jq (s.drop ((idx 58 s).toNat+1))) ((s.take (idx 58 s).toNat).drop 1,s.drop ((idx 58 s).toNat+1),1) ([],[],0)
def oh (k:UInt8) (inn:UInt8->Bool) (most:Nat) (s:ax):Bool:=
 decide ((jm k s).2.2=1)&&b6 0 (jm k s).1.length&&bC (jm k s).1.length most&&(jm k s).1.all inn
def m8 (s:ax):Bool:=oh 64 rm 200 s
def Jp (s:ax):Bool:=oh 33 WJ 64 s
def Zl (s:ax):ax×ax×Int:=cond (m8 s||Jp s) ((s.take (idx 58 s).toNat).drop 1,s.drop ((idx 58 s).toNat+1),0) ([],[],2)
def zp:ax:=[65,66,67,68,69,70,71,72,73,74,75,76,77,78,79,80,81,82,83,84,85,86,87,88,89,90,97,98,99,100,101,102,103,104,105,106,107,108,109,110,111,112,113,114,115,116,117,118,119,120,121,122,48,49,50,51,52,53,54,55,56,57,45,95]
def fY (c:UInt8):Int:=idx (c.toNat:Int) zp
def lh (n:Nat):UInt8:=zp.getD n 0
def fD:ax->ax
 |[]=>[]
 |[a]=>[lh (a.toNat/4),lh (a.toNat% 4*16)]
 |[a,b]=>[lh (a.toNat/4),lh (a.toNat% 4*16+b.toNat/16),lh (b.toNat% 16*4)]
 |a::b::c::r=>lh (a.toNat/4)::lh (a.toNat% 4*16+b.toNat/16)::lh (b.toNat% 16*4+c.toNat/64)::lh (c.toNat% 64)::fD r
def vl (a b c d:Int):Int:=262144*a+(4096*b+(64*c+d))
def Jb:ax->ax->Option ax
 |out,[]=>some out
 |_,[_]=>none
 |out,[a,b]=>cond (decide (0<=fY a)&&decide (0<=fY b)&&decide (vl (fY a) (fY b) 0 0% 65536=0)) (some (out++[u8 (vl (fY a) (fY b) 0 0/65536)])) none
 |out,[a,b,c]=>cond (decide (0<=fY a)&&decide (0<=fY b)&&decide (0<=fY c)&&decide (vl (fY a) (fY b) (fY c) 0% 256=0)) (some (out++[u8 (vl (fY a) (fY b) (fY c) 0/65536)]++[u8 (vl (fY a) (fY b) (fY c) 0/256% 256)])) none
 |out,a::b::c::d::r=>cond (decide (0<=fY a)&&decide (0<=fY b)&&decide (0<=fY c)&&decide (0<=fY d)) (Jb (out++[u8 (vl (fY a) (fY b) (fY c) (fY d)/65536)]++[u8 (vl (fY a) (fY b) (fY c) (fY d)/256% 256)]++[u8 (vl (fY a) (fY b) (fY c) (fY d)% 256)]) r) none
def gX (r:Int):ax:=(ab r).map λrow=>kx (row.getD 0 0).toNat
def Ud (s:ax):Bool:=decide (s.length=44)&&s.getD 0 0==36&&(Jb [] (s.drop 1)).isSome
abbrev gV:=(ax×ax)×ax×Int
def eA:gV:=(([],[]),[],0)
def ic (r:List Int):ax×ax:=(U (r.getD 0 0),U (r.getD 1 0))
def jP (r:List Int):gV:=(ic r,U (r.getD 2 0),r.getD 3 0)
def bds (z:Int):List gV:=(ab z).map jP
def JP (z:Int):List (ax×ax):=(ab z).map ic
def iY (b:gV):Bool:=decide (0<=b.2.2)&&(decide (b.2.2<=1099511627776)&&(ll b.1.1 b.1.2&&m8 b.2.1))
def og (a b:ax×ax):Bool:=mZ a.1 a.2 b.1 b.2
def p7 (a b:ax×ax):Int:=cond (a==b) 0 (cond (og a b) (-1) 1)
def B1:List gV->Bool
 |[]=>true
 |[_]=>true
 |a::b::r=>og a.1 b.1&&B1 (b::r)
def h9 (l:List gV):Bool:=bC l.length 64&&l.all iY&&B1 l
def Uk (l:List gV) (w:ax×ax):Option gV:=cond (h9 l) (l.find? (λb=>b.1==w)) none
def XP (l:List gV) (x:ax):List (ax×ax):=cond (h9 l) ((l.filter (·.2.1==x)).map (·.1)) []
def Tc (l:List gV) (w:gV):List gV×Int:=cond (iY w&&h9 l) (cond (l.any (·.1==w.1)) (l.map (λb=>cond (b.1==w.1) w b),0) (cond (decide (l.length=64)) (l,10) (l.filter (λb=>og b.1 w.1)++w::l.filter (λb=>og w.1 b.1),0))) (l,1)
def ZF (l:List gV) (w:gV):List gV×Int:=cond (h9 l) (match l.find? (·.1==w.1)with|none=>(l,7)|some b=>cond (b.2.1==w.2.1) (l.filter (λb=> !(b.1==w.1)),0) (l,14)) (l,1)
def abo (l:List gV) (w:ax×ax) (i f:Int):Prop:=(0<=i/\i<=l.length)/\(f=1->i<l.length)/\(h9 l=true->(∀j:Nat,(j:Int)<i->p7 (l.getD j eA).1 w<0)/\(∀j:Nat,i<=j->j<l.length->0<=p7 (l.getD j eA).1 w)/\(f=1↔i<l.length/\p7 (l.getD i.toNat eA).1 w=0))
structure fQ where
 id:Int
 sec:ax
 o6:ax×ax
 tok:ax
 w6:Int
 since:Int
 Cd:Int
 shown:Int
 Qv:Int
deriving DecidableEq
def rF:fQ:=⟨0,[],([],[]),[],0,0,0,0,0⟩
def nH (r:List Int):fQ:=⟨r.getD 0 0,U (r.getD 1 0),(U (r.getD 2 0),U (r.getD 3 0)),U (r.getD 4 0),r.getD 5 0,r.getD 6 0,r.getD 7 0,r.getD 8 0,r.getD 9 0⟩
def ia (z:Int):List fQ:=(ab z).map nH
def vX (t:ax):Bool:=t.all λc=>bC 32 c.toNat&&bC c.toNat 126
def jo (t:ax):Bool:= !t.isEmpty&&(bC t.length 64&&(vX t&& !t.contains 32))
def Fw (n:Int):Bool:=decide (0<=n)&&decide (n<=1099511627776)
def Jx (s:fQ):Bool:=(decide (1<=s.id)&&decide (s.id<=1099511627776))&&(Fw s.since&&Fw s.Qv)&&(decide (1<=s.w6)&&decide (s.w6<=1000)&&(decide (0<=s.Cd)&&decide (s.Cd<=3)))&&(decide (s.shown=1)||decide (s.Qv=0))&&(jo s.sec&&(jo s.tok&&ll s.o6.1 s.o6.2))
def SX (a b:fQ):Bool:=decide (a.sec=b.sec)&&decide (a.o6=b.o6)
def ac9 (x s:fQ):Bool:=SX x s||(decide (x.tok=s.tok)||decide (s.id<=x.id))
def wa (l:List fQ):Bool:=bC l.length 16&&(da l.length).all λi=>Jx (l.getD i rF)&&(l.take i).all λx=> !ac9 x (l.getD i rF)
def at4 (x:Int):Int:=(x+9223372036854775808)% 18446744073709551616-9223372036854775808
def IX (s:fQ) (now:Int):Bool:=decide (86400<at4 (now-s.since))
def yz (l:List fQ) (now:Int):List fQ:=l.filter λs=> !IX s now
def Um (l:List fQ) (id:Int):Option fQ:=cond (wa l) (l.find? λs=>decide (s.id=id)) none
def sF (l:List fQ) (now:Int) (w:fQ):Nat×Int:=cond (Fw now&&wa l) (match l.findIdx? (λs=>decide (s.id=w.id))with
 |some i=>cond (decide ((l.getD i rF).sec=w.sec)&& !IX (l.getD i rF) now) (i,0) (0,11)
 |none=>(0,11)) (0,1)
def Zb (l:List fQ) (now:Int) (w:fQ):(ax×ax)×Int:=cond (decide ((sF l now w).2=0)) (cond (decide ((l.getD (sF l now w).1 rF).shown=1)) ((l.getD (sF l now w).1 rF).o6,0) (([],[]),14)) (([],[]),(sF l now w).2)
def aqF (l:List fQ) (now:Int) (w:fQ) (i:Nat) (s:fQ):List fQ×Int:=cond (decide (s.Cd=3)) (l,16) (cond (decide (s.tok=w.tok)) (cond (decide (s.shown=1)) (l,0) (l.set i {s with shown:=1,Qv:=now},0)) (l.set i {s with Cd:=s.Cd+1},12))
def Zs (l:List fQ) (now:Int) (w:fQ):List fQ×Int:=cond (decide ((sF l now w).2=0)) (aqF l now w (sF l now w).1 (l.getD (sF l now w).1 rF)) (l,(sF l now w).2)
def aph (live:List fQ) (w:fQ) (i:Nat) (s:fQ):List fQ×Int×Int×Int:=(live.set i {s with w6:=max s.w6 w.w6},s.id,aN (decide (s.w6<w.w6)),0)
def api (l live:List fQ) (w:fQ):List fQ×Int×Int×Int:=cond (live.any (λs=>decide (s.id=w.id))||live.any (λs=>decide (s.tok=w.tok))) (l,0,0,6) (cond (decide (live.length=16)) (l,0,0,10) (live.filter (λs=>decide (s.id<w.id))++w::live.filter (λs=>decide (w.id<s.id)),w.id,1,0))
def Yr (l:List fQ) (w:fQ):List fQ×Int×Int×Int:=cond (Jx w&&(decide (w.Cd<=0)&&(!decide (w.shown=1)&&wa l))) (match(yz l w.since).findIdx? (λs=>SX s w)with
 |some i=>aph (yz l w.since) w i ((yz l w.since).getD i rF)
 |none=>api l (yz l w.since) w) (l,0,0,1)
def abm (l:List fQ) (n i f:Int):Prop:=(0<=i/\i<=l.length)/\(f=1->i<l.length)/\(wa l=true->(∀j:Nat,(j:Int)<i->(l.getD j rF).id<n)/\(∀j:Nat,i<=j->j<l.length->n<=(l.getD j rF).id)/\(f=1↔i<l.length/\(l.getD i.toNat rF).id=n))
def ab7:List Int:=[5,116,477315081741,437051401625,117,1,100,0,0,0]
structure nS where
 tok:ax
 fC:ax
 qK:List ax
deriving DecidableEq
def uF:nS:=⟨[],[],[]⟩
def bn (z:Int):List ax:=(ab z).map λr=>U (r.getD 0 0)
def asQ (r:List Int):nS:=⟨U (r.getD 0 0),U (r.getD 1 0),bn (r.getD 2 0)⟩
def iV (z:Int):List nS:=(ab z).map asQ
def aqY (l:List nS):Nat:=l.length+(l.map λu=>u.qK.length).sum
def Jo (l:List ax):Bool:=(da l.length).all λi=>jo (l.getD i [])&&(decide (i=0)||dz (l.getD (i-1) []) (l.getD i []))
def Jn (l:List nS):Bool:=bC l.length 16&&(l.all (λu=>m8 u.fC&&(bC u.qK.length 4&&Jo u.qK))&&Jo (l.map (·.tok)))
def abp (l:List nS) (t:ax) (i f:Int):Prop:=(0<=i/\i<=l.length)/\(f=1->i<l.length)/\(Jo (l.map (·.tok))=true->(∀j:Nat,(j:Int)<i->dz (l.getD j uF).tok t=true)/\(∀j:Nat,i<=j->j<l.length->dz (l.getD j uF).tok t=false)/\(f=1↔i<l.length/\(l.getD i.toNat uF).tok=t))
def mr (l:List nS) (t:ax):Int×Int:=cond (Jn l) (match l.findIdx? (λu=>decide (u.tok=t))with|some k=>((k:Int),0)|none=>(0,14)) (0,1)
def ZN (l:List nS) (t:ax):ax×Int:=cond (decide ((mr l t).2=0)) ((l.getD (mr l t).1.toNat uF).fC,0) ([],(mr l t).2)
def SU (l:List nS) (t:ax) (d:List ax):Int:=cond (decide ((mr l t).2=0)) (cond (d.all λs=>(l.getD (mr l t).1.toNat uF).qK.contains s) 0 13) (mr l t).2
def Xq (l:List nS) (t:ax):List nS×Int:=cond (decide ((mr l t).2=0)) (l.take (mr l t).1.toNat++l.drop ((mr l t).1.toNat+1),0) (l,(mr l t).2)
def Yo (l:List nS) (t m:ax):List nS×Int:=cond (Jn l&&(jo t&&m8 m)) (cond (l.findIdx? (λu=>decide (u.tok=t))).isSome (l,6) (cond (decide (l.length=16)) (l,10) (l.takeWhile (λu=>dz u.tok t)++⟨t,m,[]⟩::l.dropWhile (λu=>dz u.tok t),0))) (l,1)
def rn (s:ax):List ax->List ax
 |[]=>[s]
 |x::r=>cond (decide (x=s)) (x::r) (cond (dz s x) (s::x::r) (x::rn s r))
def ZG (a d:List ax):List ax:=d.foldl (λl s=>rn s l) a
def SS (l:List nS) (t:ax) (d:List ax):List nS×Int:=cond (decide ((mr l t).2=0)) (cond (d.all jo) (cond (bC (ZG (l.getD (mr l t).1.toNat uF).qK d).length 4) (l.set (mr l t).1.toNat ⟨(l.getD (mr l t).1.toNat uF).tok,(l.getD (mr l t).1.toNat uF).fC,ZG (l.getD (mr l t).1.toNat uF).qK d⟩,0) (l,10)) (l,1)) (l,(mr l t).2)
structure nk where
 tok:ax
 o6:ax×ax
 room:ax
 ap1:ax
 apY:ax
 zA:ax
deriving DecidableEq
def EX:nk:=⟨[],([],[]),[],[],[],[]⟩
def yy (r:List Int):nk:=⟨U (r.getD 0 0),(U (r.getD 1 0),U (r.getD 2 0)),U (r.getD 3 0),U (r.getD 4 0),U (r.getD 5 0),U (r.getD 6 0)⟩
def m4 (z:Int):List nk:=(ab z).map yy
def Jc (p:nk):Bool:=jo p.tok&&(jo p.apY&&(ll p.o6.1 p.o6.2&&(Jp p.room&&(m8 p.ap1&&(p.zA.isEmpty||m8 p.zA)))))
def Yv (l:List nk):Bool:=(da l.length).all λi=>decide (i=0)||dz (l.getD (i-1) EX).tok (l.getD i EX).tok
def Fe (l:List nk):Bool:=bC l.length 32&&(l.all Jc&&Yv l)
def abn (l:List nk) (t:ax) (i f:Int):Prop:=(0<=i/\i<=l.length)/\(f=1->i<l.length)/\(Yv l=true->(∀j:Nat,(j:Int)<i->dz (l.getD j EX).tok t=true)/\(∀j:Nat,i<=j->j<l.length->dz (l.getD j EX).tok t=false)/\(f=1↔i<l.length/\(l.getD i.toNat EX).tok=t))
def Ul (l:List nk) (t:ax):Option nk:=cond (Fe l) (l.find? λp=>decide (p.tok=t)) none
def Zn (l:List nk) (w:nk):List nk×Int:=cond (Jc w&&(w.zA.isEmpty&&Fe l)) (cond (l.any λp=>decide (p.tok=w.tok)) (l,6) (cond (decide (l.length=32)) (l,10) (l.filter (λp=>dz p.tok w.tok)++w::l.filter (λp=>dz w.tok p.tok),0))) (l,1)
def ZL (o6:ax×ax) (p:nk):Bool:=decide (p.o6=o6)&&p.zA.isEmpty
def Za (l:List nk) (o6:ax×ax) (fC:ax):List nk×List nk×Int:=cond (m8 fC&&Fe l) (l.map (λp=>cond (ZL o6 p) {p with zA:=fC} p),(l.filter (ZL o6)).map (λp=>{p with zA:=fC}),0) (l,[],1)
def abW:ax:=[65,66,67,68,69,70,71,72,73,74,75,76,77,78,79,80,81,82,83,84,85,86,87,88,89,90,97,98,99,100,101,102,103,104,105,106,107,108,109,110,111,112,113,114,115,116,117,118,119,120,121,122,48,49,50,51,52,53,54,55,56,57,43,47]
def um (n:Nat):UInt8:=abW.getD n 0
def Yf:ax->ax
 |[]=>[]
 |[a]=>[um (a.toNat/4),um (a.toNat% 4*16)]
 |[a,b]=>[um (a.toNat/4),um (a.toNat% 4*16+b.toNat/16),um (b.toNat% 16*4)]
 |a::b::c::r=>um (a.toNat/4)::um (a.toNat% 4*16+b.toNat/16)::um (b.toNat% 16*4+c.toNat/64)::um (c.toNat% 64)::Yf r
def am4:List Int:=[117,477315081741,437051401625,1786258745,1786259033,1721197221,0]
def gx (z:Int):List ax:=(ab z).map λr=>U (r.getD 2 0)
def Gy (l:List ax) (t:ax) (i f:Int):Prop:=(0<=i/\i<=l.length)/\(f=1->i<l.length)/\(l.Pairwise (λa b=>dz a b=true)->(∀j:Nat,(j:Int)<i->dz (l.getD j []) t=true)/\(∀j:Nat,i<=j->j<l.length->dz (l.getD j []) t=false)/\(f=1↔i<l.length/\l.getD i.toNat []=t))
def u6 (a b s:Int) (r:List Int) (a' b':Int):Prop:=∃i f:Int,Gy (bn a) (U s) i f/\(f=1->ab a'=ab a/\ab b'=(ab b).set i.toNat r)/\(f≠1->ab a'=(ab a).take i.toNat++[[s]]++(ab a).drop i.toNat/\ab b'=(ab b).take i.toNat++[r]++(ab b).drop i.toNat)
def mW (a:Int) (s:ax):Option Nat:=(bn a).findIdx? λx=>decide (x=s)
def mg (a b:Int) (s:ax):Option ax:=(mW a s).map λi=>(gx b).getD i []
def hP (w:ax×ax):ax:=w.2++[32]++w.1
def ou (nm:ax×ax->ax) (l:List gV) (s:ax):Option ax:=(l.reverse.find? λb=>decide (nm b.1=s)).map (·.2.1)
def nE (l:List gV) (p q:ax) (d:List ax):Int:=cond (jo p&&h9 l) (cond (decide (q=p)) (cond (bC d.length 32) 0 16) 15) 1
def zk (nm:ax×ax->ax) (l:List gV) (p q:ax) (d:List ax) (k n t a b e:Int):Prop:=e=nE l p q d/\n=0/\U t=[]/\(e≠0->k=0/\ab a=[]/\ab b=[])/\(e=0->k=6/\me a b/\∀s,mg a b s=cond (d.contains s) (ou nm l s) none)
def qv (t:ax):List Int:=t.map λb=>(b.toNat:Int)
def Ae (p:ax) (w:ax×ax):ax:=fD ((nJ cq (qv (hP w)++([32]++qv p))).map λz=>kx z.toNat)
def abK:Nat->List (List Int)->List (List Int)->Prop
 |472,[[a],[b],[c]],rs=>rs=[nJ cq (cr a++(cr b++cr c))]
 |640,_,[[r]]=>r=1
 |642,_,[[r]]=>r=1
 |646,_,[[r]]=>r=1
 |677,_,[[r]]=>r=1
 |670,[[z]],[[r]]=>r=aN (jo (U z))
 |671,[[z],[t]],[[i],[f]]=>Gy (bn z) (U t) i f
 |672,[[c],[i],[r]],[[y]]=>ab y=(ab c).take i.toNat++ab r++(ab c).drop i.toNat
 |673,[[c],[i],[r]],[[y]]=>ab y=(ab c).take i.toNat++ab r++(ab c).drop i.toNat
 |674,[[a],[b],[s],r],[[k],[n],[t],[a'],[b']]=>k=6/\n=0/\U t=[]/\u6 a b s r a' b'
 |675,[[a],[b],[s],r],[[k],[n],[t],[a'],[b'],[e]]=>e=0/\k=6/\n=0/\U t=[]/\u6 a b s r a' b'
 |676,[[k],[n],[t],[a],[b],[s]],[r,[f]]=>match cond (decide (k=6)) (mW a (U s)) none with
  |some i=>i<(ab b).length->r.getD 2 0=((ab b).getD i []).getD 2 0/\f=1
  |none=>U (r.getD 2 0)=[]/\f=0
 |678,[[z],[p],[q],[d]],[[k],[n],[t],[a],[b],[e]]=>zk hP (bds z) (U p) (U q) (bn d) k n t a b e
 |679,[[p],w],[[r]]=>U r=Ae (U p) (ic w)
 |680,[],[[r]]=>r=1
 |681,_,_=>True
 |683,[[z]],[[r]]=>ab r=ab z
 |685,[[z],[p],[q],[d]],[[k],[n],[t],[a],[b],[e]]=>zk (Ae (U p)) (bds z) (U p) (U q) (bn d) k n t a b e
 |686,[_,_,_],[[r]]=>r=1
 |684,[[z]],[[r]]=>ab r=ab z
 |682,[_,_,_],[[r]]=>r=1
 |n,a,b=>abJ n a b
def abL:Nat->List (List Int)->List (List Int)->Prop
 |600,[[z]],[[r]]=>r=aN (jo (U z))
 |601,[r],[[z]]=>z=aN (Jc (yy r))
 |602,[[z]],[[r]]=>r=aN (Fe (m4 z))
 |603,[[z],[t]],[[i],[f]]=>abn (m4 z) (U t) i f
 |604,[[z],[t]],[r,[f]]=>match Ul (m4 z) (U t)with
  |some b=>yy r=b/\f=1
  |none=>r=[0,0,0,0,0,0,0]/\f=0
 |605,[[c],[i],[r]],[[y]]=>ab y=(ab c).take i.toNat++ab r++(ab c).drop i.toNat
 |606,[[z],r],[[y],[e]]=>(m4 y,e)=Zn (m4 z) (yy r)
 |607,[[z],a,[m]],[[y],[d],[e]]=>(m4 y,m4 d,e)=Za (m4 z) (ic a) (U m)
 |608,[],[r]=>r=am4
 |612,[r],[[z]]=>z=aN (Jc (yy r))
 |613,[[z]],[[r]]=>r=aN (Fe (m4 z))
 |614,[[z],[t]],[r,[f]]=>match Ul (m4 z) (U t)with
  |some b=>yy r=b/\f=1
  |none=>r=[0,0,0,0,0,0,0]/\f=0
 |615,[[z],r],[[y],[e]]=>(m4 y,e)=Zn (m4 z) (yy r)
 |616,[[z],a,[m]],[[y],[d],[e]]=>(m4 y,m4 d,e)=Za (m4 z) (ic a) (U m)
 |617,[[a],[b]],[[r]]=>r=aN (decide (m4 a=m4 b))
 |618,[[r]],[[z]]=>U z=Yf (gX r)
 |619,[[z]],[[r]]=>ab r=ab z
 |n,a,b=>abK n a b
def abM:Nat->List (List Int)->List (List Int)->Prop
 |500,[[z]],[[r]]=>r=aN (decide (200<aqY (iV z)))
 |501,[[z]],[[r]]=>r=aN ((U z).contains 32)
 |502,[[z]],[[r]]=>r=aN (jo (U z))
 |503,[[z]],[[r]]=>r=aN (Jo (bn z))
 |504,[[z]],[[r]]=>r=aN (Jn (iV z))
 |505,[[z],[t]],[[i],[f]]=>abp (iV z) (U t) i f
 |506,[[z],[t]],[[i],[e]]=>(i,e)=mr (iV z) (U t)
 |507,[[z],[t]],[[s],[e]]=>(U s,e)=ZN (iV z) (U t)
 |508,[[z],[t]],[[y],[e]]=>(iV y,e)=Xq (iV z) (U t)
 |509,[[z],[t],[m]],[[y],[e]]=>(iV y,e)=Yo (iV z) (U t) (U m)
 |511,[[z],[t],[d]],[[e]]=>e=SU (iV z) (U t) (bn d)
 |513,[[z],[t],[d]],[[y],[e]]=>(iV y,e)=SS (iV z) (U t) (bn d)
 |530,[[z]],[[r]]=>r=aN (Jn (iV z))
 |531,[[z],[t]],[[i]]=>i=match(iV z).findIdx? (λu=>decide (u.tok=U t))with|some k=>(k:Int)|none=>-1
 |532,[[z],[t],[m]],[[y],[e]]=>(iV y,e)=Yo (iV z) (U t) (U m)
 |533,[[z],[t]],[[y],[e]]=>(iV y,e)=Xq (iV z) (U t)
 |534,[[z],[t]],[[s],[e]]=>(U s,e)=ZN (iV z) (U t)
 |535,[[z],[s]],[[y]]=>(bn z).Pairwise (λa b=>dz a b=true)->bn y=rn (U s) (bn z)
 |536,[[z],[t],[d]],[[y],[e]]=>(iV y,e)=SS (iV z) (U t) (bn d)
 |537,[[z],[t],[d]],[[e]]=>e=SU (iV z) (U t) (bn d)
 |538,[[a],[b]],[[r]]=>r=aN (decide (iV a=iV b))
 |539,[[z]],[[y]]=>iV y=iV z
 |540,[_,_,_],[[r]]=>r=1
 |541,[_,_,_],[[r]]=>r=1
 |520,[],[[r]]=>r=1
 |521,[_,_],[[r]]=>r=1
 |522,[_,_,_],[[r]]=>r=1
 |512,[[z],[t]],[[r]]=>r=aN ((bn z).contains (U t))
 |510,[[a],[b]],[[r]]=>r=cond (dz (U a) (U b)) (-1) (cond (decide (U a=U b)) 0 1)
 |n,a,b=>abL n a b
def abI:Nat->List (List Int)->List (List Int)->Prop
 |400,[[z]],[[r]]=>r=aN (vX (U z))
 |401,[[z]],[[r]]=>r=aN (jo (U z))
 |402,[r],[[z]]=>z=aN (Jx (nH r))
 |403,[[z]],[[r]]=>r=aN (wa (ia z))
 |404,[[z],[n]],[[i],[f]]=>abm (ia z) n i f
 |417,[r,[n]],[[z]]=>z=aN (IX (nH r) n)
 |405,[[z],[n]],[r,[f]]=>match Um (ia z) n with
  |some b=>nH r=b/\f=1
  |none=>r=[0,0,0,0,0,0,0,0,0,0]/\f=0
 |406,[[z],[n],r],[[i],[e]]=>(i,e)=(((sF (ia z) n (nH r)).1:Int),(sF (ia z) n (nH r)).2)
 |407,[[z],[n],r],[a,[e]]=>(ic a,e)=Zb (ia z) n (nH r)
 |408,[[z],[n],r],[[y],[e]]=>(ia y,e)=Zs (ia z) n (nH r)
 |409,[[z],[n]],[[y]]=>ia y=yz (ia z) n
 |410,[[z],[n]],[[y]]=>ia y=cond (Fw n&&wa (ia z)) (yz (ia z) n) []
 |411,[[c],[i],[r]],[[y]]=>ab y=(ab c).take i.toNat++ab r++(ab c).drop i.toNat
 |412,[[z],r],[[y],[i],[s],[e]]=>(ia y,i,s,e)=Yr (ia z) (nH r)
 |416,[[a],[b]],[[r]]=>r=aN (decide (ia a=ia b))
 |418,[],[r]=>r=ab7
 |413,[],[[r]]=>r=1
 |414,[_],[[r]]=>r=1
 |415,[_,_],[[r]]=>r=1
 |420,[[z]],[[r]]=>r=aN (jo (U z))
 |422,[r],[[z]]=>z=aN (Jx (nH r))
 |423,[[z]],[[r]]=>r=aN (wa (ia z))
 |424,[[z],[n]],[[y]]=>ia y=cond (Fw n&&wa (ia z)) (yz (ia z) n) []
 |425,[[z],[n]],[r,[f]]=>match Um (ia z) n with
  |some b=>nH r=b/\f=1
  |none=>r=[0,0,0,0,0,0,0,0,0,0]/\f=0
 |426,[[z],[n],r],[[i]]=>i=match(ia z).findIdx? (λs=>decide (s.id=(nH r).id)&&(decide (s.sec=(nH r).sec)&& !IX s n))with
  |some k=>(k:Int)
  |none=>-1
 |427,[[z],[n],r],[[y],[e]]=>(ia y,e)=Zs (ia z) n (nH r)
 |428,[[z],[n],r],[a,[e]]=>(ic a,e)=Zb (ia z) n (nH r)
 |429,[[z],r],[[y],[i],[s],[e]]=>(ia y,i,s,e)=Yr (ia z) (nH r)
 |430,[_,_],[[r]]=>r=1
 |431,[_,_,_],[[r]]=>r=1
 |n,a,b=>abM n a b
def abH:Nat->List (List Int)->List (List Int)->Prop
 |300,[r],[[z]]=>z=aN (iY (jP r))
 |301,[r,a],[[z]]=>z=p7 (ic r) (ic a)
 |302,[[z],a],[[i],[f]]=>abo (bds z) (ic a) i f
 |303,[[z]],[[r]]=>r=aN (h9 (bds z))
 |304,[[z],a],[r,[f]]=>match Uk (bds z) (ic a)with
  |some b=>jP r=b/\f=1
  |none=>jP r=eA/\f=0
 |305,[[z],[x]],[[y]]=>JP y=XP (bds z) (U x)
 |306,[[c],[i],[r]],[[y]]=>ab y=(ab c).take i.toNat++ab r++(ab c).drop i.toNat
 |307,[[c],[i],[j]],[[y]]=>ab y=(ab c).take i.toNat++(ab c).drop j.toNat
 |308,[[z],r],[[y],[e]]=>(bds y,e)=Tc (bds z) (jP r)
 |309,[[z],r],[[y],[e]]=>(bds y,e)=ZF (bds z) (jP r)
 |310,[],[[r]]=>r=1
 |311,[_,_],[[r]]=>r=1
 |312,[_],[[r]]=>r=1
 |320,[r],[[z]]=>z=aN (iY (jP r))
 |321,[[z]],[[r]]=>r=aN (h9 (bds z))
 |322,[[z],a],[r,[f]]=>match Uk (bds z) (ic a)with
  |some b=>jP r=b/\f=1
  |none=>jP r=eA/\f=0
 |323,[[z],a],[[y]]=>bds y=(bds z).filter (λb=> !(b.1==ic a))
 |324,[[z],r],[[y],[e]]=>(bds y,e)=Tc (bds z) (jP r)
 |325,[[z],r],[[y],[e]]=>(bds y,e)=ZF (bds z) (jP r)
 |326,[[z],[x]],[[y]]=>JP y=XP (bds z) (U x)
 |327,[[a],[b]],[[r]]=>r=aN (decide (bds a=bds b))
 |328,[[a],[b]],[[r]]=>r=aN (decide (JP a=JP b))
 |329,[_,_,_],[[r]]=>r=1
 |n,a,b=>abI n a b
def SB:Nat->List (List Int)->List (List Int)->Prop
 |73,[[z],[b]],[[r]]=>r=idx b (U z)
 |36,[[z],[b]],[[r]]=>U r=fa (·==u8 b) (U z)
 |37,[[z],[b]],[[r]]=>U r=fO (·==u8 b) (U z)
 |120,[[z]],[[r]]=>U r=jr (·==32) (U z)
 |121,[[z]],[[r]]=>U r=jr (·==46) (U z)
 |122,[[z]],[[r]]=>U r=jr lE (U z)
 |123,[[z]],[[r]]=>U r=jr k9 (U z)
 |124,[[z]],[[r]]=>U r=jr dN (U z)
 |125,[[z]],[[a],[b],[c]]=>(U a,U b,c)=mL 64 (U z)
 |126,[[z]],[[a],[b],[c]]=>(U a,U b,c)=mL 58 (U z)
 |127,[[z]],[[r]]=>r=aN ((U z).contains 46)
 |128,[[z]],[[r]]=>r=aN (dd (U z))
 |44,[[s],[b]],[[r]]=>r=aN ((U s).all λc=>(U b).contains c)
 |65,[[s],[b]],[[r]]=>r=aN ((U s).all λc=>(U b).contains c)
 |28,[[z]],[[r]]=>U r=lower (U z)
 |17,[[z]],[[r]]=>U r=lower (U z)
 |31,[[z],[c]],[[r]]=>r=aN ((U z).contains (u8 c))
 |47,[[z]],[[r]]=>r=aN (fT (U z))
 |30,[[z]],[[r]]=>r=aN (fT (U z))
 |27,[[z]],[[r]]=>r=aN (jq (U z))
 |24,[[z]],[[r]]=>r=aN (jZ (U z))
 |29,[[z]],[[r]]=>r=aN (jZ (U z))
 |50,[[c]],[[r]]=>r=aN (mn (u8 c))
 |51,[[c]],[[r]]=>r=aN (mm (u8 c))
 |52,[[c]],[[r]]=>r=aN (dN (u8 c))
 |10,[[z]],[[a],[e]]=>(U a,e)=lF (U z)
 |11,[[z]],[[a],[e]]=>(U a,e)=lF (U z)
 |35,[[w]],[[c],[t],[o]]=>match iN (U w)with
  |some (code,fX)=>U c=code/\t=aN (!fX.isEmpty)/\o=1
  |none=>U c=[]/\t=0/\o=0
 |32,[[w]],[[c,t],[o]]=>match iN (U w)with
  |some (code,fX)=>U c=code/\U t=fX/\o=1
  |none=>o=0/\U c=[]/\U t=[]
 |33,[[s]],[[d],[p],[o]]=>match eb (U s) [] false with
  |some (d',p')=>U d=d'/\p=aN p'/\o=1
  |none=>U d=[]/\p=0/\o=0
 |34,[[s],[t]],[[r]]=>U r=cond ((U t).isPrefixOf (U s)) ((U s).drop (U t).length) (U s)
 |12,[[w],[s]],[[a],[e]]=>(U a,e)=jn (U w) (U s)
 |13,[[w],[s]],[[a],[e]]=>(U a,e)=jn (U w) (U s)
 |14,[[a,b],[c,d]],[[r]]=>r=aN (mZ (U a) (U b) (U c) (U d))
 |21,[[a,b],[c,d]],[[r]]=>r=aN (mZ (U a) (U b) (U c) (U d))
 |15,[[m],[w]],[[a,b],[e]]=>(U a,U b,e)=lk (U m) (U w)
 |18,[[m],[w]],[[a,b],[e]]=>(U a,U b,e)=lk (U m) (U w)
 |16,[[m,w]],[[r]]=>r=aN (ll (U m) (U w))
 |19,[[m,w]],[[r]]=>r=aN (ll (U m) (U w))
 |20,[[m,w]],[[r]]=>U r=U m++[32]++U w
 |202,[[z]],[[r]]=>U r=jr rm (U z)
 |203,[[z]],[[r]]=>U r=jr WJ (U z)
 |200,[[z]],[[r]]=>r=aN (m8 (U z))
 |207,[[z]],[[r]]=>r=aN (m8 (U z))
 |201,[[z]],[[r]]=>r=aN (Jp (U z))
 |208,[[z]],[[r]]=>r=aN (Jp (U z))
 |204,[[z]],[[r]]=>r=idx 58 (U z)
 |205,[[z]],[[r]]=>r=aN (jq (U z))
 |206,[[z],[k]],[[a],[b],[c]]=>(U a,U b,c)=jm (u8 k) (U z)
 |211,[[z],[k]],[[a],[b],[c]]=>(U a,U b,c)=jm (u8 k) (U z)
 |209,[[z]],[[a],[b],[e]]=>(U a,U b,e)=Zl (U z)
 |210,[[z]],[[a],[b],[e]]=>(U a,U b,e)=Zl (U z)
 |220,[[z]],[[r],[e]]=>match Jb [] (U z)with
  |some l=>gX r=l/\e=0
  |none=>gX r=[]/\e=2
 |221,[[z]],[[r],[e]]=>match Jb [] (U z)with
  |some l=>gX r=l/\e=0
  |none=>gX r=[]/\e=2
 |222,[[r]],[[z]]=>U z=fD (gX r)
 |225,[[r]],[[z]]=>U z=fD (gX r)
 |223,[[z]],[[r]]=>r=aN (Ud (U z))
 |224,[[z]],[[r]]=>r=aN (Ud (U z))
 |230,[[c]],[[r]]=>r=idx c zp
 |226,[],[[r]]=>r=1
 |227,[_],[[r]]=>r=1
 |228,[_],[[r]]=>r=1
 |229,[_,_],[[r]]=>r=1
 |9,[],[[r]]=>r=1
 |3,[_],[[r]]=>r=1
 |4,[_,_],[[r]]=>r=1
 |5,[_],[[r]]=>r=1
 |6,[_,_,_],[[r]]=>r=1
 |7,[_,_],[[r]]=>r=1
 |8,[_,_],[[r]]=>r=1
 |n,a,b=>abH n a b
theorem B8 (b:UInt8):u8 (b.toNat:Int)=b:=by simp[u8]
theorem qw {b:UInt8} {z:Int} (h0:0<=z) (h1:z<=255):((b.toNat:Int)=z)↔(b==u8 z)=true:=by
 rw[beq_iff_eq,<-Rf];unfold u8;simp;omega
theorem AE {c:Int} (h0:0<=c) (h1:c<=255):∀l:ax,(idx c l=-1/\u8 c∉l)∨(0<=idx c l/\(idx c l).toNat<l.length/\l.getD (idx c l).toNat 0=u8 c/\u8 c∈l/\∀j,j<(idx c l).toNat->l.getD j 0≠u8 c)
 |[]=> .inl ⟨rfl,by simp⟩
 |b::r=>by
  have hb:=qw (b:=b) h0 h1;have ih:=AE h0 h1 r;by_cases he:(b.toNat:Int)=c
  ·have hb':b=u8 c:=by simpa using hb.1 he
   right
   have:idx c (b::r)=0:=by simp[idx,he]
   rw[this];refine⟨bD _,by simp,by simp[hb'],by simp[hb'],λj hj=>by simp at hj⟩
  ·have hb':¬b=u8 c:=λe=>he (hb.2 (by simpa using e));rcases ih with⟨h2,h3⟩|⟨h2,h3,h4,h5,h6⟩
   ·left
    exact⟨by simp[idx,he,h2],by simp[h3];exactλe=>hb' e.symm⟩
   ·right
    have e:idx c (b::r)=idx c r+1:=by
     show(if(b.toNat:Int)=c then 0 else if idx c r<0 then-1 else idx c r+1)=_;rw[if_neg he,if_neg (by omega)]
    have mM:(idx c (b::r)).toNat=(idx c r).toNat+1:=by omega
    rw[mM];refine⟨by omega,by simp;omega,by simpa using h4,by simp[h5],λj hj=>?_⟩;cases j with
    |zero=>simpa using hb'
    |succ j=>simpa using h6 j (by omega)
theorem Ii {c:Int} (h0:0<=c) (h1:c<=255) (l:ax):decide (0<=idx c l)=l.contains (u8 c):=by
 rcases AE h0 h1 l with⟨h2,h3⟩|⟨h2,_,_,h3,_⟩
 ·rw[h2];simp[h3]
 ·simp[h2,h3]
theorem oK (b:Bool):0<=aN b/\aN b<=1:=by cases b<;>decide
theorem CK (b:Bool):decide (aN b=1)=b:=by cases b<;>rfl
theorem JL {z:Int} (h0:0<=z) (h1:z<=255):((u8 z).toNat:Int)=z:=by unfold u8;simp;omega
theorem Fv (l:ax) (i:Nat) (h:i<l.length):l.take (i+1)=l.take i++[l.getD i 0]:=by
 rw[List.take_add_one];simp[aB,h]
theorem qO (l:ax) (i:Nat) (h:i<l.length):l.drop i=l.getD i 0::l.drop (i+1):=by
 rw[Rh h];simp[aB,h]
theorem uj {z:Int} (h:z<=bx):((U z).length:Int)<=9223372036854775807:=by
 have:=rR h;unfold eK at this;omega
theorem we (p:UInt8->Bool) (l:ax) (x:UInt8):fO p (l++[x])=cond (p x) (fO p l) (l++[x]):=by
 unfold fO;simp only[List.reverse_append,aal,List.reverse_nil,jK,List.singleton_append,oy];cases p x<;>simp
end Go.bH
namespace Go.bH
open Go Go.bg
def qJ:D:= .mix [.str,.str]
def xe:D:= .int .u8 0 255
def TU:D:= .int .i64 (-1) 9223372036854775807
def vk:D:= .int .i64 0 21
def W7:D:= .j1 [32]
def WX:D:= .j1 [46]
def aje:D:= .j1 [46,46]
def ajg:D:= .j1 [46,45]
def ajc:D:= .j1 [64]
def ajd:D:= .j1 [58]
def aji:D:= .j1 [97,98,99,100,101,102,103,104,105,106,107,108,109,110,111,112,113,114,115,116,117,118,119,120,121,122,65,66,67,68,69,70,71,72,73,74,75,76,77,78,79,80,81,82,83,84,85,86,87,88,89,90,48,49,50,51,52,53,54,55,56,57,46,45]
def ajf:D:= .j1 [48,49,50,51,52,53,54,55,56,57]
def ajm:D:= .j1 [97,98,99,100,101,102,103,104,105,106,107,108,109,110,111,112,113,114,115,116,117,118,119,120,121,122,48,49,50,51,52,53,54,55,56,57,46,95,61,47,43,45]
def d64:D:= .int .u8 64 64
def ajl:D:= .j1 [65,66,67,68,69,70,71,72,73,74,75,76,77,78,79,80,81,82,83,84,85,86,87,88,89,90,97,98,99,100,101,102,103,104,105,106,107,108,109,110,111,112,113,114,115,116,117,118,119,120,121,122,48,49,50,51,52,53,54,55,56,57,45,95]
def I6:bP:= .jC [.int .u8 0 255] 5
def CN:D:= .mix [.str,.str,.str,.int .i64 (-9223372036854775808) 9223372036854775807]
def EK:bP:= .rd [.str,.str,.str,.int .i64 (-9223372036854775808) 9223372036854775807]
def ado:D:= .int .i64 (-1) 1
def Mg:D:= .int .i64 0 9223372036854775807
def zL:D:= .int .i64 (-9223372036854775808) 9223372036854775807
def adu:D:= .int .i64 0 79
def ak9:bP:= .rd [.int .u32 0 4294967295]
def I5:bP:= .jC [.int .u32 0 4294967295] 78
def ai0:D:= .ob .i64 32
def oO:D:= .int .u32 0 4294967295
def SN:D:= .agg .u8 32 0 255
def ajj:D:= .j1 [110,111,110,101]
def I4:bP:= .jC [.str] 9
def IY:bP:= .jC [.int .i64 4 4,.int .i64 0 0,.str,.nil,.nil] 30
def d66:D:= .int .i64 6 6
def Hb:D:= .int .i64 0 0
def Mf:D:= .int .i64 0 6
def ajD:D:= .mix [.int .i64 0 4,.int .i64 0 0,.str,.nil,.nil]
def aju:bP:= .rd [.int .u8 0 127]
def uk:bP:= .rd [.int .i64 4 4,.int .i64 0 0,.str,.nil,.nil]
def leaf:D:= .mix [.int .i64 4 4,.int .i64 0 0,.str,.nil,.nil]
def mY:D:= .ob .i64 6
def e9:D:= .ob .i64 0
def OZ:D:= .j1 []
def pH:bP:= .rd [.str]
def rq:bP:= .rd [.int .u8 0 255]
end Go.bH
set_option maxRecDepth 100000
namespace Go.bH
open Go Go.bg
def en:cB->Nat->Option cX:=λ_ _=>none
def eo:Nat->List Nat:=λ_=>[]
def nD:cf:=⟨137,73,[.str,xe],[TU]⟩
def vL:cf:=⟨154,36,[.str,xe],[.str]⟩
def aka:cB->Nat->Option cX:=λf r=>match f,r with
 |154,1=>some ⟨[1],[(0,0,0)],[],[],[],[],[]⟩
 |_,_=>none
def ak1:Nat->List Nat:=λn=>[1]
def vM:cf:=⟨155,37,[.str,xe],[.str]⟩
def akb:cB->Nat->Option cX:=λf r=>match f,r with
 |155,1=>some ⟨[1],[(0,0,0)],[],[],[],[],[]⟩
 |_,_=>none
def ak2:Nat->List Nat:=λn=>[1]
def Bh:cf:=⟨140,120,[.str,W7],[.str]⟩
def Be:cf:=⟨140,121,[.str,WX],[.str]⟩
def AI:cf:=⟨33,127,[.str,WX],[.bool]⟩
def Bd:cf:=⟨140,122,[.str,ajg],[.str]⟩
def aj8:cB->Nat->Option cX:=λf r=>match f,r with
 |157,1=>some ⟨[1],[(0,0,0)],[],[],[],[],[]⟩
 |158,1=>some ⟨[1],[(0,0,0)],[],[],[],[],[]⟩
 |_,_=>none
def akZ:Nat->List Nat:=λn=>[1]
def AL:cf:=⟨122,125,[.str,ajc],[.str,.str,.bool]⟩
def vH:cf:=⟨122,126,[.str,ajd],[.str,.str,.bool]⟩
def AX:cf:=⟨161,44,[.str,.str],[.bool]⟩
def ajW:cB->Nat->Option cX:=λf r=>match f,r with
 |161,2=>some ⟨[0,1,7],[(8,0,9223372036854775807)],[],[],[],[],[]⟩
 |_,_=>none
def akN:Nat->List Nat:=λn=>[1]
def sx:cf:=⟨149,65,[.str,.str],[.bool]⟩
def ajP:cB->Nat->Option cX:=λf r=>match f,r with
 |149,2=>some ⟨[0,1,7],[(8,0,9223372036854775807)],[],[],[],[],[]⟩
 |_,_=>none
def akG:Nat->List Nat:=λn=>[1]
def AU:cf:=⟨143,28,[.str],[.str]⟩
def ajV:cB->Nat->Option cX:=λf r=>match f,r with
 |143,3=>some ⟨[3,8,9],[(10,0,9223372036854775807)],[(0,0,0,0)],[],[],[],[]⟩
 |_,_=>none
def akM:Nat->List Nat:=λn=>[1,1]
def A6:cf:=⟨135,17,[.str],[.str]⟩
def aj2:cB->Nat->Option cX:=λf r=>match f,r with
 |135,3=>some ⟨[3],[(4,0,9223372036854775807)],[(0,0,0,0)],[],[],[],[]⟩
 |_,_=>none
def akT:Nat->List Nat:=λn=>[1,1]
def A2:cf:=⟨134,31,[.str,xe],[.bool]⟩
def ajZ:cB->Nat->Option cX:=λf r=>match f,r with
 |134,2=>some ⟨[0,1],[(5,0,9223372036854775807)],[],[],[],[],[]⟩
 |_,_=>none
def akQ:Nat->List Nat:=λn=>[1]
def ajb:cf:=⟨33,128,[.str,aje],[.bool]⟩
def BJ:kc:=⟨ajb,41⟩
def Bf:cf:=⟨140,123,[.str,aji],[.str]⟩
def aj9:cB->Nat->Option cX:=λf r=>match f,r with
 |157,1=>some ⟨[1],[(0,0,0)],[],[],[],[],[]⟩
 |158,1=>some ⟨[1],[(0,0,0)],[],[],[],[],[]⟩
 |_,_=>none
def ak0:Nat->List Nat:=λn=>[1]
def Bc:cf:=⟨140,124,[.str,ajf],[.str]⟩
def aj7:cB->Nat->Option cX:=λf r=>match f,r with
 |157,1=>some ⟨[1],[(0,0,0)],[],[],[],[],[]⟩
 |158,1=>some ⟨[1],[(0,0,0)],[],[],[],[],[]⟩
 |_,_=>none
def akY:Nat->List Nat:=λn=>[1]
def AP:cf:=⟨150,47,[.str],[.bool]⟩
def vJ:cf:=⟨125,27,[.str],[.bool]⟩
def AT:cf:=⟨141,24,[.str],[.bool]⟩
def A5:cf:=⟨132,29,[.str],[.bool]⟩
def aj1:cB->Nat->Option cX:=λf r=>match f,r with
 |132,5=>some ⟨[0,3],[(4,0,9223372036854775807)],[],[],[],[],[]⟩
 |132,10=>some ⟨[0,3,4,5],[(7,0,9223372036854775807)],[],[6],[],[],[]⟩
 |_,_=>none
def akS:Nat->List Nat:=λn=>cond (aG n 3) [1] [1,1]
def vK:cf:=⟨80,50,[xe],[.bool]⟩
def AO:cf:=⟨153,51,[xe],[.bool]⟩
def sw:cf:=⟨81,52,[xe],[.bool]⟩
def vI:cf:=⟨133,30,[.str],[.bool]⟩
def aj0:cB->Nat->Option cX:=λf r=>match f,r with
 |133,4=>some ⟨[0],[(3,0,9223372036854775807)],[],[],[],[],[]⟩
 |_,_=>none
def akR:Nat->List Nat:=λn=>[1]
def A0:cf:=⟨136,35,[.str],[.str,.bool,.bool]⟩
def EH:cf:=⟨108,13,[.str,.str],[.str,vk]⟩
def E4:kc:=⟨EH,44⟩
def aj3:cB->Nat->Option cX:=λf r=>match f,r with
 |108,7=>some ⟨[0,1,6,7,8],[(9,0,0),(11,0,9223372036854775807)],[],[10],[],[],[]⟩
 |_,_=>none
def akU:Nat->List Nat:=λn=>[1,1,1]
def A1:cf:=⟨107,11,[.str],[.str,vk]⟩
def ajY:cB->Nat->Option cX:=λf r=>match f,r with
 |107,1=>some ⟨[],[(0,0,0)],[],[],[],[],[]⟩
 |107,3=>some ⟨[],[(0,0,0)],[],[],[],[],[]⟩
 |107,6=>some ⟨[0],[(4,0,9223372036854775807)],[],[],[],[],[]⟩
 |_,_=>none
def akP:Nat->List Nat:=λn=>[1]
def Ir:cf:=⟨144,32,[.str],[qJ,.bool]⟩
def Iq:cf:=⟨145,33,[.str],[.str,.bool,.bool]⟩
def Bg:cf:=⟨146,34,[.str,.str],[.str]⟩
def AN:cf:=⟨119,10,[.str],[.str,vk]⟩
def EG:cf:=⟨120,12,[.str,.str],[.str,vk]⟩
def E3:kc:=⟨EG,44⟩
def AW:cf:=⟨93,15,[.str,.str],[qJ,vk]⟩
def A7:cf:=⟨78,18,[.str,.str],[qJ,vk]⟩
def A3:cf:=⟨64,16,[qJ],[.bool]⟩
def A8:cf:=⟨49,19,[qJ],[.bool]⟩
def AS:cf:=⟨66,14,[qJ,qJ],[.bool]⟩
def A4:cf:=⟨31,21,[qJ,qJ],[.bool]⟩
def Bi:cf:=⟨140,202,[.str,ajm],[.str]⟩
def akc:cB->Nat->Option cX:=λf r=>match f,r with
 |157,1=>some ⟨[1],[(0,0,0)],[],[],[],[],[]⟩
 |158,1=>some ⟨[1],[(0,0,0)],[],[],[],[],[]⟩
 |_,_=>none
def ak3:Nat->List Nat:=λn=>[1]
def vG:cf:=⟨109,204,[.str],[TU]⟩
def ajO:cB->Nat->Option cX:=λf r=>match f,r with
 |109,2=>some ⟨[0],[(3,0,9223372036854775807)],[],[],[],[],[]⟩
 |_,_=>none
def akF:Nat->List Nat:=λn=>[1]
def A9:cf:=⟨110,205,[.str],[.bool]⟩
def aj4:cB->Nat->Option cX:=λf r=>match f,r with
 |110,6=>some ⟨[0,3,4],[(5,0,9223372036854775807)],[],[],[],[],[]⟩
 |_,_=>none
def akV:Nat->List Nat:=λn=>[1]
def AY:cf:=⟨79,206,[.str,d64],[.str,.str,.bool]⟩
def Ba:cf:=⟨50,207,[.str],[.bool]⟩
def aj5:cB->Nat->Option cX:=λf r=>match f,r with
 |50,3=>some ⟨[3,5],[(6,0,9223372036854775807)],[],[],[],[],[]⟩
 |_,_=>none
def akW:Nat->List Nat:=λn=>[1]
def Bj:cf:=⟨65,200,[.str],[.bool]⟩
def AH:cf:=⟨39,300,[CN],[.bool]⟩
def AG:cf:=⟨40,301,[CN,qJ],[ado]⟩
def AF:dx:=⟨22,303,[EK],[.d .bool],0⟩
def ajN:cB->Nat->Option cX:=λf r=>match f,r with
 |22,4=>some ⟨[0,8,9],[(10,0,9223372036854775807)],[],[],[],[],[]⟩
 |_,_=>none
def akE:Nat->List Nat:=λn=>[1]
def Bk:cf:=⟨30,320,[CN],[.bool]⟩
def yi:dx:=⟨13,321,[EK],[.d .bool],0⟩
def ake:cB->Nat->Option cX:=λf r=>match f,r with
 |13,4=>some ⟨[0],[(3,0,9223372036854775807)],[],[],[],[],[]⟩
 |_,_=>none
def ak5:Nat->List Nat:=λn=>[1]
def AZ:cf:=⟨32,400,[.str],[.bool]⟩
def ajX:cB->Nat->Option cX:=λf r=>match f,r with
 |32,2=>some ⟨[0,5],[(6,0,9223372036854775807)],[],[],[],[],[]⟩
 |_,_=>none
def akO:Nat->List Nat:=λn=>[1]
def AK:cf:=⟨33,501,[.str,W7],[.bool]⟩
def AV:cf:=⟨14,670,[.str],[.bool]⟩
def sy:dx:=⟨68,640,[aju],[.d .bool],0⟩
def akd:cB->Nat->Option cX:=λf r=>match f,r with
 |68,2=>some ⟨[2],[],[],[],[],[],[(0,[.int .u8 0 127])]⟩
 |68,10=>some ⟨[2],[],[],[],[],[],[(0,[.int .u8 0 127])]⟩
 |_,_=>none
def ak4:Nat->List Nat:=λn=>[1,1,1]
def OR:dx:=⟨41,642,[.d mY,.d e9,.d OZ,pH,uk],[.d .bool],88⟩
def Hq:eP:=⟨OR,[5],[0]⟩
def ajR:cB->Nat->Option cX:=λf r=>match f,r with
 |95,4=>some ⟨[0,1,2,13,14],[(15,0,9223372036854775807)],[],[],[],[],[]⟩
 |126,2=>some ⟨[0,1,7],[(8,0,9223372036854775807)],[],[],[],[],[]⟩
 |_,_=>none
def akI:Nat->List Nat:=λn=>[1]
def OS:dx:=⟨41,677,[.d leaf],[.d .bool],89⟩
def Hr:eP:=⟨OS,[0],[0]⟩
def AQ:dx:=⟨70,671,[pH,.d .str],[.d Mg,.d .bool],0⟩
def ajS:cB->Nat->Option cX:=λf r=>match f,r with
 |70,3=>some ⟨[0,1,6],[(7,0,9223372036854775807),(8,0,9223372036854775807)],[],[],[],[],[]⟩
 |_,_=>none
def akJ:Nat->List Nat:=λn=>[1,1]
def eh:ka:=⟨73,672,[.str],9,[.d Mg,pH],51⟩
def eg:ka:=⟨74,673,[.int .i64 4 4,.int .i64 0 0,.str,.nil,.nil],30,[.d Mg,uk],51⟩
def AJ:dx:=⟨71,683,[pH],[I4],66⟩
def AM:dx:=⟨72,684,[uk],[IY],66⟩
def OU:dx:=⟨44,674,[.d mY,.d e9,.d OZ,pH,uk,.d .str,.d leaf],[.d d66,.d Hb,.d .str,pH,uk],87⟩
def Hs:eP:=⟨OU,[5,0,0],[5]⟩
def OT:dx:=⟨24,675,[.d mY,.d e9,.d OZ,pH,uk,.d .str,.d leaf],[.d Mf,.d Hb,.d .str,pH,uk,.d vk],87⟩
def MG:eP:=⟨OT,[5,0,0],[5,0]⟩
def OQ:dx:=⟨12,676,[.d Mf,.d Hb,.d .str,pH,uk,.d .str],[.d ajD,.d .bool],0⟩
def xk:eP:=⟨OQ,[5,0],[0,0]⟩
def ajQ:cB->Nat->Option cX:=λf r=>match f,r with
 |29,2=>some ⟨[0,1,7],[(8,0,9223372036854775807)],[],[],[],[],[]⟩
 |_,_=>none
def akH:Nat->List Nat:=λn=>[1]
def Bb:cf:=⟨86,440,[zL,zL],[zL]⟩
def uc:cf:=⟨53,444,[oO],[oO]⟩
def ud:cf:=⟨55,445,[oO],[oO]⟩
def ue:cf:=⟨56,446,[oO],[oO]⟩
def uf:cf:=⟨57,447,[oO],[oO]⟩
def yh:dx:=⟨59,442,[rq,.d ai0],[I6],71⟩
def aj6:cB->Nat->Option cX:=λf r=>match f,r with
 |59,6=>some ⟨[0,1,5],[(6,0,18446744073709551615),(7,-1,9223372036854775807)],[(1,0,0,0)],[],[],[],[]⟩
 |_,_=>none
def akX:Nat->List Nat:=λn=>[1,1,1]
def ug:cf:=⟨52,466,[adu],[oO]⟩
def yf:dx:=⟨116,462,[ak9],[I5],66⟩
def Ip:dx:=⟨58,464,[rq],[I6],72⟩
def yF:lA:=⟨Ip,[.int .u32 1779033703,.int .u32 3144134277,.int .u32 1013904242,.int .u32 2773480762,.int .u32 1359893119,.int .u32 2600822924,.int .u32 528734635,.int .u32 1541459225,.int .i64 64,.fn 52,.fn 53,.fn 55,.fn 56,.fn 57],87,[.int .i64 4]⟩
def IC:cB->Nat->Option cX:=λf r=>match f,r with
 |85,3=>some ⟨[0],[(5,16,9223372036854775807)],[],[],[(4,[.int .u32 0 4294967295],78)],[],[]⟩
 |85,8=>some ⟨[0,106,107],[(108,0,9223372036854775807),(6,0,4294967295),(7,0,4294967295),(8,0,4294967295),(9,0,4294967295),(10,0,4294967295),(11,0,4294967295),(12,0,4294967295),(13,0,4294967295)],[],[],[],[],[]⟩
 |58,15=>some ⟨[3,5,13,47,48],[(14,-1,3)],[],[],[(11,[.int .u8 0 255],5)],[],[]⟩
 |_,_=>none
def Xt:Nat->List Nat:=λn=>cond (aG n 4) [8,1] (cond (aG n 102) [8,1] [1,1,1,1])
def Iu:dx:=⟨60,469,[rq,rq,rq],[rq],75⟩
def yw:jN:=⟨Iu,63,true⟩
def Iv:dx:=⟨34,472,[rq,rq,rq],[.d SN],75⟩
def BE:jN:=⟨Iv,63,false⟩
def Is:dx:=⟨61,225,[.d ajl,rq],[.d .str],48⟩
def AR:dx:=⟨15,679,[.d .str,.d qJ],[.d .str],90⟩
def It:dx:=⟨9,678,[EK,.d .str,.d ajj,.d .str,pH],[.d Mf,.d Hb,.d .str,pH,uk,.d vk],0⟩
def vp:eP:=⟨It,[0,0,3],[5,0]⟩
def yg:dx:=⟨7,680,[],[.d .bool],0⟩
def OV:dx:=⟨8,681,[EK,.d .str,.d .str,pH],[.d .bool],0⟩
def Dm:eP:=⟨OV,[0,3],[0]⟩
def ajU:cB->Nat->Option cX:=λf r=>match f,r with
 |8,3=>some ⟨[0,3],[(5,-9223372036854775808,9223372036854775807),(6,0,9223372036854775807)],[],[],[],[],[]⟩
 |_,_=>none
def akL:Nat->List Nat:=λn=>[1,1]
def EF:dx:=⟨4,682,[EK,.d .str,pH],[.d .bool],0⟩
def ajT:cB->Nat->Option cX:=λf r=>match f,r with
 |4,10=>some ⟨[0,1,2,7,8,9],[(10,0,9223372036854775807)],[],[6],[],[],[]⟩
 |4,14=>some ⟨[0,1,2,6,7,8,9,10],[(12,0,9223372036854775807)],[],[11],[],[],[]⟩
 |4,20=>some ⟨[0,1,2,7,8,9],[(13,0,9223372036854775807)],[],[6],[],[],[]⟩
 |4,25=>some ⟨[0,1,2,6,7,8,9,13,14,15],[(17,0,9223372036854775807),(16,0,0)],[],[],[],[],[]⟩
 |_,_=>none
def akK:Nat->List Nat:=λn=>[1,1]
def sh:Nat->List Nat×List Nat
 |73=>([1,1],[1])
 |36=>([1,1],[1])
 |37=>([1,1],[1])
 |120=>([1],[1])
 |121=>([1],[1])
 |127=>([1],[1])
 |122=>([1],[1])
 |125=>([1],[1,1,1])
 |126=>([1],[1,1,1])
 |44=>([1,1],[1])
 |65=>([1,1],[1])
 |28=>([1],[1])
 |17=>([1],[1])
 |31=>([1,1],[1])
 |128=>([1],[1])
 |123=>([1],[1])
 |124=>([1],[1])
 |47=>([1],[1])
 |27=>([1],[1])
 |24=>([1],[1])
 |29=>([1],[1])
 |50=>([1],[1])
 |51=>([1],[1])
 |52=>([1],[1])
 |30=>([1],[1])
 |35=>([1],[1,1,1])
 |13=>([1,1],[1,1])
 |11=>([1],[1,1])
 |32=>([1],[2,1])
 |33=>([1],[1,1,1])
 |34=>([1,1],[1])
 |10=>([1],[1,1])
 |12=>([1,1],[1,1])
 |15=>([1,1],[2,1])
 |18=>([1,1],[2,1])
 |16=>([2],[1])
 |19=>([2],[1])
 |14=>([2,2],[1])
 |21=>([2,2],[1])
 |202=>([1],[1])
 |204=>([1],[1])
 |205=>([1],[1])
 |206=>([1,1],[1,1,1])
 |207=>([1],[1])
 |200=>([1],[1])
 |300=>([4],[1])
 |301=>([4,2],[1])
 |303=>([1],[1])
 |320=>([4],[1])
 |321=>([1],[1])
 |400=>([1],[1])
 |501=>([1],[1])
 |670=>([1],[1])
 |640=>([1],[1])
 |642=>([1,1],[1])
 |677=>([5],[1])
 |671=>([1,1],[1,1])
 |672=>([1,1,1],[1])
 |673=>([1,1,1],[1])
 |683=>([1],[1])
 |684=>([1],[1])
 |674=>([1,1,1,5],[1,1,1,1,1])
 |675=>([1,1,1,5],[1,1,1,1,1,1])
 |676=>([1,1,1,1,1,1],[5,1])
 |440=>([1,1],[1])
 |444=>([1],[1])
 |445=>([1],[1])
 |446=>([1],[1])
 |447=>([1],[1])
 |442=>([1],[1])
 |466=>([1],[1])
 |462=>([1],[1])
 |464=>([1],[1])
 |469=>([1,1,1],[1])
 |472=>([1,1,1],[32])
 |225=>([1],[1])
 |679=>([1,2],[1])
 |678=>([1,1,1,1],[1,1,1,1,1,1])
 |680=>([],[1])
 |681=>([1,1,1,1],[1])
 |682=>([1,1,1],[1])
 |_=>([],[])
abbrev dK (P:Program) (gl:dA) (c:cf) (cal:dY) (li:cB->Nat->Option cX) (lsh:Nat->List Nat) (lens:List Nat) (B:(Nat->List (List Int)->List (List Int)->Prop)->(List (List Int)->List (List Int)->Prop)->Prop):Prop:=∀S K,tk sh lsh S K lens (dB c.args) c.res (c.tree P gl cal li 600 6)=B S K
end Go.bH
namespace Go.bH
open Go Go.bg
def Se (S:zzS) (K:zzK):Prop:=
 br λz0=>uw λae=>∃(fG:List (List Int)->Prop) (iX:List (List Int)->Nat),fG [[z0]]/\(br λz3=>fG [[z3]]->aH 0 [z3] λz4=>(aj (decide
 (0<z4)) (af 1 [z3,0]/\bF 1 [z3,0] λz5=>(aj (decide (z5=ae)) (aH 0 [z3] λz6=>af 2 [z3,1,z6]/\bN 2 [z3,1,z6] λz7=>(fG [[z7]]/\iX
 [[z7]]<iX [[z3]])) (K [[z0],[ae]] [[z3]]))) (K [[z0],[ae]] [[z3]])))
def Sf (S:zzS) (K:zzK):Prop:=
 br λz0=>uw λae=>∃(fG:List (List Int)->Prop) (iX:List (List Int)->Nat),fG [[z0]]/\(br λz3=>fG [[z3]]->aH 0 [z3] λz4=>(aj (decide
 (0<z4)) (aH 0 [z3] λz5=>af 1 [z3,(z5+(-1))]/\bF 1 [z3,(z5+(-1))] λz6=>(aj (decide (z6=ae)) (aH 0 [z3] λz7=>af 2 [z3,0,(z7+
 (-1))]/\bN 2 [z3,0,(z7+(-1))] λz8=>(fG [[z8]]/\iX [[z8]]<iX [[z3]])) (K [[z0],[ae]] [[z3]]))) (K [[z0],[ae]] [[z3]])))
def Sg (S:zzS) (K:zzK):Prop:=
 br λz0=>b5 4 [z0,0] λae=>(aj (decide (ae=1)) (K [[z0]] [[z0]]) (br λz2=>S 37 [[z0],[32]] [[z2]]->br λz3=>S 36 [[z2],[32]] [[z3]]->K
 [[z0]] [[z3]]))
def Sc (S:zzS) (K:zzK):Prop:=
 br λz0=>b5 4 [z0,0] λae=>(aj (decide (ae=1)) (K [[z0]] [[z0]]) (br λz2=>S 37 [[z0],[46]] [[z2]]->br λz3=>S 36 [[z2],[46]] [[z3]]->K
 [[z0]] [[z3]]))
def RQ (S:zzS) (K:zzK):Prop:=
 br λz0=>b5 4 [47,z0] λae=>(aj (decide (ae=1)) (K [[z0]] [[(cond (true) 1 0)]]) (qt λz2=>S 73 [[z0],[46]] [[z2]]->K [[z0]] [[(cond (decide (0
 <=z2)) 1 0)]]))
theorem aop:Se SB (aX SB [.str] 36):=by
 intro z0 a0 a1 ae b0 b1;refine⟨λbl=>∃z,bl=[[z]]/\fa (·==u8 ae) (U z)=fa (·==u8 ae) (U z0),λbl=>(U ((bl.getD 0 []).getD 0 0)).length,⟨z0,rfl,rfl⟩,?_⟩
 rintro z3 bE c1 ⟨z,e,hz⟩
 obtain rfl:z3=z:=by simpa using e
 intro z4 d0 d1 ef;simp only[aw]at ef;cases hl:U z3 with
 |nil=>
  rw[hl]at ef hz;simp only[eF]at ef;subst ef;refine⟨λhp=>by simp at hp,λ_=>⟨⟨bE,c1,trivial⟩,?_⟩⟩;show U z3=_
  try dsimp only
  rw[hl,<-hz];rfl
 |cons x r=>
  rw[hl]at ef hz;simp only[cS]at ef;refine⟨λ_=>⟨⟨bD _,by rw[hl];simp only[cS];omega⟩,?_⟩,λhp=>by simp at hp;omega⟩;intro z5 e0 e1 ml;simp only[aw,hl,yY,wE]at ml;have hx:=qw (b:=x) b0 b1;rw[<-ml]at hx;refine⟨λhe=>?_,λhe=>⟨⟨bE,c1,trivial⟩,?_⟩⟩
  ·have nZ:=hx.1 (by simpa using he);intro z6 f0 f1 lQ;simp only[aw,hl,cS]at lQ;refine⟨⟨by omega,by omega,by rw[hl];simp only[cS];omega⟩,?_⟩;intro z7 g0 g1 pF;have hr:U z7=r:=by
    try dsimp only
    rw[pF];simp only[aw,ea,hl]
    try dsimp only
    rw[show(1:Int).toNat=1 from rfl,Ri,Rj];exact ky (by omega)
   refine⟨⟨z7,rfl,?_⟩,?_⟩
   ·try dsimp only
    rw[hr,<-hz];simp only[fa,oy,nZ,if_true]
   ·show(U z7).length<(U z3).length
    try dsimp only
    rw[hr,hl];simp
  ·show U z3=_;have nZ:¬(x==u8 ae)=true:=λh=>by have:=hx.2 h;simp[this]at he
   try dsimp only
   rw[hl,<-hz];simp only[fa,oy,nZ,if_false];rfl
theorem Fm {l:ax} (h:l≠[]):∃r x,l=r++[x]:=⟨_,_,(List.dropLast_concat_getLast h).symm⟩
theorem aor:Sf SB (aX SB [.str] 37):=by
 intro z0 a0 a1 ae b0 b1;refine⟨λbl=>∃z,bl=[[z]]/\fO (·==u8 ae) (U z)=fO (·==u8 ae) (U z0),λbl=>(U ((bl.getD 0 []).getD 0 0)).length,⟨z0,rfl,rfl⟩,?_⟩
 rintro z3 bE c1 ⟨z,e,hz⟩
 obtain rfl:z3=z:=by simpa using e
 intro z4 d0 d1 ef;simp only[aw]at ef;by_cases hl:U z3=[]
 ·rw[hl]at ef hz;simp only[eF]at ef;subst ef;refine⟨λhp=>by simp at hp,λ_=>⟨⟨bE,c1,trivial⟩,?_⟩⟩;show U z3=_
  try dsimp only
  rw[hl,<-hz];rfl
 ·obtain⟨r,x,hl⟩:=Fm hl;rw[hl]at ef hz;simp only[dm,cS,eF]at ef;refine⟨λ_=>?_,λhp=>by simp at hp;omega⟩;intro z5 e0 e1 ml;simp only[aw,hl,dm,cS,eF]at ml;refine⟨⟨by omega,by rw[hl];simp only[dm,cS,eF];omega⟩,?_⟩;intro z6 f0 f1 lQ;have ht:(z5+-1).toNat=r.length:=by omega
  simp only[aw,hl,ht]at lQ;have hx:=qw (b:=x) b0 b1;rw[show((r++[x]).getD r.length 0)=x by simp[aB]]at lQ;rw[<-lQ]at hx;refine⟨λhe=>?_,λhe=>⟨⟨bE,c1,trivial⟩,?_⟩⟩
  ·have nZ:=hx.1 (by simpa using he);intro z7 f0 f1 pF;simp only[aw,hl,dm,cS,eF]at pF;have Eo:(z7+-1).toNat=r.length:=by omega
   refine⟨⟨by omega,by omega,by rw[hl];simp only[dm,cS,eF];omega⟩,?_⟩;intro z8 g0 g1 ED;have hr:U z8=r:=by
    try dsimp only
    rw[ED];simp only[aw,ea,hl,Eo];simp
   refine⟨⟨z8,rfl,?_⟩,?_⟩
   ·try dsimp only
    rw[hr,<-hz,we,nZ,cond_true]
   ·show(U z8).length<(U z3).length
    try dsimp only
    rw[hr,hl];simp
  ·show U z3=_;have nZ:(x==u8 ae)=false:=by
    cases h:(x==u8 ae)with
    |false=>rfl
    |true=>have:=hx.2 h;simp[this]at he
   try dsimp only
   rw[hl,<-hz,we,nZ,cond_false]
theorem apV:U 0=[]:=rfl
theorem eq_nil {z ae:Int} (h:ae=aw 4 [z,0]):decide (ae=1)=(U z==[]):=by
 try dsimp only
 rw[h];simp only[aw,apV];cases hz:U z with
 |nil=>rfl
 |cons x r=>simp
theorem Yb {c:Int} {p:UInt8->Bool} (hc:p=(·==u8 c)) {id:Nat} (hid:∀z r,SB id [[z]] [[r]]=(U r=jr p (U z))):
 (∀z0:Int,0<=z0->z0<=bx->
 ∀ae:Int,0<=ae->ae<=1->ae=aw 4 [z0,0]->
 (((decide (ae=1))=true->
  aX SB [.str] id [[z0]] [[z0]]
 )/\((decide (ae=1))=false->
  ∀z2:Int,0<=z2->z2<=bx->SB 37 [[z0],[c]] [[z2]]->
  ∀z3:Int,0<=z3->z3<=bx->SB 36 [[z2],[c]] [[z3]]->
  aX SB [.str] id [[z0]] [[z3]]
 ))):=by
  intro z0 a0 a1 ae b0 b1 hz1
  try dsimp only
  rw[eq_nil hz1];refine⟨λh=>⟨⟨a0,a1,trivial⟩,?_⟩,λh z2 bE c1 h2 z3 d0 d1 h3=>⟨⟨d0,d1,trivial⟩,?_⟩⟩
  ·try dsimp only
   rw[hid];have:U z0=[]:=by simpa using h
   try dsimp only
   rw[this];rfl
  ·try dsimp only
   rw[hid];have h2:U z2=fO (·==u8 c) (U z0):=h2;have h3:U z3=fa (·==u8 c) (U z2):=h3
   try dsimp only
   rw[h3,h2,hc];rfl
theorem aos:Sg SB (aX SB [.str] 120):=Yb (c:=32) (p:=(·==32)) rfl λ_ _=>rfl
theorem aon:Sc SB (aX SB [.str] 121):=Yb (c:=46) (p:=(·==46)) rfl λ_ _=>rfl
theorem ano:RQ SB (aX SB [.bool] 127):=by
 intro z0 a0 a1 ae b0 b1 hz1;simp only[aw]at hz1;refine⟨λh=>⟨⟨by decide,by decide,trivial⟩,?_⟩,λh z2 bE c1 h2=>⟨⟨(oK _).1,(oK _).2,trivial⟩,?_⟩⟩
 ·have:U z0=[46]:=by
   have e:U 47=[46]:=by decide
   rw[e]at hz1;by_cases h':[46]=U z0
   ·exact h'.symm
   ·rw[if_neg h']at hz1;subst hz1;simp at h
  show(1:Int)=aN ((U z0).contains 46)
  try dsimp only
  rw[this];rfl
 ·have h2:z2=idx 46 (U z0):=h2;show(cond (decide (0<=z2)) 1 0:Int)=aN ((U z0).contains 46)
  try dsimp only
  rw[h2,Ii (by decide) (by decide)];rfl
def RT (S:zzS) (K:zzK):Prop:=
 br λz0=>b5 4 [65,z0] λae=>(aj (decide (ae=1)) (af 2 [z0,0,0]/\bN 2 [z0,0,0] λz2=>aH 0 [z0] λz3=>af 2 [z0,1,z3]/\bN 2 [z0,1,z3]
 λz4=>K [[z0]] [[z2],[z4],[(cond (true) 1 0)]]) (qt λz2=>S 73 [[z0],[64]] [[z2]]->(aj (decide (0<=z2)) (af 2 [z0,0,z2]/\bN 2 [z0,0,z2] λz3=>
 a8 (z2+9223372036854775809) 18446744073709551616 λz4=>aH 0 [z0] λz5=>af 2 [z0,((z2+((-18446744073709551616)*z4))+1),z5]/\bN 2 [z0,((z2+
 ((-18446744073709551616)*z4))+1),z5] λz6=>K [[z0]] [[z3],[z6],[(cond (true) 1 0)]]) (K [[z0]] [[z0],[0],[(cond (false) 1 0)]]))))
def RU (S:zzS) (K:zzK):Prop:=
 br λz0=>b5 4 [59,z0] λae=>(aj (decide (ae=1)) (af 2 [z0,0,0]/\bN 2 [z0,0,0] λz2=>aH 0 [z0] λz3=>af 2 [z0,1,z3]/\bN 2 [z0,1,z3]
 λz4=>K [[z0]] [[z2],[z4],[(cond (true) 1 0)]]) (qt λz2=>S 73 [[z0],[58]] [[z2]]->(aj (decide (0<=z2)) (af 2 [z0,0,z2]/\bN 2 [z0,0,z2] λz3=>
 a8 (z2+9223372036854775809) 18446744073709551616 λz4=>aH 0 [z0] λz5=>af 2 [z0,((z2+((-18446744073709551616)*z4))+1),z5]/\bN 2 [z0,((z2+
 ((-18446744073709551616)*z4))+1),z5] λz6=>K [[z0]] [[z3],[z6],[(cond (true) 1 0)]]) (K [[z0]] [[z0],[0],[(cond (false) 1 0)]]))))
def R4 (S:zzS) (K:zzK):Prop:=
 br λz0=>br λae=>aH 0 [z0] λz2=>∃(ez:List (List Int)->Prop) (c7:List (List Int)->Nat),ez [[0]]/\(dk λz4=>ez [[z4]]->(aj (decide
 (z4<z2)) (af 1 [z0,z4]/\bF 1 [z0,z4] λz5=>qt λz6=>S 73 [[ae],[z5]] [[z6]]->(aj (decide (z6<0)) (K [[z0],[ae]] [[(cond (false) 1 0)]]) (a8
 (z4+9223372036854775809) 18446744073709551616 λz7=>af 39 [((z4+((-18446744073709551616)*z7))+1),0,9223372036854775807]/\(ez [[((z4+
 ((-18446744073709551616)*z7))+1)]]/\c7 [[((z4+((-18446744073709551616)*z7))+1)]]<c7 [[z4]])))) (K [[z0],[ae]] [[(cond (true) 1 0)]])))
def R0 (S:zzS) (K:zzK):Prop:=
 br λz0=>br λae=>aH 0 [z0] λz2=>∃(ez:List (List Int)->Prop) (c7:List (List Int)->Nat),ez [[0]]/\(dk λz4=>ez [[z4]]->(aj (decide
 (z4<z2)) (af 1 [z0,z4]/\bF 1 [z0,z4] λz5=>qt λz6=>S 73 [[ae],[z5]] [[z6]]->(aj (decide (z6<0)) (K [[z0],[ae]] [[(cond (false) 1 0)]]) (a8
 (z4+9223372036854775809) 18446744073709551616 λz7=>af 39 [((z4+((-18446744073709551616)*z7))+1),0,9223372036854775807]/\(ez [[((z4+
 ((-18446744073709551616)*z7))+1)]]/\c7 [[((z4+((-18446744073709551616)*z7))+1)]]<c7 [[z4]])))) (K [[z0],[ae]] [[(cond (true) 1 0)]])))
def R6 (S:zzS) (K:zzK):Prop:=
 br λz0=>uw λae=>∃(fG:List (List Int)->Prop) (iX:List (List Int)->Nat),fG [[0]]/\(dk λz3=>fG [[z3]]->aH 0 [z0] λz4=>(aj (decide
 (z3<z4)) (af 1 [z0,z3]/\bF 1 [z0,z3] λz5=>(aj (decide (z5=ae)) (K [[z0],[ae]] [[(cond (true) 1 0)]]) (a8 (z3+9223372036854775809)
 18446744073709551616 λz6=>af 39 [((z3+((-18446744073709551616)*z6))+1),0,9223372036854775807]/\(fG [[((z3+((-18446744073709551616)*z6))+1)]]
 /\iX [[((z3+((-18446744073709551616)*z6))+1)]]<iX [[z3]])))) (K [[z0],[ae]] [[(cond (false) 1 0)]])))
theorem X9 {c n:Int} (h0:0<=c) (h1:c<=255) (hn:U n=[u8 c]) {id:Nat} (hid:∀z a b r,SB id [[z]] [[a],[b],[r]]=((U a,U b,r)=mL c (U z))):
 (∀z0:Int,0<=z0->z0<=bx->
 ∀ae:Int,0<=ae->ae<=1->ae=aw 4 [n,z0]->
 (((decide (ae=1))=true->
  af 2 [z0,0,0]/\
  ∀z2:Int,0<=z2->z2<=bx->z2=aw 2 [z0,0,0]->
  ∀z3:Int,0<=z3->z3<=9223372036854775807->z3=aw 0 [z0]->
  af 2 [z0,1,z3]/\
  ∀z4:Int,0<=z4->z4<=bx->z4=aw 2 [z0,1,z3]->
  aX SB [.str,.str,.bool] id [[z0]] [[z2],[z4],[(cond (true) 1 0)]]
 )/\((decide (ae=1))=false->
  ∀z2:Int,(-1)<=z2->z2<=9223372036854775807->SB 73 [[z0],[c]] [[z2]]->
  (((decide (0<=z2))=true->
   af 2 [z0,0,z2]/\
   ∀z3:Int,0<=z3->z3<=bx->z3=aw 2 [z0,0,z2]->
   ∀z4:Int,0<=z4->z4<=1->0<=(z2+9223372036854775809)-18446744073709551616*z4->(z2+9223372036854775809)-18446744073709551616*z4<18446744073709551616->
   ∀z5:Int,0<=z5->z5<=9223372036854775807->z5=aw 0 [z0]->
   af 2 [z0,((z2+((-18446744073709551616)*z4))+1),z5]/\
   ∀z6:Int,0<=z6->z6<=bx->z6=aw 2 [z0,((z2+((-18446744073709551616)*z4))+1),z5]->
   aX SB [.str,.str,.bool] id [[z0]] [[z3],[z6],[(cond (true) 1 0)]]
  )/\((decide (0<=z2))=false->
   aX SB [.str,.str,.bool] id [[z0]] [[z0],[0],[(cond (false) 1 0)]]
  ))
 ))):=by
  intro z0 a0 a1 ae b0 b1 hz1;simp only[aw,hn]at hz1;refine⟨λh=>?_,λh z2 bE c1 h2=>?_⟩
  ·have hs:U z0=[u8 c]:=by
    by_cases h':[u8 c]=U z0
    ·exact h'.symm
    ·rw[if_neg h']at hz1;subst hz1;simp at h
   refine⟨⟨by omega,by omega,by omega⟩,λz2 bE c1 h2 z3 d0 d1 h3=>?_⟩;simp only[aw,hs,Rk]at h3;refine⟨⟨by omega,by omega,by rw[hs];simp only[Rk];omega⟩,λz4 e0 e1 h4=>⟨⟨bE,c1,e0,e1,by decide,by decide,trivial⟩,?_⟩⟩
   try dsimp only
   rw[hid];have e2:U z2=[]:=by rw[h2];simp[aw,ea]
   have fr:U z4=[]:=by rw[h4];simp[aw,ea,hs]
   have adR:idx c [u8 c]=0:=by simp[idx,JL h0 h1]
   try dsimp only
   rw[e2,fr,hs];simp[mL,adR]
  ·have h2:z2=idx c (U z0):=h2;refine⟨λhp=>?_,λhp=>⟨⟨a0,a1,bD _,gb,by decide,by decide,trivial⟩,?_⟩⟩
   ·have hp:0<=z2:=by simpa using hp
    have hr:=yc c (U z0);have bZ:=uj a1;refine⟨⟨by omega,by omega,by omega⟩,λz3 d0 d1 h3 z4 e0 e1 e2 e3 z5 f0 f1 h5=>?_⟩;simp only[aw]at h5;have Hi:z2+-18446744073709551616*z4+1=z2+1:=by omega
    try dsimp only
    rw[Hi];refine⟨⟨by omega,by omega,by omega⟩,λz6 g0 g1 h6=>⟨⟨d0,d1,g0,g1,by decide,by decide,trivial⟩,?_⟩⟩
    try dsimp only
    rw[hid];have e3:U z3=(U z0).take z2.toNat:=by rw[h3];simp[aw,ea]
    have lD:U z6=(U z0).drop (z2.toNat+1):=by
     try dsimp only
     rw[h6];simp only[aw,ea]
     try dsimp only
     rw[show(z2+1).toNat=z2.toNat+1 by omega];exact ky (by simp;omega)
    try dsimp only
    rw[e3,lD];unfold mL
    try dsimp only
    rw[<-h2,show decide (0<=z2)=true by simpa using hp];rfl
   ·try dsimp only
    rw[hid];unfold mL
    try dsimp only
    rw[<-h2,hp];rfl
theorem ant:RT SB (aX SB [.str,.str,.bool] 125):=X9 (c:=64) (n:=65) (by decide) (by decide) (by decide) λ_ _ _ _=>rfl
theorem anu:RU SB (aX SB [.str,.str,.bool] 126):=X9 (c:=58) (n:=59) (by decide) (by decide) (by decide) λ_ _ _ _=>rfl
theorem Ly (p:UInt8->Bool) (l:ax) (i:Nat) (h:i<l.length):(l.take (i+1)).all p=((l.take i).all p&&p (l.getD i 0)):=by
 try dsimp only
 rw[Fv l i h];simp
theorem Lx (p:UInt8->Bool) (l:ax) (i:Nat) (h:i<l.length) (hp:p (l.getD i 0)=false):l.all p=false:=by
 try dsimp only
 rw[List.all_eq_false];refine⟨l.getD i 0,?_,λe=>by rw[hp]at e;cases e⟩;simp[aB,h]
theorem mz {z q L:Int} (h:z<L) (bZ:L<=9223372036854775807) (h0:0<=z) (q0:0<=q) (e2:0<=(z+9223372036854775809)-18446744073709551616*q):z+-18446744073709551616*q+1=z+1:=by omega
theorem Ya {id:Nat} (hid:∀s b r,SB id [[s],[b]] [[r]]=(r=aN ((U s).all λc=>(U b).contains c))):
 (∀z0:Int,0<=z0->z0<=bx->∀ae:Int,0<=ae->ae<=bx->
 ∀z2:Int,0<=z2->z2<=9223372036854775807->z2=aw 0 [z0]->
 ∃(ez:List (List Int)->Prop) (c7:List (List Int)->Nat),ez [[0]]/\(∀z4:Int,0<=z4->z4<=9223372036854775807->ez [[z4]]->
  (((decide (z4<z2))=true->
   af 1 [z0,z4]/\
   ∀z5:Int,0<=z5->z5<=255->z5=aw 1 [z0,z4]->
   ∀z6:Int,(-1)<=z6->z6<=9223372036854775807->SB 73 [[ae],[z5]] [[z6]]->
   (((decide (z6<0))=true->
    aX SB [.bool] id [[z0],[ae]] [[(cond (false) 1 0)]]
   )/\((decide (z6<0))=false->
    ∀z7:Int,0<=z7->z7<=1->0<=(z4+9223372036854775809)-18446744073709551616*z7->(z4+9223372036854775809)-18446744073709551616*z7<18446744073709551616->
    af 39 [((z4+((-18446744073709551616)*z7))+1),0,9223372036854775807]/\
    (ez [[((z4+((-18446744073709551616)*z7))+1)]]/\c7 [[((z4+((-18446744073709551616)*z7))+1)]]<c7 [[z4]])
   ))
  )/\((decide (z4<z2))=false->
   aX SB [.bool] id [[z0],[ae]] [[(cond (true) 1 0)]]
  ))
 )):=by
  intro z0 a0 a1 ae b0 b1 z2 bE c1 h2;simp only[aw]at h2;refine⟨λbl=>∃i:Nat,bl=[[(i:Int)]]/\i<=(U z0).length/\((U z0).take i).all (λc=>(U ae).contains c)=true,λbl=>(U z0).length-((bl.getD 0 []).getD 0 0).toNat,⟨0,rfl,iI _,rfl⟩,?_⟩
  rintro z4 d0 d1 ⟨i,e,hi,hall⟩
  obtain rfl:z4=i:=by simpa using e
  refine⟨λhp=>?_,λhp=>⟨⟨by decide,by decide,trivial⟩,?_⟩⟩
  ·have hp:(i:Int)<z2:=by simpa using hp
   refine⟨⟨d0,by omega⟩,λz5 e0 e1 h5 z6 f0 f1 h6=>?_⟩;have h6:z6=idx z5 (U ae):=h6;simp only[aw,eZ]at h5;have hu:u8 z5=(U z0).getD i 0:=by rw[h5,B8]
   have hm:=Ii e0 e1 (U ae);rw[hu,<-h6]at hm;refine⟨λhq=>⟨⟨by decide,by decide,trivial⟩,?_⟩,λhq z7 g0 g1 g2 g3=>?_⟩
   ·try dsimp only
    rw[hid,Lx _ _ i (by omega) (by rw[<-hm];simpa using hq)];rfl
   ·have hq:0<=z6:=by simpa using hq
    try dsimp only
    rw[mz (L:=z2) hp c1 d0 g0 g2];refine⟨⟨by omega,by omega⟩,⟨i+1,by simp,by omega,?_⟩,?_⟩
    ·try dsimp only
     rw[Ly _ _ _ (by omega),hall,<-hm];simpa using hq
    ·show(U z0).length-((i:Int)+1).toNat<(U z0).length-(i:Int).toNat;omega
  ·have hp:¬(i:Int)<z2:=by simpa using hp
   rw[ky (by omega)]at hall
   try dsimp only
   rw[hid,hall];rfl
theorem anX:R4 SB (aX SB [.bool] 44):=Ya λ_ _ _=>rfl
theorem anG:R0 SB (aX SB [.bool] 65):=Ya λ_ _ _=>rfl
theorem L8 (l:ax) (c:UInt8) (i:Nat) (h:i<l.length):(l.take (i+1)).contains c=((l.take i).contains c||l.getD i 0==c):=by
 try dsimp only
 rw[Fv l i h,iJ];simp;exact or_congr Iff.rfl ⟨λh=>h.symm,λh=>h.symm⟩
theorem an4:R6 SB (aX SB [.bool] 31):=by
 intro z0 a0 a1 ae b0 b1;refine⟨λbl=>∃i:Nat,bl=[[(i:Int)]]/\i<=(U z0).length/\((U z0).take i).contains (u8 ae)=false,λbl=>(U z0).length-((bl.getD 0 []).getD 0 0).toNat,⟨0,rfl,iI _,rfl⟩,?_⟩
 rintro z4 d0 d1 ⟨i,e,hi,hall⟩
 obtain rfl:z4=i:=by simpa using e
 intro z2 bE c1 h2;simp only[aw]at h2;refine⟨λhp=>?_,λhp=>⟨⟨by decide,by decide,trivial⟩,?_⟩⟩
 ·have hp:(i:Int)<z2:=by simpa using hp
  refine⟨⟨d0,by omega⟩,λz5 e0 e1 h5=>?_⟩;simp only[aw,eZ]at h5;have hu:=qw (b:=(U z0).getD i 0) b0 b1;rw[<-h5]at hu;refine⟨λhq=>⟨⟨by decide,by decide,trivial⟩,?_⟩,λhq z7 g0 g1 g2 g3=>?_⟩
  ·have:=hu.1 (by simpa using hq);show(1:Int)=aN ((U z0).contains (u8 ae));have hm:(U z0).contains (u8 ae)=true:=by
    try dsimp only
    rw[<-beq_iff_eq.1 this];simp[aB,show i<(U z0).length by omega]
   try dsimp only
   rw[hm];rfl
  ·try dsimp only
   rw[mz (L:=z2) hp c1 d0 g0 g2];refine⟨⟨by omega,by omega⟩,⟨i+1,by simp,by omega,?_⟩,?_⟩
   ·try dsimp only
    rw[L8 _ _ _ (by omega),hall,sZ];cases h:((U z0).getD i 0==u8 ae)with
    |false=>rfl
    |true=>have:=hu.2 h;simp[this]at hq
   ·show(U z0).length-((i:Int)+1).toNat<(U z0).length-(i:Int).toNat;omega
 ·have hp:¬(i:Int)<z2:=by simpa using hp
  rw[ky (by omega)]at hall;show(0:Int)=aN ((U z0).contains (u8 ae))
  try dsimp only
  rw[hall];rfl
def Sb (S:zzS) (K:zzK):Prop:=
 br λz0=>b5 4 [z0,0] λae=>(aj (decide (ae=1)) (K [[z0]] [[z0]]) (∃(fG:List (List Int)->Prop) (iX:List (List Int)->Nat),fG [[z0]]/\(br λ
 z3=>fG [[z3]]->aH 0 [z3] λz4=>(aj (decide (0<z4)) (aH 0 [z3] λz5=>af 1 [z3,(z5+(-1))]/\bF 1 [z3,(z5+(-1))] λz6=>b5 43 [12125,z6]
 λz7=>(aj ((!(decide (z7=1)))) (∃(ej:List (List Int)->Prop) (fp:List (List Int)->Nat),ej [[z3]]/\(br λz9=>ej [[z9]]->aH 0 [z9] λaq
 =>(aj (decide (0<aq)) (af 1 [z9,0]/\bF 1 [z9,0] λak=>b5 43 [12125,ak] λz12=>(aj ((!(decide (z12=1)))) (K [[z0]] [[z9]]) (aH 0 [z9] λ
 az=>af 2 [z9,1,az]/\bN 2 [z9,1,az] λaC=>(ej [[aC]]/\fp [[aC]]<fp [[z9]])))) (K [[z0]] [[z9]])))) (aH 0 [z3] λz8=>af 2 [z3,0,(z8+
 (-1))]/\bN 2 [z3,0,(z8+(-1))] λz9=>(fG [[z9]]/\iX [[z9]]<iX [[z3]])))) (∃(dn:List (List Int)->Prop) (cT:List (List Int)->Nat),dn [[z3]]/\
 (br λz6=>dn [[z6]]->aH 0 [z6] λz7=>(aj (decide (0<z7)) (af 1 [z6,0]/\bF 1 [z6,0] λz8=>b5 43 [12125,z8] λz9=>(aj ((!(decide (z9=
 1)))) (K [[z0]] [[z6]]) (aH 0 [z6] λaq=>af 2 [z6,1,aq]/\bN 2 [z6,1,aq] λak=>(dn [[ak]]/\cT [[ak]]<cT [[z6]])))) (K [[z0]]
 [[z6]]))))))))
def Sd (S:zzS) (K:zzK):Prop:=
 br λz0=>b5 4 [z0,0] λae=>(aj (decide (ae=1)) (K [[z0]] [[z0]]) (∃(fG:List (List Int)->Prop) (iX:List (List Int)->Nat),fG [[z0]]/\(br λ
 z3=>fG [[z3]]->aH 0 [z3] λz4=>(aj (decide (0<z4)) (aH 0 [z3] λz5=>af 1 [z3,(z5+(-1))]/\bF 1 [z3,(z5+(-1))] λz6=>b5 43
 [8267443711659794979134808499087199072256874527605039863196959864303977456569186565734100443375465041388132907546406408792979960403300126342849461211344038,z6]
 λz7=>(aj ((!(decide (z7=1)))) (∃(ej:List (List Int)->Prop) (fp:List (List Int)->Nat),ej [[z3]]/\(br λz9=>ej [[z9]]->aH 0 [z9] λaq
 =>(aj (decide (0<aq)) (af 1 [z9,0]/\bF 1 [z9,0] λak=>b5 43
 [8267443711659794979134808499087199072256874527605039863196959864303977456569186565734100443375465041388132907546406408792979960403300126342849461211344038,ak]
 λz12=>(aj ((!(decide (z12=1)))) (K [[z0]] [[z9]]) (aH 0 [z9] λaz=>af 2 [z9,1,az]/\bN 2 [z9,1,az] λaC=>(ej [[aC]]/\fp [[aC]]<fp
 [[z9]])))) (K [[z0]] [[z9]])))) (aH 0 [z3] λz8=>af 2 [z3,0,(z8+(-1))]/\bN 2 [z3,0,(z8+(-1))] λz9=>(fG [[z9]]/\iX [[z9]]<iX [[z3]])))) (∃
 (dn:List (List Int)->Prop) (cT:List (List Int)->Nat),dn [[z3]]/\(br λz6=>dn [[z6]]->aH 0 [z6] λz7=>(aj (decide (0<z7)) (af 1 [z6,0]/\
 bF 1 [z6,0] λz8=>b5 43
 [8267443711659794979134808499087199072256874527605039863196959864303977456569186565734100443375465041388132907546406408792979960403300126342849461211344038,z8]
 λz9=>(aj ((!(decide (z9=1)))) (K [[z0]] [[z6]]) (aH 0 [z6] λaq=>af 2 [z6,1,aq]/\bN 2 [z6,1,aq] λak=>(dn [[ak]]/\cT [[ak]]<cT
 [[z6]])))) (K [[z0]] [[z6]]))))))))
def Sa (S:zzS) (K:zzK):Prop:=
 br λz0=>b5 4 [z0,0] λae=>(aj (decide (ae=1)) (K [[z0]] [[z0]]) (∃(fG:List (List Int)->Prop) (iX:List (List Int)->Nat),fG [[z0]]/\(br λ
 z3=>fG [[z3]]->aH 0 [z3] λz4=>(aj (decide (0<z4)) (aH 0 [z3] λz5=>af 1 [z3,(z5+(-1))]/\bF 1 [z3,(z5+(-1))] λz6=>b5 43
 [284767230291263911083031,z6] λz7=>(aj ((!(decide (z7=1)))) (∃(ej:List (List Int)->Prop) (fp:List (List Int)->Nat),ej [[z3]]/\(br λz9=>ej
 [[z9]]->aH 0 [z9] λaq=>(aj (decide (0<aq)) (af 1 [z9,0]/\bF 1 [z9,0] λak=>b5 43 [284767230291263911083031,ak] λz12=>(aj ((!(decide
 (z12=1)))) (K [[z0]] [[z9]]) (aH 0 [z9] λaz=>af 2 [z9,1,az]/\bN 2 [z9,1,az] λaC=>(ej [[aC]]/\fp [[aC]]<fp [[z9]])))) (K [[z0]]
 [[z9]])))) (aH 0 [z3] λz8=>af 2 [z3,0,(z8+(-1))]/\bN 2 [z3,0,(z8+(-1))] λz9=>(fG [[z9]]/\iX [[z9]]<iX [[z3]])))) (∃(dn:List (List Int)
 ->Prop) (cT:List (List Int)->Nat),dn [[z3]]/\(br λz6=>dn [[z6]]->aH 0 [z6] λz7=>(aj (decide (0<z7)) (af 1 [z6,0]/\bF 1 [z6,0] λz8
 =>b5 43 [284767230291263911083031,z8] λz9=>(aj ((!(decide (z9=1)))) (K [[z0]] [[z6]]) (aH 0 [z6] λaq=>af 2 [z6,1,aq]/\bN 2 [z6,1,aq] λ
 ak=>(dn [[ak]]/\cT [[ak]]<cT [[z6]])))) (K [[z0]] [[z6]]))))))))
theorem UA {n z q:Int} {p:UInt8->Bool} (hn:∀c,(U n).contains c=p c) (h:q=aw 43 [n,z]):decide (q=1)=p (u8 z):=by
 try dsimp only
 rw[h];simp only[aw];have:=hn (u8 z);unfold u8 at this⊢
 try dsimp only
 rw[<-this];by_cases hm:kx z.toNat∈U n
 ·simp[hm]
 ·simp[hm]
theorem I7 {n:Int} {p:UInt8->Bool} (hn:∀c,(U n).contains c=p c) {id:Nat} (hid:∀z r,SB id [[z]] [[r]]=(U r=jr p (U z))):
 (∀z0:Int,0<=z0->z0<=bx->
 ∀ae:Int,0<=ae->ae<=1->ae=aw 4 [z0,0]->
 (((decide (ae=1))=true->
   aX SB [.str] id [[z0]] [[z0]]
 )/\((decide (ae=1))=false->
  ∃(fG:List (List Int)->Prop) (iX:List (List Int)->Nat),fG [[z0]]/\(∀z3:Int,0<=z3->z3<=bx->fG [[z3]]->
   ∀z4:Int,0<=z4->z4<=9223372036854775807->z4=aw 0 [z3]->
   (((decide (0<z4))=true->
    ∀z5:Int,0<=z5->z5<=9223372036854775807->z5=aw 0 [z3]->
    af 1 [z3,(z5+(-1))]/\
    ∀z6:Int,0<=z6->z6<=255->z6=aw 1 [z3,(z5+(-1))]->
    ∀z7:Int,0<=z7->z7<=1->z7=aw 43 [n,z6]->
    ((((!(decide (z7=1))))=true->
     ∃(ej:List (List Int)->Prop) (fp:List (List Int)->Nat),ej [[z3]]/\(∀z9:Int,0<=z9->z9<=bx->ej [[z9]]->
      ∀aq:Int,0<=aq->aq<=9223372036854775807->aq=aw 0 [z9]->
      (((decide (0<aq))=true->
       af 1 [z9,0]/\
       ∀ak:Int,0<=ak->ak<=255->ak=aw 1 [z9,0]->
       ∀z12:Int,0<=z12->z12<=1->z12=aw 43 [n,ak]->
       ((((!(decide (z12=1))))=true->
         aX SB [.str] id [[z0]] [[z9]]
       )/\(((!(decide (z12=1))))=false->
        ∀az:Int,0<=az->az<=9223372036854775807->az=aw 0 [z9]->
        af 2 [z9,1,az]/\
        ∀aC:Int,0<=aC->aC<=bx->aC=aw 2 [z9,1,az]->
        (ej [[aC]]/\fp [[aC]]<fp [[z9]])
       ))
      )/\((decide (0<aq))=false->
       aX SB [.str] id [[z0]] [[z9]]
      ))
     )
    )/\(((!(decide (z7=1))))=false->
     ∀z8:Int,0<=z8->z8<=9223372036854775807->z8=aw 0 [z3]->
     af 2 [z3,0,(z8+(-1))]/\
     ∀z9:Int,0<=z9->z9<=bx->z9=aw 2 [z3,0,(z8+(-1))]->
     (fG [[z9]]/\iX [[z9]]<iX [[z3]])
    ))
   )/\((decide (0<z4))=false->
    ∃(dn:List (List Int)->Prop) (cT:List (List Int)->Nat),dn [[z3]]/\(∀z6:Int,0<=z6->z6<=bx->dn [[z6]]->
     ∀z7:Int,0<=z7->z7<=9223372036854775807->z7=aw 0 [z6]->
     (((decide (0<z7))=true->
      af 1 [z6,0]/\
      ∀z8:Int,0<=z8->z8<=255->z8=aw 1 [z6,0]->
      ∀z9:Int,0<=z9->z9<=1->z9=aw 43 [n,z8]->
      ((((!(decide (z9=1))))=true->
        aX SB [.str] id [[z0]] [[z6]]
      )/\(((!(decide (z9=1))))=false->
       ∀aq:Int,0<=aq->aq<=9223372036854775807->aq=aw 0 [z6]->
       af 2 [z6,1,aq]/\
       ∀ak:Int,0<=ak->ak<=bx->ak=aw 2 [z6,1,aq]->
       (dn [[ak]]/\cT [[ak]]<cT [[z6]])
      ))
     )/\((decide (0<z7))=false->
      aX SB [.str] id [[z0]] [[z6]]
     ))
    )
   ))
  )
 ))):=by
  intro z0 a0 a1 ae b0 b1 hz1
  try dsimp only
  rw[eq_nil hz1];have inner:∀z3:Int,0<=z3->z3<=bx->U z3=fO p (U z0)->∃(ej:List (List Int)->Prop) (fp:List (List Int)->Nat),ej [[z3]]/\(∀z9:Int,0<=z9->z9<=bx->ej [[z9]]->
   ∀aq:Int,0<=aq->aq<=9223372036854775807->aq=aw 0 [z9]->
   (((decide (0<aq))=true->
    af 1 [z9,0]/\
    ∀ak:Int,0<=ak->ak<=255->ak=aw 1 [z9,0]->
    ∀z12:Int,0<=z12->z12<=1->z12=aw 43 [n,ak]->
    ((((!(decide (z12=1))))=true->
     aX SB [.str] id [[z0]] [[z9]]
    )/\(((!(decide (z12=1))))=false->
     ∀az:Int,0<=az->az<=9223372036854775807->az=aw 0 [z9]->
     af 2 [z9,1,az]/\
     ∀aC:Int,0<=aC->aC<=bx->aC=aw 2 [z9,1,az]->
     (ej [[aC]]/\fp [[aC]]<fp [[z9]])
    ))
   )/\((decide (0<aq))=false->
    aX SB [.str] id [[z0]] [[z9]]
   ))):=by
   intro z3 a0 a1 h3;refine⟨λbl=>∃z,bl=[[z]]/\fa p (U z)=fa p (fO p (U z0)),λbl=>(U ((bl.getD 0 []).getD 0 0)).length,⟨z3,rfl,by rw[h3]⟩,?_⟩
   rintro z9 bE c1 ⟨z,e,hz⟩
   obtain rfl:z9=z:=by simpa using e
   intro z4 d0 d1 ef;simp only[aw]at ef;cases hl:U z9 with
   |nil=>
    rw[hl]at ef hz;simp only[eF]at ef;subst ef;refine⟨λhp=>by simp at hp,λ_=>⟨⟨bE,c1,trivial⟩,?_⟩⟩
    try dsimp only
    rw[hid,hl];exact hz
   |cons x r=>
    rw[hl]at ef hz;simp only[cS]at ef;refine⟨λ_=>⟨⟨bD _,by rw[hl];simp only[cS];omega⟩,?_⟩,λhp=>by simp at hp;omega⟩;intro z5 e0 e1 ml;simp only[aw,hl,yY,wE]at ml;intro z6 f0 f1 lQ
    try dsimp only
    rw[UA hn lQ,ml,B8];refine⟨λhe=>⟨⟨bE,c1,trivial⟩,?_⟩,λhe=>?_⟩
    ·try dsimp only
     rw[hid,hl];have he:p x=false:=by simpa using he
     show x::r=fa p (fO p (U z0))
     try dsimp only
     rw[<-hz];simp[fa,oy,he]
    ·have he:p x=true:=by simpa using he
     intro az f0 f1 lQ;simp only[aw,hl,cS]at lQ;refine⟨⟨by omega,by omega,by rw[hl];simp only[cS];omega⟩,?_⟩;intro z7 g0 g1 pF;have hr:U z7=r:=by
      try dsimp only
      rw[pF];simp only[aw,ea,hl]
      try dsimp only
      rw[show(1:Int).toNat=1 from rfl,Ri,Rj];exact ky (by omega)
     refine⟨⟨z7,rfl,?_⟩,?_⟩
     ·try dsimp only
      rw[hr,<-hz];simp only[fa,oy,he,if_true]
     ·show(U z7).length<(U z9).length
      try dsimp only
      rw[hr,hl];simp
  refine⟨λh=>⟨⟨a0,a1,trivial⟩,?_⟩,λh=>?_⟩
  ·try dsimp only
   rw[hid];have:U z0=[]:=by simpa using h
   try dsimp only
   rw[this];rfl
  ·refine⟨λbl=>∃z,bl=[[z]]/\fO p (U z)=fO p (U z0),λbl=>(U ((bl.getD 0 []).getD 0 0)).length,⟨z0,rfl,rfl⟩,?_⟩
   rintro z3 bE c1 ⟨z,e,hz⟩
   obtain rfl:z3=z:=by simpa using e
   intro z4 d0 d1 ef;simp only[aw]at ef;by_cases hl:U z3=[]
   ·have aw5:=ef;rw[hl]at ef;simp only[eF]at ef;subst ef;refine⟨λhp=>by simp at hp,λ_=>inner z3 bE c1 ?_⟩;rw[hl]at hz⊢;exact hz
   ·obtain⟨r,x,hl⟩:=Fm hl;rw[hl]at ef hz;simp only[dm,cS,eF]at ef;refine⟨λ_=>?_,λhp=>by simp at hp;omega⟩;intro z5 d0 d1 ml;simp only[aw,hl,dm,cS,eF]at ml;refine⟨⟨by omega,by rw[hl];simp only[dm,cS,eF];omega⟩,?_⟩;intro z6 f0 f1 lQ;have ht:(z5+-1).toNat=r.length:=by omega
    simp only[aw,hl,ht]at lQ;rw[show((r++[x]).getD r.length 0)=x by simp[aB]]at lQ;intro z7 g0 g1 pF
    try dsimp only
    rw[UA hn pF,lQ,B8];refine⟨λhe=>inner z3 bE c1 ?_,λhe=>?_⟩
    ·have he:p x=false:=by simpa using he
     try dsimp only
     rw[hl,<-hz,we,he,cond_false]
    ·have he:p x=true:=by simpa using he
     intro z7 f0 f1 pF;simp only[aw,hl,dm,cS,eF]at pF;have Eo:(z7+-1).toNat=r.length:=by omega
     refine⟨⟨by omega,by omega,by rw[hl];simp only[dm,cS,eF];omega⟩,?_⟩;intro z8 g0 g1 ED;have hr:U z8=r:=by
      try dsimp only
      rw[ED];simp only[aw,ea,hl,Eo];simp
     refine⟨⟨z8,rfl,?_⟩,?_⟩
     ·try dsimp only
      rw[hr,<-hz,we,he,cond_true]
     ·show(U z8).length<(U z3).length
      try dsimp only
      rw[hr,hl];simp
theorem u9 {q p:UInt8->Bool} (h:((da 256).all λi=>q (kx i)==p (kx i))=true) (c:UInt8):q c=p c:=by
 have:=List.all_eq_true.1 h c.toNat (List.mem_range.2 c.toNat_lt);simpa using this
theorem aom:Sb SB (aX SB [.str] 122):=I7 (n:=12125) (p:=lE) (u9 (by decide+kernel)) λ_ _=>rfl
theorem aoo:Sd SB (aX SB [.str] 123):=I7 (n:=8267443711659794979134808499087199072256874527605039863196959864303977456569186565734100443375465041388132907546406408792979960403300126342849461211344038) (p:=k9) (u9 (by decide+kernel)) λ_ _=>rfl
theorem aol:Sa SB (aX SB [.str] 124):=I7 (n:=284767230291263911083031) (p:=dN) (u9 (by decide+kernel)) λ_ _=>rfl
def R3 (S:zzS) (K:zzK):Prop:=
 br λz0=>bt 27 [z0] λae=>aH 0 [z0] λz2=>bQ (-2) 9223372036854775807 λz3=>∃(eU:List (List Int)->Prop) (eu:List (List Int)->Nat),eU
 [[0],[ae]]/\(dk λz5=>c9 λz6=>eU [[z5],[z6]]->(aj (decide (z5<z2)) (af 30 [z5,z2]/\af 21 [z6,z5]/\bF 21 [z6,z5,0] λz7=>(aj (decide
 (65<=z7)) ((aj (decide (z7<=90)) (cz λz8=>z8<=hT .u8->z8=cC .or .u8 z7 32->af 30 [z5,z2]/\af 21 [z6,z5]/\(af 67 [z6,z5,1]->
 bt 42 [z6,z5,0,z8] λz9=>a8 (z5+9223372036854775809) 18446744073709551616 λaq=>af 39 [((z5+((-18446744073709551616)*aq))+
 1),0,9223372036854775807]/\(eU [[((z5+((-18446744073709551616)*aq))+1)],[z9]]/\eu [[((z5+((-18446744073709551616)*aq))+1)],[z9]]<eu
 [[z5],[z6]]))) (a8 (z5+9223372036854775809) 18446744073709551616 λz8=>af 39 [((z5+((-18446744073709551616)*z8))+1),0,9223372036854775807]/\(eU
 [[((z5+((-18446744073709551616)*z8))+1)],[z6]]/\eu [[((z5+((-18446744073709551616)*z8))+1)],[z6]]<eu [[z5],[z6]])))) (a8 (z5+
 9223372036854775809) 18446744073709551616 λz8=>af 39 [((z5+((-18446744073709551616)*z8))+1),0,9223372036854775807]/\(eU [[((z5+
 ((-18446744073709551616)*z8))+1)],[z6]]/\eu [[((z5+((-18446744073709551616)*z8))+1)],[z6]]<eu [[z5],[z6]])))) (af 35 [z6,0,z2]/\bN 34
 [z6,0,z2] λz7=>K [[z0]] [[z7]])))
def R7 (S:zzS) (K:zzK):Prop:=
 br λz0=>bt 27 [z0] λae=>aH 0 [z0] λz2=>bQ (-2) 9223372036854775807 λz3=>∃(eU:List (List Int)->Prop) (eu:List (List Int)->Nat),eU
 [[0],[ae]]/\(dk λz5=>c9 λz6=>eU [[z5],[z6]]->(aj (decide (z5<z2)) (af 30 [z5,z2]/\af 21 [z6,z5]/\bF 21 [z6,z5,0] λz7=>(aj (decide
 (65<=z7)) (af 30 [z5,z2]/\af 21 [z6,z5]/\bF 21 [z6,z5,0] λz8=>(aj (decide (z8<=90)) (af 30 [z5,z2]/\af 21 [z6,z5]/\bF 21 [z6,z5,0] λ
 z9=>a8 (z9+32) 256 λaq=>af 30 [z5,z2]/\af 21 [z6,z5]/\(af 67 [z6,z5,1]->bt 42 [z6,z5,0,((z9+((-256)*aq))+32)] λak=>a8 (z5+
 9223372036854775809) 18446744073709551616 λz12=>af 39 [((z5+((-18446744073709551616)*z12))+1),0,9223372036854775807]/\(eU [[((z5+
 ((-18446744073709551616)*z12))+1)],[ak]]/\eu [[((z5+((-18446744073709551616)*z12))+1)],[ak]]<eu [[z5],[z6]]))) (a8 (z5+9223372036854775809)
 18446744073709551616 λz9=>af 39 [((z5+((-18446744073709551616)*z9))+1),0,9223372036854775807]/\(eU [[((z5+((-18446744073709551616)*z9))+
 1)],[z6]]/\eu [[((z5+((-18446744073709551616)*z9))+1)],[z6]]<eu [[z5],[z6]])))) (a8 (z5+9223372036854775809) 18446744073709551616 λz8=>af 39
 [((z5+((-18446744073709551616)*z8))+1),0,9223372036854775807]/\(eU [[((z5+((-18446744073709551616)*z8))+1)],[z6]]/\eu [[((z5+
 ((-18446744073709551616)*z8))+1)],[z6]]<eu [[z5],[z6]])))) (af 35 [z6,0,z2]/\bN 34 [z6,0,z2] λz7=>K [[z0]] [[z7]])))
def m5 (l:ax):List (List Int):=l.map λb=>[(b.toNat:Int)]
theorem Qc (l:ax):(m5 l).length=l.length:=by simp[m5]
theorem YH (l:ax) (i:Nat) (h:i<l.length):(m5 l).getD i []=[((l.getD i 0).toNat:Int)]:=by
 simp[m5,aB,h]
theorem apC (l:ax) (i:Nat) (c:UInt8):(m5 l).set i [(c.toNat:Int)]=m5 (l.set i c):=by
 simp[m5,auo]
theorem apB (l:ax):(m5 l).map (λrow=>kx (row.getD 0 0).toNat)=l:=by
 unfold m5
 try dsimp only
 rw[List.map_map]
 conv=>rhs;rw[<-List.map_id l]
 exact List.map_congr_left λb _=>by simp
def lT (s:ax) (i:Nat):ax:=(s.take i).map lo++s.drop i
theorem Pn (s:ax) (i:Nat) (h:i<=s.length):(lT s i).length=s.length:=by
 simp[lT];omega
theorem alj (s:ax) (i:Nat) (h:i<s.length):(lT s i).getD i 0=s.getD i 0:=by
 unfold lT
 try dsimp only
 rw[qO s i h];simp only[aB]
 try dsimp only
 rw[List.getElem?_append_right (by simp;omega)];simp[show min i s.length=i by omega]
theorem alm (s:ax) (i:Nat) (h:i<s.length):lT s (i+1)=(lT s i).set i (lo (s.getD i 0)):=by
 unfold lT
 try dsimp only
 rw[Fv s i h,qO s i h,ga];have:((s.take i).map lo).length=i:=by simp;omega
 try dsimp only
 rw[List.set_append_right _ _ (by omega),this];simp
theorem alk (s:ax) (i:Nat) (h:i<s.length) (hl:mm (s.getD i 0)=false):lT s (i+1)=lT s i:=by
 unfold lT;have e:lo (s.getD i 0)=s.getD i 0:=by unfold lo;rw[hl];rfl
 try dsimp only
 rw[Fv s i h,qO s i h,ga,List.map_singleton,e];simp
theorem ali (s:ax) (i:Nat) (h:s.length<=i):lT s i=lower s:=by
 unfold lT lower
 try dsimp only
 rw[ky h,FT h,List.append_nil]
theorem OM {z:Int} {c:UInt8} (h:z=(c.toNat:Int)):mm c=(decide (65<=z)&&decide (z<=90)):=by
 try dsimp only
 rw[h];unfold mm
 try dsimp only
 rw[iJ];simp[pP];omega
theorem Xp {z:Int} {c:UInt8} (h:z=(c.toNat:Int)) (h1:65<=z) (h2:z<=90):z+32=((lo c).toNat:Int):=by
 have:=OM h;unfold lo
 try dsimp only
 rw[this,show decide (65<=z)=true by simpa using h1,show decide (z<=90)=true by simpa using h2];simp;omega
theorem anc {z:Int} (h1:65<=z) (h2:z<=90):cC .or .u8 z 32=z+32:=by
 have h:∀i:Fin 26,cC .or .u8 (65+(i.val:Int)) 32=65+(i.val:Int)+32:=by decide+kernel
 have:=h ⟨(z-65).toNat,by omega⟩;simp only at this;rw[show(65+((z-65).toNat:Int))=z by omega]at this;exact this
def kb (z0 ae:Int) (bl:List (List Int)):Prop:=∃(i:Nat) (r:Int),bl=[[(i:Int)],[r]]/\i<=(U z0).length/\ab r=m5 (lT (U z0) i)
theorem kb.start {z0 ae:Int} (h:ae=aw 27 [z0]):kb z0 ae [[0],[ae]]:=by
 refine⟨0,ae,rfl,iI _,?_⟩
 try dsimp only
 rw[h];simp only[aw,dv];simp[lT,m5]
theorem kb.get {z0 z2 r z7:Int} {i:Nat} (h2:z2=aw 0 [z0]) (hr:ab r=m5 (lT (U z0) i)) (hi:i<=(U z0).length) (hp:(i:Int)<z2):af 30 [(i:Int),z2]/\af 21 [r,(i:Int)]/\(z7=aw 21 [r,(i:Int),0]->z7=(((U z0).getD i 0).toNat:Int)):=by
 simp only[aw]at h2;refine⟨⟨rN _,hp⟩,⟨rN _,?_⟩,λh=>?_⟩
 ·try dsimp only
  rw[hr,Qc,Pn _ _ hi];omega
 ·try dsimp only
  rw[h];simp only[aw]
  try dsimp only
  rw[hr,eZ,YH _ _ (by rw[Pn _ _ hi];omega),alj _ _ (by omega)];rfl
theorem kb.set {z0 ae z2 r z9 v:Int} {i:Nat} (h2:z2=aw 0 [z0]) (hr:ab r=m5 (lT (U z0) i)) (hi:i<=(U z0).length) (hp:(i:Int)<z2) (hv:v=((lo ((U z0).getD i 0)).toNat:Int)) (h:z9=aw 42 [r,(i:Int),0,v]):kb z0 ae [[(i:Int)+1],[z9]]:=by
 simp only[aw]at h2;refine⟨i+1,z9,by simp,by omega,?_⟩
 try dsimp only
 rw[h];simp only[aw,dv];have hl:i<(lT (U z0) i).length:=by rw[Pn _ _ hi];omega
 try dsimp only
 rw[hr,eZ,YH _ _ hl,alm _ _ (by omega),<-apC,hv];rfl
theorem kb.same {z0 ae z2 r:Int} {i:Nat} (h2:z2=aw 0 [z0]) (hr:ab r=m5 (lT (U z0) i)) (hi:i<=(U z0).length) (hp:(i:Int)<z2) (hg:mm ((U z0).getD i 0)=false):kb z0 ae [[(i:Int)+1],[r]]:=by
 simp only[aw]at h2;refine⟨i+1,r,by simp,by omega,?_⟩
 try dsimp only
 rw[alk _ _ (by omega) hg,hr]
theorem kb.done {z0 z2 r:Int} {i:Nat} (h2:z2=aw 0 [z0]) (bZ:z0<=bx) (hr:ab r=m5 (lT (U z0) i)) (hi:i<=(U z0).length) (hp:¬(i:Int)<z2):af 35 [r,0,z2]/\∀z7,z7=aw 34 [r,0,z2]->U z7=lower (U z0):=by
 have oW:=rR bZ;unfold eK at oW;simp only[aw]at h2;have hm:=ali (U z0) i (by omega);rw[hm]at hr;have hlen:(lower (U z0)).length=(U z0).length:=by simp[lower]
 refine⟨⟨⟨by omega,by omega,by rw[hr,Qc,hlen];omega⟩,by omega⟩,λz7 h=>?_⟩
 try dsimp only
 rw[h];simp only[aw,ea]
 try dsimp only
 rw[hr,show((m5 (lower (U z0))).drop (0:Int).toNat)=m5 (lower (U z0)) from rfl,ky (by rw[Qc,hlen];omega),apB]
def IH (z0:Int) (bl:List (List Int)):Nat:=(U z0).length-((bl.getD 0 []).getD 0 0).toNat
theorem Bo {z0 z2 r r':Int} {i:Nat} (h2:z2=aw 0 [z0]) (hp:(i:Int)<z2):IH z0 [[(i:Int)+1],[r]]<IH z0 [[(i:Int)],[r']]:=by
 simp only[aw]at h2;show(U z0).length-((i:Int)+1).toNat<(U z0).length-(i:Int).toNat;omega
theorem anT:R3 SB (aX SB [.str] 28):=by
 intro z0 a0 a1 ae b0 b1 h1 z2 bE c1 h2 z3 d0 d1;refine⟨kb z0 ae,IH z0,kb.start h1,?_⟩
 rintro z5 e0 e1 z6 f0 f1 ⟨i,r,e,hi,hr⟩
 obtain⟨rfl,rfl⟩:z5=i/\z6=r:=by simpa using e
 refine⟨λhp=>?_,λhp=>?_⟩
 ·have hp:(i:Int)<z2:=by simpa using hp
  have hg:=λz7=>kb.get (z7:=z7) h2 hr hi hp;refine⟨(hg 0).1,(hg 0).2.1,λz7 g0 g1 h7=>?_⟩;have h7:=(hg z7).2.2 h7;have hG:=OM h7;refine⟨λhA=>⟨λhB z8 e9 k1 bS=>?_,λhB z8 e9 k1 k2 k3=>?_⟩,λhA z8 e9 k1 k2 k3=>?_⟩
  ·have MV:65<=z7:=by simpa using hA
   have MX:z7<=90:=by simpa using hB
   refine⟨(hg 0).1,(hg 0).2.1,λ_ z9 l0 l1 bb aq m0 fV m2 m3=>?_⟩
   try dsimp only
   rw[mz (L:=z2) hp c1 e0 m0 m2];refine⟨⟨by omega,by omega⟩,kb.set h2 hr hi hp ?_ bb,Bo h2 hp⟩
   try dsimp only
   rw[bS,anc MV MX,Xp h7 MV MX]
  ·try dsimp only
   rw[mz (L:=z2) hp c1 e0 e9 k2];refine⟨⟨by omega,by omega⟩,kb.same h2 hr hi hp ?_,Bo h2 hp⟩
   try dsimp only
   rw[hG,hB];simp
  ·try dsimp only
   rw[mz (L:=z2) hp c1 e0 e9 k2];refine⟨⟨by omega,by omega⟩,kb.same h2 hr hi hp ?_,Bo h2 hp⟩
   try dsimp only
   rw[hG,hA];simp
 ·have hp:¬(i:Int)<z2:=by simpa using hp
  have hd:=kb.done h2 a1 hr hi hp;exact⟨hd.1,λz7 g0 g1 h7=>⟨⟨g0,g1,trivial⟩,hd.2 z7 h7⟩⟩
theorem an9:R7 SB (aX SB [.str] 17):=by
 intro z0 a0 a1 ae b0 b1 h1 z2 bE c1 h2 z3 d0 d1;refine⟨kb z0 ae,IH z0,kb.start h1,?_⟩
 rintro z5 e0 e1 z6 f0 f1 ⟨i,r,e,hi,hr⟩
 obtain⟨rfl,rfl⟩:z5=i/\z6=r:=by simpa using e
 refine⟨λhp=>?_,λhp=>?_⟩
 ·have hp:(i:Int)<z2:=by simpa using hp
  have hg:=λz7=>kb.get (z7:=z7) h2 hr hi hp;refine⟨(hg 0).1,(hg 0).2.1,λz7 g0 g1 h7=>?_⟩;have h7:=(hg z7).2.2 h7;have hG:=OM h7;refine⟨λhA=>⟨(hg 0).1,(hg 0).2.1,λz8 n0 n1 bS=>⟨λhB=>⟨(hg 0).1,(hg 0).2.1,λz9 yp o1 bb aq e9 k1 k2 k3=>?_⟩,λhB z9 e9 k1 k2 k3=>?_⟩⟩,λhA z8 e9 k1 k2 k3=>?_⟩
  ·have bS:=(hg z8).2.2 bS;have bb:=(hg z9).2.2 bb;have MV:65<=z7:=by simpa using hA
   have MX:z8<=90:=by simpa using hB
   refine⟨(hg 0).1,(hg 0).2.1,λ_ ak l0 l1 dE z12 m0 fV m2 m3=>?_⟩
   try dsimp only
   rw[mz (L:=z2) hp c1 e0 m0 m2];refine⟨⟨by omega,by omega⟩,kb.set h2 hr hi hp ?_ dE,Bo h2 hp⟩;have:=Xp bb (by omega) (by omega);omega
  ·have bS:=(hg z8).2.2 bS
   try dsimp only
   rw[mz (L:=z2) hp c1 e0 e9 k2];refine⟨⟨by omega,by omega⟩,kb.same h2 hr hi hp ?_,Bo h2 hp⟩
   try dsimp only
   rw[hG,h7.trans bS.symm,hB];simp
  ·try dsimp only
   rw[mz (L:=z2) hp c1 e0 e9 k2];refine⟨⟨by omega,by omega⟩,kb.same h2 hr hi hp ?_,Bo h2 hp⟩
   try dsimp only
   rw[hG,hA];simp
 ·have hp:¬(i:Int)<z2:=by simpa using hp
  have hd:=kb.done h2 a1 hr hi hp;exact⟨hd.1,λz7 g0 g1 h7=>⟨⟨g0,g1,trivial⟩,hd.2 z7 h7⟩⟩
end Go.bH
namespace Go.bH
open Go Go.bg
def Kz (S:zzS) (K:zzK):Prop:=
 br λz0=>b5 4 [z0,0] λae=>(aj ((!(decide (ae=1)))) (aH 0 [z0] λz2=>(aj (decide (z2<=230)) (br λz3=>S 123 [[z0]] [[z3]]->b5 4 [z3,0]
 λz4=>(aj (decide (z4=1)) (bu λz5=>S 65
 [[z0],[3092260449727753699381237987134896180985020549865866695797500355328521677512090486983914513878993150076419119825652852662229468458769751959831595687466918]]
 [[z5]]->(aj (decide (z5=1)) (br λz6=>S 122 [[z0]] [[z6]]->b5 4 [z6,z0] λz7=>(aj (decide (z7=1)) (af 41 [z0]/\bu λz8=>S 128 [[z0]]
 [[z8]]->K [[z0]] [[(cond ((!(decide (z8=1)))) 1 0)]]) (K [[z0]] [[(cond (false) 1 0)]]))) (K [[z0]] [[(cond (false) 1 0)]]))) (K [[z0]] [[(cond (false) 1
 0)]]))) (K [[z0]] [[(cond (false) 1 0)]]))) (K [[z0]] [[(cond (false) 1 0)]]))
def KJ (S:zzS) (K:zzK):Prop:=
 br λz0=>b5 4 [z0,0] λae=>(aj (decide (ae=1)) (K [[z0]] [[(cond (false) 1 0)]]) (aH 0 [z0] λz2=>(aj (decide (64<z2)) (K [[z0]] [[(cond
 (false) 1 0)]]) (bu λz3=>S 44
 [[z0],[74473080028620518966381883429228484808440201678127597570840141201138927665149786990616077870556514776478160775702785383470653111892427074463158448094822482491594731032954821022169486867841687777697]]
 [[z3]]->(aj ((!(decide (z3=1)))) (K [[z0]] [[(cond (false) 1 0)]]) (br λz4=>S 121 [[z0]] [[z4]]->b5 4 [z4,z0] λz5=>(aj (decide (z5=1)) (af
 41 [z0]/\bu λz6=>S 128 [[z0]] [[z6]]->K [[z0]] [[(cond ((!(decide (z6=1)))) 1 0)]]) (K [[z0]] [[(cond (false) 1 0)]]))))))))
theorem II (p:UInt8->Bool) (l:ax):(fa p l).length<=l.length:=(List.dropWhile_sublist p).length_le
theorem apJ (p:UInt8->Bool) (l:ax):(fO p l).length<=l.length:=by
 unfold fO;rw[Rl];have:=II p l.reverse
 rwa [Rl]at this
theorem ak8 {p:UInt8->Bool} {l:ax} (h:l.length<=(fa p l).length):fa p l=l:=(List.dropWhile_suffix p).eq_of_length (Nat.le_antisymm (II p l) h)
theorem apI {p:UInt8->Bool} {l:ax} (h:l.length<=(fO p l).length):fO p l=l:=by
 have:fa p l.reverse=l.reverse:=ak8 (by unfold fO at h;rw[Rl]at h;rw[Rl];exact h);unfold fO;unfold fa at this;rw[this,List.reverse_reverse]
theorem MH (r:ax) (x:UInt8):(r++[x]).getD r.length 0=x:=by simp[aB]
theorem aq0 (p:UInt8->Bool) (s:ax):jr p s=s↔∀i,i<s.length->p (s.getD i 0)=true->0<i/\i+1<s.length:=by
 by_cases hs:s=[]
 ·subst hs;exact⟨λ_ i h=>by simp at h,λ_=>rfl⟩
 ·constructor
  ·intro h i hi hp;have hl:s.length<=(jr p s).length:=by rw[h];exact aW _
   have h1:=II p (fO p s);have hr:fO p s=s:=apI (Nat.le_trans hl h1);have ht:fa p s=s:=by unfold jr at h;rwa [hr]at h
   refine⟨Nat.pos_of_ne_zero λh0=>?_,Nat.lt_of_le_of_ne hi λh0=>?_⟩
   ·subst h0;cases s with
    |nil=>exact hs rfl
    |cons x r=>
     have hp:p x=true:=hp;have h2:fa p (x::r)=fa p r:=by simp[fa,oy,hp]
     have:=II p r;rw[h2]at ht;rw[ht]at this;simp at this;omega
   ·obtain⟨r,x,rfl⟩:=Fm hs;have:i=r.length:=by simp at h0;omega
    subst this;rw[MH]at hp;rw[we,hp,cond_true]at hr;have:=apJ p r;rw[hr]at this;simp at this;omega
  ·intro h;have hr:fO p s=s:=by
    obtain⟨r,x,rfl⟩:=Fm hs;rw[we];cases hx:p x with
    |false=>rfl
    |true=>have:=(h r.length (by simp) (by rw[MH];exact hx)).2;simp at this
   unfold jr;rw[hr];cases s with
   |nil=>rfl
   |cons x r=>
    cases hx:p x with
    |false=>simp[fa,oy,hx]
    |true=>have:=(h 0 (by simp) hx).1;omega
theorem abY (p:UInt8->Bool) (s:ax):s.all p=true↔∀i,i<s.length->p (s.getD i 0)=true:=by
 rw[pQ];constructor
 ·intro h i hi;refine h _ ?_;simp[aB,hi]
 ·intro h x hx;obtain⟨i,hi,rfl⟩:=J2 hx;have:=h i hi;simpa [aB,hi]using this
theorem adt (s:ax):dd s=false↔∀i,i<s.length->¬(s.getD i 0=46/\s.getD (i+1) 0=46):=by
 unfold dd;rw[List.any_eq_false];constructor
 ·intro h i hi ah;exact h i (List.mem_range.2 hi) (by rw[ah.1,ah.2];rfl)
 ·intro h i hi ah;rw[aO,beq_iff_eq,beq_iff_eq]at ah;exact h i (List.mem_range.1 hi) ah
theorem XT (inn il:UInt8->Bool) (s:ax):uo inn il s=true↔∀i,i<s.length->inn (s.getD i 0)=true/\(il (s.getD i 0)=true->0<i/\i+1<s.length)/\¬(s.getD i 0=46/\0<i/\s.getD (i-1) 0=46):=by
 unfold uo;rw[pQ];constructor
 ·intro h i hi;have:=h i (List.mem_range.2 hi);simp only[aO,oA,fZ,oz,auq,beq_eq_false_iff_ne]at this;refine⟨this.1.1,λhe=>?_,λah=>?_⟩
  ·rcases this.1.2 with h1|h1
   ·rw[h1]at he;cases he
   ·exact h1
  ·have h3:b6 0 i=true:=by rw[oz];exact ah.2.1
   rcases this.2 with(h1|h1)|h1
   ·exact h1 ah.1
   ·rw[h3]at h1;cases h1
   ·exact h1 ah.2.2
 ·intro h i hi;obtain⟨h1,h2,h3⟩:=h i (List.mem_range.1 hi);simp only[aO,oA,fZ,oz,auq,beq_eq_false_iff_ne];refine⟨⟨h1,?_⟩,?_⟩
  ·cases he:il (s.getD i 0)with
   |false=>exact .inl rfl
   |true=>exact .inr (h2 he)
  ·by_cases e1:s.getD i 0=46
   ·by_cases e2:s.getD (i-1) 0=46
    ·left;right
     cases hb:b6 0 i with
     |false=>rfl
     |true=>rw[oz]at hb;exact absurd ⟨e1,hb,e2⟩ h3
    ·exact .inr e2
   ·exact .inl (.inl e1)
theorem vU (inn il:UInt8->Bool) (s:ax):uo inn il s=(s.all inn&&decide (jr il s=s)&& !dd s):=by
 rw[iJ,XT,aO,aO,abY,decide_eq_true_eq,aq0,fZ,adt];constructor
 ·intro h;refine⟨⟨λi hi=>(h i hi).1,λi hi=>(h i hi).2.1⟩,λi hi ah=>?_⟩;by_cases hj:i+1<s.length
  ·exact(h (i+1) hj).2.2 ⟨ah.2,by omega,by simpa using ah.1⟩
  ·have:s.getD (i+1) 0=0:=by simp[aB,show s.length<=i+1 by omega]
   rw[this]at ah;exact absurd ah.2 (by decide)
 ·rintro⟨⟨h1,h2⟩,h3⟩ i hi
  refine⟨h1 i hi,h2 i hi,λah=>?_⟩;exact h3 (i-1) (by omega) ⟨ah.2.2,by rw[show i-1+1=i by omega];exact ah.1⟩
theorem TX {p:UInt8->Bool}:∀{l:ax},l.all p=true->l.dropWhile p=[]
 |[],_=>rfl
 |x::r,h=>by
  simp only[J3,aO]at h;rw[oy,if_pos h.1];exact TX h.2
theorem QO {p:UInt8->Bool} {s:ax} (h:s.all p=true):jr p s=[]:=by
 have:fO p s=[]:=by
  unfold fO;have:s.reverse.all p=true:=by rw[List.all_reverse];exact h
  rw[TX this];rfl
 unfold jr;rw[this];rfl
theorem gZ {z a b:Int} (h:z=aw 4 [a,b]):decide (z=1)=decide (U a=U b):=by
 rw[h];simp only[aw];by_cases e:U a=U b<;>simp[e]
theorem ET {z a:Int} (h:z=aw 4 [a,0]):(!decide (z=1))=b6 0 (U a).length:=by
 rw[eq_nil h];cases U a with
 |nil=>rfl
 |cons x r=>simp
theorem yk {z a n:Int} (m:Nat) (hm:n=(m:Int)) (h:z=aw 0 [a]):decide (z<=n)=bC (U a).length m:=by
 rw[h,hm];simp only[aw];rw[iJ,decide_eq_true_eq,pP];omega
theorem vP {z a n:Int} (m:Nat) (hm:n=(m:Int)) (h:z=aw 0 [a]):decide (n<z)= !bC (U a).length m:=by
 rw[h,hm];simp only[aw];rw[iJ,decide_eq_true_eq,fZ,<-aur,pP];omega
theorem fH {z:Int} {b:Bool} (h:z=aN b):decide (z=1)=b:=by rw[h,CK]
theorem lR {id:Nat} {zs:List (List Int)} {b:Bool} (h:SB id zs [[aN b]]):aX SB [.bool] id zs [[aN b]]:=⟨⟨(oK b).1,(oK b).2,trivial⟩,h⟩
theorem am8 (s:ax) {n:Int} (hn:∀c,(U n).contains c=k9 c):(s.all λc=>(U n).contains c)=s.all k9:=by
 congr 1;funext c;exact hn c
theorem anF:Kz SB (aX SB [.bool] 47):=by
 delta Kz aj aH br bu b5;dsimp only
 intro z0 a0 a1 ae b0 b1 h1;have aU:∀b:Bool,fT (U z0)=b->aX SB [.bool] 47 [[z0]] [[aN b]]:=λb h=>lR (by show aN b=aN (fT (U z0));rw[h]);refine⟨λhp z2 bE c1 h2=>⟨λhq z3 d0 d1 h3 z4 e0 e1 h4=>⟨λhr z5 f0 f1 h5=>?_,λhr=>aU false ?_⟩,λhq=>aU false ?_⟩,λhp=>aU false ?_⟩
 ·rw[ET h1]at hp;rw[yk (n:=230) 230 rfl h2]at hq;have h5:z5=aN ((U z0).all λc=>(U _).contains c):=h5;rw[am8 (U z0) (u9 (by decide+kernel))]at h5;rw[fH h5];refine⟨λhs z6 g0 g1 h6 z7 i0 i1 h7=>?_,λhs=>aU false ?_⟩
  ·have h6:U z6=jr lE (U z0):=h6;rw[gZ h7,h6];refine⟨λht=>⟨?_,λz8 fU c0 bS=>?_⟩,λht=>aU false ?_⟩
   ·show(U z0).length<=4294967280;rw[pP]at hq;omega
   ·have bS:z8=aN (dd (U z0)):=bS;rw[fH bS];refine aU _ ?_;unfold fT;rw[hp,hq,vU,hs,ht];rfl
   ·unfold fT;rw[vU,ht];simp
  ·unfold fT;rw[vU,hs];simp
 ·have h3:U z3=jr k9 (U z0):=h3;rw[eq_nil h4,h3]at hr;unfold fT;rw[vU];cases ha:(U z0).all k9 with
  |false=>simp
  |true=>rw[QO ha]at hr;simp at hr
 ·rw[yk (n:=230) 230 rfl h2]at hq;unfold fT;rw[hq];simp
 ·rw[ET h1]at hp;unfold fT;rw[hp];rfl
theorem anS:KJ SB (aX SB [.bool] 24):=by
 delta KJ aj aH br bu b5;dsimp only
 intro z0 a0 a1 ae b0 b1 h1;have aU:∀b:Bool,jZ (U z0)=b->aX SB [.bool] 24 [[z0]] [[aN b]]:=λb h=>lR (by show aN b=aN (jZ (U z0));rw[h]);have hn:=ET h1;refine⟨λhp=>aU false ?_,λhp z2 bE c1 h2=>⟨λhq=>aU false ?_,λhq z3 d0 d1 h3=>?_⟩⟩
 ·rw[hp]at hn;unfold jZ;rw[<-hn];rfl
 ·rw[vP (n:=64) 64 rfl h2,fZ]at hq;unfold jZ;rw[hq];simp
 ·rw[vP (n:=64) 64 rfl h2,mB]at hq;rw[hp]at hn;have h3:z3=aN ((U z0).all λc=>(U _).contains c):=h3;have e:((U z0).all λc=>(U 74473080028620518966381883429228484808440201678127597570840141201138927665149786990616077870556514776478160775702785383470653111892427074463158448094822482491594731032954821022169486867841687777697).contains c)=(U z0).all oc:=congrArg (List.all (U z0)) (funext (u9 (p:=oc) (by decide+kernel)));rw[e]at h3;rw[fH h3];refine⟨λhs=>aU false ?_,λhs z4 e0 e1 h4 z5 f0 f1 h5=>?_⟩
  ·have hs:(U z0).all oc=false:=by simpa using hs
   unfold jZ;rw[vU,hs];simp
  ·have hs:(U z0).all oc=true:=by simpa using hs
   have h4:U z4=jr (·==46) (U z0):=h4;rw[gZ h5,h4];refine⟨λht=>⟨?_,λz8 fU c0 bS=>?_⟩,λht=>aU false ?_⟩
   ·show(U z0).length<=4294967280;rw[pP]at hq;omega
   ·have bS:z8=aN (dd (U z0)):=bS;rw[fH bS];refine aU _ ?_;unfold jZ;rw[<-hn,hq,vU,hs,ht];rfl
   ·unfold jZ;rw[vU,ht];simp
def KX (S:zzS) (K:zzK):Prop:=
 br λz0=>br λae=>br λz2=>bu λz3=>S 126 [[z0]] [[ae],[z2],[z3]]->bu λz4=>S 47 [[ae]] [[z4]]->(aj (decide (z4=1)) ((aj ((!(decide (z3
 =1)))) (K [[z0]] [[(cond (true) 1 0)]]) (b5 4 [z2,0] λz5=>(aj ((!(decide (z5=1)))) (aH 0 [z2] λz6=>(aj (decide (z6<=5)) (br λz7=>S 124
 [[z2]] [[z7]]->b5 4 [z7,0] λz8=>(aj (decide (z8=1)) (bu λz9=>S 65 [[z2],[284767230291263911083031]] [[z9]]->K [[z0]] [[(cond (decide (z9=1)) 1
 0)]]) (K [[z0]] [[(cond (false) 1 0)]]))) (K [[z0]] [[(cond (false) 1 0)]]))) (K [[z0]] [[(cond (false) 1 0)]]))))) (K [[z0]] [[(cond (false) 1 0)]]))
def Kx (S:zzS) (K:zzK):Prop:=
 br λz0=>br λae=>S 120 [[z0]] [[ae]]->br λz2=>br λz3=>bu λz4=>S 125 [[ae]] [[z2],[z3],[z4]]->(aj ((!(decide (z4=1)))) (K [[z0]]
 [[0],[2]]) (aH 0 [ae] λz5=>(aj (decide (254<z5)) (K [[z0]] [[0],[2]]) (bu λz6=>S 24 [[z2]] [[z6]]->(aj ((!(decide (z6=1)))) (K [[z0]] [[0],[2]])
 (qt λz7=>S 73 [[z3],[58]] [[z7]]->(aj (decide (0<=z7)) (K [[z0]] [[0],[2]]) (bu λz8=>S 127 [[z3]] [[z8]]->(aj ((!(decide (z8=1)))) (K [[z0]]
 [[0],[2]]) (bu λz9=>S 27 [[z3]] [[z9]]->(aj ((!(decide (z9=1)))) (K [[z0]] [[0],[2]]) (br λaq=>S 28 [[ae]] [[aq]]->K [[z0]]
 [[aq],[0]]))))))))))))
def KZ (S:zzS) (K:zzK):Prop:=
 uw λz0=>(aj (decide (97<=z0)) (K [[z0]] [[(cond (decide (z0<=122)) 1 0)]]) (K [[z0]] [[(cond (false) 1 0)]]))
def Ky (S:zzS) (K:zzK):Prop:=
 uw λz0=>(aj (decide (65<=z0)) (K [[z0]] [[(cond (decide (z0<=90)) 1 0)]]) (K [[z0]] [[(cond (false) 1 0)]]))
def Kw (S:zzS) (K:zzK):Prop:=
 uw λz0=>(aj (decide (48<=z0)) (K [[z0]] [[(cond (decide (z0<=57)) 1 0)]]) (K [[z0]] [[(cond (false) 1 0)]]))
def KG (S:zzS) (K:zzK):Prop:=
 ∀r0:List Int,bd (h8 0 bx 2) r0->∀r2:List Int,bd (h8 0 bx 2) r2->b5 4 [(aB r0 0 0),(aB r2 0 0)] λz4=>(aj ((!(decide (z4=
 1)))) (b5 5 [(aB r0 0 0),(aB r2 0 0)] λz5=>K [r0,r2] [[(cond (decide (z5=1)) 1 0)]]) (b5 5 [(aB r0 1 0),(aB r2 1 0)] λz5
 =>K [r0,r2] [[(cond (decide (z5=1)) 1 0)]]))
def KS (S:zzS) (K:zzK):Prop:=
 ∀r0:List Int,bd (h8 0 bx 2) r0->∀r2:List Int,bd (h8 0 bx 2) r2->b5 5 [(aB r0 0 0),(aB r2 0 0)] λz4=>(aj (decide (z4=1)) (K
 [r0,r2] [[(cond (true) 1 0)]]) (b5 4 [(aB r0 0 0),(aB r2 0 0)] λz5=>(aj (decide (z5=1)) (b5 5 [(aB r0 1 0),(aB r2 1 0)] λ
 z6=>K [r0,r2] [[(cond (decide (z6=1)) 1 0)]]) (K [r0,r2] [[(cond (false) 1 0)]]))))
theorem alf:k9 58=false:=by decide
theorem ahC {s:ax} (h:fT s=true):¬(58:UInt8)∈s:=λhm=>by
 unfold fT at h;rw[vU]at h;simp only[aO]at h;have:=List.all_eq_true.1 h.2.1.1 58 hm;rw[alf]at this;cases this
theorem Y8 {s:ax} (h:idx 58 s<0):jq s=fT s:=by
 have:decide (0<=idx 58 s)=false:=by simpa using h
 unfold jq mL;rw[this];simp
theorem aof:KX SB (aX SB [.bool] 27):=by
 delta KX aj aH br bu b5;dsimp only
 intro z0 a0 a1 ae b0 b1 z2 bE c1 z3 d0 d1 cd z4 e0 e1 h4;have cd:(U ae,U z2,z3)=mL 58 (U z0):=cd;have h4:z4=aN (fT (U ae)):=h4;have hv:jq (U z0)=(fT (U ae)&&(decide (z3=0)||rz (U z2))):=by unfold jq;rw[<-cd]
 have aU:∀b:Bool,jq (U z0)=b->aX SB [.bool] 27 [[z0]] [[aN b]]:=λb h=>lR (by show aN b=aN (jq (U z0));rw[h]);have h3:(!decide (z3=1))=decide (z3=0):=by
  rcases(show z3=0∨z3=1 by omega)with rfl|rfl<;>rfl
 rw[fH h4,h3];refine⟨λhp=>⟨λhq=>aU true ?_,λhq z5 f0 f1 h5=>?_⟩,λhp=>aU false ?_⟩
 ·rw[hv,hp,hq];rfl
 ·have hn:=ET h5;refine⟨λhr z6 g0 g1 h6=>⟨λhs z7 i0 i1 h7 z8 fU c0 bS=>?_,λhs=>aU false ?_⟩,λhr=>aU false ?_⟩
  ·rw[hr]at hn;rw[yk (n:=5) 5 rfl h6]at hs;have h7:U z7=jr dN (U z2):=h7;rw[eq_nil bS,h7];refine⟨λht z9 e9 k1 bb=>?_,λht=>aU false ?_⟩
   ·have bb:z9=aN ((U z2).all λc=>(U 284767230291263911083031).contains c):=bb;have e:((U z2).all λc=>(U 284767230291263911083031).contains c)=(U z2).all dN:=congrArg (List.all (U z2)) (funext (u9 (p:=dN) (by decide+kernel)));rw[e]at bb;rw[fH bb];refine aU _ ?_;rw[hv,hp,hq];unfold rz;rw[<-hn,hs];simp
   ·rw[hv,hp,hq];unfold rz;cases ha:(U z2).all dN with
    |false=>simp
    |true=>rw[QO ha]at ht;simp at ht
  ·rw[yk (n:=5) 5 rfl h6]at hs;rw[hv,hp,hq];unfold rz;rw[hs];simp
  ·rw[hr]at hn;rw[hv,hp,hq];unfold rz;rw[<-hn];rfl
 ·rw[hv,hp];rfl
theorem vN {id:Nat} {zs:List (List Int)} {a e:Int} (h0:0<=a) (h1:a<=bx) (e0:0<=e) (e1:e<=21) (h:SB id zs [[a],[e]]):aX SB [.str,.int .i64 0 21] id zs [[a],[e]]:=⟨⟨h0,h1,e0,e1,trivial⟩,h⟩
theorem zO {t:ax} (h:(decide (0<=idx 64 t)&&bC t.length 254&&jZ (t.take (idx 64 t).toNat)&&fT (t.drop ((idx 64 t).toNat+1))&&(t.drop ((idx 64 t).toNat+1)).contains 46)=false):qR t=([],2):=by unfold qR;rw[h];rfl
theorem anx:Kx SB (aX SB [.str,.int .i64 0 21] 10):=by
 delta Kx aj aH br bu qt;dsimp only
 intro z0 a0 a1 ae b0 b1 h1 z2 bE c1 z3 d0 d1 z4 e0 e1 cd;have h1:U ae=jr (·==32) (U z0):=h1;have cd:(U z2,U z3,z4)=mL 64 (U ae):=cd;have aU:qR (U ae)=([],2)->aX SB [.str,.int .i64 0 21] 10 [[z0]] [[0],[2]]:=λh=>vN (bD _) gb (by decide) (by decide) (by
  show(U 0,(2:Int))=lF (U z0);unfold lF;rw[<-h1,h];rfl)
 unfold mL at cd;cases hi:decide (0<=idx 64 (U ae))with
 |false=>
  rw[hi]at cd;simp only[cond_false,cv]at cd;obtain⟨_,_,rfl⟩:=cd;exact⟨λ_=>aU (zO (by rw[hi];rfl)),λh=>by simp at h⟩
 |true=>
  rw[hi]at cd;simp only[cond_true,cv]at cd;obtain⟨h2,h3,rfl⟩:=cd;refine⟨λh=>by simp at h,λ_ z5 f0 f1 h5=>⟨λhq=>aU (zO ?_),λhq z6 g0 g1 h6=>?_⟩⟩
  ·rw[vP (n:=254) 254 rfl h5,fZ]at hq;rw[hq];simp
  ·rw[vP (n:=254) 254 rfl h5,mB]at hq;have h6:z6=aN (jZ (U z2)):=h6;rw[fH h6,h2];refine⟨λhl=>aU (zO ?_),λhl z7 i0 i1 h7=>?_⟩
   ·rw[fZ]at hl;rw[hl];simp
   ·rw[mB]at hl;have h7:z7=idx 58 (U z3):=h7;refine⟨λhc=>aU (zO ?_),λhc z8 fU c0 bS=>?_⟩
    ·have vv:u8 58∈U z3:=by
      have:=Ii (c:=58) (by decide) (by decide) (U z3);rw[<-h7,hc]at this;simpa using this.symm
     have:fT (U z3)=false:=by
      cases ah:fT (U z3)with
      |false=>rfl
      |true=>exact absurd vv (ahC ah)
     rw[<-h3,this];simp
    ·have hlt:idx 58 (U z3)<0:=by rw[<-h7];simpa using hc
     have bS:z8=aN ((U z3).contains 46):=bS;rw[fH bS];refine⟨λhd=>aU (zO ?_),λhd z9 e9 k1 bb=>?_⟩
     ·rw[fZ]at hd;rw[<-h3,hd];simp
     ·rw[mB]at hd;have bb:z9=aN (jq (U z3)):=bb;rw[fH bb,Y8 hlt];refine⟨λah=>aU (zO ?_),λah aq l0 l1 c8=>?_⟩
      ·rw[fZ]at ah;rw[<-h3,ah];simp
      ·rw[mB]at ah;have c8:U aq=lower (U ae):=c8;refine vN l0 l1 (by decide) (by decide) ?_;show(U aq,(0:Int))=lF (U z0);unfold lF qR;rw[<-h1,hi,hq,hl,<-h3,ah,hd,c8];rfl
theorem OO {lo hi:Nat} {z:Int} (h0:0<=z) (h1:z<=255):(bC lo (u8 z).toNat&&bC (u8 z).toNat hi)=(decide ((lo:Int)<=z)&&decide (z<=(hi:Int))):=by
 have:=JL h0 h1;rw[iJ];simp[pP];omega
theorem aoh:KZ SB (aX SB [.bool] 50):=by
 delta KZ aj uw;dsimp only
 intro z0 a0 a1;have e:=OO (lo:=97) (hi:=122) a0 a1;have aU:∀b:Bool,mn (u8 z0)=b->aX SB [.bool] 50 [[z0]] [[aN b]]:=λb h=>lR (by show aN b=aN (mn (u8 z0));rw[h]);refine⟨λh=>aU _ ?_,λh=>aU false ?_⟩
 ·unfold mn;rw[e];have h:decide (((97:Nat):Int)<=z0)=true:=h;rw[h];rfl
 ·unfold mn;rw[e];have h:decide (((97:Nat):Int)<=z0)=false:=h;rw[h];rfl
theorem anE:Ky SB (aX SB [.bool] 51):=by
 delta Ky aj uw;dsimp only
 intro z0 a0 a1;have e:=OO (lo:=65) (hi:=90) a0 a1;have aU:∀b:Bool,mm (u8 z0)=b->aX SB [.bool] 51 [[z0]] [[aN b]]:=λb h=>lR (by show aN b=aN (mm (u8 z0));rw[h]);refine⟨λh=>aU _ ?_,λh=>aU false ?_⟩
 ·unfold mm;rw[e];have h:decide (((65:Nat):Int)<=z0)=true:=h;rw[h];rfl
 ·unfold mm;rw[e];have h:decide (((65:Nat):Int)<=z0)=false:=h;rw[h];rfl
theorem anw:Kw SB (aX SB [.bool] 52):=by
 delta Kw aj uw;dsimp only
 intro z0 a0 a1;have e:=OO (lo:=48) (hi:=57) a0 a1;have aU:∀b:Bool,dN (u8 z0)=b->aX SB [.bool] 52 [[z0]] [[aN b]]:=λb h=>lR (by show aN b=aN (dN (u8 z0));rw[h]);refine⟨λh=>aU _ ?_,λh=>aU false ?_⟩
 ·unfold dN;rw[e];have h:decide (((48:Nat):Int)<=z0)=true:=h;rw[h];rfl
 ·unfold dN;rw[e];have h:decide (((48:Nat):Int)<=z0)=false:=h;rw[h];rfl
theorem uE {r:List Int} (h:bd (h8 0 bx 2) r):∃a b,r=[a,b]/\0<=a/\a<=bx/\0<=b/\b<=bx:=by
 match r,h with
 |[a,b],h=>exact⟨a,b,rfl,h.1,h.2.1,h.2.2.1,h.2.2.2.1⟩
theorem IB {z a b:Int} (h:z=aw 5 [a,b]):decide (z=1)=dz (U a) (U b):=by
 rw[h];simp only[aw];cases dz (U a) (U b)<;>simp
theorem Bn:∀l:ax,dz l l=false
 |[]=>rfl
 |x::r=>by
  have:=Bn r;simp[dz,this]
theorem anO:KG SB (aX SB [.bool] 14):=by
 delta KG aj b5;dsimp only
 intro r0 h0 r2 h2 z4 a0 a1 h4;obtain⟨a,b,rfl,_⟩:=uE h0;obtain⟨c,d,rfl,_⟩:=uE h2;have h4:z4=aw 4 [a,c]:=h4;rw[gZ h4];have aU:∀x:Bool,mZ (U a) (U b) (U c) (U d)=x->aX SB [.bool] 14 [[a,b],[c,d]] [[aN x]]:=λx h=>lR (by show aN x=aN (mZ (U a) (U b) (U c) (U d));rw[h]);refine⟨λhp z5 b0 b1 h5=>?_,λhp z5 b0 b1 h5=>?_⟩
 ·have h5:z5=aw 5 [a,c]:=h5;rw[IB h5];refine aU _ ?_;have:¬U a=U c:=by simpa using hp
  unfold mZ;rw[show(U a==U c)=false by simpa using this];rfl
 ·have h5:z5=aw 5 [b,d]:=h5;rw[IB h5];refine aU _ ?_;have:U a=U c:=by simpa using hp
  unfold mZ;rw[this];simp
theorem an7:KS SB (aX SB [.bool] 21):=by
 delta KS aj b5;dsimp only
 intro r0 h0 r2 h2 z4 a0 a1 h4;obtain⟨a,b,rfl,_⟩:=uE h0;obtain⟨c,d,rfl,_⟩:=uE h2;have h4:z4=aw 5 [a,c]:=h4;rw[IB h4];have aU:∀x:Bool,mZ (U a) (U b) (U c) (U d)=x->aX SB [.bool] 21 [[a,b],[c,d]] [[aN x]]:=λx h=>lR (by show aN x=aN (mZ (U a) (U b) (U c) (U d));rw[h]);refine⟨λhp=>aU true ?_,λhp z5 b0 b1 h5=>?_⟩
 ·unfold mZ;cases he:(U a==U c)with
  |false=>exact hp
  |true=>rw[beq_iff_eq]at he;rw[he,Bn]at hp;cases hp
 ·have h5:z5=aw 4 [a,c]:=h5;rw[gZ h5];refine⟨λhq z6 bE c1 h6=>?_,λhq=>aU false ?_⟩
  ·have h6:z6=aw 5 [b,d]:=h6;rw[IB h6];refine aU _ ?_;have:U a=U c:=by simpa using hq
   unfold mZ;rw[this];simp
  ·have:¬U a=U c:=by simpa using hq
   unfold mZ;rw[show(U a==U c)=false by simpa using this];exact hp
def K3 (S:zzS) (K:zzK):Prop:=
 br λz0=>br λae=>aH 0 [z0] λz2=>aH 0 [ae] λz3=>(aj (decide (z3<=z2)) (aH 0 [ae] λz4=>af 2 [z0,0,z4]/\bN 2 [z0,0,z4] λz5=>
 b5 4 [z5,ae] λz6=>(aj (decide (z6=1)) (aH 0 [ae] λz7=>aH 0 [z0] λz8=>af 2 [z0,z7,z8]/\bN 2 [z0,z7,z8] λz9=>K [[z0],[ae]] [[z9]]) (K
 [[z0],[ae]] [[z0]]))) (K [[z0],[ae]] [[z0]]))
def KO (S:zzS) (K:zzK):Prop:=
 br λz0=>b5 4 [z0,17291] λae=>(aj (decide (ae=1)) (K [[z0]] [[13674],[(cond (true) 1 0)],[(cond (true) 1 0)]]) (b5 4 [z0,21674] λz2=>(aj
 (decide (z2=1)) (K [[z0]] [[50],[(cond (false) 1 0)],[(cond (true) 1 0)]]) (b5 4 [z0,18059] λz3=>(aj (decide (z3=1)) (K [[z0]] [[14959],[(cond (true) 1
 0)],[(cond (true) 1 0)]]) (b5 4 [z0,21402] λz4=>(aj (decide (z4=1)) (K [[z0]] [[13416],[(cond (true) 1 0)],[(cond (true) 1 0)]]) (b5 4 [z0,18829] λz5
 =>(aj (decide (z5=1)) (K [[z0]] [[12903],[(cond (true) 1 0)],[(cond (true) 1 0)]]) (b5 4 [z0,0] λz6=>K [[z0]] [[0],[(cond (false) 1 0)],[(cond (decide
 (z6=1)) 1 0)]]))))))))))
def KM (S:zzS) (K:zzK):Prop:=
 br λz0=>br λae=>(af 44 [z0,ae]->∀r2:List Int,bd (h8 0 bx 2) r2->bu λz4=>S 32 [[z0]] [r2,[z4]]->(aj ((!(decide (z4=1)))) (K
 [[z0],[ae]] [[0],[7]]) (br λz5=>bu λz6=>bu λz7=>S 33 [[ae]] [[z5],[z6],[z7]]->(aj ((!(decide (z7=1)))) (K [[z0],[ae]] [[0],[2]]) ((aj
 ((!(decide (z6=1)))) (b5 4 [z0,0] λz8=>(aj ((!(decide (z8=1)))) (br λz9=>S 34 [[z5],[(aB r2 1 0)]] [[z9]]->af 3 [(aB r2 0 0),z9]
 /\bN 3 [(aB r2 0 0),z9] λaq=>aH 0 [aq] λak=>(aj (decide (ak<6)) (K [[z0],[ae]] [[0],[2]]) (aH 0 [aq] λz12=>(aj (decide (15<
 z12)) (K [[z0],[ae]] [[0],[2]]) (af 1 [aq,0]/\bF 1 [aq,0] λaz=>(aj (decide (az=48)) (K [[z0],[ae]] [[0],[2]]) (K [[z0],[ae]] [[aq],[0]])))))))
 (aH 0 [z5] λz9=>(aj (decide (z9<6)) (K [[z0],[ae]] [[0],[2]]) (aH 0 [z5] λaq=>(aj (decide (15<aq)) (K [[z0],[ae]] [[0],[2]]) (af 1 [z5,0]/\
 bF 1 [z5,0] λak=>(aj (decide (ak=48)) (K [[z0],[ae]] [[0],[2]]) (K [[z0],[ae]] [[z5],[0]]))))))))) (aH 0 [z5] λz8=>(aj (decide (z8<6)) (K
 [[z0],[ae]] [[0],[2]]) (aH 0 [z5] λz9=>(aj (decide (15<z9)) (K [[z0],[ae]] [[0],[2]]) (af 1 [z5,0]/\bF 1 [z5,0] λaq=>(aj (decide (aq=48))
 (K [[z0],[ae]] [[0],[2]]) (K [[z0],[ae]] [[z5],[0]])))))))))))))
theorem aoq:K3 SB (aX SB [.str] 34):=by
 delta K3 aj aH br bN b5;dsimp only
 intro z0 a0 a1 ae b0 b1 z2 bE c1 h2 z3 d0 d1 h3;have aU:∀x:Int,0<=x->x<=bx->U x=cond ((U ae).isPrefixOf (U z0)) ((U z0).drop (U ae).length) (U z0)->aX SB [.str] 34 [[z0],[ae]] [[x]]:=λx h0 h1 h=>⟨⟨h0,h1,trivial⟩,h⟩;simp only[aw]at h2 h3;refine⟨λhp z4 e0 e1 h4=>⟨?_,λz5 f0 f1 h5 z6 g0 g1 h6=>?_⟩,λhp=>aU _ a0 a1 ?_⟩
 ·simp only[aw]at h4;have hp:z3<=z2:=by simpa using hp
  exact⟨by omega,by omega,by omega⟩
 ·simp only[aw]at h4;have hp:z3<=z2:=by simpa using hp
  have oP:U z5=(U z0).take (U ae).length:=by rw[h5];simp[aw,ea,h4]
  have gP:(U ae).isPrefixOf (U z0)=decide (U z5=U ae):=by
   rw[iJ,List.isPrefixOf_iff_prefix,List.prefix_iff_eq_take,decide_eq_true_eq,oP];exact eq_comm
  rw[gZ h6,<-gP];refine⟨λhq z7 i0 i1 h7 z8 fU c0 bS=>?_,λhq=>aU _ a0 a1 (by rw[hq];rfl)⟩;simp only[aw]at h7 bS;refine⟨⟨by omega,by omega,by omega⟩,λz9 e9 k1 bb=>aU _ e9 k1 ?_⟩;rw[hq,bb];simp only[aw,ea,cond_true];rw[show z7.toNat=(U ae).length by omega];exact ky (by simp;omega)
 ·have hp:¬z3<=z2:=by simpa using hp
  cases hc:(U ae).isPrefixOf (U z0)with
  |false=>rfl
  |true=>
   have:=(List.isPrefixOf_iff_prefix.1 hc).length_le;omega
theorem ai8:U 17291=[71,66]:=by decide
theorem aja:U 21674=[85,83]:=by decide
theorem ai6:U 18059=[68,69]:=by decide
theorem ai7:U 21402=[70,82]:=by decide
theorem ai5:U 18829=[67,72]:=by decide
theorem an2:KO SB (aX SB [.str,.bool,.bool] 35):=by
 delta KO aj br b5;dsimp only
 intro z0 a0 a1 ae b0 b1 h1;have aU:∀(w c t:ax) (x y z:Int),U z0=w->iN w=some (c,t)->0<=x->x<=17291->U x=c->y=aN (!t.isEmpty)->z=1->aX SB [.str,.bool,.bool] 35 [[z0]] [[x],[y],[z]]:=λw c t x y z hw hc hx0 hx1 hx hy hz=>by
  have hb:(17291:Int)<=bx:=nR (l:=[71,66]) (by decide);subst hy hz;refine⟨⟨hx0,Int.le_trans hx1 hb,(oK _).1,(oK _).2,by decide,by decide,trivial⟩,?_⟩;show(match iN (U z0)with|some (code,fX)=>U x=code/\_=aN (!fX.isEmpty)/\_|none=>_);rw[hw,hc];exact⟨hx,rfl,rfl⟩
 rw[gZ h1,ai8];refine⟨λh=>aU [71,66] [52,52] [48] _ _ _ (by simpa using h) rfl (by decide) (by decide) (by decide) rfl rfl,λh z2 b0 b1 h2=>?_⟩;have n1:¬U z0=[71,66]:=by simpa using h
 rw[gZ h2,aja];refine⟨λh=>aU [85,83] [49] [] _ _ _ (by simpa using h) rfl (by decide) (by decide) (by decide) rfl rfl,λh z2 b0 b1 h2=>?_⟩;have n2:¬U z0=[85,83]:=by simpa using h
 rw[gZ h2,ai6];refine⟨λh=>aU [68,69] [52,57] [48] _ _ _ (by simpa using h) rfl (by decide) (by decide) (by decide) rfl rfl,λh z2 b0 b1 h2=>?_⟩;have n3:¬U z0=[68,69]:=by simpa using h
 rw[gZ h2,ai7];refine⟨λh=>aU [70,82] [51,51] [48] _ _ _ (by simpa using h) rfl (by decide) (by decide) (by decide) rfl rfl,λh z2 b0 b1 h2=>?_⟩;have sC:¬U z0=[70,82]:=by simpa using h
 rw[gZ h2,ai5];refine⟨λh=>aU [67,72] [52,49] [48] _ _ _ (by simpa using h) rfl (by decide) (by decide) (by decide) rfl rfl,λh z2 b0 b1 h2=>?_⟩;have pJ:¬U z0=[67,72]:=by simpa using h
 rw[eq_nil h2];cases he:(U z0==[])with
 |true=>exact aU [] [] [] _ _ _ (by simpa using he) rfl (by decide) (by decide) (by decide) rfl rfl
 |false=>
  refine⟨⟨bD _,gb,by decide,by decide,by decide,by decide,trivial⟩,?_⟩;have hn:iN (U z0)=none:=by
   unfold iN;rw[he,show(U z0==[71,66])=false by simpa using n1,show(U z0==[85,83])=false by simpa using n2,show(U z0==[68,69])=false by simpa using n3,show(U z0==[70,82])=false by simpa using sC,show(U z0==[67,72])=false by simpa using pJ];rfl
  show(match iN (U z0)with|some (code,fX)=>_|none=>U 0=[]/\_/\_);rw[hn];exact⟨rfl,rfl,rfl⟩
theorem CM:∀(s d:ax) (p:Bool) {d':ax} {p':Bool},eb s d p=some (d',p')->d'.length<=d.length+s.length
 |[],d,p,d',p',h=>by
  simp only[eb,aK,cv]at h;rw[h.1];simp
 |c::r,d,p,d',p',h=>by
  unfold eb at h;cases h1:dN c with
  |true=>
   rw[h1,cond_true]at h;have:=CM r _ _ h;simp at this⊢;omega
  |false=>
   rw[h1,cond_false]at h;cases h2:(c==43&&d.isEmpty&& !p)with
   |true=>
    rw[h2,cond_true]at h;have:=CM r _ _ h;simp at this⊢;omega
   |false=>
    rw[h2,cond_false]at h;cases h3:nI.contains c with
    |true=>
     rw[h3,cond_true]at h;have:=CM r _ _ h;simp at this⊢;omega
    |false=>rw[h3,cond_false]at h;cases h
theorem L9 {w c t:ax} (h:iN w=some (c,t)):c.length<=2:=by
 unfold iN at h;cases h0:(w==[])with
 |true=>rw[h0,cond_true]at h;simp only[aK,cv]at h;rw[<-h.1];decide
 |false=>
  rw[h0,cond_false]at h;cases h1:(w==[71,66])with
  |true=>rw[h1,cond_true]at h;simp only[aK,cv]at h;rw[<-h.1];decide
  |false=>
   rw[h1,cond_false]at h;cases h2:(w==[85,83])with
   |true=>rw[h2,cond_true]at h;simp only[aK,cv]at h;rw[<-h.1];decide
   |false=>
    rw[h2,cond_false]at h;cases h3:(w==[68,69])with
    |true=>rw[h3,cond_true]at h;simp only[aK,cv]at h;rw[<-h.1];decide
    |false=>
     rw[h3,cond_false]at h;cases h4:(w==[70,82])with
     |true=>rw[h4,cond_true]at h;simp only[aK,cv]at h;rw[<-h.1];decide
     |false=>
      rw[h4,cond_false]at h;cases h5:(w==[67,72])with
      |true=>rw[h5,cond_true]at h;simp only[aK,cv]at h;rw[<-h.1];decide
      |false=>
       rw[h5,cond_false]at h;cases h
theorem yx {w s:ax} {z n:Int} (zs:List (List Int)) (id:Nat) (hid:∀a e,(U a,e)=jn w s->SB id zs [[a],[e]]) (n0:0<=n) (n1:n<=bx) (hf:jn w s=sI (U n)):
 ∀ak:Int,0<=ak->ak<=9223372036854775807->ak=aw 0 [n]->
  (((decide (ak<6))=true->
   aX SB [.str,.int .i64 0 21] id zs [[0],[2]]
  )/\((decide (ak<6))=false->
   ∀z12:Int,0<=z12->z12<=9223372036854775807->z12=aw 0 [n]->
   (((decide (15<z12))=true->
    aX SB [.str,.int .i64 0 21] id zs [[0],[2]]
   )/\((decide (15<z12))=false->
    af 1 [n,0]/\
    ∀az:Int,0<=az->az<=255->az=aw 1 [n,0]->
    (((decide (az=48))=true->
     aX SB [.str,.int .i64 0 21] id zs [[0],[2]]
    )/\((decide (az=48))=false->
     aX SB [.str,.int .i64 0 21] id zs [[n],[0]]
    ))
   ))
  )):=by
 intro ae a0 a1 h1;have e1:decide (ae<6)=b6 (U n).length 6:=by
  rw[h1];simp only[aw];rw[iJ,decide_eq_true_eq,oz];omega
 have aU:sI (U n)=([],2)->aX SB [.str,.int .i64 0 21] id zs [[0],[2]]:=λh=>vN (bD _) gb (by decide) (by decide) (hid _ _ (by rw[hf,h];rfl));rw[e1];refine⟨λh=>aU (by unfold sI;rw[h];rfl),λh z2 b0 b1 h2=>?_⟩;have e2:decide (15<z2)=b6 15 (U n).length:=by
  rw[h2];simp only[aw];rw[iJ,decide_eq_true_eq,oz];omega
 rw[e2];refine⟨λh'=>aU (by unfold sI;rw[h,h'];rfl),λh'=>⟨⟨bD _,?_⟩,λz3 bE c1 h3=>?_⟩⟩
 ·have:¬b6 (U n).length 6=true:=by rw[h];simp
  rw[oz]at this;omega
 ·have e3:decide (z3=48)=((U n).getD 0 0==48):=by
   rw[h3];simp only[aw,yY];rw[iJ,decide_eq_true_eq,qw (by decide) (by decide)];rfl
  rw[e3];refine⟨λh3=>aU (by unfold sI;rw[h,h',h3];rfl),λh3=>vN n0 n1 (by decide) (by decide) (hid _ _ ?_)⟩;rw[hf];unfold sI;rw[h,h',h3];rfl
theorem an0:KM SB (aX SB [.str,.int .i64 0 21] 12):=by
 delta KM aj aH br bN bF bu b5;dsimp only
 intro z0 a0 a1 ae b0 b1 hq r2 h2 z4 bE c1 hc;obtain⟨c,t,rfl,x0,x1,uK,kR⟩:=uE h2;have hid:∀a e,(U a,e)=jn (U z0) (U ae)->SB 12 [[z0],[ae]] [[a],[e]]:=λ_ _ h=>h;have hq:U z0=[]∨(U ae).length<=4294967280:=hq;have hc:(match iN (U z0)with|some (code,fX)=>U c=code/\U t=fX/\z4=1|none=>z4=0/\U c=[]/\U t=[]):=hc;have aU:∀e:Int,0<=e->e<=21->jn (U z0) (U ae)=([],e)->aX SB [.str,.int .i64 0 21] 12 [[z0],[ae]] [[0],[e]]:=λe e0 e1 h=>vN (bD _) gb e0 e1 (hid _ _ (by rw[h];rfl));cases gM:iN (U z0)with
 |none=>
  rw[gM]at hc;obtain⟨rfl,_⟩:=hc;exact⟨λ_=>aU 7 (by decide) (by decide) (by unfold jn;rw[gM]),λh=>by simp at h⟩
 |some tA=>
  obtain⟨code,fX⟩:=tA;rw[gM]at hc;obtain⟨qf,Er,rfl⟩:=hc;refine⟨λh=>by simp at h,λ_ z5 d0 d1 z6 e0 e1 z7 f0 f1 hb=>?_⟩;have hb:(match eb (U ae) [] false with|some (d',p')=>U z5=d'/\z6=aN p'/\z7=1|none=>U z5=[]/\z6=0/\z7=0):=hb;cases se:eb (U ae) [] false with
  |none=>
   rw[se]at hb;obtain⟨_,_,rfl⟩:=hb;exact⟨λ_=>aU 2 (by decide) (by decide) (by unfold jn;rw[gM];simp only[se]),λh=>by simp at h⟩
  |some adw=>
   obtain⟨d,p⟩:=adw;rw[se]at hb;obtain⟨hd,hp,rfl⟩:=hb;have hf:jn (U z0) (U ae)=sI (qs (U z0) code fX d p):=by unfold jn;rw[gM];simp only[se]
   have hlen:=CM _ _ _ se;refine⟨λh=>by simp at h,λ_=>?_⟩;rw[fH hp];refine⟨λhp=>λz8 g0 g1 bS=>?_,λhp=>yx (z:=0) _ 12 hid d0 d1 ?_⟩
   ·rw[eq_nil bS];refine⟨λhw z9 i0 i1 bb=>?_,λhw=>yx (z:=0) _ 12 hid d0 d1 ?_⟩
    ·have bb:U z9=cond ((U t).isPrefixOf (U z5)) ((U z5).drop (U t).length) (U z5):=bb;have ahf:(U z9).length<=(U z5).length:=by
      rw[bb];cases(U t).isPrefixOf (U z5)<;>simp
     refine⟨?_,λaq fU c0 c8=>yx (z:=0) _ 12 hid fU c0 ?_⟩
     ·show(U c).length+(U z9).length<=eK;have:=L9 gM;have hq:(U ae).length<=4294967280:=by
       rcases hq with h|h
       ·have hw:(!(U z0==[]))=true:=hw;rw[h]at hw;cases hw
       ·exact h
      rw[qf];rw[hd]at ahf;unfold eK;simp at hlen;omega
     ·rw[hf];have:U aq=U c++U z9:=by rw[c8];simp only[aw,ea];rfl
      rw[this,bb,qf,Er,hd];unfold qs;have hw:(!(U z0==[]))=true:=hw;rw[hp,hw];rfl
    ·rw[hf,hd];unfold qs;have hw:(!(U z0==[]))=false:=hw;rw[hp,hw];rfl
   ·rw[hf,hd];unfold qs;rw[hp];rfl
end Go.bH
namespace Go.bH
open Go Go.bg
def KQ (S:zzS) (K:zzK):Prop:=
 br λz0=>aH 0 [z0] λae=>(aj (decide (ae<1)) (K [[z0]] [[(cond (false) 1 0)]]) (aH 0 [z0] λz2=>(aj (decide (230<z2)) (K [[z0]] [[(cond (false)
 1 0)]]) (∃(ez:List (List Int)->Prop) (c7:List (List Int)->Nat),ez [[0]]/\(dk λz4=>ez [[z4]]->aH 0 [z0] λz5=>(aj (decide (z4<z5)) (af
 1 [z0,z4]/\bF 1 [z0,z4] λz6=>(aj (decide (z6=46)) (af 1 [z0,z4]/\bF 1 [z0,z4] λz7=>bu λz8=>S 50 [[z7]] [[z8]]->(aj ((!(decide (z8=
 1)))) (af 1 [z0,z4]/\bF 1 [z0,z4] λz9=>bu λaq=>S 51 [[z9]] [[aq]]->(aj ((!(decide (aq=1)))) (af 1 [z0,z4]/\bF 1 [z0,z4] λak=>bu
 λz12=>S 52 [[ak]] [[z12]]->(aj ((!(decide (z12=1)))) ((aj (decide (z4=0)) (K [[z0]] [[(cond (false) 1 0)]]) (aH 0 [z0] λaz=>(aj (decide (z4=
 (az+(-1)))) (K [[z0]] [[(cond (false) 1 0)]]) (af 1 [z0,z4]/\bF 1 [z0,z4] λaC=>(aj (decide (aC=46)) (af 1 [z0,(z4+(-1))]/\bF 1 [z0,(z4+
 (-1))] λau=>(aj (decide (au=46)) (K [[z0]] [[(cond (false) 1 0)]]) (a8 (z4+bM) bI λaP=>af 39 [((z4+
 (av*aP))+1),0,aV]/\(ez [[((z4+(av*aP))+1)]]/\c7 [[((z4+(av*
 aP))+1)]]<c7 [[z4]])))) (a8 (z4+bM) bI λau=>af 39 [((z4+(av*au))+
 1),0,aV]/\(ez [[((z4+(av*au))+1)]]/\c7 [[((z4+(av*au))+1)]]<c7 [[z4]])))))))) ((aj
 (decide (z4=0)) (K [[z0]] [[(cond (false) 1 0)]]) (aH 0 [z0] λaz=>(aj (decide (z4=(az+(-1)))) (K [[z0]] [[(cond (false) 1 0)]]) (af 1 [z0,z4]/\
 bF 1 [z0,z4] λaC=>(aj (decide (aC=46)) (af 1 [z0,(z4+(-1))]/\bF 1 [z0,(z4+(-1))] λau=>(aj (decide (au=46)) (K [[z0]] [[(cond (false)
 1 0)]]) (a8 (z4+bM) bI λaP=>af 39 [((z4+(av*aP))+1),0,aV]/\(ez [[((z4
 +(av*aP))+1)]]/\c7 [[((z4+(av*aP))+1)]]<c7 [[z4]])))) (a8 (z4+bM)
 bI λau=>af 39 [((z4+(av*au))+1),0,aV]/\(ez [[((z4+(av*au))+
 1)]]/\c7 [[((z4+(av*au))+1)]]<c7 [[z4]])))))))))) ((aj (decide (z4=0)) (K [[z0]] [[(cond (false) 1 0)]]) (aH 0 [z0] λak=>
 (aj (decide (z4=(ak+(-1)))) (K [[z0]] [[(cond (false) 1 0)]]) (af 1 [z0,z4]/\bF 1 [z0,z4] λz12=>(aj (decide (z12=46)) (af 1 [z0,(z4+(-1))]
 /\bF 1 [z0,(z4+(-1))] λaz=>(aj (decide (az=46)) (K [[z0]] [[(cond (false) 1 0)]]) (a8 (z4+bM) bI λaC=>
 af 39 [((z4+(av*aC))+1),0,aV]/\(ez [[((z4+(av*aC))+1)]]/\c7 [[((z4+
 (av*aC))+1)]]<c7 [[z4]])))) (a8 (z4+bM) bI λaz=>af 39 [((z4+(av*
 az))+1),0,aV]/\(ez [[((z4+(av*az))+1)]]/\c7 [[((z4+(av*az))+1)]]<c7
 [[z4]])))))))))) ((aj (decide (z4=0)) (K [[z0]] [[(cond (false) 1 0)]]) (aH 0 [z0] λz9=>(aj (decide (z4=(z9+(-1)))) (K [[z0]] [[(cond (false) 1 0)]])
 (af 1 [z0,z4]/\bF 1 [z0,z4] λaq=>(aj (decide (aq=46)) (af 1 [z0,(z4+(-1))]/\bF 1 [z0,(z4+(-1))] λak=>(aj (decide (ak=46)) (K
 [[z0]] [[(cond (false) 1 0)]]) (a8 (z4+bM) bI λz12=>af 39 [((z4+(av*z12))+
 1),0,aV]/\(ez [[((z4+(av*z12))+1)]]/\c7 [[((z4+(av*z12))+1)]]<c7 [[z4]])))) (a8 (z4
 +bM) bI λak=>af 39 [((z4+(av*ak))+1),0,aV]/\(ez [[((z4+
 (av*ak))+1)]]/\c7 [[((z4+(av*ak))+1)]]<c7 [[z4]])))))))))) (af 1 [z0,z4]/\bF 1 [z0,z4] λz7=>
 af 1 [z0,z4]/\bF 1 [z0,z4] λz8=>bu λz9=>S 50 [[z8]] [[z9]]->(aj ((!(decide (z9=1)))) (af 1 [z0,z4]/\bF 1 [z0,z4] λaq=>bu λak=>
 S 51 [[aq]] [[ak]]->(aj ((!(decide (ak=1)))) (af 1 [z0,z4]/\bF 1 [z0,z4] λz12=>bu λaz=>S 52 [[z12]] [[az]]->(aj ((!(decide (az=1))))
 ((aj ((!(decide (z7=45)))) (K [[z0]] [[(cond (false) 1 0)]]) ((aj (decide (z7=45)) ((aj (decide (z4=0)) (K [[z0]] [[(cond (false) 1 0)]]) (aH 0 [z0] λ
 aC=>(aj (decide (z4=(aC+(-1)))) (K [[z0]] [[(cond (false) 1 0)]]) (af 1 [z0,z4]/\bF 1 [z0,z4] λau=>(aj (decide (au=46)) (af 1 [z0,(z4+
 (-1))]/\bF 1 [z0,(z4+(-1))] λaP=>(aj (decide (aP=46)) (K [[z0]] [[(cond (false) 1 0)]]) (a8 (z4+bM) bI λbw
 =>af 39 [((z4+(av*bw))+1),0,aV]/\(ez [[((z4+(av*bw))+1)]]/\c7 [[((z4+
 (av*bw))+1)]]<c7 [[z4]])))) (a8 (z4+bM) bI λaP=>af 39 [((z4+(av*
 aP))+1),0,aV]/\(ez [[((z4+(av*aP))+1)]]/\c7 [[((z4+(av*aP))+1)]]<c7
 [[z4]])))))))) (a8 (z4+bM) bI λaC=>af 39 [((z4+(av*aC))+1),0,aV]/\(ez
 [[((z4+(av*aC))+1)]]/\c7 [[((z4+(av*aC))+1)]]<c7 [[z4]])))))) ((aj (decide (z7=45)) ((aj (decide
 (z4=0)) (K [[z0]] [[(cond (false) 1 0)]]) (aH 0 [z0] λaC=>(aj (decide (z4=(aC+(-1)))) (K [[z0]] [[(cond (false) 1 0)]]) (af 1 [z0,z4]/\bF 1
 [z0,z4] λau=>(aj (decide (au=46)) (af 1 [z0,(z4+(-1))]/\bF 1 [z0,(z4+(-1))] λaP=>(aj (decide (aP=46)) (K [[z0]] [[(cond (false) 1
 0)]]) (a8 (z4+bM) bI λbw=>af 39 [((z4+(av*bw))+1),0,aV]/\(ez [[((z4+
 (av*bw))+1)]]/\c7 [[((z4+(av*bw))+1)]]<c7 [[z4]])))) (a8 (z4+bM)
 bI λaP=>af 39 [((z4+(av*aP))+1),0,aV]/\(ez [[((z4+(av*aP))+
 1)]]/\c7 [[((z4+(av*aP))+1)]]<c7 [[z4]])))))))) (a8 (z4+bM) bI λaC=>af 39 [((z4+
 (av*aC))+1),0,aV]/\(ez [[((z4+(av*aC))+1)]]/\c7 [[((z4+(av*
 aC))+1)]]<c7 [[z4]])))))) ((aj (decide (z7=45)) ((aj (decide (z4=0)) (K [[z0]] [[(cond (false) 1 0)]]) (aH 0 [z0] λz12=>(aj (decide (z4=(z12+
 (-1)))) (K [[z0]] [[(cond (false) 1 0)]]) (af 1 [z0,z4]/\bF 1 [z0,z4] λaz=>(aj (decide (az=46)) (af 1 [z0,(z4+(-1))]/\bF 1 [z0,(z4+(-1))]
 λaC=>(aj (decide (aC=46)) (K [[z0]] [[(cond (false) 1 0)]]) (a8 (z4+bM) bI λau=>af 39 [((z4+
 (av*au))+1),0,aV]/\(ez [[((z4+(av*au))+1)]]/\c7 [[((z4+(av*
 au))+1)]]<c7 [[z4]])))) (a8 (z4+bM) bI λaC=>af 39 [((z4+(av*aC))+
 1),0,aV]/\(ez [[((z4+(av*aC))+1)]]/\c7 [[((z4+(av*aC))+1)]]<c7 [[z4]])))))))) (a8
 (z4+bM) bI λz12=>af 39 [((z4+(av*z12))+1),0,aV]/\(ez [[((z4+
 (av*z12))+1)]]/\c7 [[((z4+(av*z12))+1)]]<c7 [[z4]])))))) ((aj (decide (z7=45)) ((aj (decide (z4=0))
 (K [[z0]] [[(cond (false) 1 0)]]) (aH 0 [z0] λaq=>(aj (decide (z4=(aq+(-1)))) (K [[z0]] [[(cond (false) 1 0)]]) (af 1 [z0,z4]/\bF 1 [z0,z4] λ
 ak=>(aj (decide (ak=46)) (af 1 [z0,(z4+(-1))]/\bF 1 [z0,(z4+(-1))] λz12=>(aj (decide (z12=46)) (K [[z0]] [[(cond (false) 1 0)]]) (a8 (z4+
 bM) bI λaz=>af 39 [((z4+(av*az))+1),0,aV]/\(ez [[((z4+
 (av*az))+1)]]/\c7 [[((z4+(av*az))+1)]]<c7 [[z4]])))) (a8 (z4+bM)
 bI λz12=>af 39 [((z4+(av*z12))+1),0,aV]/\(ez [[((z4+(av*z12))+
 1)]]/\c7 [[((z4+(av*z12))+1)]]<c7 [[z4]])))))))) (a8 (z4+bM) bI λaq=>af 39 [((z4+
 (av*aq))+1),0,aV]/\(ez [[((z4+(av*aq))+1)]]/\c7 [[((z4+(av*
 aq))+1)]]<c7 [[z4]])))))))) (K [[z0]] [[(cond (true) 1 0)]])))))))
def ry (inn il:UInt8->Bool) (s:ax) (i:Nat):Prop:=inn (s.getD i 0)=true/\(il (s.getD i 0)=true->0<i/\i+1<s.length)/\¬(s.getD i 0=46/\0<i/\s.getD (i-1) 0=46)
theorem Px (inn il:UInt8->Bool) (s:ax):uo inn il s=true↔∀i,i<s.length->ry inn il s i:=XT inn il s
theorem XS {inn il:UInt8->Bool} {s:ax} {i:Nat} (hi:i<s.length) (h:¬ry inn il s i):uo inn il s=false:=by
 cases ho:uo inn il s with
 |false=>rfl
 |true=>exact absurd ((Px inn il s).1 ho i hi) h
def zl (inn il:UInt8->Bool) (z0:Int) (bl:List (List Int)):Prop:=∃i:Nat,bl=[[(i:Int)]]/\i<=(U z0).length/\∀j,j<i->ry inn il (U z0) j
def zm (z0:Int) (bl:List (List Int)):Nat:=(U z0).length-((bl.getD 0 []).getD 0 0).toNat
def Gg (I:List (List Int)->Prop) (M:List (List Int)->Nat) (i:Int):Prop:=∀aP:Int,0<=aP->aP<=1->0<=(i+9223372036854775809)-18446744073709551616*aP->(i+9223372036854775809)-18446744073709551616*aP<18446744073709551616->
 af 39 [((i+((-18446744073709551616)*aP))+1),0,9223372036854775807]/\(I [[((i+((-18446744073709551616)*aP))+1)]]/\M [[((i+((-18446744073709551616)*aP))+1)]]<M [[i]])
theorem SR {inn il:UInt8->Bool} {z0:Int} {i:Nat} (h1:z0<=bx) (hi:i<(U z0).length) (hall:∀j,j<i->ry inn il (U z0) j) (h:ry inn il (U z0) i):Gg (zl inn il z0) (zm z0) i:=by
 intro q q0 q1 q2 q3;have bZ:=uj h1;rw[mz (L:=((U z0).length:Int)) (by omega) bZ (rN _) q0 q2];refine⟨⟨by omega,by omega⟩,⟨i+1,by simp,by omega,λj hj=>?_⟩,?_⟩
 ·by_cases hj':j=i
  ·subst hj';exact h
  ·exact hall j (by omega)
 ·show(U z0).length-((i:Int)+1).toNat<(U z0).length-(i:Int).toNat;omega
theorem tw {z0 z i n:Int} {k:Nat} (hi:i=(k:Int)) (hn:0<=n) (fl:n<=255) (h:z=aw 1 [z0,i]):decide (z=n)=((U z0).getD k 0==u8 n):=by
 rw[h,hi];simp only[aw,eZ];rw[iJ,decide_eq_true_eq,qw hn fl]
theorem ap9 {K:Prop} {A:Prop} {z0:Int} {i:Nat} (hi:i<(U z0).length) (he:lE ((U z0).getD i 0)=true) (cE:k9 ((U z0).getD i 0)=true)
 (hK:¬ry k9 lE (U z0) i->K) (hA:ry k9 lE (U z0) i->A):
   (((decide ((i:Int)=0))=true->
    K
   )/\((decide ((i:Int)=0))=false->
    ∀az:Int,0<=az->az<=9223372036854775807->az=aw 0 [z0]->
    (((decide ((i:Int)=(az+(-1))))=true->
     K
    )/\((decide ((i:Int)=(az+(-1))))=false->
     af 1 [z0,(i:Int)]/\
     ∀aC:Int,0<=aC->aC<=255->aC=aw 1 [z0,(i:Int)]->
     (((decide (aC=46))=true->
      af 1 [z0,((i:Int)+(-1))]/\
      ∀au:Int,0<=au->au<=255->au=aw 1 [z0,((i:Int)+(-1))]->
      (((decide (au=46))=true->
       K
      )/\((decide (au=46))=false->
       A
      ))
     )/\((decide (aC=46))=false->
      A
     ))
    ))
   )):=by
 refine⟨λh=>hK λho=>?_,λh az a0 a1 dI=>?_⟩
 ·have:=(ho.2.1 he).1;have:(i:Int)=0:=by simpa using h
  omega
 ·have h0:¬(i:Int)=0:=by simpa using h
  simp only[aw]at dI;refine⟨λh=>hK λho=>?_,λh=>⟨⟨rN _,by omega⟩,λaC b0 b1 fs=>?_⟩⟩
  ·have:=(ho.2.1 he).2;have:(i:Int)=az+-1:=by simpa using h
   omega
  ·have h1:¬(i:Int)=az+-1:=by simpa using h
   rw[tw (n:=46) (k:=i) rfl (by decide) (by decide) fs];refine⟨λh=>⟨⟨by omega,by omega⟩,λau bE c1 ft=>?_⟩,λh=>hA ⟨cE,λ_=>⟨by omega,by omega⟩,λah=>?_⟩⟩
   ·rw[tw (n:=46) (k:=i-1) (by omega) (by decide) (by decide) ft];have h:(U z0).getD i 0=46:=beq_iff_eq.1 h;refine⟨λh'=>hK λho=>ho.2.2 ⟨h,by omega,beq_iff_eq.1 h'⟩,λh'=>hA ⟨cE,λ_=>⟨by omega,by omega⟩,λah=>?_⟩⟩;have:((U z0).getD (i-1) 0==u8 46)=true:=beq_iff_eq.2 ah.2.2;rw[this]at h';cases h'
   ·have:((U z0).getD i 0==u8 46)=true:=beq_iff_eq.2 ah.1;rw[this]at h;cases h
theorem LG {z0 i z q:Int} {k:Nat} {f:UInt8->Bool} (hi:i=(k:Int)) (h:z=aw 1 [z0,i]) (hq:q=aN (f (u8 z))):decide (q=1)=f ((U z0).getD k 0):=by
 rw[fH hq,h,hi];simp only[aw,eZ,B8]
theorem one_le {ae z0:Int} (h:ae=aw 0 [z0]):decide (ae<1)= !b6 0 (U z0).length:=by
 rw[h];simp only[aw];rw[iJ,decide_eq_true_eq,fZ,<-aur,oz];omega
theorem an5:KQ SB (aX SB [.bool] 30):=by
 delta KQ aj a8 dk aH br bF bu bI av aV bM;dsimp only
 intro z0 a0 a1 ae b0 b1 h1;have aU:∀b:Bool,fT (U z0)=b->aX SB [.bool] 30 [[z0]] [[aN b]]:=λb h=>lR (by show aN b=aN (fT (U z0));rw[h]);rw[one_le h1];refine⟨λh=>aU false ?_,λh z2 bE c1 h2=>?_⟩
 ·rw[fZ]at h;unfold fT;rw[h];rfl
 rw[mB]at h;rw[vP (n:=230) 230 rfl h2];refine⟨λh'=>aU false ?_,λh'=>⟨zl k9 lE z0,zm z0,⟨0,rfl,iI _,λj hj=>by omega⟩,?_⟩⟩
 ·rw[fZ]at h';unfold fT;rw[h'];simp
 rw[mB]at h'
 rintro z4 d0 d1 ⟨i,e,hi,hall⟩ z5 e0 e1 h5
 obtain rfl:z4=i:=by simpa using e
 simp only[aw]at h5;refine⟨λhp=>?_,λhp=>aU true ?_⟩
 ·have hp:(i:Int)<z5:=by simpa using hp
  have hlt:i<(U z0).length:=by omega
  have hc1:af 1 [z0,(i:Int)]:=⟨d0,by omega⟩;have hK:¬ry k9 lE (U z0) i->aX SB [.bool] 30 [[z0]] [[aN false]]:=λhn=>aU false (by unfold fT;rw[XS hlt hn];simp);have hA:ry k9 lE (U z0) i->Gg (zl k9 lE z0) (zm z0) i:=SR a1 hlt hall;have cd:lE ((U z0).getD i 0)=true->_:=λhe=>ap9 hlt he (by unfold k9;rw[he];simp) hK hA;refine⟨hc1,λz6 f0 f1 h6=>?_⟩;rw[tw (n:=46) (k:=i) rfl (by decide) (by decide) h6];refine⟨λkJ=>?_,λkJ=>?_⟩
  ·have hs:=cd (by unfold lE;rw[show((U z0).getD i 0==46)=true from kJ];rfl);refine⟨hc1,λz7 g0 g1 h7 z8 i0 i1 bS=>⟨λ_=>⟨hc1,λz9 fU c0 bb aq e9 k1 c8=>⟨λ_=>⟨hc1,λak l0 l1 dE z12 m0 fV dU=>⟨λ_=>hs,λ_=>hs⟩⟩,λ_=>hs⟩⟩,λ_=>hs⟩⟩
  ·refine⟨hc1,λz7 g0 g1 h7=>⟨hc1,λz8 i0 i1 bS z9 fU c0 bb=>?_⟩⟩;have Pq:¬(U z0).getD i 0=46:=λe=>by
    have:((U z0).getD i 0==u8 46)=true:=beq_iff_eq.2 e;rw[this]at kJ;cases kJ
   have adE:=tw (n:=45) (k:=i) rfl (by decide) (by decide) h7;rw[adE];have sr:(mn ((U z0).getD i 0)=true∨mm ((U z0).getD i 0)=true∨dN ((U z0).getD i 0)=true)->_:=λhh=>And.intro (λxr:((U z0).getD i 0==u8 45)=true=>cd (by unfold lE;rw[show((U z0).getD i 0==45)=true from xr];simp)) (λxr:((U z0).getD i 0==u8 45)=false=>hA ⟨(by
    unfold k9;rcases hh with h|h|h<;>rw[h]<;>simp),(λhe=>by
    unfold lE at he;rw[show((U z0).getD i 0==45)=false from xr,show((U z0).getD i 0==46)=false from kJ]at he;cases he),λah=>Pq ah.1⟩)
   rw[LG (f:=mn) (k:=i) rfl bS bb];refine⟨λalx=>⟨hc1,λaq e9 k1 c8 ak l0 l1 dE=>?_⟩,λafh=>sr (.inl (by simpa using afh))⟩;rw[LG (f:=mm) (k:=i) rfl c8 dE];refine⟨λalw=>⟨hc1,λz12 m0 fV dU az n0 n1 dI=>?_⟩,λae5=>sr (.inr (.inl (by simpa using ae5)))⟩;rw[LG (f:=dN) (k:=i) rfl dU dI];refine⟨λalv=>⟨λXJ=>hK λho=>?_,λxr=>?_⟩,λae3=>sr (.inr (.inr (by simpa using ae3)))⟩
   ·have cE:=ho.1;unfold k9 lE at cE;rw[show mn ((U z0).getD i 0)=false by simpa using alx,show mm ((U z0).getD i 0)=false by simpa using alw,show dN ((U z0).getD i 0)=false by simpa using alv,show((U z0).getD i 0==45)=false from by rw[fZ]at XJ;exact XJ,show((U z0).getD i 0==46)=false from kJ]at cE;cases cE
   ·rw[mB]at xr;have hs:=cd (by unfold lE;rw[show((U z0).getD i 0==45)=true from xr];simp);exact⟨λ_=>hs,λh=>by rw[xr]at h;cases h⟩
 ·have hp:¬(i:Int)<z5:=by simpa using hp
  unfold fT;rw[h,h',(Px k9 lE (U z0)).2 λj hj=>hall j (by omega)];rfl
def KT (S:zzS) (K:zzK):Prop:=
 br λz0=>aH 0 [z0] λae=>(aj (decide (ae<1)) (K [[z0]] [[(cond (false) 1 0)]]) (aH 0 [z0] λz2=>(aj (decide (64<z2)) (K [[z0]] [[(cond (false)
 1 0)]]) (∃(ez:List (List Int)->Prop) (c7:List (List Int)->Nat),ez [[0]]/\(dk λz4=>ez [[z4]]->aH 0 [z0] λz5=>(aj (decide (z4<z5)) (af
 1 [z0,z4]/\bF 1 [z0,z4] λz6=>(aj (decide (97<=z6)) ((aj (decide (z6<=122)) (∃(gd:List (List Int)->Prop) (gA:List (List Int)->Nat),gd [[0],[1]]
 /\(dk λz8=>bu λz9=>gd [[z8],[z9]]->(aj (decide (z8<19)) ((aj (decide (z9=1)) ((gd [[(z8+1)],[1]]/\gA [[(z8+1)],[1]]<gA [[z8],[z9]]))
 (af 1 [1112275947084288557575193961879115365961291049,z8]/\bF 1 [1112275947084288557575193961879115365961291049,z8] λaq=>bu λak=>decide (aq=
 z6)=decide (ak=1)->(gd [[(z8+1)],[ak]]/\gA [[(z8+1)],[ak]]<gA [[z8],[z9]])))) ((aj ((!(decide (z9=1)))) (K [[z0]] [[(cond (false) 1 0)]]) (a8
 (z4+bM) bI λaq=>af 39 [((z4+(av*aq))+1),0,aV]/\(ez [[((z4+
 (av*aq))+1)]]/\c7 [[((z4+(av*aq))+1)]]<c7 [[z4]]))))))) (∃(gd:List (List Int)->Prop) (gA:List
 (List Int)->Nat),gd [[0],[0]]/\(dk λz8=>bu λz9=>gd [[z8],[z9]]->(aj (decide (z8<19)) ((aj (decide (z9=1)) ((gd [[(z8+1)],[1]]/\gA [[(z8+
 1)],[1]]<gA [[z8],[z9]])) (af 1 [1112275947084288557575193961879115365961291049,z8]/\bF 1 [1112275947084288557575193961879115365961291049,z8] λaq=>
 bu λak=>decide (aq=z6)=decide (ak=1)->(gd [[(z8+1)],[ak]]/\gA [[(z8+1)],[ak]]<gA [[z8],[z9]])))) ((aj ((!(decide (z9=1)))) (K [[z0]]
 [[(cond (false) 1 0)]]) (a8 (z4+bM) bI λaq=>af 39 [((z4+(av*aq))+
 1),0,aV]/\(ez [[((z4+(av*aq))+1)]]/\c7 [[((z4+(av*aq))+1)]]<c7 [[z4]])))))))))
 ((aj (decide (65<=z6)) ((aj (decide (z6<=90)) (∃(gd:List (List Int)->Prop) (gA:List (List Int)->Nat),gd [[0],[1]]/\(dk λz8=>bu λz9=>gd
 [[z8],[z9]]->(aj (decide (z8<19)) ((aj (decide (z9=1)) ((gd [[(z8+1)],[1]]/\gA [[(z8+1)],[1]]<gA [[z8],[z9]])) (af 1
 [1112275947084288557575193961879115365961291049,z8]/\bF 1 [1112275947084288557575193961879115365961291049,z8] λaq=>bu λak=>decide (aq=z6)=
 decide (ak=1)->(gd [[(z8+1)],[ak]]/\gA [[(z8+1)],[ak]]<gA [[z8],[z9]])))) ((aj ((!(decide (z9=1)))) (K [[z0]] [[(cond (false) 1 0)]]) (a8 (z4+
 bM) bI λaq=>af 39 [((z4+(av*aq))+1),0,aV]/\(ez [[((z4+
 (av*aq))+1)]]/\c7 [[((z4+(av*aq))+1)]]<c7 [[z4]]))))))) (∃(gd:List (List Int)->Prop) (gA:List
 (List Int)->Nat),gd [[0],[0]]/\(dk λz8=>bu λz9=>gd [[z8],[z9]]->(aj (decide (z8<19)) ((aj (decide (z9=1)) ((gd [[(z8+1)],[1]]/\gA [[(z8+
 1)],[1]]<gA [[z8],[z9]])) (af 1 [1112275947084288557575193961879115365961291049,z8]/\bF 1 [1112275947084288557575193961879115365961291049,z8] λaq=>
 bu λak=>decide (aq=z6)=decide (ak=1)->(gd [[(z8+1)],[ak]]/\gA [[(z8+1)],[ak]]<gA [[z8],[z9]])))) ((aj ((!(decide (z9=1)))) (K [[z0]]
 [[(cond (false) 1 0)]]) (a8 (z4+bM) bI λaq=>af 39 [((z4+(av*aq))+
 1),0,aV]/\(ez [[((z4+(av*aq))+1)]]/\c7 [[((z4+(av*aq))+1)]]<c7 [[z4]])))))))))
 ((aj (decide (48<=z6)) (bu λz7=>decide (z6<=57)=decide (z7=1)->∃(ej:List (List Int)->Prop) (fp:List (List Int)->Nat),ej [[0],[z7]]/\(dk
 λz9=>bu λaq=>ej [[z9],[aq]]->(aj (decide (z9<19)) ((aj (decide (aq=1)) ((ej [[(z9+1)],[1]]/\fp [[(z9+1)],[1]]<fp [[z9],[aq]])) (af
 1 [1112275947084288557575193961879115365961291049,z9]/\bF 1 [1112275947084288557575193961879115365961291049,z9] λak=>bu λz12=>decide (ak=z6)=
 decide (z12=1)->(ej [[(z9+1)],[z12]]/\fp [[(z9+1)],[z12]]<fp [[z9],[aq]])))) ((aj ((!(decide (aq=1)))) (K [[z0]] [[(cond (false) 1 0)]]) (a8 (z4
 +bM) bI λak=>af 39 [((z4+(av*ak))+1),0,aV]/\(ez [[((z4+
 (av*ak))+1)]]/\c7 [[((z4+(av*ak))+1)]]<c7 [[z4]]))))))) (∃(gd:List (List Int)->Prop) (gA:List
 (List Int)->Nat),gd [[0],[0]]/\(dk λz8=>bu λz9=>gd [[z8],[z9]]->(aj (decide (z8<19)) ((aj (decide (z9=1)) ((gd [[(z8+1)],[1]]/\gA [[(z8+
 1)],[1]]<gA [[z8],[z9]])) (af 1 [1112275947084288557575193961879115365961291049,z8]/\bF 1 [1112275947084288557575193961879115365961291049,z8] λaq=>
 bu λak=>decide (aq=z6)=decide (ak=1)->(gd [[(z8+1)],[ak]]/\gA [[(z8+1)],[ak]]<gA [[z8],[z9]])))) ((aj (decide (z6=46)) ((aj (decide
 (0<z4)) (aH 0 [z0] λaq=>(aj (decide (z4<(aq+(-1)))) (af 1 [z0,(z4+(-1))]/\bF 1 [z0,(z4+(-1))] λak=>(aj (decide (ak=46)) (K [[z0]]
 [[(cond (false) 1 0)]]) (a8 (z4+bM) bI λz12=>af 39 [((z4+(av*z12))+
 1),0,aV]/\(ez [[((z4+(av*z12))+1)]]/\c7 [[((z4+(av*z12))+1)]]<c7 [[z4]])))) (K
 [[z0]] [[(cond (false) 1 0)]]))) (K [[z0]] [[(cond (false) 1 0)]]))) ((aj ((!(decide (z9=1)))) (K [[z0]] [[(cond (false) 1 0)]]) (a8 (z4+bM)
 bI λaq=>af 39 [((z4+(av*aq))+1),0,aV]/\(ez [[((z4+(av*aq))+
 1)]]/\c7 [[((z4+(av*aq))+1)]]<c7 [[z4]]))))))))))))))) (K [[z0]] [[(cond (true) 1 0)]])))))))
def cls (c:UInt8):Bool:=mn c||mm c||dN c
theorem adb {z:Int} {c:UInt8} (h:z=(c.toNat:Int)):cls c=decide ((97<=z/\z<=122)∨(65<=z/\z<=90)∨(48<=z/\z<=57)):=by
 rw[h];unfold cls mn mm dN;rw[iJ];simp only[oA,aO,pP,decide_eq_true_eq];omega
theorem WW:U 1112275947084288557575193961879115365961291049=yL:=by decide+kernel
theorem BX {c:UInt8} {z6 z7:Int} (h6:z6=(c.toNat:Int)) (z70:0<=z7) (Ci:z7<=1) {E:Int->Prop} (jQ:∀z9,0<=z9->z9<=1->z9=aN (decide (z7=1)||yL.contains c)->E z9):
 ∃(gd:List (List Int)->Prop) (gA:List (List Int)->Nat),gd [[0],[z7]]/\(∀z8:Int,0<=z8->z8<=9223372036854775807->∀z9:Int,0<=z9->z9<=1->gd [[z8],[z9]]->
  (((decide (z8<19))=true->
   (((decide (z9=1))=true->
    (gd [[(z8+1)],[1]]/\gA [[(z8+1)],[1]]<gA [[z8],[z9]])
   )/\((decide (z9=1))=false->
    af 1 [1112275947084288557575193961879115365961291049,z8]/\
    ∀aq:Int,0<=aq->aq<=255->aq=aw 1 [1112275947084288557575193961879115365961291049,z8]->
    ∀ak:Int,0<=ak->ak<=1->decide (aq=z6)=decide (ak=1)->
    (gd [[(z8+1)],[ak]]/\gA [[(z8+1)],[ak]]<gA [[z8],[z9]])
   ))
  )/\((decide (z8<19))=false->
   E z9
  ))
 ):=by
 have ady:∀z:Int,0<=z->z<=1->z=aN (decide (z=1)):=λz h0 h1=>by
  rcases(show z=0∨z=1 by omega)with rfl|rfl<;>rfl
 refine⟨λbl=>∃(k:Nat) (z:Int),bl=[[(k:Int)],[z]]/\k<=19/\decide (z=1)=(decide (z7=1)||(yL.take k).contains c),λbl=>19-((bl.getD 0 []).getD 0 0).toNat,⟨0,z7,rfl,by omega,by simp⟩,?_⟩
 rintro z8 a0 a1 z9 b0 b1 ⟨k,z,e,hk,hz⟩
 obtain⟨rfl,rfl⟩:z8=k/\z9=z:=by simpa using e
 have n7:yL.length=19:=by decide
 refine⟨λhp=>?_,λhp=>jQ z9 b0 b1 ?_⟩
 ·have hp:(k:Int)<19:=by simpa using hp
  have hlt:k<yL.length:=by omega
  refine⟨λh1=>⟨⟨k+1,1,by simp,by omega,?_⟩,by show 19-((k:Int)+1).toNat<19-(k:Int).toNat;omega⟩,λh1=>⟨⟨a0,by rw[WW];omega⟩,λaq bE c1 c8 ak d0 d1 dE=>⟨⟨k+1,ak,by simp,by omega,?_⟩,by show 19-((k:Int)+1).toNat<19-(k:Int).toNat;omega⟩⟩⟩
  ·rw[L8 _ _ _ hlt,<-aus,<-hz,h1];rfl
  ·rw[L8 _ _ _ hlt,<-aus,<-hz,h1,sZ,<-dE,c8,h6];simp only[aw,WW,eZ];rw[iJ,decide_eq_true_eq,beq_iff_eq,<-Rf];omega
 ·have hp:¬(k:Int)<19:=by simpa using hp
  rw[ky (by omega)]at hz;rw[ady z9 b0 b1,hz]
theorem an8:KT SB (aX SB [.bool] 29):=by
 delta KT aj a8 dk aH br bF bu bI av aV bM;dsimp only
 intro z0 a0 a1 ae b0 b1 h1;have aU:∀b:Bool,jZ (U z0)=b->aX SB [.bool] 29 [[z0]] [[aN b]]:=λb h=>lR (by show aN b=aN (jZ (U z0));rw[h]);rw[one_le h1];refine⟨λh=>aU false ?_,λh z2 bE c1 h2=>?_⟩
 ·rw[fZ]at h;unfold jZ;rw[h];rfl
 rw[mB]at h;rw[vP (n:=64) 64 rfl h2];refine⟨λh'=>aU false ?_,λh'=>⟨zl oc (·==46) z0,zm z0,⟨0,rfl,iI _,λj hj=>by omega⟩,?_⟩⟩
 ·rw[fZ]at h';unfold jZ;rw[h'];simp
 rw[mB]at h'
 rintro z4 d0 d1 ⟨i,e,hi,hall⟩ z5 e0 e1 h5
 obtain rfl:z4=i:=by simpa using e
 simp only[aw]at h5;refine⟨λhp=>?_,λhp=>aU true ?_⟩
 ·have hp:(i:Int)<z5:=by simpa using hp
  have hlt:i<(U z0).length:=by omega
  have hc1:af 1 [z0,(i:Int)]:=⟨d0,by omega⟩;have hK:¬ry oc (·==46) (U z0) i->aX SB [.bool] 29 [[z0]] [[aN false]]:=λhn=>aU false (by unfold jZ;rw[XS hlt hn];simp);have hA:ry oc (·==46) (U z0) i->Gg (zl oc (·==46) z0) (zm z0) i:=SR a1 hlt hall;refine⟨hc1,λz6 f0 f1 h6=>?_⟩;have h6:z6=(((U z0).getD i 0).toNat:Int):=by rw[h6];simp only[aw,eZ]
  have vn:=qw (b:=(U z0).getD i 0) (z:=46) (by decide) (by decide);have jQ:¬z6=46->∀z9:Int,z9=aN (cls ((U z0).getD i 0)||yL.contains ((U z0).getD i 0))->(((!decide (z9=1))=true->aX SB [.bool] 29 [[z0]] [[aN false]])/\((!decide (z9=1))=false->Gg (zl oc (·==46) z0) (zm z0) i)):=λPq z9 bb=>by
   have IN:((U z0).getD i 0==46)=false:=by
    cases ah:((U z0).getD i 0==46)with
    |false=>rfl
    |true=>exact absurd (h6.trans (vn.2 ah)) Pq
   rw[fH bb];refine⟨λhx=>hK λho=>?_,λhx=>hA ⟨?_,λhe=>?_,λah=>?_⟩⟩
   ·have cE:=ho.1;rw[fZ]at hx;unfold oc at cE;unfold cls at hx;rw[hx,IN]at cE;cases cE
   ·rw[mB]at hx;unfold oc;unfold cls at hx;rw[hx];rfl
   ·have he:((U z0).getD i 0==46)=true:=he;rw[IN]at he;cases he
   ·rw[ah.1]at IN;cases IN
  have qg:=adb h6;refine⟨λmN=>⟨λDv=>?_,λDv=>?_⟩,λmN=>⟨λtK=>⟨λDx=>?_,λDx=>?_⟩,λtK=>⟨λqV z7 g0 g1 h7=>?_,λqV=>?_⟩⟩⟩
  ·have mN:97<=z6:=by simpa using mN
   have Dv:z6<=122:=by simpa using Dv
   refine BX h6 (by decide) (by decide) λz9 i0 i1 bb=>jQ (by omega) z9 ?_;rw[bb,qg];congr 2;simp;omega
  ·have mN:97<=z6:=by simpa using mN
   have Dv:¬z6<=122:=by simpa using Dv
   refine BX h6 (by decide) (by decide) λz9 i0 i1 bb=>jQ (by omega) z9 ?_;rw[bb,qg];congr 2;simp;omega
  ·have mN:¬97<=z6:=by simpa using mN
   have tK:65<=z6:=by simpa using tK
   have Dx:z6<=90:=by simpa using Dx
   refine BX h6 (by decide) (by decide) λz9 i0 i1 bb=>jQ (by omega) z9 ?_;rw[bb,qg];congr 2;simp;omega
  ·have mN:¬97<=z6:=by simpa using mN
   have tK:65<=z6:=by simpa using tK
   have Dx:¬z6<=90:=by simpa using Dx
   refine BX h6 (by decide) (by decide) λz9 i0 i1 bb=>jQ (by omega) z9 ?_;rw[bb,qg];congr 2;simp;omega
  ·have mN:¬97<=z6:=by simpa using mN
   have tK:¬65<=z6:=by simpa using tK
   have qV:48<=z6:=by simpa using qV
   refine BX h6 g0 g1 λz9 i0 i1 bb=>jQ (by omega) z9 ?_;rw[bb,qg,<-h7];congr 2;rw[iJ,decide_eq_true_eq,decide_eq_true_eq];omega
  ·have mN:¬97<=z6:=by simpa using mN
   have tK:¬65<=z6:=by simpa using tK
   have qV:¬48<=z6:=by simpa using qV
   refine BX h6 (by decide) (by decide) λz9 i0 i1 bb=>⟨λkJ=>?_,λkJ=>?_⟩
   ·have kJ:z6=46:=by simpa using kJ
    have hc:(U z0).getD i 0=46:=beq_iff_eq.1 (vn.1 (by omega));have cE:oc ((U z0).getD i 0)=true:=by rw[hc];decide
    refine⟨λiq aq fU c0 c8=>?_,λiq=>hK λho=>?_⟩
    ·have iq:0<(i:Int):=by simpa using iq
     simp only[aw]at c8;refine⟨λhl=>⟨⟨by omega,by omega⟩,λak e9 k1 dE=>?_⟩,λhl=>hK λho=>?_⟩
     ·have hl:(i:Int)<aq+-1:=by simpa using hl
      rw[tw (n:=46) (k:=i-1) (by omega) (by decide) (by decide) dE];refine⟨λhq=>hK λho=>ho.2.2 ⟨hc,by omega,beq_iff_eq.1 hq⟩,λhq=>hA ⟨cE,λ_=>⟨by omega,by omega⟩,λah=>?_⟩⟩;have:((U z0).getD (i-1) 0==u8 46)=true:=beq_iff_eq.2 ah.2.2;rw[this]at hq;cases hq
     ·have hl:¬(i:Int)<aq+-1:=by simpa using hl
      have:=(ho.2.1 (beq_iff_eq.2 hc)).2;omega
    ·have iq:¬0<(i:Int):=by simpa using iq
     have:=(ho.2.1 (beq_iff_eq.2 hc)).1;omega
   ·have kJ:¬z6=46:=by simpa using kJ
    refine jQ kJ z9 ?_;rw[bb,qg];congr 2;simp;omega
 ·have hp:¬(i:Int)<z5:=by simpa using hp
  unfold jZ;rw[h,h',(Px oc (·==46) (U z0)).2 λj hj=>hall j (by omega)];rfl
def KP (S:zzS) (K:zzK):Prop:=
 br λz0=>∃(wS:List (List Int)->Prop) (Gd:List (List Int)->Nat),wS [[z0]]/\(br λz2=>wS [[z2]]->aH 0 [z2] λz3=>(aj (decide (0<z3))
 (af 1 [z2,0]/\bF 1 [z2,0] λz4=>(aj (decide (z4=32)) (aH 0 [z2] λz5=>af 2 [z2,1,z5]/\bN 2 [z2,1,z5] λz6=>(wS [[z6]]/\Gd [[z6]]<Gd
 [[z2]])) (∃(dn:List (List Int)->Prop) (cT:List (List Int)->Nat),dn [[z2]]/\(br λz6=>dn [[z6]]->aH 0 [z6] λz7=>(aj (decide (0<z7)) (aH
 0 [z6] λz8=>af 1 [z6,(z8+(-1))]/\bF 1 [z6,(z8+(-1))] λz9=>(aj (decide (z9=32)) (aH 0 [z6] λaq=>af 2 [z6,0,(aq+(-1))]/\bN 2
 [z6,0,(aq+(-1))] λak=>(dn [[ak]]/\cT [[ak]]<cT [[z6]])) (∃(lv:List (List Int)->Prop) (pb:List (List Int)->Nat),lv [[0]]/\(dk λak
 =>lv [[ak]]->aH 0 [z6] λz12=>(aj (decide (ak<z12)) (af 1 [z6,ak]/\bF 1 [z6,ak] λaz=>(aj (decide (az=64)) (af 2 [z6,0,ak]/\bN
 2 [z6,0,ak] λaC=>bu λau=>S 29 [[aC]] [[au]]->(aj (decide (au=1)) (a8 (ak+bM) bI λaP=>aH 0 [z6]
 λbw=>af 2 [z6,((ak+(av*aP))+1),bw]/\bN 2 [z6,((ak+(av*aP))+1),bw] λaE=>bu λcA=>
 S 30 [[aE]] [[cA]]->(aj (decide (cA=1)) (a8 (ak+bM) bI λz20=>aH 0 [z6] λz21=>af 2 [z6,((ak+
 (av*z20))+1),z21]/\bN 2 [z6,((ak+(av*z20))+1),z21] λaF=>bu λcl=>S 31 [[aF],[46]] [[cl]]->
 (aj (decide (cl=1)) (aH 0 [z6] λz24=>(aj (decide (z24<=254)) (br λdR=>S 17 [[z6]] [[dR]]->K [[z0]] [[dR],[0]]) (K [[z0]] [[0],[2]]))) (K
 [[z0]] [[0],[2]]))) (K [[z0]] [[0],[2]]))) (K [[z0]] [[0],[2]]))) (a8 (ak+bM) bI λaC=>af 39 [((ak+
 (av*aC))+1),0,aV]/\(lv [[((ak+(av*aC))+1)]]/\pb [[((ak+(av
 *aC))+1)]]<pb [[ak]])))) (K [[z0]] [[0],[2]])))))) (∃(ej:List (List Int)->Prop) (fp:List (List Int)->Nat),ej [[0]]/\(dk λz9=>ej [[z9]]->
 aH 0 [z6] λaq=>(aj (decide (z9<aq)) (af 1 [z6,z9]/\bF 1 [z6,z9] λak=>(aj (decide (ak=64)) (af 2 [z6,0,z9]/\bN 2 [z6,0,z9] λz12=>
 bu λaz=>S 29 [[z12]] [[az]]->(aj (decide (az=1)) (a8 (z9+bM) bI λaC=>aH 0 [z6] λau=>af 2 [z6,((z9
 +(av*aC))+1),au]/\bN 2 [z6,((z9+(av*aC))+1),au] λaP=>bu λbw=>S 30 [[aP]] [[bw]]->(aj
 (decide (bw=1)) (a8 (z9+bM) bI λaE=>aH 0 [z6] λcA=>af 2 [z6,((z9+(av*aE))+
 1),cA]/\bN 2 [z6,((z9+(av*aE))+1),cA] λz20=>bu λz21=>S 31 [[z20],[46]] [[z21]]->(aj (decide (z21=1)) (aH 0 [z6]
 λaF=>(aj (decide (aF<=254)) (br λcl=>S 17 [[z6]] [[cl]]->K [[z0]] [[cl],[0]]) (K [[z0]] [[0],[2]]))) (K [[z0]] [[0],[2]]))) (K [[z0]]
 [[0],[2]]))) (K [[z0]] [[0],[2]]))) (a8 (z9+bM) bI λz12=>af 39 [((z9+(av*z12))+
 1),0,aV]/\(ej [[((z9+(av*z12))+1)]]/\fp [[((z9+(av*z12))+1)]]<fp [[z9]])))) (K
 [[z0]] [[0],[2]]))))))))) (∃(eU:List (List Int)->Prop) (eu:List (List Int)->Nat),eU [[z2]]/\(br λz5=>eU [[z5]]->aH 0 [z5] λz6=>(aj
 (decide (0<z6)) (aH 0 [z5] λz7=>af 1 [z5,(z7+(-1))]/\bF 1 [z5,(z7+(-1))] λz8=>(aj (decide (z8=32)) (aH 0 [z5] λz9=>af 2 [z5,0,(z9
 +(-1))]/\bN 2 [z5,0,(z9+(-1))] λaq=>(eU [[aq]]/\eu [[aq]]<eu [[z5]])) (∃(Lh:List (List Int)->Prop) (aa8:List (List Int)->Nat),Lh [[0]]
 /\(dk λaq=>Lh [[aq]]->aH 0 [z5] λak=>(aj (decide (aq<ak)) (af 1 [z5,aq]/\bF 1 [z5,aq] λz12=>(aj (decide (z12=64)) (af 2
 [z5,0,aq]/\bN 2 [z5,0,aq] λaz=>bu λaC=>S 29 [[az]] [[aC]]->(aj (decide (aC=1)) (a8 (aq+bM) bI λ
 au=>aH 0 [z5] λaP=>af 2 [z5,((aq+(av*au))+1),aP]/\bN 2 [z5,((aq+(av*au))+1),aP] λ
 bw=>bu λaE=>S 30 [[bw]] [[aE]]->(aj (decide (aE=1)) (a8 (aq+bM) bI λcA=>aH 0 [z5] λz20=>af 2
 [z5,((aq+(av*cA))+1),z20]/\bN 2 [z5,((aq+(av*cA))+1),z20] λz21=>bu λaF=>S 31 [[z21],[46]]
 [[aF]]->(aj (decide (aF=1)) (aH 0 [z5] λcl=>(aj (decide (cl<=254)) (br λz24=>S 17 [[z5]] [[z24]]->K [[z0]] [[z24],[0]]) (K [[z0]]
 [[0],[2]]))) (K [[z0]] [[0],[2]]))) (K [[z0]] [[0],[2]]))) (K [[z0]] [[0],[2]]))) (a8 (aq+bM) bI λaz=>af 39 [((aq
 +(av*az))+1),0,aV]/\(Lh [[((aq+(av*az))+1)]]/\aa8 [[((aq+(av
 *az))+1)]]<aa8 [[aq]])))) (K [[z0]] [[0],[2]])))))) (∃(gd:List (List Int)->Prop) (gA:List (List Int)->Nat),gd [[0]]/\(dk λz8=>gd [[z8]]->
 aH 0 [z5] λz9=>(aj (decide (z8<z9)) (af 1 [z5,z8]/\bF 1 [z5,z8] λaq=>(aj (decide (aq=64)) (af 2 [z5,0,z8]/\bN 2 [z5,0,z8] λak=>
 bu λz12=>S 29 [[ak]] [[z12]]->(aj (decide (z12=1)) (a8 (z8+bM) bI λaz=>aH 0 [z5] λaC=>af 2 [z5,((z8
 +(av*az))+1),aC]/\bN 2 [z5,((z8+(av*az))+1),aC] λau=>bu λaP=>S 30 [[au]] [[aP]]->(aj
 (decide (aP=1)) (a8 (z8+bM) bI λbw=>aH 0 [z5] λaE=>af 2 [z5,((z8+(av*bw))+
 1),aE]/\bN 2 [z5,((z8+(av*bw))+1),aE] λcA=>bu λz20=>S 31 [[cA],[46]] [[z20]]->(aj (decide (z20=1)) (aH 0 [z5]
 λz21=>(aj (decide (z21<=254)) (br λaF=>S 17 [[z5]] [[aF]]->K [[z0]] [[aF],[0]]) (K [[z0]] [[0],[2]]))) (K [[z0]] [[0],[2]]))) (K [[z0]]
 [[0],[2]]))) (K [[z0]] [[0],[2]]))) (a8 (z8+bM) bI λak=>af 39 [((z8+(av*ak))+
 1),0,aV]/\(gd [[((z8+(av*ak))+1)]]/\gA [[((z8+(av*ak))+1)]]<gA [[z8]])))) (K
 [[z0]] [[0],[2]])))))))))
theorem YP (p:UInt8->Bool) (x:UInt8) (r:ax):fO p (x::r)=cond ((fO p r).isEmpty) (cond (p x) [] [x]) (x::fO p r):=by
 unfold fO;rw[aal,List.dropWhile_append];cases hd:r.reverse.dropWhile p with
 |nil=>cases hp:p x<;>simp[oy,hp]
 |cons y t=>
  have e:((y::t).reverse).isEmpty=false:=by
   cases h:(y::t).reverse with
   |nil=>simp at h
   |cons a b=>rfl
  rw[e,if_neg (by simp)];simp
theorem YQ (p:UInt8->Bool):∀s:ax,fO p (fa p s)=fa p (fO p s)
 |[]=>rfl
 |x::r=>by
  have ih:=YQ p r;rw[YP];cases hp:p x with
  |true=>
   have e:fa p (x::r)=fa p r:=by simp[fa,oy,hp]
   rw[e,ih];cases hr:fO p r with
   |nil=>simp[fa]
   |cons y t=>simp[fa,oy,hp]
  |false=>
   have e:fa p (x::r)=x::r:=by simp[fa,oy,hp]
   rw[e,YP];cases hr:fO p r with
   |nil=>simp[fa,oy,hp]
   |cons y t=>simp[fa,oy,hp]
theorem Wx {c:Int} (h0:0<=c) (h1:c<=255) {l:ax} {i:Nat} (hi:i<l.length) (he:l.getD i 0=u8 c) (hb:∀j,j<i->l.getD j 0≠u8 c):idx c l=(i:Int):=by
 rcases AE h0 h1 l with⟨_,h2⟩|⟨h2,h3,h4,_,h5⟩
 ·refine absurd ?_ h2;rw[<-he];simp[aB,hi]
 ·rcases aut i (idx c l).toNat with h|h|h
  ·exact absurd he (h5 i h)
  ·omega
  ·exact absurd h4 (hb _ h)
theorem Wz {c:Int} (h0:0<=c) (h1:c<=255) {l:ax} (hb:∀j,j<l.length->l.getD j 0≠u8 c):idx c l=-1:=by
 rcases AE h0 h1 l with⟨h2,_⟩|⟨h2,h3,h4,_,h5⟩
 ·exact h2
 ·exact absurd h4 (hb _ h3)
theorem apf {z0 z6:Int} (a1:z6<=bx) (hz:lF (U z0)=qR (U z6)):
 ∃(lv:List (List Int)->Prop) (pb:List (List Int)->Nat),lv [[0]]/\(∀ak:Int,0<=ak->ak<=9223372036854775807->lv [[ak]]->
  ∀z12:Int,0<=z12->z12<=9223372036854775807->z12=aw 0 [z6]->
  (((decide (ak<z12))=true->
   af 1 [z6,ak]/\
   ∀az:Int,0<=az->az<=255->az=aw 1 [z6,ak]->
   (((decide (az=64))=true->
    af 2 [z6,0,ak]/\
    ∀aC:Int,0<=aC->aC<=bx->aC=aw 2 [z6,0,ak]->
    ∀au:Int,0<=au->au<=1->SB 29 [[aC]] [[au]]->
    (((decide (au=1))=true->
     ∀aP:Int,0<=aP->aP<=1->0<=(ak+9223372036854775809)-18446744073709551616*aP->(ak+9223372036854775809)-18446744073709551616*aP<18446744073709551616->
     ∀bw:Int,0<=bw->bw<=9223372036854775807->bw=aw 0 [z6]->
     af 2 [z6,((ak+((-18446744073709551616)*aP))+1),bw]/\
     ∀aE:Int,0<=aE->aE<=bx->aE=aw 2 [z6,((ak+((-18446744073709551616)*aP))+1),bw]->
     ∀cA:Int,0<=cA->cA<=1->SB 30 [[aE]] [[cA]]->
     (((decide (cA=1))=true->
      ∀z20:Int,0<=z20->z20<=1->0<=(ak+9223372036854775809)-18446744073709551616*z20->(ak+9223372036854775809)-18446744073709551616*z20<18446744073709551616->
      ∀z21:Int,0<=z21->z21<=9223372036854775807->z21=aw 0 [z6]->
      af 2 [z6,((ak+((-18446744073709551616)*z20))+1),z21]/\
      ∀aF:Int,0<=aF->aF<=bx->aF=aw 2 [z6,((ak+((-18446744073709551616)*z20))+1),z21]->
      ∀cl:Int,0<=cl->cl<=1->SB 31 [[aF],[46]] [[cl]]->
      (((decide (cl=1))=true->
       ∀z24:Int,0<=z24->z24<=9223372036854775807->z24=aw 0 [z6]->
       (((decide (z24<=254))=true->
        ∀dR:Int,0<=dR->dR<=bx->SB 17 [[z6]] [[dR]]->
        aX SB [.str,.int .i64 0 21] 11 [[z0]] [[dR],[0]]
       )/\((decide (z24<=254))=false->
        aX SB [.str,.int .i64 0 21] 11 [[z0]] [[0],[2]]
       ))
      )/\((decide (cl=1))=false->
       aX SB [.str,.int .i64 0 21] 11 [[z0]] [[0],[2]]
      ))
     )/\((decide (cA=1))=false->
      aX SB [.str,.int .i64 0 21] 11 [[z0]] [[0],[2]]
     ))
    )/\((decide (au=1))=false->
     aX SB [.str,.int .i64 0 21] 11 [[z0]] [[0],[2]]
    ))
   )/\((decide (az=64))=false->
    ∀aC:Int,0<=aC->aC<=1->0<=(ak+9223372036854775809)-18446744073709551616*aC->(ak+9223372036854775809)-18446744073709551616*aC<18446744073709551616->
    af 39 [((ak+((-18446744073709551616)*aC))+1),0,9223372036854775807]/\
    (lv [[((ak+((-18446744073709551616)*aC))+1)]]/\pb [[((ak+((-18446744073709551616)*aC))+1)]]<pb [[ak]])
   ))
  )/\((decide (ak<z12))=false->
   aX SB [.str,.int .i64 0 21] 11 [[z0]] [[0],[2]]
  ))
 ):=by
 have aU:qR (U z6)=([],2)->aX SB [.str,.int .i64 0 21] 11 [[z0]] [[0],[2]]:=λh=>vN (bD _) gb (by decide) (by decide) (by
  show(U 0,(2:Int))=lF (U z0);rw[hz,h];rfl)
 refine⟨λbl=>∃i:Nat,bl=[[(i:Int)]]/\i<=(U z6).length/\∀j,j<i->(U z6).getD j 0≠u8 64,λbl=>(U z6).length-((bl.getD 0 []).getD 0 0).toNat,⟨0,rfl,iI _,λj hj=>by omega⟩,?_⟩
 rintro ak b0 b1 ⟨i,e,hi,hall⟩ z12 bE c1 dU
 obtain rfl:ak=i:=by simpa using e
 simp only[aw]at dU;refine⟨λhp=>?_,λhp=>aU ?_⟩
 ·have hp:(i:Int)<z12:=by simpa using hp
  have hlt:i<(U z6).length:=by omega
  refine⟨⟨b0,by omega⟩,λaz d0 d1 dI=>?_⟩;rw[tw (n:=64) (k:=i) rfl (by decide) (by decide) dI];refine⟨λqc=>⟨⟨by omega,b0,by omega⟩,λaC e0 e1 fs au f0 f1 ft=>?_⟩,λqc q q0 q1 q2 q3=>?_⟩
  ·have hx:idx 64 (U z6)=(i:Int):=Wx (by decide) (by decide) hlt (beq_iff_eq.1 qc) hall;have qP:U aC=(U z6).take i:=by rw[fs];simp[aw,ea]
   have ft:au=aN (jZ (U aC)):=ft;rw[fH ft,qP];have hd:∀q x,0<=q->0<=(i:Int)+9223372036854775809-18446744073709551616*q->z12=aw 0 [z6]->x=aw 2 [z6,((i:Int)+-18446744073709551616*q)+1,z12]->U x=(U z6).drop (i+1):=λq x q0 q2 _ hx=>by
    rw[mz (L:=z12) hp c1 b0 q0 q2]at hx;rw[hx];simp only[aw,ea];rw[show((i:Int)+1).toNat=i+1 by omega];exact ky (by simp;omega)
   have jj:qR (U z6)=cond (bC (U z6).length 254&&jZ ((U z6).take i)&&fT ((U z6).drop (i+1))&&((U z6).drop (i+1)).contains 46) (lower (U z6),0) ([],2):=by
    unfold qR;rw[hx,show decide (0<=(i:Int))=true by simp,eZ,wD]
   refine⟨λhl q q0 q1 q2 q3 bw g0 g1 kI=>?_,λhl=>aU (by rw[jj,hl];simp)⟩;have aew:=kI;simp only[aw]at aew;have Hi:bw=z12:=by omega
   refine⟨?_,λaE i0 i1 xm cA fU c0 xn=>?_⟩
   ·rw[mz (L:=z12) hp c1 b0 q0 q2];exact⟨by omega,by omega,by omega⟩
   ·have xf:=hd q aE q0 q2 (by rw[<-Hi];exact kI) (by rw[<-Hi];exact xm);have xn:cA=aN (fT (U aE)):=xn;rw[fH xn,xf];refine⟨λah q' Jf E0 vY yC z21 e9 k1 zZ=>?_,λah=>aU (by rw[jj,ah];simp)⟩;have aex:=zZ;simp only[aw]at aex;have Uh:z21=z12:=by omega
    refine⟨?_,λaF l0 l1 Dr cl m0 fV sb=>?_⟩
    ·rw[mz (L:=z12) hp c1 b0 Jf vY];exact⟨by omega,by omega,by omega⟩
    ·have C6:=hd q' aF Jf vY (by rw[<-Uh];exact zZ) (by rw[<-Uh];exact Dr);have sb:cl=aN ((U aF).contains (u8 46)):=sb;rw[fH sb,C6];refine⟨λhc z24 n0 n1 sc=>?_,λhc=>aU (by rw[jj,show((U z6).drop (i+1)).contains 46=false from hc];simp)⟩;rw[yk (n:=254) 254 rfl sc];refine⟨λhq dR yp o1 oS=>vN yp o1 (by decide) (by decide) ?_,λhq=>aU (by rw[jj,hq];simp)⟩;have oS:U dR=lower (U z6):=oS;show(U dR,(0:Int))=lF (U z0);rw[hz,jj,hq,hl,ah,show((U z6).drop (i+1)).contains 46=true from hc,oS];rfl
  ·rw[mz (L:=z12) hp c1 b0 q0 q2];refine⟨⟨by omega,by omega⟩,⟨i+1,by simp,by omega,λj hj=>?_⟩,?_⟩
   ·by_cases hj':j=i
    ·subst hj';intro he;rw[he]at qc;simp at qc
    ·exact hall j (by omega)
   ·show(U z6).length-((i:Int)+1).toNat<(U z6).length-(i:Int).toNat;omega
 ·have hp:¬(i:Int)<z12:=by simpa using hp
  have:=Wz (c:=64) (by decide) (by decide) (l:=U z6) λj hj=>hall j (by omega);unfold qR;rw[this];rfl
theorem an3:KP SB (aX SB [.str,.int .i64 0 21] 11):=by
 delta KP aj a8 dk aH br bN bF bu bI av aV bM;dsimp only
 intro z0 a0 a1;have two:∀z6:Int,z6<=bx->U z6=fO (·==32) (fa (·==32) (U z0))->_:=λz6 h1 he=>apf (z0:=z0) (z6:=z6) h1 (by unfold lF jr;rw[he,YQ]);have one:∀z2:Int,0<=z2->z2<=bx->U z2=fa (·==32) (U z0)->
  ∃(dn:List (List Int)->Prop) (cT:List (List Int)->Nat),dn [[z2]]/\(∀z6:Int,0<=z6->z6<=bx->dn [[z6]]->
   ∀z7:Int,0<=z7->z7<=9223372036854775807->z7=aw 0 [z6]->
   (((decide (0<z7))=true->
    ∀z8:Int,0<=z8->z8<=9223372036854775807->z8=aw 0 [z6]->
    af 1 [z6,(z8+(-1))]/\
    ∀z9:Int,0<=z9->z9<=255->z9=aw 1 [z6,(z8+(-1))]->
    (((decide (z9=32))=true->
     ∀aq:Int,0<=aq->aq<=9223372036854775807->aq=aw 0 [z6]->
     af 2 [z6,0,(aq+(-1))]/\
     ∀ak:Int,0<=ak->ak<=bx->ak=aw 2 [z6,0,(aq+(-1))]->
     (dn [[ak]]/\cT [[ak]]<cT [[z6]])
    )/\((decide (z9=32))=false->
     ∃(lv:List (List Int)->Prop) (pb:List (List Int)->Nat),lv [[0]]/\(∀ak:Int,0<=ak->ak<=9223372036854775807->lv [[ak]]->
      ∀z12:Int,0<=z12->z12<=9223372036854775807->z12=aw 0 [z6]->
      (((decide (ak<z12))=true->
       af 1 [z6,ak]/\
       ∀az:Int,0<=az->az<=255->az=aw 1 [z6,ak]->
       (((decide (az=64))=true->
        af 2 [z6,0,ak]/\
        ∀aC:Int,0<=aC->aC<=bx->aC=aw 2 [z6,0,ak]->
        ∀au:Int,0<=au->au<=1->SB 29 [[aC]] [[au]]->
        (((decide (au=1))=true->
         ∀aP:Int,0<=aP->aP<=1->0<=(ak+9223372036854775809)-18446744073709551616*aP->(ak+9223372036854775809)-18446744073709551616*aP<18446744073709551616->
         ∀bw:Int,0<=bw->bw<=9223372036854775807->bw=aw 0 [z6]->
         af 2 [z6,((ak+((-18446744073709551616)*aP))+1),bw]/\
         ∀aE:Int,0<=aE->aE<=bx->aE=aw 2 [z6,((ak+((-18446744073709551616)*aP))+1),bw]->
         ∀cA:Int,0<=cA->cA<=1->SB 30 [[aE]] [[cA]]->
         (((decide (cA=1))=true->
          ∀z20:Int,0<=z20->z20<=1->0<=(ak+9223372036854775809)-18446744073709551616*z20->(ak+9223372036854775809)-18446744073709551616*z20<18446744073709551616->
          ∀z21:Int,0<=z21->z21<=9223372036854775807->z21=aw 0 [z6]->
          af 2 [z6,((ak+((-18446744073709551616)*z20))+1),z21]/\
          ∀aF:Int,0<=aF->aF<=bx->aF=aw 2 [z6,((ak+((-18446744073709551616)*z20))+1),z21]->
          ∀cl:Int,0<=cl->cl<=1->SB 31 [[aF],[46]] [[cl]]->
          (((decide (cl=1))=true->
           ∀z24:Int,0<=z24->z24<=9223372036854775807->z24=aw 0 [z6]->
           (((decide (z24<=254))=true->
            ∀dR:Int,0<=dR->dR<=bx->SB 17 [[z6]] [[dR]]->
            aX SB [.str,.int .i64 0 21] 11 [[z0]] [[dR],[0]]
           )/\((decide (z24<=254))=false->
            aX SB [.str,.int .i64 0 21] 11 [[z0]] [[0],[2]]
           ))
          )/\((decide (cl=1))=false->
           aX SB [.str,.int .i64 0 21] 11 [[z0]] [[0],[2]]
          ))
         )/\((decide (cA=1))=false->
          aX SB [.str,.int .i64 0 21] 11 [[z0]] [[0],[2]]
         ))
        )/\((decide (au=1))=false->
         aX SB [.str,.int .i64 0 21] 11 [[z0]] [[0],[2]]
        ))
       )/\((decide (az=64))=false->
        ∀aC:Int,0<=aC->aC<=1->0<=(ak+9223372036854775809)-18446744073709551616*aC->(ak+9223372036854775809)-18446744073709551616*aC<18446744073709551616->
        af 39 [((ak+((-18446744073709551616)*aC))+1),0,9223372036854775807]/\
        (lv [[((ak+((-18446744073709551616)*aC))+1)]]/\pb [[((ak+((-18446744073709551616)*aC))+1)]]<pb [[ak]])
       ))
      )/\((decide (ak<z12))=false->
       aX SB [.str,.int .i64 0 21] 11 [[z0]] [[0],[2]]
      ))
     )
    ))
   )/\((decide (0<z7))=false->
    ∃(ej:List (List Int)->Prop) (fp:List (List Int)->Nat),ej [[0]]/\(∀z9:Int,0<=z9->z9<=9223372036854775807->ej [[z9]]->
     ∀aq:Int,0<=aq->aq<=9223372036854775807->aq=aw 0 [z6]->
     (((decide (z9<aq))=true->
      af 1 [z6,z9]/\
      ∀ak:Int,0<=ak->ak<=255->ak=aw 1 [z6,z9]->
      (((decide (ak=64))=true->
       af 2 [z6,0,z9]/\
       ∀z12:Int,0<=z12->z12<=bx->z12=aw 2 [z6,0,z9]->
       ∀az:Int,0<=az->az<=1->SB 29 [[z12]] [[az]]->
       (((decide (az=1))=true->
        ∀aC:Int,0<=aC->aC<=1->0<=(z9+9223372036854775809)-18446744073709551616*aC->(z9+9223372036854775809)-18446744073709551616*aC<18446744073709551616->
        ∀au:Int,0<=au->au<=9223372036854775807->au=aw 0 [z6]->
        af 2 [z6,((z9+((-18446744073709551616)*aC))+1),au]/\
        ∀aP:Int,0<=aP->aP<=bx->aP=aw 2 [z6,((z9+((-18446744073709551616)*aC))+1),au]->
        ∀bw:Int,0<=bw->bw<=1->SB 30 [[aP]] [[bw]]->
        (((decide (bw=1))=true->
         ∀aE:Int,0<=aE->aE<=1->0<=(z9+9223372036854775809)-18446744073709551616*aE->(z9+9223372036854775809)-18446744073709551616*aE<18446744073709551616->
         ∀cA:Int,0<=cA->cA<=9223372036854775807->cA=aw 0 [z6]->
         af 2 [z6,((z9+((-18446744073709551616)*aE))+1),cA]/\
         ∀z20:Int,0<=z20->z20<=bx->z20=aw 2 [z6,((z9+((-18446744073709551616)*aE))+1),cA]->
         ∀z21:Int,0<=z21->z21<=1->SB 31 [[z20],[46]] [[z21]]->
         (((decide (z21=1))=true->
          ∀aF:Int,0<=aF->aF<=9223372036854775807->aF=aw 0 [z6]->
          (((decide (aF<=254))=true->
           ∀cl:Int,0<=cl->cl<=bx->SB 17 [[z6]] [[cl]]->
           aX SB [.str,.int .i64 0 21] 11 [[z0]] [[cl],[0]]
          )/\((decide (aF<=254))=false->
           aX SB [.str,.int .i64 0 21] 11 [[z0]] [[0],[2]]
          ))
         )/\((decide (z21=1))=false->
          aX SB [.str,.int .i64 0 21] 11 [[z0]] [[0],[2]]
         ))
        )/\((decide (bw=1))=false->
         aX SB [.str,.int .i64 0 21] 11 [[z0]] [[0],[2]]
        ))
       )/\((decide (az=1))=false->
        aX SB [.str,.int .i64 0 21] 11 [[z0]] [[0],[2]]
       ))
      )/\((decide (ak=64))=false->
       ∀z12:Int,0<=z12->z12<=1->0<=(z9+9223372036854775809)-18446744073709551616*z12->(z9+9223372036854775809)-18446744073709551616*z12<18446744073709551616->
       af 39 [((z9+((-18446744073709551616)*z12))+1),0,9223372036854775807]/\
       (ej [[((z9+((-18446744073709551616)*z12))+1)]]/\fp [[((z9+((-18446744073709551616)*z12))+1)]]<fp [[z9]])
      ))
     )/\((decide (z9<aq))=false->
      aX SB [.str,.int .i64 0 21] 11 [[z0]] [[0],[2]]
     ))
    )
   ))
  ):=λz2 h0 h1 he=>(by
  refine⟨λbl=>∃z,bl=[[z]]/\fO (·==32) (U z)=fO (·==32) (U z2),λbl=>(U ((bl.getD 0 []).getD 0 0)).length,⟨z2,rfl,rfl⟩,?_⟩
  rintro z3 bE c1 ⟨z,e,hz⟩
  obtain rfl:z3=z:=by simpa using e
  intro z4 d0 d1 ef;simp only[aw]at ef;by_cases hl:U z3=[]
  ·rw[hl]at ef hz;simp only[eF]at ef;subst ef;refine⟨λhp=>by simp at hp,λ_=>two z3 c1 ?_⟩;rw[hl,<-he,<-hz];rfl
  ·obtain⟨r,x,hl⟩:=Fm hl;rw[hl]at ef hz;simp only[dm,cS,eF]at ef;refine⟨λ_=>?_,λhp=>by simp at hp;omega⟩;intro z5 e0 e1 ml;simp only[aw,hl,dm,cS,eF]at ml;refine⟨⟨by omega,by rw[hl];simp only[dm,cS,eF];omega⟩,?_⟩;intro z6 f0 f1 lQ;rw[tw (n:=32) (k:=r.length) (by omega) (by decide) (by decide) lQ,hl,MH];refine⟨λnZ=>?_,λnZ=>two z3 c1 ?_⟩
   ·have nZ:(x==32)=true:=nZ;intro z7 f0 f1 pF;simp only[aw,hl,dm,cS,eF]at pF;have Eo:(z7+-1).toNat=r.length:=by omega
    refine⟨⟨by omega,by omega,by rw[hl];simp only[dm,cS,eF];omega⟩,?_⟩;intro z8 g0 g1 ED;have hr:U z8=r:=by
     rw[ED];simp only[aw,ea,hl,Eo];simp
    refine⟨⟨z8,rfl,?_⟩,?_⟩
    ·rw[hr,<-hz,we,nZ,cond_true]
    ·show(U z8).length<(U z3).length;rw[hr,hl];simp
   ·have nZ:(x==32)=false:=nZ;rw[hl,<-he,<-hz,we,nZ,cond_false])
 refine⟨λbl=>∃z,bl=[[z]]/\fa (·==32) (U z)=fa (·==32) (U z0),λbl=>(U ((bl.getD 0 []).getD 0 0)).length,⟨z0,rfl,rfl⟩,?_⟩
 rintro z3 bE c1 ⟨z,e,hz⟩
 obtain rfl:z3=z:=by simpa using e
 intro z4 d0 d1 ef;simp only[aw]at ef;cases hl:U z3 with
 |nil=>
  rw[hl]at ef hz;simp only[eF]at ef;subst ef;refine⟨λhp=>by simp at hp,λ_=>one z3 bE c1 ?_⟩;rw[hl,<-hz];rfl
 |cons x r=>
  rw[hl]at ef hz;simp only[cS]at ef;refine⟨λ_=>⟨⟨bD _,by rw[hl];simp only[cS];omega⟩,?_⟩,λhp=>by simp at hp;omega⟩;intro z5 e0 e1 ml;rw[tw (n:=32) (k:=0) rfl (by decide) (by decide) ml,hl];refine⟨λhe=>?_,λhe=>one z3 bE c1 ?_⟩
  ·have he:(x==32)=true:=he;intro z6 f0 f1 lQ;simp only[aw,hl,cS]at lQ;refine⟨⟨by omega,by omega,by rw[hl];simp only[cS];omega⟩,?_⟩;intro z7 g0 g1 pF;have hr:U z7=r:=by
    rw[pF];simp only[aw,ea,hl];rw[show(1:Int).toNat=1 from rfl,Ri,Rj];exact ky (by omega)
   refine⟨⟨z7,rfl,?_⟩,?_⟩
   ·rw[hr,<-hz];simp only[fa,oy,he,if_true]
   ·show(U z7).length<(U z3).length;rw[hr,hl];simp
  ·have he:(x==32)=false:=he;rw[hl,<-hz];simp[fa,oy,he]
def KV (S:zzS) (K:zzK):Prop:=
 br λz0=>br λae=>(af 44 [z0,ae]->br λz2=>bu λz3=>bu λz4=>S 35 [[z0]] [[z2],[z3],[z4]]->(aj ((!(decide (z4=1)))) (K [[z0],[ae]]
 [[0],[7]]) (∃(dn:List (List Int)->Prop) (cT:List (List Int)->Nat),dn [[0],[0],[0]]/\(br λz6=>dk λz7=>bu λz8=>dn [[z6],[z7],[z8]]->aH
 0 [ae] λz9=>(aj (decide (z7<z9)) (af 1 [ae,z7]/\bF 1 [ae,z7] λaq=>(aj (decide (48<=aq)) ((aj (decide (aq<=57)) (a8 (z7+
 bM) bI λak=>af 2 [ae,z7,((z7+(av*ak))+1)]/\bN 2 [ae,z7,((z7+(av
 *ak))+1)] λz12=>af 3 [z6,z12]/\bN 3 [z6,z12] λaz=>a8 (z7+bM) bI λaC=>af 39 [((z7+
 (av*aC))+1),0,aV]/\bu λau=>decide (z8=1)=decide (au=1)->(dn [[az],[((z7+(av*
 aC))+1)],[au]]/\cT [[az],[((z7+(av*aC))+1)],[au]]<cT [[z6],[z7],[z8]])) (K [[z0],[ae]] [[0],[2]]))) ((aj (decide (aq=
 43)) (b5 4 [z6,0] λak=>(aj (decide (ak=1)) ((aj ((!(decide (z8=1)))) (a8 (z7+bM) bI λz12=>af 39 [((z7+
 (av*z12))+1),0,aV]/\(dn [[z6],[((z7+(av*z12))+1)],[1]]/\cT [[z6],[((z7+
 (av*z12))+1)],[1]]<cT [[z6],[z7],[z8]])) ((aj (decide (aq=32)) (a8 (z7+bM) bI λz12=>af
 39 [((z7+(av*z12))+1),0,aV]/\bu λaz=>decide (z8=1)=decide (az=1)->(dn [[z6],[((z7+
 (av*z12))+1)],[az]]/\cT [[z6],[((z7+(av*z12))+1)],[az]]<cT [[z6],[z7],[z8]])) ((aj (decide (aq=45))
 (a8 (z7+bM) bI λz12=>af 39 [((z7+(av*z12))+1),0,aV]/\bu λaz=>
 decide (z8=1)=decide (az=1)->(dn [[z6],[((z7+(av*z12))+1)],[az]]/\cT [[z6],[((z7+(av*z12))+
 1)],[az]]<cT [[z6],[z7],[z8]])) ((aj (decide (aq=46)) (a8 (z7+bM) bI λz12=>af 39 [((z7+
 (av*z12))+1),0,aV]/\bu λaz=>decide (z8=1)=decide (az=1)->(dn [[z6],[((z7+(av*
 z12))+1)],[az]]/\cT [[z6],[((z7+(av*z12))+1)],[az]]<cT [[z6],[z7],[z8]])) ((aj (decide (aq=40)) (a8 (z7+
 bM) bI λz12=>af 39 [((z7+(av*z12))+1),0,aV]/\bu λaz=>decide (z8=
 1)=decide (az=1)->(dn [[z6],[((z7+(av*z12))+1)],[az]]/\cT [[z6],[((z7+(av*z12))+1)],[az]]<cT
 [[z6],[z7],[z8]])) ((aj (decide (aq=41)) (a8 (z7+bM) bI λz12=>af 39 [((z7+(av*z12))+
 1),0,aV]/\bu λaz=>decide (z8=1)=decide (az=1)->(dn [[z6],[((z7+(av*z12))+1)],[az]]/\cT
 [[z6],[((z7+(av*z12))+1)],[az]]<cT [[z6],[z7],[z8]])) (K [[z0],[ae]] [[0],[2]]))))))))))))) ((aj (decide (aq=32)) (a8 (z7+
 bM) bI λz12=>af 39 [((z7+(av*z12))+1),0,aV]/\bu λaz=>decide (z8=
 1)=decide (az=1)->(dn [[z6],[((z7+(av*z12))+1)],[az]]/\cT [[z6],[((z7+(av*z12))+1)],[az]]<cT
 [[z6],[z7],[z8]])) ((aj (decide (aq=45)) (a8 (z7+bM) bI λz12=>af 39 [((z7+(av*z12))+
 1),0,aV]/\bu λaz=>decide (z8=1)=decide (az=1)->(dn [[z6],[((z7+(av*z12))+1)],[az]]/\cT
 [[z6],[((z7+(av*z12))+1)],[az]]<cT [[z6],[z7],[z8]])) ((aj (decide (aq=46)) (a8 (z7+bM) bI
 λz12=>af 39 [((z7+(av*z12))+1),0,aV]/\bu λaz=>decide (z8=1)=decide (az=1)->(dn [[z6],[((z7+
 (av*z12))+1)],[az]]/\cT [[z6],[((z7+(av*z12))+1)],[az]]<cT [[z6],[z7],[z8]])) ((aj (decide (aq=40))
 (a8 (z7+bM) bI λz12=>af 39 [((z7+(av*z12))+1),0,aV]/\bu λaz=>
 decide (z8=1)=decide (az=1)->(dn [[z6],[((z7+(av*z12))+1)],[az]]/\cT [[z6],[((z7+(av*z12))+
 1)],[az]]<cT [[z6],[z7],[z8]])) ((aj (decide (aq=41)) (a8 (z7+bM) bI λz12=>af 39 [((z7+
 (av*z12))+1),0,aV]/\bu λaz=>decide (z8=1)=decide (az=1)->(dn [[z6],[((z7+(av*
 z12))+1)],[az]]/\cT [[z6],[((z7+(av*z12))+1)],[az]]<cT [[z6],[z7],[z8]])) (K [[z0],[ae]] [[0],[2]]))))))))))))) ((aj (decide
 (aq=32)) (a8 (z7+bM) bI λak=>af 39 [((z7+(av*ak))+1),0,aV]/\bu λ
 z12=>decide (z8=1)=decide (z12=1)->(dn [[z6],[((z7+(av*ak))+1)],[z12]]/\cT [[z6],[((z7+(av*ak))
 +1)],[z12]]<cT [[z6],[z7],[z8]])) ((aj (decide (aq=45)) (a8 (z7+bM) bI λak=>af 39 [((z7+
 (av*ak))+1),0,aV]/\bu λz12=>decide (z8=1)=decide (z12=1)->(dn [[z6],[((z7+(av*
 ak))+1)],[z12]]/\cT [[z6],[((z7+(av*ak))+1)],[z12]]<cT [[z6],[z7],[z8]])) ((aj (decide (aq=46)) (a8 (z7+
 bM) bI λak=>af 39 [((z7+(av*ak))+1),0,aV]/\bu λz12=>decide (z8=
 1)=decide (z12=1)->(dn [[z6],[((z7+(av*ak))+1)],[z12]]/\cT [[z6],[((z7+(av*ak))+1)],[z12]]<cT
 [[z6],[z7],[z8]])) ((aj (decide (aq=40)) (a8 (z7+bM) bI λak=>af 39 [((z7+(av*ak))+
 1),0,aV]/\bu λz12=>decide (z8=1)=decide (z12=1)->(dn [[z6],[((z7+(av*ak))+1)],[z12]]/\cT
 [[z6],[((z7+(av*ak))+1)],[z12]]<cT [[z6],[z7],[z8]])) ((aj (decide (aq=41)) (a8 (z7+bM) bI
 λak=>af 39 [((z7+(av*ak))+1),0,aV]/\bu λz12=>decide (z8=1)=decide (z12=1)->(dn [[z6],[((z7+
 (av*ak))+1)],[z12]]/\cT [[z6],[((z7+(av*ak))+1)],[z12]]<cT [[z6],[z7],[z8]])) (K [[z0],[ae]]
 [[0],[2]]))))))))))))))) ((aj ((!(decide (z8=1)))) (b5 4 [z0,0] λaq=>(aj ((!(decide (aq=1)))) ((aj (decide (z3=1)) (aH 0 [z6] λak=>(aj
 (decide (0<ak)) (af 1 [z6,0]/\bF 1 [z6,0] λz12=>(aj (decide (z12=48)) (aH 0 [z6] λaz=>af 2 [z6,1,az]/\bN 2 [z6,1,az] λaC=>af
 3 [z2,aC]/\bN 3 [z2,aC] λau=>aH 0 [au] λaP=>(aj (decide (aP<6)) (K [[z0],[ae]] [[0],[2]]) (aH 0 [au] λbw=>(aj (decide (15<bw))
 (K [[z0],[ae]] [[0],[2]]) (af 1 [au,0]/\bF 1 [au,0] λaE=>(aj (decide (aE=48)) (K [[z0],[ae]] [[0],[2]]) (K [[z0],[ae]] [[au],[0]]))))))) (af 3
 [z2,z6]/\bN 3 [z2,z6] λaz=>aH 0 [az] λaC=>(aj (decide (aC<6)) (K [[z0],[ae]] [[0],[2]]) (aH 0 [az] λau=>(aj (decide (15<au)) (K
 [[z0],[ae]] [[0],[2]]) (af 1 [az,0]/\bF 1 [az,0] λaP=>(aj (decide (aP=48)) (K [[z0],[ae]] [[0],[2]]) (K [[z0],[ae]] [[az],[0]]))))))))) (af 3
 [z2,z6]/\bN 3 [z2,z6] λz12=>aH 0 [z12] λaz=>(aj (decide (az<6)) (K [[z0],[ae]] [[0],[2]]) (aH 0 [z12] λaC=>(aj (decide (15<aC)) (K
 [[z0],[ae]] [[0],[2]]) (af 1 [z12,0]/\bF 1 [z12,0] λau=>(aj (decide (au=48)) (K [[z0],[ae]] [[0],[2]]) (K [[z0],[ae]] [[z12],[0]]))))))))) (af 3
 [z2,z6]/\bN 3 [z2,z6] λak=>aH 0 [ak] λz12=>(aj (decide (z12<6)) (K [[z0],[ae]] [[0],[2]]) (aH 0 [ak] λaz=>(aj (decide (15<az)) (K
 [[z0],[ae]] [[0],[2]]) (af 1 [ak,0]/\bF 1 [ak,0] λaC=>(aj (decide (aC=48)) (K [[z0],[ae]] [[0],[2]]) (K [[z0],[ae]] [[ak],[0]]))))))))) (aH 0
 [z6] λak=>(aj (decide (ak<6)) (K [[z0],[ae]] [[0],[2]]) (aH 0 [z6] λz12=>(aj (decide (15<z12)) (K [[z0],[ae]] [[0],[2]]) (af 1 [z6,0]/\bF 1
 [z6,0] λaz=>(aj (decide (az=48)) (K [[z0],[ae]] [[0],[2]]) (K [[z0],[ae]] [[z6],[0]]))))))))) (aH 0 [z6] λaq=>(aj (decide (aq<6)) (K
 [[z0],[ae]] [[0],[2]]) (aH 0 [z6] λak=>(aj (decide (15<ak)) (K [[z0],[ae]] [[0],[2]]) (af 1 [z6,0]/\bF 1 [z6,0] λz12=>(aj (decide (z12=48))
 (K [[z0],[ae]] [[0],[2]]) (K [[z0],[ae]] [[z6],[0]]))))))))))))))
def wN (ae:Int) (bl:List (List Int)):Prop:=∃(i:Nat) (d p:Int),bl=[[d],[(i:Int)],[p]]/\i<=(U ae).length/\(U d).length<=i/\eb ((U ae).drop i) (U d) (decide (p=1))=eb (U ae) [] false
def Gh (ae:Int) (bl:List (List Int)):Nat:=(U ae).length-((bl.getD 1 []).getD 0 0).toNat
theorem wN.next {ae d d' p p':Int} {i:Nat} (h1:ae<=bx) (hi:i<(U ae).length) (hd:(U d').length<=i+1) (hb:eb ((U ae).drop (i+1)) (U d') (decide (p'=1))=eb (U ae) [] false):wN ae [[d'],[(i:Int)+1],[p']]/\Gh ae [[d'],[(i:Int)+1],[p']]<Gh ae [[d],[(i:Int)],[p]]:=by
 refine⟨⟨i+1,d',p',by simp,by omega,hd,hb⟩,?_⟩;show(U ae).length-((i:Int)+1).toNat<(U ae).length-(i:Int).toNat;omega
theorem S7 {s d:ax} {p:Bool} {i:Nat} (hi:i<s.length):eb (s.drop i) d p=cond (dN (s.getD i 0)) (eb (s.drop (i+1)) (d++[s.getD i 0]) p) (cond (s.getD i 0==43&&d.isEmpty&& !p) (eb (s.drop (i+1)) d true) (cond (nI.contains (s.getD i 0)) (eb (s.drop (i+1)) d p) none)):=by
 rw[qO s i hi,eb]
theorem ap2 {Sq:Prop} {I:List (List Int)->Prop} {M:List (List Int)->Nat} {ae z6 z8 aq:Int} {i:Nat} {c:UInt8} (h1:ae<=bx) (hi:i<(U ae).length) (hc:aq=(c.toNat:Int))
 (hK:nI.contains c=false->Sq) (hA:nI.contains c=true->∀az:Int,decide (z8=1)=decide (az=1)->I [[z6],[(i:Int)+1],[az]]/\M [[z6],[(i:Int)+1],[az]]<M [[z6],[(i:Int)],[z8]]):
   (((decide (aq=32))=true->
    ∀ak:Int,0<=ak->ak<=1->0<=((i:Int)+9223372036854775809)-18446744073709551616*ak->((i:Int)+9223372036854775809)-18446744073709551616*ak<18446744073709551616->
    af 39 [(((i:Int)+((-18446744073709551616)*ak))+1),0,9223372036854775807]/\
    ∀z12:Int,0<=z12->z12<=1->decide (z8=1)=decide (z12=1)->
    (I [[z6],[(((i:Int)+((-18446744073709551616)*ak))+1)],[z12]]/\M [[z6],[(((i:Int)+((-18446744073709551616)*ak))+1)],[z12]]<M [[z6],[(i:Int)],[z8]])
   )/\((decide (aq=32))=false->
    (((decide (aq=45))=true->
     ∀ak:Int,0<=ak->ak<=1->0<=((i:Int)+9223372036854775809)-18446744073709551616*ak->((i:Int)+9223372036854775809)-18446744073709551616*ak<18446744073709551616->
     af 39 [(((i:Int)+((-18446744073709551616)*ak))+1),0,9223372036854775807]/\
     ∀z12:Int,0<=z12->z12<=1->decide (z8=1)=decide (z12=1)->
     (I [[z6],[(((i:Int)+((-18446744073709551616)*ak))+1)],[z12]]/\M [[z6],[(((i:Int)+((-18446744073709551616)*ak))+1)],[z12]]<M [[z6],[(i:Int)],[z8]])
    )/\((decide (aq=45))=false->
     (((decide (aq=46))=true->
      ∀ak:Int,0<=ak->ak<=1->0<=((i:Int)+9223372036854775809)-18446744073709551616*ak->((i:Int)+9223372036854775809)-18446744073709551616*ak<18446744073709551616->
      af 39 [(((i:Int)+((-18446744073709551616)*ak))+1),0,9223372036854775807]/\
      ∀z12:Int,0<=z12->z12<=1->decide (z8=1)=decide (z12=1)->
      (I [[z6],[(((i:Int)+((-18446744073709551616)*ak))+1)],[z12]]/\M [[z6],[(((i:Int)+((-18446744073709551616)*ak))+1)],[z12]]<M [[z6],[(i:Int)],[z8]])
     )/\((decide (aq=46))=false->
      (((decide (aq=40))=true->
       ∀ak:Int,0<=ak->ak<=1->0<=((i:Int)+9223372036854775809)-18446744073709551616*ak->((i:Int)+9223372036854775809)-18446744073709551616*ak<18446744073709551616->
       af 39 [(((i:Int)+((-18446744073709551616)*ak))+1),0,9223372036854775807]/\
       ∀z12:Int,0<=z12->z12<=1->decide (z8=1)=decide (z12=1)->
       (I [[z6],[(((i:Int)+((-18446744073709551616)*ak))+1)],[z12]]/\M [[z6],[(((i:Int)+((-18446744073709551616)*ak))+1)],[z12]]<M [[z6],[(i:Int)],[z8]])
      )/\((decide (aq=40))=false->
       (((decide (aq=41))=true->
        ∀ak:Int,0<=ak->ak<=1->0<=((i:Int)+9223372036854775809)-18446744073709551616*ak->((i:Int)+9223372036854775809)-18446744073709551616*ak<18446744073709551616->
        af 39 [(((i:Int)+((-18446744073709551616)*ak))+1),0,9223372036854775807]/\
        ∀z12:Int,0<=z12->z12<=1->decide (z8=1)=decide (z12=1)->
        (I [[z6],[(((i:Int)+((-18446744073709551616)*ak))+1)],[z12]]/\M [[z6],[(((i:Int)+((-18446744073709551616)*ak))+1)],[z12]]<M [[z6],[(i:Int)],[z8]])
       )/\((decide (aq=41))=false->
        Sq
       ))
      ))
     ))
    ))
   )):=by
 have bZ:=uj h1;have DJ:nI.contains c=true->∀q:Int,0<=q->q<=1->0<=((i:Int)+9223372036854775809)-18446744073709551616*q->((i:Int)+9223372036854775809)-18446744073709551616*q<18446744073709551616->
  af 39 [(((i:Int)+((-18446744073709551616)*q))+1),0,9223372036854775807]/\∀z12:Int,0<=z12->z12<=1->decide (z8=1)=decide (z12=1)->
   (I [[z6],[(((i:Int)+((-18446744073709551616)*q))+1)],[z12]]/\M [[z6],[(((i:Int)+((-18446744073709551616)*q))+1)],[z12]]<M [[z6],[(i:Int)],[z8]]):=λhs q q0 q1 q2 q3=>by
  rw[mz (L:=((U ae).length:Int)) (by omega) bZ (rN _) q0 q2];exact⟨⟨by omega,by omega⟩,λz12 _ _ h=>hA hs z12 h⟩
 have p9:∀n:Int,0<=n->n<=255->decide (aq=n)=(c==u8 n):=λn h0 h1=>by
  rw[iJ,decide_eq_true_eq,hc,qw h0 h1]
 rw[p9 32 (by decide) (by decide),p9 45 (by decide) (by decide),p9 46 (by decide) (by decide),p9 40 (by decide) (by decide),p9 41 (by decide) (by decide)];refine⟨λh=>DJ ?_,λh1=>⟨λh=>DJ ?_,λh2=>⟨λh=>DJ ?_,λh3=>⟨λh=>DJ ?_,λh4=>⟨λh=>DJ ?_,λh5=>hK ?_⟩⟩⟩⟩⟩
 ·rw[beq_iff_eq.1 h];decide
 ·rw[beq_iff_eq.1 h];decide
 ·rw[beq_iff_eq.1 h];decide
 ·rw[beq_iff_eq.1 h];decide
 ·rw[beq_iff_eq.1 h];decide
 ·have e:nI=[u8 32,u8 45,u8 46,u8 40,u8 41]:=by decide
  rw[e];simp only[List.contains_cons,h1,h2,h3,h4,h5];rfl
theorem Ma {w c t:ax} (h:iN w=some (c,t)):t=[]∨t=[48]:=by
 unfold iN at h;cases h0:(w==[])with
 |true=>rw[h0,cond_true]at h;simp only[aK,cv]at h;rw[<-h.2];decide
 |false=>
  rw[h0,cond_false]at h;cases h1:(w==[71,66])with
  |true=>rw[h1,cond_true]at h;simp only[aK,cv]at h;rw[<-h.2];decide
  |false=>
   rw[h1,cond_false]at h;cases h2:(w==[85,83])with
   |true=>rw[h2,cond_true]at h;simp only[aK,cv]at h;rw[<-h.2];decide
   |false=>
    rw[h2,cond_false]at h;cases h3:(w==[68,69])with
    |true=>rw[h3,cond_true]at h;simp only[aK,cv]at h;rw[<-h.2];decide
    |false=>
     rw[h3,cond_false]at h;cases h4:(w==[70,82])with
     |true=>rw[h4,cond_true]at h;simp only[aK,cv]at h;rw[<-h.2];decide
     |false=>
      rw[h4,cond_false]at h;cases h5:(w==[67,72])with
      |true=>rw[h5,cond_true]at h;simp only[aK,cv]at h;rw[<-h.2];decide
      |false=>
       rw[h5,cond_false]at h;cases h
theorem aob:KV SB (aX SB [.str,.int .i64 0 21] 13):=by
 delta KV aj a8 dk aH br bN bF bu b5 bI av aV bM;dsimp only
 intro z0 a0 a1 ae b0 b1 hq z2 x0 x1 z3 uK kR z4 bE c1 hc;have hid:∀a e,(U a,e)=jn (U z0) (U ae)->SB 13 [[z0],[ae]] [[a],[e]]:=λ_ _ h=>h;have hq:U z0=[]∨(U ae).length<=4294967280:=hq;have hc:(match iN (U z0)with|some (code,fX)=>U z2=code/\z3=aN (!fX.isEmpty)/\z4=1|none=>U z2=[]/\z3=0/\z4=0):=hc;have aU:∀e:Int,0<=e->e<=21->jn (U z0) (U ae)=([],e)->aX SB [.str,.int .i64 0 21] 13 [[z0],[ae]] [[0],[e]]:=λe e0 e1 h=>vN (bD _) gb e0 e1 (hid _ _ (by rw[h];rfl));cases gM:iN (U z0)with
 |none=>
  rw[gM]at hc;obtain⟨_,_,rfl⟩:=hc;exact⟨λ_=>aU 7 (by decide) (by decide) (by unfold jn;rw[gM]),λh=>by simp at h⟩
 |some tA=>
  obtain⟨code,fX⟩:=tA;rw[gM]at hc;obtain⟨qf,Er,rfl⟩:=hc;refine⟨λh=>by simp at h,λ_=>⟨wN ae,Gh ae,⟨0,0,0,rfl,iI _,iI _,rfl⟩,?_⟩⟩
  rintro z6 d0 d1 z7 e0 e1 z8 f0 f1 ⟨i,d,p,e,hi,NB,hb⟩ z9 g0 g1 bb
  obtain⟨rfl,rfl,rfl⟩:z6=d/\z7=i/\z8=p:=by simpa using e
  simp only[aw]at bb;have bZ:=uj b1;refine⟨λhp=>?_,λhp=>?_⟩
  ·have hp:(i:Int)<z9:=by simpa using hp
   have hlt:i<(U ae).length:=by omega
   refine⟨⟨e0,by omega⟩,λaq i0 i1 c8=>?_⟩;have c8:aq=(((U ae).getD i 0).toNat:Int):=by rw[c8];simp only[aw,eZ]
   have hst:=S7 (s:=U ae) (d:=U z6) (p:=decide (z8=1)) hlt;rw[hst]at hb;have hD:dN ((U ae).getD i 0)=(decide (48<=aq)&&decide (aq<=57)):=by
    rw[c8];unfold dN;rw[iJ];simp[pP];omega
   have zM:decide (aq=43)=((U ae).getD i 0==43):=by
    rw[iJ,decide_eq_true_eq,c8,qw (z:=43) (by decide) (by decide)];rfl
   have jY:eb (U ae) [] false=none->aX SB [.str,.int .i64 0 21] 13 [[z0],[ae]] [[0],[2]]:=λh=>aU 2 (by decide) (by decide) (by unfold jn;rw[gM];simp only[h]);have hs:dN ((U ae).getD i 0)=false->((U ae).getD i 0==43&&(U z6).isEmpty&& !decide (z8=1))=false->_:=λEb VS=>
    ap2 (I:=wN ae) (M:=Gh ae) (z6:=z6) (z8:=z8) b1 hlt c8 (λOl=>jY (by rw[<-hb,Eb,VS,Ol];rfl)) (λOl az dI=>wN.next (d:=z6) (p:=z8) b1 hlt (by omega) (by rw[<-dI,<-hb,Eb,VS,Ol];rfl))
   refine⟨λhA=>⟨λhB q q0 q1 q2 q3=>?_,λhB=>?_⟩,λhA=>?_⟩
   ·rw[hA,hB]at hD;rw[mz (L:=z9) hp g1 e0 q0 q2];refine⟨⟨e0,by omega,by omega⟩,λz12 fU c0 dU=>?_⟩;have TZ:U z12=[(U ae).getD i 0]:=by
     rw[dU];simp only[aw,ea];rw[show(i:Int).toNat=i by omega,show((i:Int)+1).toNat-i=1 by omega,qO _ _ hlt];rfl
    refine⟨?_,λaz e9 k1 dI q' Jf E0 vY yC=>?_⟩
    ·show(U z6).length+(U z12).length<=eK;have hm:=rR b1;rw[TZ];simp;omega
    ·have C5:U az=U z6++[(U ae).getD i 0]:=by rw[dI];simp only[aw,ea,TZ]
     rw[mz (L:=z9) hp g1 e0 Jf vY];refine⟨⟨by omega,by omega⟩,λau l0 l1 ft=>wN.next (d:=z6) (p:=z8) b1 hlt (by rw[C5];simp;omega) ?_⟩;rw[<-ft,C5,<-hb,hD];rfl
   ·refine jY ?_;have MT:¬aq<=57:=by simpa using hB
    rw[hB,Bool.and_false]at hD;have XI:((U ae).getD i 0==43)=false:=by rw[<-zM];simp;omega
    rw[<-hb,hD,XI];have:nI.contains ((U ae).getD i 0)=false:=by
     cases ah:nI.contains ((U ae).getD i 0)with
     |false=>rfl
     |true=>
      exfalso;have hm:(U ae).getD i 0∈nI:=by simpa using ah
      have:∀c∈nI,c.toNat<=57:=by decide
      have:=this _ hm;omega
    rw[this];rfl
   ·rw[hA,Bool.false_and]at hD;rw[zM];refine⟨λtJ ak fU c0 dE=>?_,λtJ=>hs hD (by rw[tJ];rfl)⟩;rw[eq_nil dE];have agN:(U z6==[])=(U z6).isEmpty:=by cases U z6<;>rfl
    rw[agN];refine⟨λhe=>⟨λOb q q0 q1 q2 q3=>?_,λOb=>hs hD (by rw[Ob];simp)⟩,λhe=>hs hD (by rw[he];simp)⟩;rw[mz (L:=z9) hp g1 e0 q0 q2];refine⟨⟨by omega,by omega⟩,wN.next (d:=z6) (p:=z8) b1 hlt (by omega) ?_⟩;rw[<-hb,hD,tJ,he,Ob];rfl
  ·have hp:¬(i:Int)<z9:=by simpa using hp
   rw[FT (by omega)]at hb;have se:eb (U ae) [] false=some (U z6,decide (z8=1)):=by rw[<-hb,eb]
   have hf:jn (U z0) (U ae)=sI (qs (U z0) code fX (U z6) (decide (z8=1))):=by unfold jn;rw[gM];simp only[se]
   have hh:=L9 gM;refine⟨λbS aq i0 i1 c8=>?_,λbS=>yx (z:=0) _ 13 hid d0 d1 (by rw[hf];unfold qs;rw[bS];rfl)⟩;rw[eq_nil c8];refine⟨λhw=>?_,λhw=>yx (z:=0) _ 13 hid d0 d1 (by
    rw[hf];unfold qs;have hw:(!(U z0==[]))=false:=hw;rw[bS,hw];rfl)⟩
   have hw:(!(U z0==[]))=true:=hw;have hN:qs (U z0) code fX (U z6) (decide (z8=1))=code++cond (fX.isPrefixOf (U z6)) ((U z6).drop fX.length) (U z6):=by unfold qs;rw[bS,hw];rfl
   rw[hN]at hf;have HF:∀x:Int,(U x).length<=(U z6).length->af 3 [z2,x]:=λx hx=>by
    show(U z2).length+(U x).length<=eK;have hq:(U ae).length<=4294967280:=by
     rcases hq with h|h
     ·rw[h]at hw;cases hw
     ·exact h
    rw[qf];unfold eK;omega
   have same:cond (fX.isPrefixOf (U z6)) ((U z6).drop fX.length) (U z6)=U z6->af 3 [z2,z6]/\∀az:Int,0<=az->az<=bx->az=aw 3 [z2,z6]->_:=λvE=>⟨HF z6 (aW _),λaz fU c0 dI=>yx (z:=0) _ 13 hid fU c0 (by
    rw[hf,vE,dI];simp only[aw,ea,qf])⟩
   rw[fH Er];refine⟨λht ak fU c0 dE=>?_,λht=>same ?_⟩
   ·have Om:fX=[48]:=by
     rcases Ma gM with h|h
     ·rw[h]at ht;cases ht
     ·exact h
    simp only[aw]at dE;refine⟨λgO=>⟨⟨bD _,?_⟩,λz12 e9 k1 dU=>?_⟩,λgO=>same ?_⟩
    ·have gO:0<ak:=by simpa using gO
     omega
    ·have gO:0<ak:=by simpa using gO
     rw[tw (n:=48) (k:=0) rfl (by decide) (by decide) dU];cases h6:U z6 with
     |nil=>rw[h6]at dE;simp at dE;omega
     |cons x r=>
      refine⟨λqb az l0 l1 dI=>?_,λqb=>?_⟩
      ·have hx:x=48:=beq_iff_eq.1 qb;simp only[aw,h6,cS]at dI;refine⟨⟨by omega,by omega,by rw[h6];simp;omega⟩,λaC m0 fV fs=>?_⟩;have qP:U aC=r:=by
        rw[fs];simp only[aw,ea,h6];rw[show(1:Int).toNat=1 from rfl,Ri,Rj];exact ky (by omega)
       refine⟨HF aC (by rw[qP,h6];simp),λau n0 n1 ft=>yx (z:=0) _ 13 hid n0 n1 ?_⟩;rw[hf,ft];simp only[aw,ea,qf,qP,Om,h6,hx];simp
      ·have hx:(x==48)=false:=qb;have:=same (by rw[Om,h6];simp[List.isPrefixOf,Bool.beq_comm,hx]);exact this
    ·have gO:¬0<ak:=by simpa using gO
     cases h6:U z6 with
     |nil=>rw[Om];rfl
     |cons x r=>rw[h6]at dE;simp at dE;omega
   ·have rh:fX=[]:=by
     rcases Ma gM with h|h
     ·exact h
     ·rw[h]at ht;cases ht
    rw[rh];simp
end Go.bH
namespace Go.bH
open Go Go.bg
def KL (S:zzS) (K:zzK):Prop:=
 br λz0=>br λae=>b5 4 [z0,477315081741] λz2=>(aj (decide (z2=1)) (br λz3=>bQ 0 21 λz4=>S 10 [[ae]] [[z3],[z4]]->(aj ((!(decide (z4=
 0)))) (K [[z0],[ae]] [[0,0],[z4]]) (K [[z0],[ae]] [[z0,z3],[0]]))) (b5 4 [z0,124890778723732] λz3=>(aj (decide (z3=1)) (af 44 [0,ae]/\br λz4=>bQ
 0 21 λz5=>S 12 [[0],[ae]] [[z4],[z5]]->(aj ((!(decide (z5=0)))) (K [[z0],[ae]] [[0,0],[z5]]) (K [[z0],[ae]] [[z0,z4],[0]]))) (K [[z0],[ae]]
 [[0,0],[1]]))))
def KU (S:zzS) (K:zzK):Prop:=
 br λz0=>br λae=>b5 4 [z0,477315081741] λz2=>(aj (decide (z2=1)) (br λz3=>bQ 0 21 λz4=>S 11 [[ae]] [[z3],[z4]]->(aj ((!(decide (z4=
 0)))) (K [[z0],[ae]] [[0,0],[z4]]) (K [[z0],[ae]] [[z0,z3],[0]]))) (b5 4 [z0,124890778723732] λz3=>(aj (decide (z3=1)) (af 44 [0,ae]/\br λz4=>bQ
 0 21 λz5=>S 13 [[0],[ae]] [[z4],[z5]]->(aj ((!(decide (z5=0)))) (K [[z0],[ae]] [[0,0],[z5]]) (K [[z0],[ae]] [[z0,z4],[0]]))) (K [[z0],[ae]]
 [[0,0],[1]]))))
def KR (S:zzS) (K:zzK):Prop:=
 ∀r0:List Int,bd (h8 0 bx 2) r0->∀r2:List Int,bd (h8 0 bx 2) r2->bQ 0 21 λz4=>S 15 [[(aB r0 0 0)],[(aB r0 1 0)]] [r2,[z4]]->
 (aj (decide (z4=0)) (b5 4 [(aB r0 0 0),(aB r2 0 0)] λz5=>b5 4 [(aB r0 1 0),(aB r2 1 0)] λz6=>K [r0] [[(cond (decide
 ([z5,z6]=[1,1])) 1 0)]]) (K [r0] [[(cond (false) 1 0)]]))
def KW (S:zzS) (K:zzK):Prop:=
 ∀r0:List Int,bd (h8 0 bx 2) r0->∀r2:List Int,bd (h8 0 bx 2) r2->bQ 0 21 λz4=>S 18 [[(aB r0 0 0)],[(aB r0 1 0)]] [r2,[z4]]->
 (aj (decide (z4=0)) (b5 4 [(aB r0 0 0),(aB r2 0 0)] λz5=>b5 4 [(aB r0 1 0),(aB r2 1 0)] λz6=>K [r0] [[(cond (decide
 ([z5,z6]=[1,1])) 1 0)]]) (K [r0] [[(cond (false) 1 0)]]))
theorem WU:U 477315081741=qQ:=by decide+kernel
theorem WV:U 124890778723732=ru:=by decide+kernel
theorem W5 {id:Nat} {zs:List (List Int)} {a b e:Int} (a0:0<=a) (a1:a<=bx) (b0:0<=b) (b1:b<=bx) (e0:0<=e) (e1:e<=21) (h:SB id zs [[a,b],[e]]):aX SB [.mix [.str,.str],.int .i64 0 21] id zs [[a,b],[e]]:=⟨⟨a0,a1,b0,b1,e0,e1,trivial⟩,h⟩
theorem anV:KL SB (aX SB [.mix [.str,.str],.int .i64 0 21] 15):=by
 delta KL aj bQ br b5;dsimp only
 intro z0 a0 a1 ae b0 b1 z2 bE c1 h2;have aU:∀a b e:Int,0<=a->a<=bx->0<=b->b<=bx->0<=e->e<=21->(U a,U b,e)=lk (U z0) (U ae)->aX SB [.mix [.str,.str],.int .i64 0 21] 15 [[z0],[ae]] [[a,b],[e]]:=λa b e h1 h2 h3 h4 h5 h6 h=>W5 h1 h2 h3 h4 h5 h6 h;rw[gZ h2,WU];refine⟨λjQ z3 d0 d1 z4 e0 e1 h=>?_,λjQ z3 d0 d1 h3=>?_⟩
 ·have hm:(U z0==qQ)=true:=by simpa using jQ
  have h:(U z3,z4)=lF (U ae):=h;have hM:lk (U z0) (U ae)=nF (U z0) (U z3,z4):=by unfold lk;rw[hm,<-h];rfl
  refine⟨λhz=>aU 0 0 z4 (bD _) gb (bD _) gb e0 e1 ?_,λhz=>aU z0 z3 0 a0 a1 d0 d1 (by decide) (by decide) ?_⟩
  ·rw[hM];unfold nF;rw[show decide (z4=0)=false by simpa using hz];rfl
  ·rw[hM];unfold nF;rw[show decide (z4=0)=true by simpa using hz];rfl
 ·have hm:(U z0==qQ)=false:=by
   have:¬U z0=qQ:=by simpa using jQ
   simpa using this
  rw[gZ h3,WV];refine⟨λcd=>⟨.inl (by decide),λz4 e0 e1 z5 f0 f1 h=>?_⟩,λcd=>aU 0 0 1 (bD _) gb (bD _) gb (by decide) (by decide) ?_⟩
  ·have hs:(U z0==ru)=true:=by simpa using cd
   have h:(U z4,z5)=jn (U 0) (U ae):=h;have hM:lk (U z0) (U ae)=nF (U z0) (U z4,z5):=by unfold lk;rw[hm,hs,h];rfl
   refine⟨λhz=>aU 0 0 z5 (bD _) gb (bD _) gb f0 f1 ?_,λhz=>aU z0 z4 0 a0 a1 e0 e1 (by decide) (by decide) ?_⟩
   ·rw[hM];unfold nF;rw[show decide (z5=0)=false by simpa using hz];rfl
   ·rw[hM];unfold nF;rw[show decide (z5=0)=true by simpa using hz];rfl
  ·have hs:(U z0==ru)=false:=by
    have:¬U z0=ru:=by simpa using cd
    simpa using this
   unfold lk;rw[hm,hs];rfl
theorem aoa:KU SB (aX SB [.mix [.str,.str],.int .i64 0 21] 18):=by
 delta KU aj bQ br b5;dsimp only
 intro z0 a0 a1 ae b0 b1 z2 bE c1 h2;have aU:∀a b e:Int,0<=a->a<=bx->0<=b->b<=bx->0<=e->e<=21->(U a,U b,e)=lk (U z0) (U ae)->aX SB [.mix [.str,.str],.int .i64 0 21] 18 [[z0],[ae]] [[a,b],[e]]:=λa b e h1 h2 h3 h4 h5 h6 h=>W5 h1 h2 h3 h4 h5 h6 h;rw[gZ h2,WU];refine⟨λjQ z3 d0 d1 z4 e0 e1 h=>?_,λjQ z3 d0 d1 h3=>?_⟩
 ·have hm:(U z0==qQ)=true:=by simpa using jQ
  have h:(U z3,z4)=lF (U ae):=h;have hM:lk (U z0) (U ae)=nF (U z0) (U z3,z4):=by unfold lk;rw[hm,<-h];rfl
  refine⟨λhz=>aU 0 0 z4 (bD _) gb (bD _) gb e0 e1 ?_,λhz=>aU z0 z3 0 a0 a1 d0 d1 (by decide) (by decide) ?_⟩
  ·rw[hM];unfold nF;rw[show decide (z4=0)=false by simpa using hz];rfl
  ·rw[hM];unfold nF;rw[show decide (z4=0)=true by simpa using hz];rfl
 ·have hm:(U z0==qQ)=false:=by
   have:¬U z0=qQ:=by simpa using jQ
   simpa using this
  rw[gZ h3,WV];refine⟨λcd=>⟨.inl (by decide),λz4 e0 e1 z5 f0 f1 h=>?_⟩,λcd=>aU 0 0 1 (bD _) gb (bD _) gb (by decide) (by decide) ?_⟩
  ·have hs:(U z0==ru)=true:=by simpa using cd
   have h:(U z4,z5)=jn (U 0) (U ae):=h;have hM:lk (U z0) (U ae)=nF (U z0) (U z4,z5):=by unfold lk;rw[hm,hs,h];rfl
   refine⟨λhz=>aU 0 0 z5 (bD _) gb (bD _) gb f0 f1 ?_,λhz=>aU z0 z4 0 a0 a1 e0 e1 (by decide) (by decide) ?_⟩
   ·rw[hM];unfold nF;rw[show decide (z5=0)=false by simpa using hz];rfl
   ·rw[hM];unfold nF;rw[show decide (z5=0)=true by simpa using hz];rfl
  ·have hs:(U z0==ru)=false:=by
    have:¬U z0=ru:=by simpa using cd
    simpa using this
   unfold lk;rw[hm,hs];rfl
theorem an6:KR SB (aX SB [.bool] 16):=by
 delta KR aj bQ b5;dsimp only
 intro r0 h0;obtain⟨a,b,rfl,_⟩:=uE h0;have aU:∀x:Bool,ll (U a) (U b)=x->aX SB [.bool] 16 [[a,b]] [[aN x]]:=λx h=>lR (by show aN x=aN (ll (U a) (U b));rw[h])
 refineλr2 h2 z4 bE c1 hM=>?_
 obtain⟨c,d,rfl,_⟩:=uE h2;have hM:(U c,U d,z4)=lk (U a) (U b):=hM;have hR:ll (U a) (U b)=(decide (z4=0)&&(U a==U c)&&(U b==U d)):=by unfold ll;rw[<-hM]
 refine⟨λhz z5 d0 d1 h5 z6 e0 e1 h6=>?_,λhz=>aU false (by rw[hR,hz];rfl)⟩;have h5:z5=aw 4 [a,c]:=h5;have h6:z6=aw 4 [b,d]:=h6;have oP:=gZ h5;have lD:=gZ h6;refine aU _ ?_;rw[hR,hz,wD,iJ];have C8:z5=1↔U a=U c:=by rw[<-decide_eq_true_eq (p:=z5=1),oP,decide_eq_true_eq]
 have C9:z6=1↔U b=U d:=by rw[<-decide_eq_true_eq (p:=z6=1),lD,decide_eq_true_eq]
 simp only[aO,beq_iff_eq,decide_eq_true_eq,kz,and_true,C8,C9]
theorem aoc:KW SB (aX SB [.bool] 19):=by
 delta KW aj bQ b5;dsimp only
 intro r0 h0;obtain⟨a,b,rfl,_⟩:=uE h0;have aU:∀x:Bool,ll (U a) (U b)=x->aX SB [.bool] 19 [[a,b]] [[aN x]]:=λx h=>lR (by show aN x=aN (ll (U a) (U b));rw[h])
 refineλr2 h2 z4 bE c1 hM=>?_
 obtain⟨c,d,rfl,_⟩:=uE h2;have hM:(U c,U d,z4)=lk (U a) (U b):=hM;have hR:ll (U a) (U b)=(decide (z4=0)&&(U a==U c)&&(U b==U d)):=by unfold ll;rw[<-hM]
 refine⟨λhz z5 d0 d1 h5 z6 e0 e1 h6=>?_,λhz=>aU false (by rw[hR,hz];rfl)⟩;have h5:z5=aw 4 [a,c]:=h5;have h6:z6=aw 4 [b,d]:=h6;have oP:=gZ h5;have lD:=gZ h6;refine aU _ ?_;rw[hR,hz,wD,iJ];have C8:z5=1↔U a=U c:=by rw[<-decide_eq_true_eq (p:=z5=1),oP,decide_eq_true_eq]
 have C9:z6=1↔U b=U d:=by rw[<-decide_eq_true_eq (p:=z6=1),lD,decide_eq_true_eq]
 simp only[aO,beq_iff_eq,decide_eq_true_eq,kz,and_true,C8,C9]
end Go.bH
namespace Go.bH
open Go Go.bg
def Sh (S:zzS) (K:zzK):Prop:=
 br λz0=>b5 4 [z0,0] λae=>(aj (decide (ae=1)) (K [[z0]] [[z0]]) (∃(fG:List (List Int)->Prop) (iX:List (List Int)->Nat),fG [[z0]]/\(br λ
 z3=>fG [[z3]]->aH 0 [z3] λz4=>(aj (decide (0<z4)) (aH 0 [z3] λz5=>af 1 [z3,(z5+(-1))]/\bF 1 [z3,(z5+(-1))] λz6=>b5 43
 [79221403731691789204265450354666987086070872538664503581038852739373042335165977954796146613462291367,z6] λz7=>(aj ((!(decide (z7=1)))) (∃(ej:List
 (List Int)->Prop) (fp:List (List Int)->Nat),ej [[z3]]/\(br λz9=>ej [[z9]]->aH 0 [z9] λaq=>(aj (decide (0<aq)) (af 1 [z9,0]/\bF 1
 [z9,0] λak=>b5 43 [79221403731691789204265450354666987086070872538664503581038852739373042335165977954796146613462291367,ak] λz12=>(aj ((!(decide
 (z12=1)))) (K [[z0]] [[z9]]) (aH 0 [z9] λaz=>af 2 [z9,1,az]/\bN 2 [z9,1,az] λaC=>(ej [[aC]]/\fp [[aC]]<fp [[z9]])))) (K [[z0]]
 [[z9]])))) (aH 0 [z3] λz8=>af 2 [z3,0,(z8+(-1))]/\bN 2 [z3,0,(z8+(-1))] λz9=>(fG [[z9]]/\iX [[z9]]<iX [[z3]])))) (∃(dn:List (List Int)
 ->Prop) (cT:List (List Int)->Nat),dn [[z3]]/\(br λz6=>dn [[z6]]->aH 0 [z6] λz7=>(aj (decide (0<z7)) (af 1 [z6,0]/\bF 1 [z6,0] λz8
 =>b5 43 [79221403731691789204265450354666987086070872538664503581038852739373042335165977954796146613462291367,z8] λz9=>(aj ((!(decide (z9=1)))) (K
 [[z0]] [[z6]]) (aH 0 [z6] λaq=>af 2 [z6,1,aq]/\bN 2 [z6,1,aq] λak=>(dn [[ak]]/\cT [[ak]]<cT [[z6]])))) (K [[z0]] [[z6]]))))))))
def RR (S:zzS) (K:zzK):Prop:=
 br λz0=>∃(wS:List (List Int)->Prop) (Gd:List (List Int)->Nat),wS [[0]]/\(dk λz2=>wS [[z2]]->aH 0 [z0] λz3=>(aj (decide (z2<z3))
 (af 1 [z0,z2]/\bF 1 [z0,z2] λz4=>(aj (decide (z4=58)) (K [[z0]] [[z2]]) (a8 (z2+9223372036854775809) 18446744073709551616 λz5=>af 39 [((z2+
 ((-18446744073709551616)*z5))+1),0,9223372036854775807]/\(wS [[((z2+((-18446744073709551616)*z5))+1)]]/\Gd [[((z2+((-18446744073709551616)*z5))
 +1)]]<Gd [[z2]])))) (K [[z0]] [[(-1)]])))
def R8 (S:zzS) (K:zzK):Prop:=
 br λz0=>qt λae=>S 204 [[z0]] [[ae]]->(aj (decide (ae<0)) (bu λz2=>S 30 [[z0]] [[z2]]->K [[z0]] [[(cond (decide (z2=1)) 1 0)]]) (a8 (ae+
 9223372036854775809) 18446744073709551616 λz2=>aH 0 [z0] λz3=>af 2 [z0,((ae+((-18446744073709551616)*z2))+1),z3]/\bN 2 [z0,((ae+
 ((-18446744073709551616)*z2))+1),z3] λz4=>∃(dn:List (List Int)->Prop) (cT:List (List Int)->Nat),dn [[0]]/\(dk λz6=>dn [[z6]]->aH 0
 [z4] λz7=>(aj (decide (z6<z7)) (af 1 [z4,z6]/\bF 1 [z4,z6] λz8=>bu λz9=>S 52 [[z8]] [[z9]]->(aj ((!(decide (z9=1)))) (K [[z0]] [[(cond
 (false) 1 0)]]) (a8 (z6+9223372036854775809) 18446744073709551616 λaq=>af 39 [((z6+((-18446744073709551616)*aq))+1),0,9223372036854775807]/\
 (dn [[((z6+((-18446744073709551616)*aq))+1)]]/\cT [[((z6+((-18446744073709551616)*aq))+1)]]<cT [[z6]])))) (af 2 [z0,0,ae]/\bN 2 [z0,0,ae]
 λz8=>bu λz9=>S 30 [[z8]] [[z9]]->(aj (decide (z9=1)) (aH 0 [z4] λaq=>(aj (decide (1<=aq)) (aH 0 [z4] λak=>K [[z0]] [[(cond (decide
 (ak<=5)) 1 0)]]) (K [[z0]] [[(cond (false) 1 0)]]))) (K [[z0]] [[(cond (false) 1 0)]])))))))
def R5 (S:zzS) (K:zzK):Prop:=
 br λz0=>bQ 64 64 λae=>aH 0 [z0] λz2=>(aj (decide (z2=0)) (K [[z0],[ae]] [[0],[0],[(cond (false) 1 0)]]) (aH 0 [z0] λz3=>(aj (decide (255
 <z3)) (K [[z0],[ae]] [[0],[0],[(cond (false) 1 0)]]) (af 1 [z0,0]/\bF 1 [z0,0] λz4=>(aj ((!(decide (z4=ae)))) (K [[z0],[ae]] [[0],[0],[(cond (false)
 1 0)]]) (qt λz5=>S 204 [[z0]] [[z5]]->(aj (decide (z5<0)) (K [[z0],[ae]] [[0],[0],[(cond (false) 1 0)]]) (a8 (z5+9223372036854775809)
 18446744073709551616 λz6=>aH 0 [z0] λz7=>af 2 [z0,((z5+((-18446744073709551616)*z6))+1),z7]/\bN 2 [z0,((z5+((-18446744073709551616)*
 z6))+1),z7] λz8=>bu λz9=>S 205 [[z8]] [[z9]]->(aj ((!(decide (z9=1)))) (K [[z0],[ae]] [[0],[0],[(cond (false) 1 0)]]) (af 2 [z0,1,z5]/\bN 2
 [z0,1,z5] λaq=>a8 (z5+9223372036854775809) 18446744073709551616 λak=>aH 0 [z0] λz12=>af 2 [z0,((z5+((-18446744073709551616)*ak))+
 1),z12]/\bN 2 [z0,((z5+((-18446744073709551616)*ak))+1),z12] λaz=>K [[z0],[ae]] [[aq],[az],[(cond (true) 1 0)]]))))))))))
def R9 (S:zzS) (K:zzK):Prop:=
 br λz0=>br λae=>br λz2=>bu λz3=>S 206 [[z0],[64]] [[ae],[z2],[z3]]->∃(eU:List (List Int)->Prop) (eu:List (List Int)->Nat),eU [[0]]
 /\(dk λz5=>eU [[z5]]->aH 0 [ae] λz6=>(aj (decide (z5<z6)) (af 1 [ae,z5]/\bF 1 [ae,z5] λz7=>bu λz8=>S 50 [[z7]] [[z8]]->(aj
 ((!(decide (z8=1)))) (bu λz9=>S 52 [[z7]] [[z9]]->(aj ((!(decide (z9=1)))) ((aj ((!(decide (z7=46)))) ((aj ((!(decide (z7=95)))) ((aj ((!(decide
 (z7=61)))) ((aj ((!(decide (z7=47)))) ((aj ((!(decide (z7=43)))) ((aj ((!(decide (z7=45)))) (K [[z0]] [[(cond (false) 1 0)]]) (a8 (z5+
 9223372036854775809) 18446744073709551616 λaq=>af 39 [((z5+((-18446744073709551616)*aq))+1),0,9223372036854775807]/\(eU [[((z5+
 ((-18446744073709551616)*aq))+1)]]/\eu [[((z5+((-18446744073709551616)*aq))+1)]]<eu [[z5]])))) (a8 (z5+9223372036854775809)
 18446744073709551616 λaq=>af 39 [((z5+((-18446744073709551616)*aq))+1),0,9223372036854775807]/\(eU [[((z5+((-18446744073709551616)*aq))+
 1)]]/\eu [[((z5+((-18446744073709551616)*aq))+1)]]<eu [[z5]])))) (a8 (z5+9223372036854775809) 18446744073709551616 λaq=>af 39 [((z5+
 ((-18446744073709551616)*aq))+1),0,9223372036854775807]/\(eU [[((z5+((-18446744073709551616)*aq))+1)]]/\eu [[((z5+((-18446744073709551616)*
 aq))+1)]]<eu [[z5]])))) (a8 (z5+9223372036854775809) 18446744073709551616 λaq=>af 39 [((z5+((-18446744073709551616)*aq))+
 1),0,9223372036854775807]/\(eU [[((z5+((-18446744073709551616)*aq))+1)]]/\eu [[((z5+((-18446744073709551616)*aq))+1)]]<eu [[z5]])))) (a8 (z5
 +9223372036854775809) 18446744073709551616 λaq=>af 39 [((z5+((-18446744073709551616)*aq))+1),0,9223372036854775807]/\(eU [[((z5+
 ((-18446744073709551616)*aq))+1)]]/\eu [[((z5+((-18446744073709551616)*aq))+1)]]<eu [[z5]])))) (a8 (z5+9223372036854775809)
 18446744073709551616 λaq=>af 39 [((z5+((-18446744073709551616)*aq))+1),0,9223372036854775807]/\(eU [[((z5+((-18446744073709551616)*aq))+
 1)]]/\eu [[((z5+((-18446744073709551616)*aq))+1)]]<eu [[z5]])))) (a8 (z5+9223372036854775809) 18446744073709551616 λaq=>af 39 [((z5+
 ((-18446744073709551616)*aq))+1),0,9223372036854775807]/\(eU [[((z5+((-18446744073709551616)*aq))+1)]]/\eu [[((z5+((-18446744073709551616)*
 aq))+1)]]<eu [[z5]])))) (a8 (z5+9223372036854775809) 18446744073709551616 λz9=>af 39 [((z5+((-18446744073709551616)*z9))+
 1),0,9223372036854775807]/\(eU [[((z5+((-18446744073709551616)*z9))+1)]]/\eu [[((z5+((-18446744073709551616)*z9))+1)]]<eu [[z5]])))) ((aj
 (decide (z3=1)) (aH 0 [ae] λz7=>(aj (decide (1<=z7)) (aH 0 [ae] λz8=>K [[z0]] [[(cond (decide (z8<=200)) 1 0)]]) (K [[z0]] [[(cond (false) 1
 0)]]))) (K [[z0]] [[(cond (false) 1 0)]])))))
theorem aot:Sh SB (aX SB [.str] 202):=I7 (n:=79221403731691789204265450354666987086070872538664503581038852739373042335165977954796146613462291367) (p:=rm) (u9 (by decide+kernel)) λ_ _=>rfl
theorem Lt {I:List (List Int)->Prop} {M:List (List Int)->Nat} {L:Int} {i:Nat} (hlt:(i:Int)<L) (bZ:L<=9223372036854775807) (hI:I [[((i+1:Nat):Int)]]) (hM:M [[((i+1:Nat):Int)]]<M [[(i:Int)]]):
 ∀q:Int,0<=q->q<=1->0<=((i:Int)+9223372036854775809)-18446744073709551616*q->((i:Int)+9223372036854775809)-18446744073709551616*q<18446744073709551616->
  af 39 [(((i:Int)+((-18446744073709551616)*q))+1),0,9223372036854775807]/\
  (I [[(((i:Int)+((-18446744073709551616)*q))+1)]]/\M [[(((i:Int)+((-18446744073709551616)*q))+1)]]<M [[(i:Int)]]):=by
 intro q q0 q1 q2 q3;rw[mz (L:=L) hlt bZ (rN _) q0 q2];exact⟨⟨by omega,by omega⟩,by simpa using hI,by simpa using hM⟩
def vh (n:Nat) (bl:List (List Int)):Nat:=n-((bl.getD 0 []).getD 0 0).toNat
theorem L6 {n i:Nat} (h:i<n):vh n [[((i+1:Nat):Int)]]<vh n [[(i:Int)]]:=by
 show n-(((i+1:Nat):Int)).toNat<n-((i:Int)).toNat;omega
theorem anq:RR SB (aX SB [.int .i64 (-1) 9223372036854775807] 204):=by
 intro z0 a0 a1;have bZ:=uj a1;refine⟨λbl=>∃i:Nat,bl=[[(i:Int)]]/\i<=(U z0).length/\∀j,j<i->(U z0).getD j 0≠u8 58,vh (U z0).length,⟨0,rfl,iI _,λj h=>by omega⟩,?_⟩
 rintro z2 b0 b1 ⟨i,e,hi,hb⟩ z3 bE c1 h3
 obtain rfl:z2=i:=by simpa using e
 simp only[aw]at h3;have fin:∀r:Int,-1<=r->r<=9223372036854775807->r=idx 58 (U z0)->aX SB [.int .i64 (-1) 9223372036854775807] 204 [[z0]] [[r]]:=λr r0 r1 h=>⟨⟨r0,r1,trivial⟩,h⟩;refine⟨λhp=>?_,λhp=>fin _ (by decide) (by decide) ?_⟩
 ·have hp:(i:Int)<z3:=by simpa using hp
  refine⟨⟨b0,by omega⟩,λz4 d0 d1 h4=>?_⟩;simp only[aw,eZ]at h4;have hu:=qw (b:=(U z0).getD i 0) (z:=58) (by decide) (by decide);rw[<-h4]at hu;refine⟨λhq=>fin _ (by omega) (by omega) ?_,λhq=>Lt (I:=λbl=>∃i:Nat,bl=[[(i:Int)]]/\i<=(U z0).length/\∀j,j<i->(U z0).getD j 0≠u8 58) (M:=vh (U z0).length) (L:=z3) hp c1 ⟨i+1,rfl,by omega,λj hj=>?_⟩ (L6 (by omega))⟩
  ·exact(Wx (by decide) (by decide) (by omega) (beq_iff_eq.1 (hu.1 (of_decide_eq_true hq))) hb).symm
  ·by_cases he:j=i
   ·subst he;intro h;have:=hu.2 (by rw[h];simp);exact of_decide_eq_false hq this
   ·exact hb j (by omega)
 ·have hp:¬(i:Int)<z3:=by simpa using hp
  exact(Wz (by decide) (by decide) λj hj=>hb j (by omega)).symm
theorem JH {s z L:Int} {n:Nat} (hz:z=(n:Int)) (h:n<=(U s).length) (bZ:L=aw 0 [s]):(0<=z/\z<=L/\L<=((U s).length:Int))/\∀y,y=aw 2 [s,z,L]->U y=(U s).drop n:=by
 subst hz;simp only[aw]at bZ;refine⟨⟨by omega,by omega,by omega⟩,λy hy=>?_⟩;rw[hy];simp only[aw,ea];rw[show((n:Int)).toNat=n by omega];exact ky (by simp;omega)
theorem aod:R8 SB (aX SB [.bool] 205):=by
 intro z0 a0 a1 ae b0 b1 h1;have bZ:=uj a1;have h1:ae=idx 58 (U z0):=h1;have aU:∀b:Bool,jq (U z0)=b->aX SB [.bool] 205 [[z0]] [[aN b]]:=λb h=>lR (by show aN b=aN (jq (U z0));rw[h]);have hr:=yc 58 (U z0);refine⟨λhn z2 bE c1 h2=>?_,λhn z2 bE c1 c2 c3 z3 d0 d1 h3=>?_⟩
 ·have h2:z2=aN (fT (U z0)):=h2;have hn:ae<0:=of_decide_eq_true hn;rw[fH h2];exact aU _ (Y8 (by omega))
 ·have hn:¬ae<0:=of_decide_eq_false hn;have hw:ae+-18446744073709551616*z2+1=((ae.toNat+1:Nat):Int):=by omega
  rw[hw];obtain⟨s1,s2⟩:=JH (s:=z0) (z:=((ae.toNat+1:Nat):Int)) (L:=z3) (n:=ae.toNat+1) rfl (by omega) h3;refine⟨s1,λz4 e0 e1 h4=>?_⟩;have fr:=s2 z4 h4;have awV:=uj e1;have mT:jq (U z0)=(fT ((U z0).take ae.toNat)&&rz (U z4)):=by
   unfold jq mL;have:decide (0<=idx 58 (U z0))=true:=decide_eq_true (by omega);rw[this,fr,h1];simp
  refine⟨λbl=>∃i:Nat,bl=[[(i:Int)]]/\i<=(U z4).length/\((U z4).take i).all dN=true,vh (U z4).length,⟨0,rfl,iI _,rfl⟩,?_⟩
  rintro z6 f0 f1 ⟨i,e,hi,hall⟩ z7 g0 g1 h7
  obtain rfl:z6=i:=by simpa using e
  simp only[aw]at h7;refine⟨λhp=>?_,λhp=>?_⟩
  ·have hp:(i:Int)<z7:=by simpa using hp
   refine⟨⟨f0,by omega⟩,λz8 i0 i1 bS z9 fU c0 bb=>?_⟩;simp only[aw,eZ]at bS;have bb:z9=aN (dN (u8 z8)):=bb;rw[bS,B8]at bb;rw[fH bb];refine⟨λhd=>aU false ?_,λhd=>Lt (I:=λbl=>∃i:Nat,bl=[[(i:Int)]]/\i<=(U z4).length/\((U z4).take i).all dN=true) (M:=vh (U z4).length) (L:=z7) hp g1 ⟨i+1,rfl,by omega,?_⟩ (L6 (by omega))⟩
   ·have hd:dN ((U z4).getD i 0)=false:=by simpa using hd
    rw[mT];unfold rz;rw[Lx dN _ i (by omega) hd];simp
   ·have hd:dN ((U z4).getD i 0)=true:=by simpa using hd
    rw[Ly _ _ _ (by omega),hall,hd];rfl
  ·have hp:¬(i:Int)<z7:=by simpa using hp
   rw[ky (by omega)]at hall;refine⟨⟨bD _,by omega,by omega⟩,λz8 i0 i1 bS z9 fU c0 bb=>?_⟩;have tD:U z8=(U z0).take ae.toNat:=by
    rw[bS];simp only[aw,ea];rw[show(0:Int).toNat=0 from rfl,J1];rfl
   have bb:z9=aN (fT (U z8)):=bb;rw[fH bb,tD];have ahG:rz (U z4)=(b6 0 (U z4).length&&bC (U z4).length 5):=by unfold rz;rw[hall,aan]
   rw[ahG]at mT;refine⟨λah aq e9 k1 c8=>?_,λah=>aU false (by rw[mT,ah];rfl)⟩;simp only[aw]at c8;refine⟨λhq ak l0 l1 dE=>?_,λhq=>aU false ?_⟩
   ·simp only[aw]at dE;have hq:1<=aq:=of_decide_eq_true hq;refine aU _ ?_;rw[mT,ah,show b6 0 (U z4).length=true by rw[oz];omega,wD,wD,iJ,decide_eq_true_eq,pP];omega
   ·have hq:¬1<=aq:=of_decide_eq_false hq;rw[mT,show b6 0 (U z4).length=false by
     cases hb:b6 0 (U z4).length with
     |false=>rfl
     |true=>rw[oz]at hb;omega];simp
theorem EI {id:Nat} {zs:List (List Int)} {a b:Int} {c:Bool} (a0:0<=a) (a1:a<=bx) (b0:0<=b) (b1:b<=bx) (h:SB id zs [[a],[b],[aN c]]):aX SB [.str,.str,.bool] id zs [[a],[b],[aN c]]:=⟨⟨a0,a1,b0,b1,(oK c).1,(oK c).2,trivial⟩,h⟩
theorem yv {k:UInt8} {s:ax} (h:(b6 0 s.length&&bC s.length 255&&s.getD 0 0==k&&decide (0<=idx 58 s)&&jq (s.drop ((idx 58 s).toNat+1)))=false):jm k s=([],[],0):=by unfold jm;rw[h];rfl
theorem anY {k:Int} (e9:0<=k) (k1:k<=255) (hk:k≠58) {id:Nat} (hid:∀z a b c,SB id [[z],[k]] [[a],[b],[c]]=((U a,U b,c)=jm (u8 k) (U z))):
 (∀z0:Int,0<=z0->z0<=bx->∀ae:Int,k<=ae->ae<=k->
 ∀z2:Int,0<=z2->z2<=9223372036854775807->z2=aw 0 [z0]->
 (((decide (z2=0))=true->
  aX SB [.str,.str,.bool] id [[z0],[ae]] [[0],[0],[(cond (false) 1 0)]]
 )/\((decide (z2=0))=false->
  ∀z3:Int,0<=z3->z3<=9223372036854775807->z3=aw 0 [z0]->
  (((decide (255<z3))=true->
   aX SB [.str,.str,.bool] id [[z0],[ae]] [[0],[0],[(cond (false) 1 0)]]
  )/\((decide (255<z3))=false->
   af 1 [z0,0]/\
   ∀z4:Int,0<=z4->z4<=255->z4=aw 1 [z0,0]->
   ((((!(decide (z4=ae))))=true->
    aX SB [.str,.str,.bool] id [[z0],[ae]] [[0],[0],[(cond (false) 1 0)]]
   )/\(((!(decide (z4=ae))))=false->
    ∀z5:Int,(-1)<=z5->z5<=9223372036854775807->SB 204 [[z0]] [[z5]]->
    (((decide (z5<0))=true->
     aX SB [.str,.str,.bool] id [[z0],[ae]] [[0],[0],[(cond (false) 1 0)]]
    )/\((decide (z5<0))=false->
     ∀z6:Int,0<=z6->z6<=1->0<=(z5+9223372036854775809)-18446744073709551616*z6->(z5+9223372036854775809)-18446744073709551616*z6<18446744073709551616->
     ∀z7:Int,0<=z7->z7<=9223372036854775807->z7=aw 0 [z0]->
     af 2 [z0,((z5+((-18446744073709551616)*z6))+1),z7]/\
     ∀z8:Int,0<=z8->z8<=bx->z8=aw 2 [z0,((z5+((-18446744073709551616)*z6))+1),z7]->
     ∀z9:Int,0<=z9->z9<=1->SB 205 [[z8]] [[z9]]->
     ((((!(decide (z9=1))))=true->
      aX SB [.str,.str,.bool] id [[z0],[ae]] [[0],[0],[(cond (false) 1 0)]]
     )/\(((!(decide (z9=1))))=false->
      af 2 [z0,1,z5]/\
      ∀aq:Int,0<=aq->aq<=bx->aq=aw 2 [z0,1,z5]->
      ∀ak:Int,0<=ak->ak<=1->0<=(z5+9223372036854775809)-18446744073709551616*ak->(z5+9223372036854775809)-18446744073709551616*ak<18446744073709551616->
      ∀z12:Int,0<=z12->z12<=9223372036854775807->z12=aw 0 [z0]->
      af 2 [z0,((z5+((-18446744073709551616)*ak))+1),z12]/\
      ∀az:Int,0<=az->az<=bx->az=aw 2 [z0,((z5+((-18446744073709551616)*ak))+1),z12]->
      aX SB [.str,.str,.bool] id [[z0],[ae]] [[aq],[az],[(cond (true) 1 0)]]
     ))
    ))
   ))
  ))
 ))):=by
  intro z0 a0 a1 ae b0 b1 z2 bE c1 h2;have bZ:=uj a1;obtain rfl:ae=k:=by omega
  simp only[aw]at h2;have jY:jm (u8 ae) (U z0)=([],[],0)->aX SB [.str,.str,.bool] id [[z0],[ae]] [[0],[0],[(cond (false) 1 0)]]:=λh=>EI (c:=false) (bD _) gb (bD _) gb (by rw[hid,h];rfl);have gO:b6 0 (U z0).length= !decide (z2=0):=by
   rw[iJ,oz];simp;omega
  refine⟨λh=>jY (yv (by rw[gO,h];rfl)),λh z3 d0 d1 h3=>?_⟩;have hz2:¬z2=0:=of_decide_eq_false h;rw[h]at gO;have Af:=vP (n:=255) 255 rfl h3;refine⟨λh'=>jY (yv (by
   rw[h']at Af;have:bC (U z0).length 255=false:=by simpa using Af.symm
   rw[this];simp)),λh'=>⟨⟨bD _,by omega⟩,λz4 e0 e1 h4=>?_⟩⟩
  rw[h']at Af;have Af:bC (U z0).length 255=true:=by simpa using Af.symm
  have ag9:decide (z4=ae)=((U z0).getD 0 0==u8 ae):=by
   rw[h4];simp only[aw,yY];rw[iJ,decide_eq_true_eq,qw e9 k1]
  rw[ag9];refine⟨λhk=>jY (yv (by
   have:((U z0).getD 0 0==u8 ae)=false:=by simpa using hk
   rw[this];simp)),λje z5 f0 f1 h5=>?_⟩
  have je:((U z0).getD 0 0==u8 ae)=true:=by simpa using je
  have h5:z5=idx 58 (U z0):=h5;have hr:=yc 58 (U z0);refine⟨λhn=>jY (yv (by
   have hn:z5<0:=of_decide_eq_true hn;rw[show decide (0<=idx 58 (U z0))=false from decide_eq_false (by omega)];simp)),λhn z6 g0 g1 g2 g3 z7 i0 i1 h7=>?_⟩
  have hn:¬z5<0:=of_decide_eq_false hn;have h1:1<=z5:=by
   rcases AE (c:=58) (by decide) (by decide) (U z0)with⟨q,_⟩|⟨q1,q2,q3,_⟩
   ·omega
   ·by_cases h0:z5=0
    ·rw[<-h5,h0]at q3;have q3:(U z0).getD 0 0=u8 58:=q3;rw[q3]at je;have:=beq_iff_eq.1 je;have:=congrArg UInt8.toNat this;have e1:=JL e9 k1;have e2:=JL (z:=58) (by decide) (by decide);omega
    ·omega
  have hw:∀q:Int,0<=q->q<=1->0<=(z5+9223372036854775809)-18446744073709551616*q->z5+-18446744073709551616*q+1=((z5.toNat+1:Nat):Int):=λq q0 q1 q2=>by omega
  rw[hw z6 g0 g1 g2];obtain⟨s1,s2⟩:=JH (s:=z0) (z:=((z5.toNat+1:Nat):Int)) (L:=z7) (n:=z5.toNat+1) rfl (by omega) h7;refine⟨s1,λz8 fU c0 bS z9 l0 l1 bb=>?_⟩;have tD:=s2 z8 bS;have bb:z9=aN (jq (U z8)):=bb;rw[fH bb,tD];have hi:decide (0<=idx 58 (U z0))=true:=decide_eq_true (by omega);refine⟨λhs=>jY (yv (by
   have hs:jq ((U z0).drop (z5.toNat+1))=false:=by simpa using hs
   rw[<-h5,hs];simp)),λhs=>⟨⟨by decide,by omega,by omega⟩,λaq m0 fV c8 ak n0 n1 n2 n3 z12 yp o1 dU=>?_⟩⟩
  have hs:jq ((U z0).drop (z5.toNat+1))=true:=by simpa using hs
  rw[hw ak n0 n1 n2];obtain⟨t1,t2⟩:=JH (s:=z0) (z:=((z5.toNat+1:Nat):Int)) (L:=z12) (n:=z5.toNat+1) rfl (by omega) dU;refine⟨t1,λaz p0 p1 dI=>EI (c:=true) m0 fV p0 p1 ?_⟩;rw[hid,t2 az dI];have Hf:U aq=((U z0).take z5.toNat).drop 1:=by
   rw[c8];simp only[aw,ea];rw[List.drop_take];rfl
  have hbl:b6 0 (U z0).length=true:=by rw[gO];rfl
  unfold jm;rw[hbl,Af,je,hi,<-h5,hs,Hf];rfl
theorem anZ:R5 SB (aX SB [.str,.str,.bool] 206):=anY (k:=64) (by decide) (by decide) (by decide) λ_ _ _ _=>rfl
theorem aly {z0 ae z3:Int} {k:UInt8} {inn:UInt8->Bool} {most:Nat} {Bu:Int} (hm:Bu=(most:Int)) {id:Nat} (hid:∀r,SB id [[z0]] [[r]]=(r=aN (oh k inn most (U z0)))) (h3:0<=z3/\z3<=1) (hp:(jm k (U z0)).1=U ae) (H2:(jm k (U z0)).2.2=z3) (hall:(U ae).all inn=true):
 (((decide (z3=1))=true->
  ∀z7:Int,0<=z7->z7<=9223372036854775807->z7=aw 0 [ae]->
  (((decide (1<=z7))=true->
   ∀z8:Int,0<=z8->z8<=9223372036854775807->z8=aw 0 [ae]->
   aX SB [.bool] id [[z0]] [[(cond (decide (z8<=Bu)) 1 0)]]
  )/\((decide (1<=z7))=false->
   aX SB [.bool] id [[z0]] [[(cond (false) 1 0)]]
  ))
 )/\((decide (z3=1))=false->
  aX SB [.bool] id [[z0]] [[(cond (false) 1 0)]]
 )):=by
 have aU:∀b:Bool,oh k inn most (U z0)=b->aX SB [.bool] id [[z0]] [[aN b]]:=λb h=>lR (by rw[hid,h]);have hv:oh k inn most (U z0)=(decide (z3=1)&&b6 0 (U ae).length&&bC (U ae).length most):=by
  unfold oh;rw[hp,H2,hall,aan]
 refine⟨λh z7 a0 a1 h7=>?_,λh=>aU false (by rw[hv,h];rfl)⟩;simp only[aw]at h7;refine⟨λh1 z8 b0 b1 bS=>aU _ ?_,λh1=>aU false ?_⟩
 ·have h1:1<=z7:=of_decide_eq_true h1;rw[hv,h,show b6 0 (U ae).length=true by rw[oz];omega,yk most hm bS];rfl
 ·have h1:¬1<=z7:=of_decide_eq_false h1;rw[hv,show b6 0 (U ae).length=false by
   cases hb:b6 0 (U ae).length with
   |false=>rfl
   |true=>rw[oz]at hb;omega];simp
theorem alz {k:UInt8} {inn:UInt8->Bool} {most:Nat} {s l:ax} (hp:(jm k s).1=l) {i:Nat} (hi:i<l.length) (hf:inn (l.getD i 0)=false):oh k inn most s=false:=by
 unfold oh;rw[hp,Lx inn l i hi hf];simp
theorem aoe:R9 SB (aX SB [.bool] 207):=by
 intro z0 a0 a1 ae b0 b1 z2 bE c1 z3 d0 d1 lI;have lI:(U ae,U z2,z3)=jm 64 (U z0):=lI;have hp:(jm 64 (U z0)).1=U ae:=by rw[<-lI]
 have H2:(jm 64 (U z0)).2.2=z3:=by rw[<-lI]
 have bZ:=uj b1;have aU:∀b:Bool,m8 (U z0)=b->aX SB [.bool] 207 [[z0]] [[aN b]]:=λb h=>lR (by show aN b=aN (m8 (U z0));rw[h]);refine⟨λbl=>∃i:Nat,bl=[[(i:Int)]]/\i<=(U ae).length/\((U ae).take i).all rm=true,vh (U ae).length,⟨0,rfl,iI _,rfl⟩,?_⟩
 rintro z5 e0 e1 ⟨i,e,hi,hall⟩ z6 f0 f1 h6
 obtain rfl:z5=i:=by simpa using e
 simp only[aw]at h6;refine⟨λhlt=>?_,λeR=>?_⟩
 ·have hlt:(i:Int)<z6:=by simpa using hlt
  refine⟨⟨e0,by omega⟩,λz7 g0 g1 h7 z8 i0 i1 bS=>?_⟩;simp only[aw,eZ]at h7;have bS:z8=aN (mn (u8 z7)):=bS;have Hg:u8 z7=(U ae).getD i 0:=by rw[h7,B8]
  rw[Hg]at bS;have on:rm ((U ae).getD i 0)=true->_:=λh=>Lt (I:=λbl=>∃i:Nat,bl=[[(i:Int)]]/\i<=(U ae).length/\((U ae).take i).all rm=true) (M:=vh (U ae).length) (L:=z6) hlt f1 ⟨i+1,rfl,by omega,by rw[Ly _ _ _ (by omega),hall,h];rfl⟩ (L6 (by omega));have p9:∀n:Int,0<=n->n<=255->decide (z7=n)=((U ae).getD i 0==u8 n):=λn h0 h1=>by
   rw[iJ,decide_eq_true_eq,h7,qw h0 h1]
  rw[fH bS,p9 46 (by decide) (by decide),p9 95 (by decide) (by decide),p9 61 (by decide) (by decide),p9 47 (by decide) (by decide),p9 43 (by decide) (by decide),p9 45 (by decide) (by decide)];have cE:rm ((U ae).getD i 0)=(mn ((U ae).getD i 0)||dN ((U ae).getD i 0)||((U ae).getD i 0==u8 46||((U ae).getD i 0==u8 95||((U ae).getD i 0==u8 61||((U ae).getD i 0==u8 47||((U ae).getD i 0==u8 43||((U ae).getD i 0==u8 45||false))))))):=rfl;refine⟨λhs z9 fU c0 bb=>?_,λhs=>on (by rw[cE,show mn ((U ae).getD i 0)=true by simpa using hs];rfl)⟩;have hs:mn ((U ae).getD i 0)=false:=by simpa using hs
  have bb:z9=aN (dN (u8 z7)):=bb;rw[Hg]at bb;rw[fH bb];refine⟨λhd=>?_,λhd=>on (by rw[cE,show dN ((U ae).getD i 0)=true by simpa using hd];simp)⟩;have hd:dN ((U ae).getD i 0)=false:=by simpa using hd
  rw[hs,hd]at cE;refine⟨λq1=>⟨λq2=>⟨λq3=>⟨λde=>⟨λiT=>⟨λlU=>aU false (alz (k:=64) (inn:=rm) (most:=200) hp (i:=i) (by omega) ?_),λlU=>on ?_⟩,λiT=>on ?_⟩,λde=>on ?_⟩,λq3=>on ?_⟩,λq2=>on ?_⟩,λq1=>on ?_⟩
  ·simp only[fZ]at q1 q2 q3 de iT lU;rw[cE,q1,q2,q3,de,iT,lU];rfl
  all_goals rw[cE]
  ·simp only[mB]at lU;rw[lU];simp
  ·simp only[mB]at iT;rw[iT];simp
  ·simp only[mB]at de;rw[de];simp
  ·simp only[mB]at q3;rw[q3];simp
  ·simp only[mB]at q2;rw[q2];simp
  ·simp only[mB]at q1;rw[q1];simp
 ·have eR:¬(i:Int)<z6:=by simpa using eR
  rw[ky (by omega)]at hall;exact aly (k:=64) (inn:=rm) (most:=200) rfl (λ_=>rfl) ⟨d0,d1⟩ hp H2 hall
end Go.bH
namespace Go.bH
open Go Go.bg
def Si (S:zzS) (K:zzK):Prop:=
 br λz0=>aH 0 [z0] λae=>(aj (decide (255<ae)) (K [[z0]] [[(cond (false) 1 0)]]) (aH 0 [z0] λz2=>(aj (decide (1<=z2)) (af 2 [z0,0,1]/\bN 2
 [z0,0,1] λz3=>b5 4 [z3,65] λz4=>(aj ((!(decide (z4=1)))) (K [[z0]] [[(cond (false) 1 0)]]) (aH 0 [z0] λz5=>af 2 [z0,1,z5]/\bN 2 [z0,1,z5]
 λz6=>br λz7=>br λz8=>bu λz9=>S 126 [[z6]] [[z7],[z8],[z9]]->(aj (decide (z9=1)) (b5 4 [z7,0] λaq=>(aj ((!(decide (aq=1)))) (aH
 0 [z7] λak=>(aj (decide (ak<=200)) (br λz12=>S 202 [[z7]] [[z12]]->b5 4 [z12,0] λaz=>(aj (decide (az=1)) (bu λaC=>S 65
 [[z7],[29623484903295033747957742255491238963424329677582429956179748554116486405127370353604394274421496743]] [[aC]]->(aj (decide (aC=1)) (bu λau=>S
 27 [[z8]] [[au]]->K [[z0]] [[(cond (decide (au=1)) 1 0)]]) (K [[z0]] [[(cond (false) 1 0)]]))) (K [[z0]] [[(cond (false) 1 0)]]))) (K [[z0]] [[(cond
 (false) 1 0)]]))) (K [[z0]] [[(cond (false) 1 0)]]))) (K [[z0]] [[(cond (false) 1 0)]]))))) (K [[z0]] [[(cond (false) 1 0)]]))))
theorem aiv {c:UInt8} {t:ax} (h:c≠58):idx 58 (c::t)=if idx 58 t<0 then-1 else idx 58 t+1:=by
 have:¬(c.toNat:Int)=58:=λe=>h (by rw[<-Rf];show c.toNat=58;omega);show(if(c.toNat:Int)=58 then 0 else if idx 58 t<0 then-1 else idx 58 t+1)=_;rw[if_neg this]
theorem aoA {k:UInt8} (hk:k≠58) {t:ax} (hl:t.length+1<=255):jm k (k::t)=cond (decide (0<=idx 58 t)&&jq (t.drop ((idx 58 t).toNat+1))) (t.take (idx 58 t).toNat,t.drop ((idx 58 t).toNat+1),1) ([],[],0):=by
 unfold jm;rw[aiv hk,show b6 0 (k::t).length=true by rw[oz];simp,show bC (k::t).length 255=true by rw[pP];simpa using hl];have hr:=yc 58 t;have hb:((k::t).getD 0 0==k)=true:=by show(k==k)=true;simp
 rw[hb];by_cases hn:idx 58 t<0
 ·rw[if_pos hn,show decide (0<=idx 58 t)=false from decide_eq_false (by omega)];simp
 ·rw[if_neg hn,show decide (0<=idx 58 t)=true from decide_eq_true (by omega),show decide (0<=idx 58 t+1)=true from decide_eq_true (by omega),show(idx 58 t+1).toNat=(idx 58 t).toNat+1 by omega];simp
theorem Yd {k:UInt8} {s:ax} (h:s.getD 0 0≠k∨s=[]):(jm k s).2.2=0:=by
 rw[yv];rcases h with h|h
 ·rw[show(s.getD 0 0==k)=false by simpa using h];simp
 ·rw[h];rfl
theorem aoB {k:UInt8} {s:ax} (h:bC s.length 255=false):(jm k s).2.2=0:=by
 rw[yv];rw[h];simp
theorem IP {k:UInt8} {inn:UInt8->Bool} {most:Nat} {s:ax} (h:(jm k s).2.2=0):oh k inn most s=false:=by unfold oh;rw[h];rfl
theorem am9 (inn:UInt8->Bool) (s:ax) {n:Int} (hn:∀c,(U n).contains c=inn c):(s.all λc=>(U n).contains c)=s.all inn:=by
 congr 1;funext c;exact hn c
theorem anW {k:UInt8} {Bl L5 Bu:Int} {inn:UInt8->Bool} {most tid:Nat} (hk:k≠58) (ahb:U Bl=[k]) (iP:∀c,(U L5).contains c=inn c) (hm:Bu=(most:Int)) (ht:∀z r,SB tid [[z]] [[r]]=(U r=jr inn (U z))) {id:Nat} (hid:∀z r,SB id [[z]] [[r]]=(r=aN (oh k inn most (U z)))):
(∀z0:Int,0<=z0->z0<=bx->
 ∀ae:Int,0<=ae->ae<=9223372036854775807->ae=aw 0 [z0]->
 (((decide (255<ae))=true->
  aX SB [.bool] id [[z0]] [[(cond (false) 1 0)]]
 )/\((decide (255<ae))=false->
  ∀z2:Int,0<=z2->z2<=9223372036854775807->z2=aw 0 [z0]->
  (((decide (1<=z2))=true->
   af 2 [z0,0,1]/\
   ∀z3:Int,0<=z3->z3<=bx->z3=aw 2 [z0,0,1]->
   ∀z4:Int,0<=z4->z4<=1->z4=aw 4 [z3,Bl]->
   ((((!(decide (z4=1))))=true->
    aX SB [.bool] id [[z0]] [[(cond (false) 1 0)]]
   )/\(((!(decide (z4=1))))=false->
    ∀z5:Int,0<=z5->z5<=9223372036854775807->z5=aw 0 [z0]->
    af 2 [z0,1,z5]/\
    ∀z6:Int,0<=z6->z6<=bx->z6=aw 2 [z0,1,z5]->
    ∀z7:Int,0<=z7->z7<=bx->∀z8:Int,0<=z8->z8<=bx->∀z9:Int,0<=z9->z9<=1->SB 126 [[z6]] [[z7],[z8],[z9]]->
    (((decide (z9=1))=true->
     ∀aq:Int,0<=aq->aq<=1->aq=aw 4 [z7,0]->
     ((((!(decide (aq=1))))=true->
      ∀ak:Int,0<=ak->ak<=9223372036854775807->ak=aw 0 [z7]->
      (((decide (ak<=Bu))=true->
       ∀z12:Int,0<=z12->z12<=bx->SB tid [[z7]] [[z12]]->
       ∀az:Int,0<=az->az<=1->az=aw 4 [z12,0]->
       (((decide (az=1))=true->
        ∀aC:Int,0<=aC->aC<=1->SB 65 [[z7],[L5]] [[aC]]->
        (((decide (aC=1))=true->
         ∀au:Int,0<=au->au<=1->SB 27 [[z8]] [[au]]->
         aX SB [.bool] id [[z0]] [[(cond (decide (au=1)) 1 0)]]
        )/\((decide (aC=1))=false->
         aX SB [.bool] id [[z0]] [[(cond (false) 1 0)]]
        ))
       )/\((decide (az=1))=false->
        aX SB [.bool] id [[z0]] [[(cond (false) 1 0)]]
       ))
      )/\((decide (ak<=Bu))=false->
       aX SB [.bool] id [[z0]] [[(cond (false) 1 0)]]
      ))
     )/\(((!(decide (aq=1))))=false->
      aX SB [.bool] id [[z0]] [[(cond (false) 1 0)]]
     ))
    )/\((decide (z9=1))=false->
     aX SB [.bool] id [[z0]] [[(cond (false) 1 0)]]
    ))
   ))
  )/\((decide (1<=z2))=false->
   aX SB [.bool] id [[z0]] [[(cond (false) 1 0)]]
  ))
 ))):=by
  intro z0 a0 a1 ae b0 b1 h1;have aU:∀b:Bool,oh k inn most (U z0)=b->aX SB [.bool] id [[z0]] [[aN b]]:=λb h=>lR (by rw[hid,h]);have Ds:=vP (n:=255) 255 rfl h1;refine⟨λhb=>aU false (IP (aoB (by rw[hb]at Ds;simpa using Ds.symm))),λhb z2 bE c1 h2=>?_⟩;rw[hb]at Ds;have hlen:(U z0).length<=255:=by
   have:bC (U z0).length 255=true:=by simpa using Ds.symm
   exact eE this
  simp only[aw]at h2;refine⟨λhp=>⟨⟨bD _,by decide,by have:=of_decide_eq_true hp;omega⟩,λz3 d0 d1 h3 z4 e0 e1 h4=>?_⟩,λhp=>aU false (IP (Yd (.inr ?_)))⟩
  ·cases hs:U z0 with
   |nil=>rw[hs]at h2;have:=of_decide_eq_true hp;simp at h2;omega
   |cons c t=>
    have e3:U z3=[c]:=by rw[h3];simp only[aw,ea,hs];rfl
    rw[gZ h4,e3,ahb];refine⟨λhne=>aU false (IP (Yd (.inl ?_))),λheq z5 f0 f1 h5=>?_⟩
    ·rw[hs];intro h;have h:c=k:=h;rw[h]at hne;simp at hne
    ·have agz:c=k:=by simpa using heq
     subst agz;have sq:t.length+1<=255:=by rw[hs]at hlen;simpa using hlen
     obtain⟨s1,s2⟩:=JH (s:=z0) (z:=1) (L:=z5) (n:=1) rfl (by rw[hs];simp) h5;refine⟨s1,λz6 g0 g1 h6 z7 i0 i1 z8 fU c0 z9 e9 k1 hC=>?_⟩;have lD:U z6=t:=by rw[s2 z6 h6,hs];rfl
     have hC:(U z7,U z8,z9)=mL 58 (U z6):=hC;rw[lD]at hC;have lI:=aoA hk sq;unfold mL at hC;cases hi:decide (0<=idx 58 t)with
     |false=>
      rw[hi]at hC lI;simp only[cond_false,cv]at hC;obtain⟨_,_,rfl⟩:=hC;exact⟨λh=>by simp at h,λ_=>aU false (IP (by rw[hs,lI];rfl))⟩
     |true=>
      rw[hi]at hC lI;simp only[cond_true,cv]at hC;obtain⟨Hg,tD,rfl⟩:=hC;rw[wD]at lI;have hv:oh c inn most (U z0)=(jq (U z8)&&b6 0 (U z7).length&&bC (U z7).length most&&(U z7).all inn):=by
       unfold oh;rw[hs,lI,<-Hg,<-tD];cases jq (U z8)<;>rfl
      refine⟨λ_ aq l0 l1 c8=>?_,λh=>by simp at h⟩;have hn:=ET c8;refine⟨λhq ak m0 fV dE=>?_,λhq=>aU false (by rw[hq]at hn;rw[hv,<-hn];simp)⟩;rw[hq]at hn;rw[yk most hm dE];refine⟨λhr z12 n0 n1 dU az yp o1 dI=>?_,λhr=>aU false (by rw[hv,hr];simp)⟩;rw[ht]at dU;rw[eq_nil dI,dU];refine⟨λhs aC p0 p1 fs=>?_,λhs=>aU false ?_⟩
      ·have fs:aC=aN ((U z7).all λc=>(U L5).contains c):=fs;rw[am9 inn _ iP]at fs;rw[fH fs];refine⟨λha au q0 q1 ft=>?_,λha=>aU false (by rw[hv,ha];simp)⟩;have ft:au=aN (jq (U z8)):=ft;rw[fH ft];refine aU _ ?_;rw[hv,<-hn,hr,ha];simp
      ·rw[hv];cases ha:(U z7).all inn with
       |false=>simp
       |true=>rw[QO ha]at hs;simp at hs
  ·have hp:¬1<=z2:=of_decide_eq_false hp;exact List.length_eq_zero_iff.1 (by omega)
theorem aou:Si SB (aX SB [.bool] 200):=anW (k:=64) (inn:=rm) (most:=200) (tid:=202) (by decide) (by decide) (u9 (by decide+kernel)) rfl (λ_ _=>rfl) (λ_ _=>rfl)
end Go.bH
namespace Go.bH
open Go Go.bg
def RP (S:zzS) (K:zzK):Prop:=
 ∀r0:List Int,bd [(0,bx),(0,bx),(0,bx),((-9223372036854775808),9223372036854775807)] r0->(aj (decide (0<=(aB r0 3 0))) ((aj (decide ((aB r0 3
 0)<=1099511627776)) (bu λz4=>S 16 [[(aB r0 0 0),(aB r0 1 0)]] [[z4]]->(aj (decide (z4=1)) (bu λz5=>S 200 [[(aB r0 2 0)]]
 [[z5]]->K [r0] [[(cond (decide (z5=1)) 1 0)]]) (K [r0] [[(cond (false) 1 0)]]))) (K [r0] [[(cond (false) 1 0)]]))) (K [r0] [[(cond (false) 1 0)]]))
def RO (S:zzS) (K:zzK):Prop:=
 ∀r0:List Int,bd [(0,bx),(0,bx),(0,bx),((-9223372036854775808),9223372036854775807)] r0->∀fM:List Int,bd (h8 0 bx 2) fM->b5 4 [(aB r0 0
 0),(aB fM 0 0)] λz6=>b5 4 [(aB r0 1 0),(aB fM 1 0)] λz7=>(aj (decide ([z6,z7]=[1,1])) (K [r0,fM] [[0]]) (bu λz8=>S 14
 [[(aB r0 0 0),(aB r0 1 0)],fM] [[z8]]->(aj (decide (z8=1)) (K [r0,fM] [[(-1)]]) (K [r0,fM] [[1]]))))
theorem aiB {r:List Int} (h:bd (h8 0 bx 2) r):∃x y,r=[x,y]/\(0<=x/\x<=bx)/\(0<=y/\y<=bx):=by
 match r,h with
 |[x,y],h=>exact⟨x,y,rfl,⟨h.1,h.2.1⟩,⟨h.2.2.1,h.2.2.2.1⟩⟩
theorem ann:RP SB (aX SB [.bool] 300):=by
 intro r0 hr;have aU:∀b:Bool,iY (jP r0)=b->aX SB [.bool] 300 [r0] [[aN b]]:=λb h=>lR (by show aN b=aN (iY (jP r0));rw[h]);have e0:iY (jP r0)=(decide (0<=r0.getD 3 0)&&(decide (r0.getD 3 0<=1099511627776)&&(ll (U (r0.getD 0 0)) (U (r0.getD 1 0))&&m8 (U (r0.getD 2 0))))):=rfl;refine⟨λh1=>⟨λh2 z4 a0 a1 cd=>⟨λh3 z5 b0 b1 bJ=>?_,λh3=>?_⟩,λh2=>?_⟩,λh1=>?_⟩
 ·have cd:z4=aN (ll (U (r0.getD 0 0)) (U (r0.getD 1 0))):=cd;have bJ:z5=aN (m8 (U (r0.getD 2 0))):=bJ;have:=fH cd;rw[h3]at this;exact aU (decide (z5=1)) (by rw[e0,h1,h2,<-this,fH bJ];rfl)
 ·have cd:z4=aN (ll (U (r0.getD 0 0)) (U (r0.getD 1 0))):=cd;have:=fH cd;rw[h3]at this;exact aU false (by rw[e0,<-this];simp)
 ·exact aU false (by rw[e0,h2];simp)
 ·exact aU false (by rw[e0,h1];simp)
theorem anm:RO SB (aX SB [.int .i64 (-1) 1] 301):=by
 intro r0 hr fM ahL z6 a0 a1 h6 z7 b0 b1 h7;obtain⟨x,y,rfl,_,_⟩:=aiB ahL;have Bl:∀c:Int,(-1<=c/\c<=1)->c=p7 (ic r0) (ic [x,y])->aX SB [.int .i64 (-1) 1] 301 [r0,[x,y]] [[c]]:=λc hc h=>⟨⟨hc.1,hc.2,trivial⟩,h⟩;have h6:=gZ h6;have h7:=gZ h7;have heq:(ic r0==ic [x,y])=decide ([z6,z7]=[1,1]):=by
  have e:∀a b c d:ax,((a,b)==(c,d))=(decide (a=c)&&decide (b=d)):=λa b c d=>by
   rw[iJ];simp
  show((U (r0.getD 0 0),U (r0.getD 1 0))==(U x,U y))=_;have aeH:decide (z6=1)=decide (U (r0.getD 0 0)=U x):=h6;have aeQ:decide (z7=1)=decide (U (r0.getD 1 0)=U y):=h7;rw[e,<-aeH,<-aeQ,iJ];simp
 refine⟨λh=>Bl 0 (by decide) (by unfold p7;rw[heq,h];rfl),λh z8 bE c1 cd=>?_⟩;have cd:z8=aN (mZ (U (r0.getD 0 0)) (U (r0.getD 1 0)) (U x) (U y)):=cd;have hl:og (ic r0) (ic [x,y])=decide (z8=1):=(fH cd).symm;exact⟨λh2=>Bl (-1) (by decide) (by unfold p7;rw[heq,h,hl,h2];rfl),λh2=>Bl 1 (by decide) (by unfold p7;rw[heq,h,hl,h2];rfl)⟩
end Go.bH
namespace Go.bH
open Go Go.bg
theorem IA (a b:UInt8) (x y:ax):dz (a::x) (b::y)=true↔a.toNat<b.toNat∨(a=b/\dz x y=true):=by
 simp only[dz,oA,aO,beq_iff_eq,decide_eq_true_eq,UInt8.lt_iff_toNat_lt]
theorem Pa (x:ax):dz x []=false:=by cases x<;>rfl
theorem O9:∀x y:ax,dz x y=true->dz y x=true->False
 |x,[],h,_=>by rw[Pa]at h;cases h
 |[],_::_,_,h=>by cases h
 |a::x,b::y,h,h'=>by
  rw[IA]at h h';rcases h with h|⟨rfl,h⟩
  ·rcases h' with h'|⟨e,_⟩
   ·omega
   ·rw[e]at h;omega
  ·rcases h' with h'|⟨_,h'⟩
   ·omega
   ·exact O9 x y h h'
theorem Xl:∀x y:ax,dz x y=true∨dz y x=true∨x=y
 |[],[]=> .inr (.inr rfl)
 |[],_::_=> .inl rfl
 |_::_,[]=> .inr (.inl rfl)
 |a::x,b::y=>by
  rw[IA,IA];rcases aut a.toNat b.toNat with h|h|h
  ·exact .inl (.inl h)
  ·have e:a=b:=UInt8.toNat_inj.1 h;subst e;rcases Xl x y with h|h|h
   ·exact .inl (.inr ⟨rfl,h⟩)
   ·exact .inr (.inl (.inr ⟨rfl,h⟩))
   ·exact .inr (.inr (by rw[h]))
  ·exact .inr (.inl (.inl h))
theorem EL:∀x y z:ax,dz x y=true->dz y z=true->dz x z=true
 |_,[],_,h,_=>by rw[Pa]at h;cases h
 |_,_::_,[],_,h=>by rw[Pa]at h;cases h
 |[],_::_,_::_,_,_=>rfl
 |a::x,b::y,c::z,h,h'=>by
  rw[IA]at h h'⊢;rcases h with h|⟨rfl,h⟩
  ·rcases h' with h'|⟨rfl,_⟩
   ·exact .inl (by omega)
   ·exact .inl h
  ·rcases h' with h'|⟨rfl,h'⟩
   ·exact .inl h'
   ·exact .inr ⟨rfl,EL x y z h h'⟩
theorem ajI (a b c d:ax):mZ a b c d=true↔dz a c=true∨(a=c/\dz b d=true):=by
 unfold mZ;by_cases h:a=c
 ·subst h;simp[Bn]
 ·rw[show(a==c)=false by simpa using h];simp[h]
theorem ajH {a b c d:ax} (h:mZ a b c d=true) (h':mZ c d a b=true):False:=by
 rw[ajI]at h h';rcases h with h|⟨rfl,h⟩
 ·rcases h' with h'|⟨rfl,_⟩
  ·exact O9 _ _ h h'
  ·rw[Bn]at h;cases h
 ·rcases h' with h'|⟨_,h'⟩
  ·rw[Bn]at h';cases h'
  ·exact O9 _ _ h h'
theorem ajG (a:ax×ax):og a a=false:=by
 cases h:og a a with
 |false=>rfl
 |true=>exact(ajH h h).elim
theorem TB {a b:ax×ax}:p7 a b<0↔og a b=true:=by
 unfold p7;by_cases h:a=b
 ·subst h;rw[beq_self_eq_true,ajG];simp
 ·rw[beq_false_of_ne h];cases og a b<;>simp
theorem qM (z:Int):(bds z).length=(ab z).length:=by simp[bds]
theorem GO {z:Int} {i:Nat} (h:i<(ab z).length):(bds z).getD i eA=jP ((ab z).getD i []):=by
 simp[bds,aB,h]
theorem apx {z0 i a b c d z:Int} {k:Nat} {w:List Int} (hi:i=(k:Int)) (ha:a=aw 21 [z0,i,0]) (hb:b=aw 21 [z0,i,1]) (hk:k<(ab z0).length) (h:SB 301 [[a,b,c,d],w] [[z]]):z=p7 ((bds z0).getD k eA).1 (ic w):=by
 have h:z=p7 (U a,U b) (ic w):=h;rw[h,GO hk,ha,hb,hi];rfl
end Go.bH
namespace Go.bH
open Go Go.bg
def Ks (S:zzS) (K:zzK):Prop:=
 c9 λz0=>cz λae=>bQ (-2) aV λz2=>aH 20 [z0] λz3=>(aj (decide (64<z3)) (K [[z0]] [[(cond (false) 1 0)]]) (∃(eU:List
 (List Int)->Prop) (eu:List (List Int)->Nat),eU [[0]]/\(dk λz5=>eU [[z5]]->(aj (decide (z5<z3)) (af 30 [z5,z3]/\af 21 [z0,z5]/\bN 21
 [z0,z5,0] λz6=>bN 21 [z0,z5,1] λz7=>bN 21 [z0,z5,2] λz8=>ck (-9223372036854775808) aV 21 [z0,z5,3] λz9=>bu λaq=>S
 300 [[z6,z7,z8,z9]] [[aq]]->(aj ((!(decide (aq=1)))) (K [[z0]] [[(cond (false) 1 0)]]) ((aj (decide (0<z5)) (af 30 [(z5+(-1)),z3]/\af 21 [z0,(z5
 +(-1))]/\bN 21 [z0,(z5+(-1)),0] λak=>bN 21 [z0,(z5+(-1)),1] λz12=>bN 21 [z0,(z5+(-1)),2] λaz=>ck (-9223372036854775808)
 aV 21 [z0,(z5+(-1)),3] λaC=>bQ (-1) 1 λau=>S 301 [[ak,z12,az,aC],[z6,z7]] [[au]]->(aj (decide (0<=au)) (K [[z0]] [[(cond
 (false) 1 0)]]) (a8 (z5+bM) bI λaP=>af 39 [((z5+(av*aP))+1),0,aV]/\
 (eU [[((z5+(av*aP))+1)]]/\eu [[((z5+(av*aP))+1)]]<eu [[z5]])))) ((eU [[1]]/\eu [[1]]<eu
 [[z5]])))))) (K [[z0]] [[(cond (true) 1 0)]])))))
theorem Zk:∀l:List gV,B1 l=true↔∀j,j+1<l.length->og (l.getD j eA).1 (l.getD (j+1) eA).1=true
 |[]=>by simp[B1]
 |[a]=>by simp[B1]
 |a::b::r=>by
  simp only[B1,aO];rw[Zk (b::r)];constructor
  ·rintro⟨h1,h2⟩ j hj
   cases j with
   |zero=>exact h1
   |succ j=>exact h2 j (by simpa using hj)
  ·intro h;exact⟨h 0 (by simp),λj hj=>h (j+1) (by simpa using hj)⟩
theorem Jm (l:List gV):h9 l=true↔l.length<=64/\∀j,j<l.length->iY (l.getD j eA)=true/\(0<j->og (l.getD (j-1) eA).1 (l.getD j eA).1=true):=by
 unfold h9;simp only[aO];rw[Zk,pQ,pP];constructor
 ·rintro⟨⟨h1,h2⟩,h3⟩
  refine⟨h1,λj hj=>⟨h2 _ (by simp[aB,hj]),λh0=>?_⟩⟩;have:=h3 (j-1) (by omega)
  rwa [show j-1+1=j by omega]at this
 ·rintro⟨h1,h2⟩
  refine⟨⟨h1,λb hb=>?_⟩,λj hj=>?_⟩
  ·obtain⟨j,hj,rfl⟩:=List.mem_iff_getElem.1 hb;have:=(h2 j hj).1;simpa [aB,hj]using this
  ·have:=(h2 (j+1) hj).2 (by omega);simpa using this
theorem YF {z0 i a b c d:Int} {k:Nat} (hi:i=(k:Int)) (ha:a=aw 21 [z0,i,0]) (hb:b=aw 21 [z0,i,1]) (hc:c=aw 21 [z0,i,2]) (hd:d=aw 21 [z0,i,3]) (hk:k<(ab z0).length):jP [a,b,c,d]=(bds z0).getD k eA:=by
 rw[GO hk,ha,hb,hc,hd,hi];rfl
theorem Qb {z0 i a b:Int} {k:Nat} (hi:i=(k:Int)) (ha:a=aw 21 [z0,i,0]) (hb:b=aw 21 [z0,i,1]) (hk:k<(ab z0).length):ic [a,b]=((bds z0).getD k eA).1:=by
 rw[GO hk,ha,hb,hi];rfl
def SH (z0:Int) (bl:List (List Int)):Prop:=∃i:Nat,bl=[[(i:Int)]]/\i<=(bds z0).length/\∀j,j<i->iY ((bds z0).getD j eA)=true/\(0<j->og ((bds z0).getD (j-1) eA).1 ((bds z0).getD j eA).1=true)
def SI (z0:Int) (bl:List (List Int)):Nat:=(bds z0).length-((bl.getD 0 []).getD 0 0).toNat
theorem anl:Ks SB (ev SB [.d .bool] 303):=by
 delta Ks aj a8 bQ ck cz dk aH c9 bN bu bI av aV bM;dsimp only
 intro z0 a0 a1 ae _ z2 _ _ z3 b0 b1 h3;have h3:z3=((ab z0).length:Int):=h3;have hlen:=qM z0;have aU:∀b:Bool,h9 (bds z0)=b->ev SB [.d .bool] 303 [[z0]] [[cond b 1 0]]:=λb h=>⟨by cases b<;>exact⟨by decide,by decide,trivial⟩,by show cond b (1:Int) 0=aN (h9 (bds z0));rw[h];rfl⟩;have jY:(¬((bds z0).length<=64/\∀j,j<(bds z0).length->iY ((bds z0).getD j eA)=true/\(0<j->og ((bds z0).getD (j-1) eA).1 ((bds z0).getD j eA).1=true)))->ev SB [.d .bool] 303 [[z0]] [[cond false 1 0]]:=λh=>aU false (by
  cases hr:h9 (bds z0)with
  |false=>rfl
  |true=>exact absurd ((Jm _).1 hr) h)
 refine⟨λh=>jY (λh2=>by have:=of_decide_eq_true h;have:=h2.1;omega),λqc=>?_⟩;have qc:=of_decide_eq_false qc;refine⟨SH z0,SI z0,⟨0,rfl,iI _,λj h=>absurd h (RG j)⟩,?_⟩
 rintro z5 bE c1 ⟨i,e,hi,hI⟩
 obtain rfl:z5=i:=by simpa using e
 refine⟨λhlt=>?_,λeR=>aU true ((Jm _).2 ⟨by omega,λj hj=>hI j (by have:=of_decide_eq_false eR;omega)⟩)⟩;have hlt:=of_decide_eq_true hlt;have dw:i<(ab z0).length:=by omega
 refine⟨⟨by omega,by omega⟩,⟨by omega,by omega⟩,λz6 _ _ h6 z7 _ _ h7 z8 _ _ bS z9 _ _ bb aq _ _ c8=>?_⟩;have hrow:=YF (k:=i) rfl h6 h7 bS bb dw;have c8:aq=aN (iY (jP [z6,z7,z8,z9])):=c8;rw[hrow]at c8;have hd:=fH c8;refine⟨λhb=>jY (λh2=>?_),λhb=>?_⟩
 ·rw[hd,(h2.2 i (by omega)).1]at hb;cases hb
 have aY:iY ((bds z0).getD i eA)=true:=by
  rw[hd]at hb;cases hx:iY ((bds z0).getD i eA)with
  |true=>rfl
  |false=>rw[hx]at hb;cases hb
 refine⟨λhp=>?_,λhp=>?_⟩
 ·have hp:=of_decide_eq_true hp;have mS:(i:Int)+(-1)=((i-1:Nat):Int):=by omega
  refine⟨⟨by omega,by omega⟩,⟨by omega,by omega⟩,λak _ _ dE z12 _ _ dU az _ _ dI aC _ _ fs au _ _ ft=>?_⟩;have ft:=apx (k:=i-1) mS dE dU (by omega) ft;rw[Qb (k:=i) rfl h6 h7 dw]at ft;refine⟨λhc=>jY (λh2=>?_),λhc aP d0 d1 d2 d3=>⟨⟨by omega,by omega⟩,⟨i+1,by rw[show((i:Int)+(-18446744073709551616)*aP)+1=((i+1:Nat):Int) by omega],by omega,λj hj=>?_⟩,?_⟩⟩
  ·have h4:=(h2.2 i (by omega)).2 (by omega);have h5:=TB.2 h4;have:=of_decide_eq_true hc;omega
  ·rcases mC j i with h|h
   ·exact hI j h
   ·obtain rfl:j=i:=by omega
    exact⟨aY,λ_=>TB.1 (by rw[<-ft];have:=of_decide_eq_false hc;omega)⟩
  ·show(bds z0).length-(((i:Int)+(-18446744073709551616)*aP)+1).toNat<(bds z0).length-((i:Int)).toNat;omega
 ·have hp:=of_decide_eq_false hp;obtain rfl:i=0:=by omega
  refine⟨⟨1,rfl,by omega,λj hj=>?_⟩,?_⟩
  ·obtain rfl:j=0:=by omega
   exact⟨aY,λh=>absurd h (Nat.lt_irrefl 0)⟩
  ·show(bds z0).length-(1:Int).toNat<(bds z0).length-((0:Nat):Int).toNat;omega
end Go.bH
namespace Go.bH
open Go Go.bg
def K6 (S:zzS) (K:zzK):Prop:=
 ∀r0:List Int,bd [(0,bx),(0,bx),(0,bx),((-9223372036854775808),aV)] r0->bu λz4=>S 19 [[(aB r0 0 0),(aB r0 1 0)]] [[z4]]
 ->(aj (decide (z4=1)) (bu λz5=>S 207 [[(aB r0 2 0)]] [[z5]]->(aj (decide (z5=1)) ((aj (decide (0<=(aB r0 3 0))) (K [r0] [[(cond
 (decide ((aB r0 3 0)<=1099511627776)) 1 0)]]) (K [r0] [[(cond (false) 1 0)]]))) (K [r0] [[(cond (false) 1 0)]]))) (K [r0] [[(cond (false) 1 0)]]))
def K5 (S:zzS) (K:zzK):Prop:=
 c9 λz0=>cz λae=>bQ (-2) aV λz2=>aH 20 [z0] λz3=>(aj (decide (64<z3)) (K [[z0]] [[(cond (false) 1 0)]]) (∃(eU:List
 (List Int)->Prop) (eu:List (List Int)->Nat),eU [[0]]/\(dk λz5=>eU [[z5]]->(aj (decide (z5<z3)) (af 30 [z5,z3]/\af 21 [z0,z5]/\bN 21
 [z0,z5,0] λz6=>bN 21 [z0,z5,1] λz7=>bN 21 [z0,z5,2] λz8=>ck (-9223372036854775808) aV 21 [z0,z5,3] λz9=>bu λaq=>S
 320 [[z6,z7,z8,z9]] [[aq]]->(aj ((!(decide (aq=1)))) (K [[z0]] [[(cond (false) 1 0)]]) ((aj (decide (0<z5)) (af 30 [(z5+(-1)),z3]/\af 21 [z0,(z5
 +(-1))]/\bN 21 [z0,(z5+(-1)),0] λak=>bN 21 [z0,(z5+(-1)),1] λz12=>af 30 [z5,z3]/\af 21 [z0,z5]/\bN 21 [z0,z5,0] λaz=>bN 21
 [z0,z5,1] λaC=>bu λau=>S 21 [[ak,z12],[az,aC]] [[au]]->(aj ((!(decide (au=1)))) (K [[z0]] [[(cond (false) 1 0)]]) (a8 (z5+
 bM) bI λaP=>af 39 [((z5+(av*aP))+1),0,aV]/\(eU [[((z5+
 (av*aP))+1)]]/\eu [[((z5+(av*aP))+1)]]<eu [[z5]])))) ((eU [[1]]/\eu [[1]]<eu [[z5]])))))) (K [[z0]]
 [[(cond (true) 1 0)]])))))
theorem aox:K6 SB (aX SB [.bool] 320):=by
 delta K6 aj bu aV;dsimp only
 intro r0 hr;have aU:∀b:Bool,iY (jP r0)=b->aX SB [.bool] 320 [r0] [[aN b]]:=λb h=>lR (by show aN b=aN (iY (jP r0));rw[h]);have e0:iY (jP r0)=(decide (0<=r0.getD 3 0)&&(decide (r0.getD 3 0<=1099511627776)&&(ll (U (r0.getD 0 0)) (U (r0.getD 1 0))&&m8 (U (r0.getD 2 0))))):=rfl;intro z4 _ _ cd;have cd:z4=aN (ll (U (r0.getD 0 0)) (U (r0.getD 1 0))):=cd;have cd:=fH cd;refine⟨λh1 z5 _ _ bJ=>?_,λh1=>aU false (by rw[e0,<-cd,h1];simp)⟩;have bJ:z5=aN (m8 (U (r0.getD 2 0))):=bJ;have bJ:=fH bJ;refine⟨λh2=>⟨λh3=>aU (decide (r0.getD 3 0<=1099511627776)) (by rw[e0,<-cd,<-bJ,h1,h2,h3];simp),λh3=>aU false (by rw[e0,h3];simp)⟩,λh2=>aU false (by rw[e0,<-bJ,h2];simp)⟩
theorem aow:K5 SB (ev SB [.d .bool] 321):=by
 delta K5 aj a8 bQ ck cz dk aH c9 bN bu bI av aV bM;dsimp only
 intro z0 a0 a1 ae _ z2 _ _ z3 b0 b1 h3;have h3:z3=((ab z0).length:Int):=h3;have hlen:=qM z0;have aU:∀b:Bool,h9 (bds z0)=b->ev SB [.d .bool] 321 [[z0]] [[cond b 1 0]]:=λb h=>⟨by cases b<;>exact⟨by decide,by decide,trivial⟩,by show cond b (1:Int) 0=aN (h9 (bds z0));rw[h];rfl⟩;have jY:(¬((bds z0).length<=64/\∀j,j<(bds z0).length->iY ((bds z0).getD j eA)=true/\(0<j->og ((bds z0).getD (j-1) eA).1 ((bds z0).getD j eA).1=true)))->ev SB [.d .bool] 321 [[z0]] [[cond false 1 0]]:=λh=>aU false (by
  cases hr:h9 (bds z0)with
  |false=>rfl
  |true=>exact absurd ((Jm _).1 hr) h)
 refine⟨λh=>jY (λh2=>by have:=of_decide_eq_true h;have:=h2.1;omega),λqc=>?_⟩;have qc:=of_decide_eq_false qc;refine⟨SH z0,SI z0,⟨0,rfl,iI _,λj h=>absurd h (RG j)⟩,?_⟩
 rintro z5 bE c1 ⟨i,e,hi,hI⟩
 obtain rfl:z5=i:=by simpa using e
 refine⟨λhlt=>?_,λeR=>aU true ((Jm _).2 ⟨by omega,λj hj=>hI j (by have:=of_decide_eq_false eR;omega)⟩)⟩;have hlt:=of_decide_eq_true hlt;have dw:i<(ab z0).length:=by omega
 refine⟨⟨by omega,by omega⟩,⟨by omega,by omega⟩,λz6 _ _ h6 z7 _ _ h7 z8 _ _ bS z9 _ _ bb aq _ _ c8=>?_⟩;have hrow:=YF (k:=i) rfl h6 h7 bS bb dw;have c8:aq=aN (iY (jP [z6,z7,z8,z9])):=c8;rw[hrow]at c8;have hd:=fH c8;refine⟨λhb=>jY (λh2=>?_),λhb=>?_⟩
 ·rw[hd,(h2.2 i (by omega)).1]at hb;cases hb
 have aY:iY ((bds z0).getD i eA)=true:=by
  rw[hd]at hb;cases hx:iY ((bds z0).getD i eA)with
  |true=>rfl
  |false=>rw[hx]at hb;cases hb
 refine⟨λhp=>?_,λhp=>?_⟩
 ·have hp:=of_decide_eq_true hp;have mS:(i:Int)+(-1)=((i-1:Nat):Int):=by omega
  refine⟨⟨by omega,by omega⟩,⟨by omega,by omega⟩,λak _ _ dE z12 _ _ dU=>⟨⟨by omega,by omega⟩,⟨by omega,by omega⟩,λaz _ _ dI aC _ _ fs au _ _ ft=>?_⟩⟩;have ft:au=aN (og (ic [ak,z12]) (ic [az,aC])):=ft;rw[Qb (k:=i-1) mS dE dU (by omega),Qb (k:=i) rfl dI fs dw]at ft;have hd:=fH ft;refine⟨λhc=>jY (λh2=>?_),λhc aP d0 d1 d2 d3=>⟨⟨by omega,by omega⟩,⟨i+1,by rw[show((i:Int)+(-18446744073709551616)*aP)+1=((i+1:Nat):Int) by omega],by omega,λj hj=>?_⟩,?_⟩⟩
  ·rw[hd,(h2.2 i (by omega)).2 (by omega)]at hc;cases hc
  ·rcases mC j i with h|h
   ·exact hI j h
   ·obtain rfl:j=i:=by omega
    refine⟨aY,λ_=>?_⟩;rw[hd]at hc;simpa using hc
  ·show(bds z0).length-(((i:Int)+(-18446744073709551616)*aP)+1).toNat<(bds z0).length-((i:Int)).toNat;omega
 ·have hp:=of_decide_eq_false hp;obtain rfl:i=0:=by omega
  refine⟨⟨1,rfl,by omega,λj hj=>?_⟩,?_⟩
  ·obtain rfl:j=0:=by omega
   exact⟨aY,λh=>absurd h (Nat.lt_irrefl 0)⟩
  ·show(bds z0).length-(1:Int).toNat<(bds z0).length-((0:Nat):Int).toNat;omega
end Go.bH
namespace Go.bH
open Go Go.bg
def KN (S:zzS) (K:zzK):Prop:=
 br λz0=>aH 0 [z0] λae=>∃(fG:List (List Int)->Prop) (iX:List (List Int)->Nat),fG [[0]]/\(dk λz3=>fG [[z3]]->(aj (decide (z3<ae))
 (af 1 [z0,z3]/\bF 1 [z0,z3] λz4=>(aj (decide (z4<32)) (K [[z0]] [[(cond (false) 1 0)]]) (af 1 [z0,z3]/\bF 1 [z0,z3] λz5=>(aj (decide (126<
 z5)) (K [[z0]] [[(cond (false) 1 0)]]) (a8 (z3+bM) bI λz6=>af 39 [((z3+(av*z6))+
 1),0,aV]/\(fG [[((z3+(av*z6))+1)]]/\iX [[((z3+(av*z6))+1)]]<iX [[z3]])))))) (K
 [[z0]] [[(cond (true) 1 0)]])))
theorem LJ {b:Bool} (h:(!b)=true):b=false:=by cases b<;>first|rfl|cases h
theorem Tf {b:Bool} (h:(!b)=false):b=true:=by cases b<;>first|rfl|cases h
def abq (z0:Int) (bl:List (List Int)):Prop:=∃i:Nat,bl=[[(i:Int)]]/\i<=(U z0).length/\vX ((U z0).take i)=true
def abr (z0:Int) (bl:List (List Int)):Nat:=(U z0).length-((bl.getD 0 []).getD 0 0).toNat
theorem aoN {t:ax} {i:Nat} (h:i<t.length):t.getD i 0∈t:=by simp[aB,h]
theorem an1:KN SB (aX SB [.bool] 400):=by
 delta KN aj a8 dk aH br bF bI av aV bM;dsimp only
 intro z0 a0 a1 ae _ c1 h1;have h1:ae=((U z0).length:Int):=h1;have aU:∀b:Bool,vX (U z0)=b->aX SB [.bool] 400 [[z0]] [[aN b]]:=λb h=>lR (by show aN b=aN (vX (U z0));rw[h]);have jY:∀i,i<(U z0).length->(((U z0).getD i 0).toNat<32∨126<((U z0).getD i 0).toNat)->aX SB [.bool] 400 [[z0]] [[cond false 1 0]]:=λi hi h=>aU false (by
  cases hp:vX (U z0)with
  |false=>rfl
  |true=>
   have:=List.all_eq_true.1 hp _ (aoN hi);simp only[aO,pP]at this;omega)
 refine⟨abq z0,abr z0,⟨0,rfl,iI _,rfl⟩,?_⟩
 rintro z3 d0 d1 ⟨i,e,hi,hI⟩
 obtain rfl:z3=i:=by simpa using e
 refine⟨λhlt=>?_,λeR=>aU true ?_⟩
 ·have hlt:=of_decide_eq_true hlt;have dw:i<(U z0).length:=by omega
  have hg:∀z:Int,z=aw 1 [z0,(i:Int)]->z=(((U z0).getD i 0).toNat:Int):=λz h=>by
   rw[h];simp only[aw,eZ]
  refine⟨⟨by omega,by omega⟩,λz4 _ _ h4=>⟨λhc=>jY i dw (.inl ?_),λhc=>⟨⟨by omega,by omega⟩,λz5 _ _ h5=>⟨λhd=>jY i dw (.inr ?_),λhd z6 x0 x1 x2 x3=>?_⟩⟩⟩⟩
  ·have:=hg z4 h4;have:=of_decide_eq_true hc;omega
  ·have:=hg z5 h5;have:=of_decide_eq_true hd;omega
  ·have fr:=hg z4 h4;have oP:=hg z5 h5
   have hc:=of_decide_eq_false hc;have hd:=of_decide_eq_false hd
   refine⟨⟨by omega,by omega⟩,⟨i+1,by rw[show((i:Int)+(-18446744073709551616)*z6)+1=((i+1:Nat):Int) by omega],by omega,?_⟩,?_⟩
   ·unfold vX at hI⊢;rw[Fv _ _ dw,List.all_append,hI];simp only[J3,List.all_nil,aan,wD,aO,pP];omega
   ·show(U z0).length-(((i:Int)+(-18446744073709551616)*z6)+1).toNat<(U z0).length-((i:Int)).toNat;omega
 ·have:=of_decide_eq_false eR
  rwa [ky (by omega)]at hI
end Go.bH
namespace Go.bH
open Go Go.bg
def RS (S:zzS) (K:zzK):Prop:=
 br λz0=>b5 4 [33,z0] λae=>(aj (decide (ae=1)) (K [[z0]] [[(cond (true) 1 0)]]) (qt λz2=>S 73 [[z0],[32]] [[z2]]->K [[z0]] [[(cond (decide (0
 <=z2)) 1 0)]]))
theorem ans:RS SB (aX SB [.bool] 501):=by
 intro z0 a0 a1 ae b0 b1 hz1;simp only[aw]at hz1;refine⟨λh=>⟨⟨by decide,by decide,trivial⟩,?_⟩,λh z2 bE c1 h2=>⟨⟨(oK _).1,(oK _).2,trivial⟩,?_⟩⟩
 ·have:U z0=[32]:=by
   have e:U 33=[32]:=by decide
   rw[e]at hz1;by_cases h':[32]=U z0
   ·exact h'.symm
   ·rw[if_neg h']at hz1;subst hz1;simp at h
  show(1:Int)=aN ((U z0).contains 32);rw[this];rfl
 ·have h2:z2=idx 32 (U z0):=h2;show(cond (decide (0<=z2)) 1 0:Int)=aN ((U z0).contains 32);rw[h2,Ii (by decide) (by decide)];rfl
theorem whole {z y n:Int} (hn:n=((ab z).length:Int)) (h:y=aw 22 [z,0,n]):ab y=ab z:=by
 rw[h];simp only[aw,dv,hn];rw[show((0:Int)).toNat=0 by rfl,J1,ky (by omega)]
theorem pM (z:Int):(bn z).length=(ab z).length:=by simp[bn]
theorem yO {z:Int} {i:Nat} (h:i<(ab z).length):(bn z).getD i []=U (((ab z).getD i []).getD 0 0):=by simp[bn,aB,h]
def Lr (z0:Int) (bl:List (List Int)):Nat:=(ab z0).length-((bl.getD 0 []).getD 0 0).toNat
end Go.bH
namespace Go.bH
open Go Go.bg
def KC (S:zzS) (K:zzK):Prop:=
 ∀r0:List Int,bd [(4,4),(0,0),(0,bx),(0,0),(0,0)] r0->(af 89 [(aB r0 0 0),(aB r0 1 0),(aB r0 2 0),(aB r0 3 0),(aB r0 4
 0)]->b5 4 [(aB r0 2 0),0] λz5=>bt 27 [(aB r0 2 0)] λz6=>aH 0 [(aB r0 2 0)] λz7=>bQ (-2) aV λz8=>
 af 22 [z6,0,z7]/\bt 22 [z6,0,z7] λz9=>af 86 [z9]/\bu λaq=>S 640 [[z9]] [[aq]]->K [r0] [[(cond (decide (aq=1)) 1 0)]])
def KB (S:zzS) (K:zzK):Prop:=
 c9 λz0=>c9 λae=>(af 88 [z0,ae]->cz λz2=>bQ (-2) aV λz3=>aH 20 [z0] λz4=>cz λz5=>bQ (-2) aV
 λz6=>aH 20 [ae] λz7=>(aj (decide (z4=0)) ((aj ((!(decide (z4=z7)))) (K [[z0],[ae]] [[(cond (false) 1 0)]]) (∃(ej:List (List Int)->Prop) (fp:
 List (List Int)->Nat),ej [[0]]/\(dk λz9=>ej [[z9]]->(aj (decide (z9<z4)) (af 30 [z9,z4]/\af 21 [z0,z9]/\bN 21 [z0,z9,0] λaq=>bt 27
 [aq] λak=>aH 0 [aq] λz12=>bQ (-2) aV λaz=>af 22 [ak,0,z12]/\bt 22 [ak,0,z12] λaC=>af 86 [aC]/\bu λau
 =>S 640 [[aC]] [[au]]->(aj ((!(decide (au=1)))) (K [[z0],[ae]] [[(cond (false) 1 0)]]) ((aj (decide (0<z9)) (af 30 [(z9+(-1)),z4]/\af 21
 [z0,(z9+(-1))]/\bN 21 [z0,(z9+(-1)),0] λaP=>b5 5 [aP,aq] λbw=>(aj ((!(decide (bw=1)))) (K [[z0],[ae]] [[(cond (false) 1 0)]]) (a8 (z9+
 bM) bI λaE=>af 39 [((z9+(av*aE))+1),0,aV]/\(ej [[((z9+
 (av*aE))+1)]]/\fp [[((z9+(av*aE))+1)]]<fp [[z9]])))) ((ej [[1]]/\fp [[1]]<fp [[z9]])))))) (∃(lv:
 List (List Int)->Prop) (pb:List (List Int)->Nat),lv [[0]]/\(dk λak=>lv [[ak]]->(aj (decide (ak<z7)) (af 30 [ak,z7]/\af 21 [ae,ak]
 /\ck 4 4 21 [ae,ak,0] λz12=>ck 0 0 21 [ae,ak,1] λaz=>bN 21 [ae,ak,2] λaC=>b5 4 [aC,0] λau=>bt 27 [aC] λaP=>aH 0 [aC]
 λbw=>bQ (-2) aV λaE=>af 22 [aP,0,bw]/\bt 22 [aP,0,bw] λcA=>af 86 [cA]/\bu λz20=>S 640 [[cA]] [[z20]]->
 (aj ((!(decide (z20=1)))) (K [[z0],[ae]] [[(cond (false) 1 0)]]) (a8 (ak+bM) bI λz21=>af 39 [((ak+
 (av*z21))+1),0,aV]/\(lv [[((ak+(av*z21))+1)]]/\pb [[((ak+(av
 *z21))+1)]]<pb [[ak]])))) (K [[z0],[ae]] [[(cond (true) 1 0)]]))))))))) ((aj ((!(decide (z4=z7)))) (K [[z0],[ae]] [[(cond (false) 1 0)]]) (∃(ej:List
 (List Int)->Prop) (fp:List (List Int)->Nat),ej [[0]]/\(dk λz9=>ej [[z9]]->(aj (decide (z9<z4)) (af 30 [z9,z4]/\af 21 [z0,z9]/\bN 21
 [z0,z9,0] λaq=>bt 27 [aq] λak=>aH 0 [aq] λz12=>bQ (-2) aV λaz=>af 22 [ak,0,z12]/\bt 22 [ak,0,z12] λaC=>
 af 86 [aC]/\bu λau=>S 640 [[aC]] [[au]]->(aj ((!(decide (au=1)))) (K [[z0],[ae]] [[(cond (false) 1 0)]]) ((aj (decide (0<z9)) (af 30 [(z9+
 (-1)),z4]/\af 21 [z0,(z9+(-1))]/\bN 21 [z0,(z9+(-1)),0] λaP=>b5 5 [aP,aq] λbw=>(aj ((!(decide (bw=1)))) (K [[z0],[ae]] [[(cond
 (false) 1 0)]]) (a8 (z9+bM) bI λaE=>af 39 [((z9+(av*aE))+1),0,aV]/\
 (ej [[((z9+(av*aE))+1)]]/\fp [[((z9+(av*aE))+1)]]<fp [[z9]])))) ((ej [[1]]/\fp [[1]]<fp
 [[z9]])))))) (∃(lv:List (List Int)->Prop) (pb:List (List Int)->Nat),lv [[0]]/\(dk λak=>lv [[ak]]->(aj (decide (ak<z7)) (af 30
 [ak,z7]/\af 21 [ae,ak]/\ck 4 4 21 [ae,ak,0] λz12=>ck 0 0 21 [ae,ak,1] λaz=>bN 21 [ae,ak,2] λaC=>b5 4 [aC,0] λau=>bt 27
 [aC] λaP=>aH 0 [aC] λbw=>bQ (-2) aV λaE=>af 22 [aP,0,bw]/\bt 22 [aP,0,bw] λcA=>af 86 [cA]/\bu λz20
 =>S 640 [[cA]] [[z20]]->(aj ((!(decide (z20=1)))) (K [[z0],[ae]] [[(cond (false) 1 0)]]) (a8 (ak+bM) bI λz21=>
 af 39 [((ak+(av*z21))+1),0,aV]/\(lv [[((ak+(av*z21))+1)]]/\pb [[((ak+
 (av*z21))+1)]]<pb [[ak]])))) (K [[z0],[ae]] [[(cond (true) 1 0)]])))))))))))
theorem both {a p q:Prop} (h:a):(p->a)/\(q->a):=⟨λ_=>h,λ_=>h⟩
theorem GL {s x n:Int} (ha:kD s) (hx:x=aw 27 [s]) (hn:n=aw 0 [s]):(0<=(0:Int)/\0<=n/\n<=((ab x).length:Int))/\∀y,y=aw 22 [x,0,n]->af 86 [y]:=by
 have h1:ab x=(U s).map λb=>[(b.toNat:Int)]:=by rw[hx];exact dv _
 have h2:n=((ab x).length:Int):=by rw[hn,h1,List.length_map];rfl
 refine⟨⟨bD _,by omega,by omega⟩,λy hy=>?_⟩;show ∀row∈ab y,row.getD 0 0<128;rw[whole h2 hy,h1];intro row hr;obtain⟨b,hb,rfl⟩:=List.mem_map.1 hr;have:=UInt8.lt_iff_toNat_lt.1 (ha b hb);show(b.toNat:Int)<128;simp at this;omega
theorem anJ:KC SB (ev SB [.d .bool] 677):=by
 delta KC bQ aH bt bu b5 aV;dsimp only
 intro r0 h0 ha z5 _ _ _ z6 _ _ h6 z7 _ _ h7 z8 _ _;have ha:kD (aB r0 2 0):=ha;obtain⟨g1,g2⟩:=GL ha h6 h7;refine⟨g1,λz9 _ _ bb=>⟨g2 z9 bb,λaq _ _ c8=>?_⟩⟩;have c8:aq=1:=c8;rw[c8];exact⟨⟨by decide,by decide,trivial⟩,rfl⟩
def Sp (z0:Int) (bl:List (List Int)):Prop:=∃i:Nat,bl=[[(i:Int)]]/\i<=(ab z0).length
theorem aec {a b:Int} (h:me a b) {i:Nat} (hi:i<(ab a).length):kD (((ab a).getD i []).getD 0 0):=by
 refine h.2.2.1 _ ?_;simp[aB,hi]
theorem aed {a b:Int} (h:me a b) {i:Nat} (hi:i<(ab b).length):kD (((ab b).getD i []).getD 2 0):=by
 refine h.2.2.2.1 _ ?_;simp[aB,hi]
theorem anI:KB SB (ev SB [.d .bool] 642):=by
 delta KB aj a8 bQ ck cz dk aH c9 bt bN bu b5 bI av aV bM;dsimp only
 intro z0 a0 a1 ae b0 b1 h z2 _ z3 _ _ z4 _ c1 h4 z5 _ z6 _ _ z7 _ d1 h7;have h:me z0 ae:=h;have h4:z4=((ab z0).length:Int):=h4;have h7:z7=((ab ae).length:Int):=h7;have hl:(ab z0).length=(ab ae).length:=h.1;have uh:ev SB [.d .bool] 642 [[z0],[ae]] [[cond true 1 0]]:=⟨⟨by decide,by decide,trivial⟩,rfl⟩;have V3:∀{x y:Int},SB 640 [[x]] [[y]]->y=1:=λh=>h;refine both ⟨λhe=>?_,λ_=>?_⟩
 ·have he:=of_decide_eq_false (LJ he);omega
 refine⟨Sp z0,Lr z0,⟨0,rfl,iI _⟩,?_⟩
 rintro z9 e0 e1 ⟨i,e,hi⟩
 obtain rfl:z9=i:=by simpa using e
 refine⟨λhlt=>?_,λ_=>?_⟩
 ·have hlt:=of_decide_eq_true hlt;have dw:i<(ab z0).length:=by omega
  refine⟨⟨by omega,by omega⟩,⟨by omega,by omega⟩,λaq _ _ c8 ak _ _ dE z12 _ _ dU az _ _=>?_⟩;have Hf:aq=((ab z0).getD i []).getD 0 0:=by rw[c8];simp only[aw,eZ];rfl
  have ha:kD aq:=by rw[Hf];exact aec h dw
  obtain⟨g1,g2⟩:=GL ha dE dU;refine⟨g1,λaC _ _ fs=>⟨g2 aC fs,λau _ _ ft=>⟨λhq=>?_,λ_=>⟨λhp=>?_,λhp=>?_⟩⟩⟩⟩
  ·rw[V3 ft]at hq;cases hq
  ·have hp:=of_decide_eq_true hp;have mS:(i:Int)+(-1)=((i-1:Nat):Int):=by omega
   refine⟨⟨by omega,by omega⟩,⟨by omega,by omega⟩,λaP _ _ lH bw _ _ kI=>⟨λhq=>?_,λ_ aE x0 x1 x2 x3=>⟨⟨by omega,by omega⟩,⟨i+1,by rw[show(i:Int)+(-18446744073709551616)*aE+1=((i+1:Nat):Int) by omega],by omega⟩,?_⟩⟩⟩
   ·rw[mS]at lH;have Mi:aP=((ab z0).getD (i-1) []).getD 0 0:=by rw[lH];simp only[aw,eZ];rfl
    have hr:=h.2.2.2.2 (i-1) i (by omega) dw;rw[<-Mi,<-Hf]at hr;have kI:bw=if dz (U aP) (U aq)=true then 1 else 0:=kI
    rw[if_pos hr]at kI;rw[kI]at hq;cases hq
   ·show(ab z0).length-((i:Int)+(-18446744073709551616)*aE+1).toNat<(ab z0).length-((i:Int)).toNat;omega
  ·have hp:=of_decide_eq_false hp;obtain rfl:i=0:=by omega
   refine⟨⟨1,rfl,by omega⟩,?_⟩;show(ab z0).length-(1:Int).toNat<(ab z0).length-((0:Nat):Int).toNat;omega
 refine⟨Sp ae,Lr ae,⟨0,rfl,iI _⟩,?_⟩
 rintro ak e0 e1 ⟨i,e,hi⟩
 obtain rfl:ak=i:=by simpa using e
 refine⟨λhlt=>?_,λ_=>uh⟩;have hlt:=of_decide_eq_true hlt;have dw:i<(ab ae).length:=by omega
 refine⟨⟨by omega,by omega⟩,⟨by omega,by omega⟩,λz12 _ _ _ az _ _ _ aC _ _ fs au _ _ _ aP _ _ lH bw _ _ kI aE _ _=>?_⟩;have qP:aC=((ab ae).getD i []).getD 2 0:=by rw[fs];simp only[aw,eZ];rfl
 have ha:kD aC:=by rw[qP];exact aed h dw
 obtain⟨g1,g2⟩:=GL ha lH kI;refine⟨g1,λcA _ _ xn=>⟨g2 cA xn,λz20 _ _ zY=>⟨λhq=>?_,λ_ z21 x0 x1 x2 x3=>⟨⟨by omega,by omega⟩,⟨i+1,by rw[show(i:Int)+(-18446744073709551616)*z21+1=((i+1:Nat):Int) by omega],by omega⟩,?_⟩⟩⟩⟩
 ·rw[V3 zY]at hq;cases hq
 ·show(ab ae).length-((i:Int)+(-18446744073709551616)*z21+1).toNat<(ab ae).length-((i:Int)).toNat;omega
end Go.bH
namespace Go.bH
open Go Go.bg
def Ku (S:zzS) (K:zzK):Prop:=
 c9 λz0=>(af 66 [z0]->cz λae=>bQ (-2) aV λz2=>aH 20 [z0] λz3=>(af 53 [z2,z3]->(aj (decide (z2=(-1))) (K [[z0]]
 [[0]]) (af 22 [z0,0,z3]/\af 23 [0,z3]/\bt 22 [z0,0,z3] λz4=>bt 24 [0,z4] λz5=>(aj (decide (z3<=0)) (K [[z0]] [[0]]) (bQ (-2)
 aV λz6=>af 22 [z5,0,z3]/\bt 22 [z5,0,z3] λz7=>K [[z0]] [[z7]]))))))
def Kv (S:zzS) (K:zzK):Prop:=
 c9 λz0=>(af 66 [z0]->cz λae=>bQ (-2) aV λz2=>aH 20 [z0] λz3=>(af 53 [z2,z3]->(aj (decide (z2=(-1))) (K [[z0]]
 [[0]]) (af 22 [z0,0,z3]/\af 23 [0,z3]/\bt 22 [z0,0,z3] λz4=>bt 24 [0,z4] λz5=>(aj (decide (z3<=0)) (K [[z0]] [[0]]) (bQ (-2)
 aV λz6=>af 22 [z5,0,z3]/\bt 22 [z5,0,z3] λz7=>K [[z0]] [[z7]]))))))
def KK (S:zzS) (K:zzK):Prop:=
 br λz0=>b5 4 [z0,0] λae=>(aj ((!(decide (ae=1)))) (aH 0 [z0] λz2=>(aj (decide (z2<=64)) (bu λz3=>S 400 [[z0]] [[z3]]->(aj (decide (z3
 =1)) (bu λz4=>S 501 [[z0]] [[z4]]->K [[z0]] [[(cond ((!(decide (z4=1)))) 1 0)]]) (K [[z0]] [[(cond (false) 1 0)]]))) (K [[z0]] [[(cond (false) 1
 0)]]))) (K [[z0]] [[(cond (false) 1 0)]]))
def KE (S:zzS) (K:zzK):Prop:=
 c9 λz0=>br λae=>cz λz2=>bQ (-2) aV λz3=>aH 20 [z0] λz4=>∃(dn:List (List Int)->Prop) (cT:List (List Int)->
 Nat),dn [[0],[z4]]/\(dk λz6=>dk λz7=>dn [[z6],[z7]]->(aj (decide (z6<z7)) (a8 ((z6+z7)+9223372036854775808) bI λz8=>fb
 (-1) 0 (z6+(z7+(av*z8))) bI λz9=>fb 0 aV (z6+(z7+((av*z8)+
 (av*z9)))) 2 λaq=>af 30 [aq,z4]/\af 21 [z0,aq]/\bN 21 [z0,aq,0] λak=>b5 4 [ak,ak] λz12=>(aj ((!(decide
 (z12=1)))) (b5 4 [ae,ae] λaz=>(aj (decide (az=1)) (a8 (aq+bM) bI λaC=>af 39 [((aq+
 (av*aC))+1),0,aV]/\(dn [[((aq+(av*aC))+1)],[z7]]/\cT [[((aq+
 (av*aC))+1)],[z7]]<cT [[z6],[z7]])) (b5 5 [ak,ae] λaC=>(aj (decide (aC=1)) (a8 (aq+bM)
 bI λau=>af 39 [((aq+(av*au))+1),0,aV]/\(dn [[((aq+(av*au))+
 1)],[z7]]/\cT [[((aq+(av*au))+1)],[z7]]<cT [[z6],[z7]])) ((dn [[z6],[aq]]/\cT [[z6],[aq]]<cT [[z6],[z7]])))))) (b5 5
 [ak,ae] λaz=>(aj (decide (az=1)) (a8 (aq+bM) bI λaC=>af 39 [((aq+(av*aC))+
 1),0,aV]/\(dn [[((aq+(av*aC))+1)],[z7]]/\cT [[((aq+(av*aC))+1)],[z7]]<cT
 [[z6],[z7]])) ((dn [[z6],[aq]]/\cT [[z6],[aq]]<cT [[z6],[z7]])))))) ((aj (decide (z6<z4)) (af 30 [z6,z4]/\af 21 [z0,z6]/\bN 21 [z0,z6,0] λz8
 =>b5 4 [z8,ae] λz9=>(aj (decide (z9=1)) (K [[z0],[ae]] [[z6],[(cond (true) 1 0)]]) (af 30 [z6,z4]/\af 21 [z0,z6]/\bN 21 [z0,z6,0] λaq=>
 b5 4 [aq,aq] λak=>(aj ((!(decide (ak=1)))) (b5 4 [ae,ae] λz12=>K [[z0],[ae]] [[z6],[(cond ((!(decide (z12=1)))) 1 0)]]) (K [[z0],[ae]]
 [[z6],[(cond (false) 1 0)]]))))) (K [[z0],[ae]] [[z6],[(cond (false) 1 0)]])))))
theorem Yw {z:Int} (h:(ab z).length=0):ab z=[]:=List.eq_nil_of_length_eq_zero h
theorem anr:Ku SB (ev SB [I4] 683):=by
 delta Ku aj bQ cz aH c9 bt aV;dsimp only
 intro z0 a0 a1 hp ae b1 z2 bE c1 z3 d0 d1 h3 hn;have h3:z3=((ab z0).length:Int):=h3;have hl:(ab z0).length<=1000000:=hp;have hn:z2<0->z3=0:=hn;have fin:∀z,0<=z->z<=ch->ab z=ab z0->ev SB [I4] 683 [[z0]] [[z]]:=λz h1 h2 h=>⟨⟨h1,h2,trivial⟩,h⟩;have e0:z3<=0->ev SB [I4] 683 [[z0]] [[0]]:=λh=>fin 0 (bD _) rU (by rw[fN,Yw (z:=z0) (by omega)]);refine⟨λh=>e0 (by have h:=of_decide_eq_true h;have:=hn (by omega);omega),λh=>⟨⟨bD _,by omega,by rw[h3];exact bD _⟩,by show(ab 0).length+z3<=1073741824;rw[fN];simp only[eF];omega,λz4 f0 f1 h4 z5 g0 g1 h5=>?_⟩⟩;have h4:=whole h3 h4;have h5:ab z5=ab z0:=by
  rw[h5];show ab (rc (ab 0++ab z4))=_
  rw[dv,fN,h4];rfl
 refine⟨λh=>e0 (of_decide_eq_true h),λh z6 i0 i1=>⟨⟨bD _,by omega,by rw[h3,h5];exact bD _⟩,λz7 fU c0 h7=>fin z7 fU c0 ?_⟩⟩;rw[whole (by rw[h5];exact h3) h7,h5]
theorem anv:Kv SB (ev SB [IY] 684):=by
 delta Kv aj bQ cz aH c9 bt aV;dsimp only
 intro z0 a0 a1 hp ae b1 z2 bE c1 z3 d0 d1 h3 hn;have h3:z3=((ab z0).length:Int):=h3;have hl:(ab z0).length<=1000000:=hp;have hn:z2<0->z3=0:=hn;have fin:∀z,0<=z->z<=ch->ab z=ab z0->ev SB [IY] 684 [[z0]] [[z]]:=λz h1 h2 h=>⟨⟨h1,h2,trivial⟩,h⟩;have e0:z3<=0->ev SB [IY] 684 [[z0]] [[0]]:=λh=>fin 0 (bD _) rU (by rw[fN,Yw (z:=z0) (by omega)]);refine⟨λh=>e0 (by have h:=of_decide_eq_true h;have:=hn (by omega);omega),λh=>⟨⟨bD _,by omega,by rw[h3];exact bD _⟩,by show(ab 0).length+z3<=1073741824;rw[fN];simp only[eF];omega,λz4 f0 f1 h4 z5 g0 g1 h5=>?_⟩⟩;have h4:=whole h3 h4;have h5:ab z5=ab z0:=by
  rw[h5];show ab (rc (ab 0++ab z4))=_
  rw[dv,fN,h4];rfl
 refine⟨λh=>e0 (of_decide_eq_true h),λh z6 i0 i1=>⟨⟨bD _,by omega,by rw[h3,h5];exact bD _⟩,λz7 fU c0 h7=>fin z7 fU c0 ?_⟩⟩;rw[whole (by rw[h5];exact h3) h7,h5]
theorem anU:KK SB (aX SB [.bool] 670):=by
 delta KK aj aH br bu b5;dsimp only
 intro z0 n0 n1 ae _ _ h1;have h1:=gZ h1;have H4:U (0:Int)=[]:=rfl;have aU:∀b:Bool,jo (U z0)=b->aX SB [.bool] 670 [[z0]] [[cond b 1 0]]:=λb h=>⟨by cases b<;>exact⟨by decide,by decide,trivial⟩,by show cond b (1:Int) 0=aN (jo (U z0));rw[h];rfl⟩;have he:decide (ae=1)=(U z0).isEmpty:=by
  rw[h1,H4];cases hz:U z0<;>simp
 refine⟨λhq z2 _ _ h2=>?_,λhq=>aU false ?_⟩
 ·have hq:(U z0).isEmpty=false:=by rw[<-he];exact LJ hq
  have h2:z2=((U z0).length:Int):=h2;refine⟨λhl z3 _ _ h3=>?_,λhl=>aU false ?_⟩
  ·have hl:=of_decide_eq_true hl;have h3:=fH (show z3=aN (vX (U z0)) from h3);refine⟨λhp z4 _ _ h4=>aU _ ?_,λhp=>aU false ?_⟩
   ·have h4:=fH (show z4=aN ((U z0).contains 32) from h4);unfold jo;rw[hq,<-h3,hp,h4,Nat.ble_eq_true_of_le (by omega)];rfl
   ·unfold jo;rw[<-h3,hp];simp
  ·have hl:=of_decide_eq_false hl;unfold jo;rw[show bC (U z0).length 64=false from by rw[Bool.eq_false_iff];intro h;have:=eE h;omega];simp
 ·have hq:(U z0).isEmpty=true:=by rw[<-he];exact Tf hq
  unfold jo;rw[hq];rfl
def abt (z0:Int) (t:ax) (bl:List (List Int)):Prop:=∃lo hi:Nat,bl=[[(lo:Int)],[(hi:Int)]]/\lo<=hi/\hi<=(bn z0).length/\((bn z0).Pairwise (λa b=>dz a b=true)->(∀j:Nat,j<lo->dz ((bn z0).getD j []) t=true)/\∀j:Nat,hi<=j->j<(bn z0).length->dz ((bn z0).getD j []) t=false)
def abu (bl:List (List Int)):Nat:=((bl.getD 1 []).getD 0 0).toNat-((bl.getD 0 []).getD 0 0).toNat
theorem PI {l:List ax} (h:l.Pairwise (λa b=>dz a b=true)) {j k:Nat} (py:j<k) (hk:k<l.length):dz (l.getD j []) (l.getD k [])=true:=by
 have:=List.pairwise_iff_getElem.1 h j k (by omega) hk py;simpa [aB,show j<l.length by omega,hk]using this
theorem eq_self {z a:Int} (h:z=aw 4 [a,a]):z=1:=by
 rw[h];show(if U a=U a then(1:Int)else 0)=1
 rw[if_pos rfl]
theorem ajJ {z a b:Int} (h:z=aw 5 [a,b]):decide (z=1)=dz (U a) (U b):=by
 rw[h];show decide ((if dz (U a) (U b)=true then(1:Int)else 0)=1)=_
 cases dz (U a) (U b)<;>rfl
theorem anL:KE SB (ev SB [.d (.int .i64 0 9223372036854775807),.d .bool] 671):=by
 delta KE aj a8 fb bQ cz dk aH c9 br bN b5 bI av aV bM;dsimp only
 intro z0 a0 a1 ae n0 n1 z2 _ z3 _ _ z4 b0 b1 h4;have h4:z4=((ab z0).length:Int):=h4;have hlen:=pM z0;have Yz:∀{z i:Int} {k:Nat},i=(k:Int)->k<(ab z0).length->z=aw 21 [z0,i,0]->U z=(bn z0).getD k []:=λhi hk h=>by
  rw[yO hk,h,hi];rfl
 generalize ht:U ae=t;refine⟨abt z0 t,abu,⟨0,(ab z0).length,by rw[h4];rfl,iI _,by omega,λ_=>⟨λj h=>absurd h (RG j),λj h h2=>by omega⟩⟩,?_⟩
 rintro z6 bE c1 z7 d0 d1 ⟨lo,hi,e,awX,ag2,hI⟩
 obtain⟨rfl,rfl⟩:z6=lo/\z7=hi:=by simpa using e
 refine⟨λhlt z8 e0 e1 e2 e3 z9 f0 f1 f2 f3 aq g0 g1 g2 g3=>?_,λeR=>?_⟩
 ·have hlt:=of_decide_eq_true hlt;have aw6:z8+z9=0:=by omega
  have dE:aq=(((lo+hi)/2:Nat):Int):=by omega
  generalize hk:(lo+hi)/2=k at dE;have iv:lo<=k:=by omega
  have hk2:k<hi:=by omega
  subst dE;have tV:k<(ab z0).length:=by omega
  have iw:k<(bn z0).length:=by omega
  refine⟨⟨by omega,by omega⟩,⟨by omega,by omega⟩,λak _ _ dE z12 _ _ dU=>?_⟩;have dU:=eq_self dU;refine⟨λhn=>(by rw[dU]at hn;cases hn),λ_ az _ _ dI=>?_⟩;have dI:=ajJ dI;rw[Yz (k:=k) rfl tV dE,ht]at dI;refine⟨λhn aE i0 i1 i2 i3=>⟨⟨by omega,by omega⟩,⟨k+1,hi,by rw[show((k:Int)+(-18446744073709551616)*aE)+1=((k+1:Nat):Int) by omega],by omega,ag2,λhr=>⟨λj hj=>?_,(hI hr).2⟩⟩,?_⟩,λhn=>⟨⟨lo,k,rfl,iv,by omega,λhr=>⟨(hI hr).1,λj hj hl=>?_⟩⟩,?_⟩⟩
  ·have hb:dz ((bn z0).getD k []) t=true:=by rw[<-dI];exact hn
   rcases mC j k with h|h
   ·exact EL _ _ _ (PI hr h iw) hb
   ·rw[show j=k by omega];exact hb
  ·show((hi:Int)).toNat-(((k:Int)+(-18446744073709551616)*aE)+1).toNat<((hi:Int)).toNat-((lo:Int)).toNat;omega
  ·have hb:dz ((bn z0).getD k []) t=false:=by rw[<-dI];exact hn
   rcases mC k j with h|h
   ·cases kl:dz ((bn z0).getD j []) t with
    |false=>rfl
    |true=>rw[EL _ _ _ (PI hr h hl) kl]at hb;cases hb
   ·rw[show j=k by omega];exact hb
  ·show((k:Int)).toNat-((lo:Int)).toNat<((hi:Int)).toNat-((lo:Int)).toNat;omega
 ·have eR:=of_decide_eq_false eR;have ah:hi=lo:=by omega
  subst ah;have aU:∀f:Bool,(f=true↔hi<(bn z0).length/\(bn z0).getD hi []=t)->ev SB [.d (.int .i64 0 9223372036854775807),.d .bool] 671 [[z0],[ae]] [[(hi:Int)],[cond f 1 0]]:=λf hf=>by
   refine⟨⟨by omega,c1,by cases f<;>decide,by cases f<;>decide,trivial⟩,?_⟩;show Gy (bn z0) (U ae) (hi:Int) (cond f 1 0);rw[ht];refine⟨⟨by omega,by omega⟩,λh=>?_,λhr=>⟨λj hj=>(hI hr).1 j (by omega),λj h1 h2=>(hI hr).2 j (by omega) h2,?_⟩⟩
   ·have:f=true:=by cases f with|true=>rfl|false=>cases h
    have:=(hf.1 this).1;omega
   ·rw[eZ];cases f with
    |true=>exact⟨λ_=>⟨by have:=(hf.1 rfl).1;omega,(hf.1 rfl).2⟩,λ_=>rfl⟩
    |false=>exact⟨λh=>(by cases h),λh=>(by have:=hf.2 ⟨by omega,h.2⟩;cases this)⟩
  refine⟨λhl=>?_,λhl=>?_⟩
  ·have hl:=of_decide_eq_true hl;have tV:hi<(ab z0).length:=by omega
   refine⟨⟨by omega,by omega⟩,⟨by omega,by omega⟩,λz8 _ _ bS z9 _ _ bb=>?_⟩;have bb:=gZ bb;rw[Yz (k:=hi) rfl tV bS,ht]at bb;refine⟨λhn=>aU true ⟨λ_=>⟨by omega,?_⟩,λ_=>rfl⟩,λhn=>⟨⟨by omega,by omega⟩,⟨by omega,by omega⟩,λaq _ _ _ ak _ _ dE=>⟨λhq=>(by rw[eq_self dE]at hq;cases hq),λ_=>aU false ⟨λh=>(by cases h),λh=>?_⟩⟩⟩⟩
   ·rw[bb]at hn;exact of_decide_eq_true hn
   ·rw[bb]at hn;exact absurd h.2 (of_decide_eq_false hn)
  ·have hl:=of_decide_eq_false hl;exact aU false ⟨λh=>(by cases h),λh=>(by omega)⟩
end Go.bH
namespace Go.bH
open Go Go.bg
theorem QM:∀(l m:List ax) (j:Nat),(l.zip m).take j=(l.take j).zip (m.take j)
 |[],_,j=>by cases j<;>simp
 |_::_,[],j=>by cases j<;>simp
 |x::l,y::m,0=>rfl
 |x::l,y::m,j+1=>by simp[QM l m j]
theorem TY:∀(l m:List ax) (j:Nat),(l.zip m).drop j=(l.drop j).zip (m.drop j)
 |[],_,j=>by cases j<;>simp
 |_::_,[],j=>by cases j<;>simp
 |x::l,y::m,0=>rfl
 |x::l,y::m,j+1=>by simp[TY l m j]
abbrev EN:ax->ax->Prop:=λa b=>dz a b=true
def iL (t:ax):Prop:=∀b∈t,b<128
theorem aq3 (z:Int):(gx z).length=(ab z).length:=by simp[gx]
theorem MB {a b:Int}:me a b↔(bn a).length=(gx b).length/\(bn a).length<=1000000/\(∀t∈bn a,iL t)/\(∀t∈gx b,iL t)/\(bn a).Pairwise EN:=by
 unfold me;rw[pM,aq3];refine and_congr_right λ_=>and_congr_right λ_=>and_congr ?_ (and_congr ?_ ?_)
 ·unfold bn;constructor
  ·intro h t ht;obtain⟨row,hr,rfl⟩:=List.mem_map.1 ht;exact h row hr
  ·intro h row hr;exact h _ (List.mem_map.2 ⟨row,hr,rfl⟩)
 ·unfold gx;constructor
  ·intro h t ht;obtain⟨row,hr,rfl⟩:=List.mem_map.1 ht;exact h row hr
  ·intro h row hr;exact h _ (List.mem_map.2 ⟨row,hr,rfl⟩)
 ·rw[List.pairwise_iff_getElem];constructor
  ·intro h i j hi hj tU;have:=h i j tU (by rw[<-pM];exact hj);rw[<-yO (by rw[<-pM];exact hi),<-yO (by rw[<-pM];exact hj)]at this;simpa [aB,hi,hj]using this
  ·intro h i j tU hj;have hj':j<(bn a).length:=by rw[pM];exact hj
   have nv:i<(bn a).length:=by omega
   have:=h i j nv hj' tU;rw[<-yO (by omega),<-yO hj];simpa [aB,nv,hj']using this
theorem Un:∀(l m:List ax) (s:ax),l.length=m.length->(l.findIdx? λx=>decide (x=s)).map (λi=>m.getD i [])=((l.zip m).find? λp=>decide (p.1=s)).map (·.2)
 |[],[],s,_=>rfl
 |x::l,y::m,s,h=>by
  have ih:=Un l m s (by simpa using h);rw[List.findIdx?_cons,List.zip_cons_cons,zc];cases hd:decide (x=s)with
  |true=>simp
  |false=>
   simp only[Bool.false_eq_true,if_false,Option.map_map];rw[<-ih]
   congr 1
 |[],_::_,_,h=>by cases h
 |_::_,[],_,h=>by cases h
theorem Ht {a b:Int} (h:(bn a).length=(gx b).length) (s:ax):mg a b s=(((bn a).zip (gx b)).find? λp=>decide (p.1=s)).map (·.2):=by
 unfold mg mW;exact Un _ _ s h
theorem ad5 {l:List (ax×ax)} {i:Nat} {s t j0:ax} (h:∀p∈l.take i,p.1≠s):((l.take i++[(s,t)]++l.drop i).find? λp=>decide (p.1=j0)).map (·.2)=cond (decide (j0=s)) (some t) ((l.find? λp=>decide (p.1=j0)).map (·.2)):=by
 rw[gJ,RH,s9,jK,zc];by_cases e:j0=s
 ·subst e;have h0:((l.take i).find? λp=>decide (p.1=j0))=none:=by
   rw[avj];intro p hp;simpa using h p hp
  rw[h0];simp
 ·have p8:¬s=j0:=λh=>e h.symm;simp only[p8,e,decide_false,cond_false];rw[<-RH,ju]
theorem ad7 {l:List (ax×ax)} {i:Nat} {s t o j0:ax} (hi:i<l.length) (ho:l[i]=(s,o)) (h:∀p∈l.take i,p.1≠s):((l.set i (s,t)).find? λp=>decide (p.1=j0)).map (·.2)=cond (decide (j0=s)) (some t) ((l.find? λp=>decide (p.1=j0)).map (·.2)):=by
 have e1:l.set i (s,t)=l.take i++(s,t)::l.drop (i+1):=by rw[List.set_eq_take_append_cons_drop,if_pos hi]
 have e2:l.find? (λp=>decide (p.1=j0))=(l.take i++(s,o)::l.drop (i+1)).find? (λp=>decide (p.1=j0)):=by
  congr 1
  rw[<-ho,<-Rh hi,ju]
 rw[e1,e2,RH,RH,zc,zc];by_cases e:j0=s
 ·subst e;have h0:((l.take i).find? λp=>decide (p.1=j0))=none:=by
   rw[avj];intro p hp;simpa using h p hp
  rw[h0];simp
 ·have p8:¬s=j0:=λh=>e h.symm;simp only[p8,e,decide_false,cond_false]
theorem aoT {l:List ax} {i:Nat} {s:ax} (hl:l.Pairwise EN) (h1:∀x∈l.take i,EN x s) (h2:∀x∈l.drop i,EN s x):(l.take i++[s]++l.drop i).Pairwise EN:=by
 rw[gJ,List.pairwise_append,s9,jK,List.pairwise_cons];refine⟨hl.sublist (List.take_sublist i l),⟨h2,hl.sublist (List.drop_sublist i l)⟩,λx hx y hy=>?_⟩;rcases List.mem_cons.1 hy with rfl|hy
 ·exact h1 x hx
 ·exact EL _ _ _ (h1 x hx) (h2 y hy)
theorem ajL {x y:ax} (h:dz x y=true):x≠y:=λe=>by rw[e,Bn]at h;cases h
theorem aoS {a b s t a' b' k n u v:Int} (h:me a b) (hp:u6 a b s [k,n,t,u,v] a' b') (hs:kD s) (ht:kD t) (hl:(ab a).length<1000000):
 me a' b'/\(ab a').length<=(ab a).length+1/\∀j0,mg a' b' j0=cond (decide (j0=U s)) (some (U t)) (mg a b j0):=by
 obtain⟨g1,g2,g3,g4,g5⟩:=MB.1 h;obtain⟨i,f,⟨⟨p1,bo⟩,bU,c6⟩,q1,q2⟩:=hp;obtain⟨dF,eD,o0⟩:=c6 g5;obtain⟨j,rfl⟩:∃j:Nat,i=j:=⟨i.toNat,by omega⟩;rw[eZ]at q1 q2 o0;have NU:j<=(bn a).length:=by omega
 have hlt:∀x∈(bn a).take j,dz x (U s)=true:=λx hx=>by
  obtain⟨m,hm,rfl⟩:=J2 hx;have tX:m<j/\m<(bn a).length:=by rw[List.length_take]at hm;omega
  have:=dF m (by omega);simpa [aB,tX.2]using this
 have hz:∀p∈((bn a).zip (gx b)).take j,p.1≠U s:=λp hp=>by
  rw[QM]at hp;exact ajL (hlt p.1 (List.of_mem_zip hp).1)
 by_cases hf:f=1
 ·obtain⟨r1,r2⟩:=q1 hf;obtain⟨r3,fM⟩:=o0.1 hf;have hj:j<(bn a).length:=by omega
  have e1:bn a'=bn a:=by unfold bn;rw[r1]
  have e2:gx b'=(gx b).set j (U t):=by unfold gx;rw[r2,auo];rfl
  have mU:j<((bn a).zip (gx b)).length:=by rw[List.length_zip];omega
  have aim:((bn a).zip (gx b))[j]=(U s,(gx b).getD j []):=by
   rw[aa2];have h1:(bn a)[j]=U s:=by simpa [aB,hj]using fM
   rw[h1];simp[aB,show j<(gx b).length by omega]
  have e3:(bn a').zip (gx b')=((bn a).zip (gx b)).set j (U s,U t):=by
   rw[e1,e2];refine List.ext_getElem (by simp) λm N2 Ea=>?_;rw[aa2,avk,avk,aa2];by_cases hm:j=m
   ·subst hm;have h1:(bn a)[j]=U s:=by simpa [aB,hj]using fM
    simp[h1]
   ·simp[hm]
  refine⟨MB.2 ⟨by rw[e1,e2,aa1];exact g1,by rw[e1];exact g2,by rw[e1];exact g3,λx hx=>?_,by rw[e1];exact g5⟩,by rw[r1];omega,λj0=>?_⟩
  ·rw[e2]at hx;rcases List.mem_or_eq_of_mem_set hx with hx|rfl
   ·exact g4 x hx
   ·exact ht
  ·rw[Ht (by rw[e1,e2,aa1];exact g1),Ht g1,e3];exact ad7 mU aim hz
 ·obtain⟨r1,r2⟩:=q2 hf;have e1:bn a'=(bn a).take j++[U s]++(bn a).drop j:=by unfold bn;rw[r1];simp[y2,y3]
  have e2:gx b'=(gx b).take j++[U t]++(gx b).drop j:=by unfold gx;rw[r2];simp[y2,y3]
  have HM:∀x∈(bn a).drop j,dz (U s) x=true:=λx hx=>by
   obtain⟨m,hm,rfl⟩:=J2 hx;rw[List.length_drop]at hm;rw[List.getElem_drop];have hj:j<(bn a).length:=by omega
   have hne:(bn a).getD j []≠U s:=λe=>hf (o0.2 ⟨by omega,e⟩);have h0:=eD j (bD _) hj;have xI:dz (U s) ((bn a).getD j [])=true:=by
    rcases Xl (U s) ((bn a).getD j [])with h|h|h
    ·exact h
    ·rw[h0]at h;cases h
    ·exact absurd h.symm hne
   rcases Nat.eq_zero_or_pos m with h|h
   ·subst h;simpa [aB,hj]using xI
   ·have:=PI g5 (show j<j+m by omega) (by omega);have:=EL _ _ _ xI this;simpa [aB,show j+m<(bn a).length by omega]using this
  have e3:(bn a').zip (gx b')=((bn a).zip (gx b)).take j++[(U s,U t)]++((bn a).zip (gx b)).drop j:=by
   rw[e1,e2,avl (by simp;omega),avl (by simp;omega),QM,TY];rfl
  have hlen:(bn a').length=(bn a).length+1:=by rw[e1];simp;omega
  have vA:(gx b').length=(gx b).length+1:=by rw[e2];simp;omega
  have xN:=pM a;have awT:=pM a';refine⟨MB.2 ⟨by rw[hlen,vA,g1],by omega,λx hx=>?_,λx hx=>?_,?_⟩,by omega,λj0=>?_⟩
  ·rw[e1]at hx;rcases List.mem_append.1 hx with hx|hx
   ·rcases List.mem_append.1 hx with hx|hx
    ·exact g3 x (j7 hx)
    ·rw[List.mem_singleton.1 hx];exact hs
   ·exact g3 x (nQ hx)
  ·rw[e2]at hx;rcases List.mem_append.1 hx with hx|hx
   ·rcases List.mem_append.1 hx with hx|hx
    ·exact g4 x (j7 hx)
    ·rw[List.mem_singleton.1 hx];exact ht
   ·exact g4 x (nQ hx)
  ·rw[e1];exact aoT g5 hlt HM
  ·rw[Ht (by rw[hlen,vA,g1]),Ht g1,e3];exact ad5 hz
end Go.bH
namespace Go.bH
open Go Go.bg
def KD (S:zzS) (K:zzK):Prop:=
 c9 λz0=>c9 λae=>br λz2=>∀r3:List Int,bd [(4,4),(0,0),(0,bx),(0,0),(0,0)] r3->(af 87 [z0,ae,z2,(aB r3 0 0),(aB r3 1
 0),(aB r3 2 0),(aB r3 3 0),(aB r3 4 0)]->cz λz8=>bQ (-2) aV λz9=>aH 20 [z0] λaq=>cz λak=>bQ (-2)
 aV λz12=>aH 20 [ae] λaz=>af 22 [z0,0,aq]/\bt 22 [z0,0,aq] λaC=>af 22 [ae,0,az]/\bt 22 [ae,0,az] λau=>af
 88 [aC,au]/\bu λaP=>S 642 [[aC],[au]] [[aP]]->(aj ((!(decide (aP=1)))) (K [[z0],[ae],[z2],r3] [[0],[0],[0],[0],[0],[1]]) (af 89 [(aB
 r3 0 0),(aB r3 1 0),(aB r3 2 0),0,0]/\bu λbw=>S 677 [[(aB r3 0 0),(aB r3 1 0),(aB r3 2 0),0,0]] [[bw]]->(aj
 ((!(decide (bw=1)))) (K [[z0],[ae],[z2],r3] [[0],[0],[0],[0],[0],[1]]) (bt 27 [z2] λaE=>aH 0 [z2] λcA=>bQ (-2) aV λz20=>
 af 22 [aE,0,cA]/\bt 22 [aE,0,cA] λz21=>af 86 [z21]/\bu λaF=>S 640 [[z21]] [[aF]]->(aj ((!(decide (aF=1)))) (K [[z0],[ae],[z2],r3]
 [[0],[0],[0],[0],[0],[1]]) (af 22 [z0,0,aq]/\bt 22 [z0,0,aq] λcl=>af 22 [ae,0,az]/\bt 22 [ae,0,az] λz24=>af 87 [cl,z24,z2,(aB
 r3 0 0),(aB r3 1 0),(aB r3 2 0),0,0]/\bQ 6 6 λdR=>bQ 0 0 λcn=>br λlX=>c9 λz28=>c9 λhQ=>S 674
 [[cl],[z24],[z2],[(aB r3 0 0),(aB r3 1 0),(aB r3 2 0),0,0]] [[dR],[cn],[lX],[z28],[hQ]]->cz λku=>bQ (-2) aV
 λz31=>aH 20 [z28] λdG=>cz λeY=>bQ (-2) aV λgG=>aH 20 [hQ] λjJ=>af 22 [z28,0,dG]/\bt 22 [z28,0,dG] λkv
 =>af 22 [hQ,0,jJ]/\bt 22 [hQ,0,jJ] λz37=>K [[z0],[ae],[z2],r3] [[dR],[cn],[lX],[kv],[z37],[0]])))))))
def KA (S:zzS) (K:zzK):Prop:=
 bQ 0 6 λz0=>bQ 0 0 λae=>br λz2=>c9 λz3=>c9 λz4=>br λz5=>cz λz6=>bQ (-2) aV λz7=>aH 20 [z3] λz8=>cz
 λz9=>bQ (-2) aV λaq=>aH 20 [z4] λak=>(aj ((!(decide (z0=6)))) (K [[z0],[ae],[z2],[z3],[z4],[z5]] [[0,0,0,0,0],[(cond (false)
 1 0)]]) (∃(wT:List (List Int)->Prop) (Ge:List (List Int)->Nat),wT [[0]]/\(dk λaz=>wT [[az]]->(aj (decide (az<z8)) (af 30 [az,z8]/\
 af 21 [z3,az]/\bN 21 [z3,az,0] λaC=>b5 4 [z5,aC] λau=>(aj (decide (au=1)) ((aj (decide (ak<=az)) (K [[z0],[ae],[z2],[z3],[z4],[z5]]
 [[0,0,0,0,0],[(cond (false) 1 0)]]) (af 30 [az,ak]/\af 21 [z4,az]/\ck 4 4 21 [z4,az,0] λaP=>ck 0 0 21 [z4,az,1] λbw=>bN 21 [z4,az,2]
 λaE=>K [[z0],[ae],[z2],[z3],[z4],[z5]] [[aP,bw,aE,0,0],[(cond (true) 1 0)]]))) (a8 (az+bM) bI λaP=>af 39
 [((az+(av*aP))+1),0,aV]/\(wT [[((az+(av*aP))+1)]]/\Ge [[((az+
 (av*aP))+1)]]<Ge [[az]])))) (K [[z0],[ae],[z2],[z3],[z4],[z5]] [[0,0,0,0,0],[(cond (false) 1 0)]])))))
theorem Uz {a b a' b':Int} (h:me a b) (ha:ab a'=ab a) (hb:ab b'=ab b):me a' b':=by
 unfold me at h⊢;rw[ha,hb];exact h
theorem abv {a b s:Int} {r:List Int} {a' b' c d c' d':Int} (h:u6 a b s r a' b') (ha:ab a=ab c) (hb:ab b=ab d) (fu:ab c'=ab a') (hb':ab d'=ab b'):u6 c d s r c' d':=by
 obtain⟨i,f,h1,h2,h3⟩:=h;refine⟨i,f,?_,λh=>?_,λh=>?_⟩
 ·have e:bn c=bn a:=by unfold bn;rw[ha]
  rw[e];exact h1
 ·rw[fu,hb',<-ha,<-hb];exact h2 h
 ·rw[fu,hb',<-ha,<-hb];exact h3 h
theorem O7 {r:List Int} (h:bd [(4,4),(0,0),(0,bx),(0,0),(0,0)] r):[r.getD 0 0,r.getD 1 0,r.getD 2 0,0,0]=r:=by
 match r,h with
 |[a,b,c,d,e],h=>
  obtain⟨_,_,_,_,_,_,h1,h2,h3,h4,_⟩:=h;have:d=0:=by omega
  have:e=0:=by omega
  subst d;subst e;rfl
theorem anK:KD SB (ev SB [.d (.int .i64 0 6),.d (.int .i64 0 0),.d .str,.rd [.str],.rd [.int .i64 4 4,.int .i64 0 0,.str,.nil,.nil],.d (.int .i64 0 21)] 675):=by
 delta KD aj bQ cz aH c9 bt br bu aV;dsimp only
 intro z0 a0 a1 ae b0 b1 z2 n0 n1 r3 H3 h z8 _ z9 _ _ aq _ c1 c8 ak _ z12 _ _ az _ d1 dI;obtain⟨h,hs,ht⟩:me z0 ae/\kD z2/\kD (r3.getD 2 0):=h;have c8:aq=((ab z0).length:Int):=c8;have dI:az=((ab ae).length:Int):=dI;have f0:∀{z:Int},z=aw 22 [z0,0,aq]->ab z=ab z0:=λh=>whole c8 h;have f1:∀{z:Int},z=aw 22 [ae,0,az]->ab z=ab ae:=λh=>whole dI h;have aeZ:af 89 [r3.getD 0 0,r3.getD 1 0,r3.getD 2 0,0,0]:=ht;have apU:∀{x y:Int},SB 640 [[x]] [[y]]->y=1:=λh=>h;refine⟨⟨bD _,by omega,by omega⟩,λaC _ _ fs=>⟨⟨bD _,by omega,by omega⟩,λau _ _ ft=>⟨Uz h (f0 fs) (f1 ft),λaP _ _ lH=>⟨λhq=>?_,λ_=>⟨aeZ,λbw _ _ kI=>⟨λhq=>?_,λ_ aE _ _ xm cA _ _ xn z20 _ _=>?_⟩⟩⟩⟩⟩⟩
 ·rw[show aP=1 from lH]at hq;cases hq
 ·rw[show bw=1 from kI]at hq;cases hq
 ·obtain⟨g1,g2⟩:=GL hs xm xn;refine⟨g1,λz21 _ _ zZ=>⟨g2 z21 zZ,λaF _ _ Dr=>⟨λhq=>?_,λ_=>⟨⟨bD _,by omega,by omega⟩,λcl _ _ sb=>⟨⟨bD _,by omega,by omega⟩,λz24 _ _ sc=>⟨⟨Uz h (f0 sb) (f1 sc),hs,ht⟩,λdR e9 k1 cn _ _ lX m0 fV z28 p0 p1 hQ q0 q1 hp ku _ z31 _ _ dG _ _ xp eY _ gG _ _ jJ _ _ mh=>?_⟩⟩⟩⟩⟩⟩
  ·rw[apU Dr]at hq;cases hq
  ·have xp:dG=((ab z28).length:Int):=xp;have mh:jJ=((ab hQ).length:Int):=mh;refine⟨⟨bD _,by omega,by omega⟩,λkv u0 ib MN=>⟨⟨bD _,by omega,by omega⟩,λz37 v0 v1 MO=>?_⟩⟩;obtain⟨e1,e2,e3,fr⟩:dR=6/\cn=0/\U lX=[]/\u6 cl z24 z2 [r3.getD 0 0,r3.getD 1 0,r3.getD 2 0,0,0] z28 hQ:=hp;rw[O7 H3]at fr;refine⟨⟨by omega,by omega,by omega,by omega,m0,fV,u0,ib,v0,v1,by decide,by decide,trivial⟩,rfl,e1,e2,e3,abv fr (f0 sb) (f1 sc) (whole xp MN) (whole mh MO)⟩
def abe (z0:Int) (t:ax) (bl:List (List Int)):Prop:=∃i:Nat,bl=[[(i:Int)]]/\i<=(ab z0).length/\∀j:Nat,j<i->(bn z0).getD j []≠t
theorem anH:KA SB (ev SB [.d (.mix [.int .i64 0 4,.int .i64 0 0,.str,.nil,.nil]),.d .bool] 676):=by
 delta KA aj a8 bQ ck cz dk aH c9 br bN b5 bI av aV bM;dsimp only
 intro z0 e9 k1 ae _ _ z2 _ _ z3 a0 a1 z4 b0 b1 z5 n0 n1 z6 _ z7 _ _ z8 _ c1 bS z9 _ aq _ _ ak _ d1 dE;have bS:z8=((ab z3).length:Int):=bS;have dE:ak=((ab z4).length:Int):=dE;have hl:=pM z3;have H4:U (0:Int)=[]:=rfl;have jY:(∀i,cond (decide (z0=6)) (mW z3 (U z5)) none=some i->¬i<(ab z4).length)->ev SB [.d (.mix [.int .i64 0 4,.int .i64 0 0,.str,.nil,.nil]),.d .bool] 676 [[z0],[ae],[z2],[z3],[z4],[z5]] [[0,0,0,0,0],[cond false 1 0]]:=λh=>by
  refine⟨⟨by decide,by decide,by decide,by decide,bD _,gb,by decide,by decide,by decide,by decide,by decide,by decide,trivial⟩,?_⟩;show match cond (decide (z0=6)) (mW z3 (U z5)) none with
   |some i=>i<(ab z4).length->(0:Int)=((ab z4).getD i []).getD 2 0/\(0:Int)=1
   |none=>U (0:Int)=[]/\(0:Int)=0
  cases hc:cond (decide (z0=6)) (mW z3 (U z5)) none with
  |none=>exact⟨rfl,rfl⟩
  |some i=>exactλhi=>absurd hi (h i hc)
 refine⟨λhq=>jY λi hi=>?_,λhq=>?_⟩
 ·rw[LJ hq]at hi;cases hi
 have h6:decide (z0=6)=true:=Tf hq;refine⟨abe z3 (U z5),Lr z3,⟨0,rfl,iI _,λj hj=>absurd hj (RG j)⟩,?_⟩
 rintro az e0 e1 ⟨i,e,hi,hI⟩
 obtain rfl:az=i:=by simpa using e
 refine⟨λhlt=>?_,λeR=>jY λj hj=>?_⟩
 ·have hlt:=of_decide_eq_true hlt;have dw:i<(ab z3).length:=by omega
  refine⟨⟨by omega,by omega⟩,⟨by omega,by omega⟩,λaC _ _ fs au _ _ ft=>?_⟩;have qP:U aC=(bn z3).getD i []:=by rw[yO dw,fs];simp only[aw,eZ];rfl
  have ft:=gZ ft;rw[qP]at ft;have As:decide (au=1)=true->mW z3 (U z5)=some i:=λhq=>by
   rw[ft]at hq;have hq:=of_decide_eq_true hq;unfold mW;rw[List.findIdx?_eq_some_iff_getElem];refine⟨by omega,?_,λj hj=>?_⟩
   ·rw[decide_eq_true_eq,hq];simp[aB,show i<(bn z3).length by omega]
   ·have:=hI j hj;simp only[aB,gy (show j<(bn z3).length by omega),pS]at this;simpa using this
  refine⟨λhq=>⟨λhz=>jY λj hj=>?_,λhz=>?_⟩,λhq aP x0 x1 x2 x3=>⟨⟨by omega,by omega⟩,⟨i+1,by rw[show(i:Int)+(-18446744073709551616)*aP+1=((i+1:Nat):Int) by omega],by omega,λj hj=>?_⟩,?_⟩⟩
  ·rw[h6,cond_true,As hq]at hj;cases hj;have:=of_decide_eq_true hz;omega
  ·have hz:=of_decide_eq_false hz;have gN:i<(ab z4).length:=by omega
   refine⟨⟨by omega,by omega⟩,⟨by omega,by omega⟩,λaP p0 p1 lH bw q0 q1 kI aE r0 r1 xm=>?_⟩;refine⟨⟨by omega,by omega,by omega,by omega,r0,r1,by decide,by decide,by decide,by decide,by decide,by decide,trivial⟩,?_⟩;show match cond (decide (z0=6)) (mW z3 (U z5)) none with
    |some i=>i<(ab z4).length->aE=((ab z4).getD i []).getD 2 0/\(1:Int)=1
    |none=>U aE=[]/\(1:Int)=0
   rw[h6,cond_true,As hq]
   refineλ_=>⟨?_,rfl⟩
   rw[xm];simp only[aw,eZ];rfl
  ·rcases mC j i with h|h
   ·exact hI j h
   ·obtain rfl:j=i:=by omega
    rw[ft]at hq
    exactλe=>of_decide_eq_false hq e.symm
  ·show(ab z3).length-((i:Int)+(-18446744073709551616)*aP+1).toNat<(ab z3).length-((i:Int)).toNat;omega
 ·have eR:=of_decide_eq_false eR;rw[h6,cond_true]at hj;unfold mW at hj;obtain⟨xH,kl,_⟩:=List.findIdx?_eq_some_iff_getElem.1 hj;have:=hI j (by omega);simp only[aB,gy xH,pS]at this;exact absurd (of_decide_eq_true kl) this
end Go.bH
namespace Go.bH
open Go Go.bg
def su (S:zzS) (z2 au aE z20:Int) (k:Int->Int->Prop):Prop:=
 af 31 [aE,z20]/\∀dR:Int,0<=dR->dR<=ch->dR=aw 23 [0,z2]->af 51 [aE,au,dR]/\∀cn:Int,0<=cn->cn<=ch->S 672 [[aE],[au],[dR]] [[cn]]->∀lX:Int,(-2)<=lX->lX<=9223372036854775807->∀z28:Int,0<=z28->z28<=9223372036854775807->z28=aw 20 [cn]->k cn z28
def ld (S:zzS) (K:zzK) (z0 ae z2:Int) (r3:List Int) (au aF z24 cn z28:Int):Prop:=
 af 31 [aF,z24]/\∀hQ:Int,0<=hQ->hQ<=ch->hQ=aw 23 [0,(aB r3 0 0),(aB r3 1 0),(aB r3 2 0),0,0]->af 51 [aF,au,hQ]/\∀ku:Int,0<=ku->ku<=ch->S 673 [[aF],[au],[hQ]] [[ku]]->∀z31:Int,(-2)<=z31->z31<=9223372036854775807->∀dG:Int,0<=dG->dG<=9223372036854775807->dG=aw 20 [ku]->af 22 [cn,0,z28]/\∀eY:Int,0<=eY->eY<=ch->eY=aw 22 [cn,0,z28]->af 22 [ku,0,dG]/\∀gG:Int,0<=gG->gG<=ch->gG=aw 22 [ku,0,dG]->K [[z0],[ae],[z2],r3] [[6],[0],[0],[eY],[gG]]
def bW (S:zzS) (K:zzK) (z0 ae z2:Int) (r3:List Int) (au aE z20 aF z24:Int):Prop:=
 su S z2 au aE z20 λcn z28=>ld S K z0 ae z2 r3 au aF z24 cn z28
end Go.bH
namespace Go.bH
open Go Go.bg
def KF (S:zzS) (K:zzK):Prop:=
 c9 λz0=>c9 λae=>br λz2=>∀r3:List Int,bd [(4,4),(0,0),(0,bx),(0,0),(0,0)] r3->(af 87 [z0,ae,z2,(aB r3 0 0),(aB r3 1
 0),(aB r3 2 0),(aB r3 3 0),(aB r3 4 0)]->cz λz8=>bQ (-2) aV λz9=>aH 20 [z0] λaq=>cz λak=>bQ (-2)
 aV λz12=>aH 20 [ae] λaz=>af 22 [z0,0,aq]/\bt 22 [z0,0,aq] λaC=>dk λau=>bu λaP=>S 671 [[aC],[z2]]
 [[au],[aP]]->af 22 [z0,0,aq]/\bt 22 [z0,0,aq] λbw=>af 66 [bw]/\c9 λaE=>S 683 [[bw]] [[aE]]->bQ (-2) aV λcA
 =>aH 20 [aE] λz20=>af 22 [ae,0,az]/\bt 22 [ae,0,az] λz21=>af 66 [z21]/\c9 λaF=>S 684 [[z21]] [[aF]]->bQ (-2) aV
 λcl=>aH 20 [aF] λz24=>(aj (decide (aP=1)) (af 30 [au,z24]/\af 21 [aF,au]/\(af 67 [aF,au,5]->bt 42 [aF,au,0,(aB r3 0
 0),(aB r3 1 0),(aB r3 2 0),0,0] λdR=>af 22 [aE,0,z20]/\bt 22 [aE,0,z20] λcn=>af 22 [dR,0,z24]/\bt 22 [dR,0,z24] λlX
 =>K [[z0],[ae],[z2],r3] [[6],[0],[0],[cn],[lX]])) (((((((su S z2 au aE z20 λcn z28=>((ld S K z0 ae z2 r3 au aF z24 cn z28)/\(((ld S K z0 ae z2
 r3 au aF z24 cn z28)/\(ld S K z0 ae z2 r3 au aF z24 cn z28)))))/\(((((bW S K z0 ae z2 r3 au aE z20 aF z24)/\(((bW S K z0 ae z2 r3 au aE z20
 aF z24)/\(bW S K z0 ae z2 r3 au aE z20 aF z24)))))/\(((su S z2 au aE z20 λcn z28=>((ld S K z0 ae z2 r3 au aF z24 cn z28)/\(ld S K z0 ae
 z2 r3 au aF z24 cn z28)))/\(((((bW S K z0 ae z2 r3 au aE z20 aF z24)/\(bW S K z0 ae z2 r3 au aE z20 aF z24)))/\(((bW S K z0 ae z2 r3 au aE
 z20 aF z24)/\(bW S K z0 ae z2 r3 au aE z20 aF z24)))))))))))/\(((((((bW S K z0 ae z2 r3 au aE z20 aF z24)/\(((bW S K z0 ae z2 r3 au aE z20 aF
 z24)/\(bW S K z0 ae z2 r3 au aE z20 aF z24)))))/\(((((bW S K z0 ae z2 r3 au aE z20 aF z24)/\(bW S K z0 ae z2 r3 au aE z20 aF z24)))/\(bW S K
 z0 ae z2 r3 au aE z20 aF z24)))))/\(((((su S z2 au aE z20 λcn z28=>((ld S K z0 ae z2 r3 au aF z24 cn z28)/\(ld S K z0 ae z2 r3 au aF z24
 cn z28)))/\(((((bW S K z0 ae z2 r3 au aE z20 aF z24)/\(bW S K z0 ae z2 r3 au aE z20 aF z24)))/\(((bW S K z0 ae z2 r3 au aE z20 aF z24)/\(bW
 S K z0 ae z2 r3 au aE z20 aF z24)))))))/\(((((((bW S K z0 ae z2 r3 au aE z20 aF z24)/\(bW S K z0 ae z2 r3 au aE z20 aF z24)))/\(bW S K z0 ae z2
 r3 au aE z20 aF z24)))/\(((((bW S K z0 ae z2 r3 au aE z20 aF z24)/\(bW S K z0 ae z2 r3 au aE z20 aF z24)))/\(bW S K z0 ae z2 r3 au aE z20 aF
 z24)))))))))))/\(((((((su S z2 au aE z20 λcn z28=>((ld S K z0 ae z2 r3 au aF z24 cn z28)/\(((ld S K z0 ae z2 r3 au aF z24 cn z28)/\(ld S
 K z0 ae z2 r3 au aF z24 cn z28)))))/\(((((bW S K z0 ae z2 r3 au aE z20 aF z24)/\(((bW S K z0 ae z2 r3 au aE z20 aF z24)/\(bW S K z0 ae z2 r3
 au aE z20 aF z24)))))/\(((su S z2 au aE z20 λcn z28=>((ld S K z0 ae z2 r3 au aF z24 cn z28)/\(ld S K z0 ae z2 r3 au aF z24 cn z28)))/\
 (((((bW S K z0 ae z2 r3 au aE z20 aF z24)/\(bW S K z0 ae z2 r3 au aE z20 aF z24)))/\(((bW S K z0 ae z2 r3 au aE z20 aF z24)/\(bW S K z0 ae z2
 r3 au aE z20 aF z24)))))))))))/\(((((((bW S K z0 ae z2 r3 au aE z20 aF z24)/\(((bW S K z0 ae z2 r3 au aE z20 aF z24)/\(bW S K z0 ae z2 r3 au
 aE z20 aF z24)))))/\(((((bW S K z0 ae z2 r3 au aE z20 aF z24)/\(bW S K z0 ae z2 r3 au aE z20 aF z24)))/\(bW S K z0 ae z2 r3 au aE z20 aF
 z24)))))/\(((((su S z2 au aE z20 λcn z28=>((ld S K z0 ae z2 r3 au aF z24 cn z28)/\(ld S K z0 ae z2 r3 au aF z24 cn z28)))/\(((((bW S K z0
 ae z2 r3 au aE z20 aF z24)/\(bW S K z0 ae z2 r3 au aE z20 aF z24)))/\(((bW S K z0 ae z2 r3 au aE z20 aF z24)/\(bW S K z0 ae z2 r3 au aE z20
 aF z24)))))))/\(((((((bW S K z0 ae z2 r3 au aE z20 aF z24)/\(bW S K z0 ae z2 r3 au aE z20 aF z24)))/\(bW S K z0 ae z2 r3 au aE z20 aF z24)))
 /\(((((bW S K z0 ae z2 r3 au aE z20 aF z24)/\(bW S K z0 ae z2 r3 au aE z20 aF z24)))/\(bW S K z0 ae z2 r3 au aE z20 aF z24)))))))))))/\
 (((((((((bW S K z0 ae z2 r3 au aE z20 aF z24)/\(((bW S K z0 ae z2 r3 au aE z20 aF z24)/\(bW S K z0 ae z2 r3 au aE z20 aF z24)))))/\(((((bW S K
 z0 ae z2 r3 au aE z20 aF z24)/\(bW S K z0 ae z2 r3 au aE z20 aF z24)))/\(bW S K z0 ae z2 r3 au aE z20 aF z24)))))/\(((((((bW S K z0 ae z2 r3
 au aE z20 aF z24)/\(((bW S K z0 ae z2 r3 au aE z20 aF z24)/\(bW S K z0 ae z2 r3 au aE z20 aF z24)))))/\(((((bW S K z0 ae z2 r3 au aE z20 aF
 z24)/\(bW S K z0 ae z2 r3 au aE z20 aF z24)))/\(bW S K z0 ae z2 r3 au aE z20 aF z24)))))/\(((((((bW S K z0 ae z2 r3 au aE z20 aF z24)/\(bW S
 K z0 ae z2 r3 au aE z20 aF z24)))/\(bW S K z0 ae z2 r3 au aE z20 aF z24)))/\(((((((bW S K z0 ae z2 r3 au aE z20 aF z24)/\(bW S K z0 ae z2 r3
 au aE z20 aF z24)))/\(bW S K z0 ae z2 r3 au aE z20 aF z24)))/\(((bW S K z0 ae z2 r3 au aE z20 aF z24)/\(bW S K z0 ae z2 r3 au aE z20 aF
 z24)))))))))))/\(((((((su S z2 au aE z20 λcn z28=>((ld S K z0 ae z2 r3 au aF z24 cn z28)/\(ld S K z0 ae z2 r3 au aF z24 cn z28)))/\
 (((((bW S K z0 ae z2 r3 au aE z20 aF z24)/\(bW S K z0 ae z2 r3 au aE z20 aF z24)))/\(((bW S K z0 ae z2 r3 au aE z20 aF z24)/\(bW S K z0 ae z2
 r3 au aE z20 aF z24)))))))/\(((((((bW S K z0 ae z2 r3 au aE z20 aF z24)/\(bW S K z0 ae z2 r3 au aE z20 aF z24)))/\(bW S K z0 ae z2 r3 au aE
 z20 aF z24)))/\(((((bW S K z0 ae z2 r3 au aE z20 aF z24)/\(bW S K z0 ae z2 r3 au aE z20 aF z24)))/\(bW S K z0 ae z2 r3 au aE z20 aF z24)))))))
 /\(((((((su S z2 au aE z20 λcn z28=>((ld S K z0 ae z2 r3 au aF z24 cn z28)/\(ld S K z0 ae z2 r3 au aF z24 cn z28)))/\(((((bW S K z0 ae z2
 r3 au aE z20 aF z24)/\(bW S K z0 ae z2 r3 au aE z20 aF z24)))/\(((bW S K z0 ae z2 r3 au aE z20 aF z24)/\(bW S K z0 ae z2 r3 au aE z20 aF
 z24)))))))/\(((((((bW S K z0 ae z2 r3 au aE z20 aF z24)/\(bW S K z0 ae z2 r3 au aE z20 aF z24)))/\(bW S K z0 ae z2 r3 au aE z20 aF z24)))/\
 (((((bW S K z0 ae z2 r3 au aE z20 aF z24)/\(bW S K z0 ae z2 r3 au aE z20 aF z24)))/\(bW S K z0 ae z2 r3 au aE z20 aF z24)))))))/\(((((((((bW S
 K z0 ae z2 r3 au aE z20 aF z24)/\(bW S K z0 ae z2 r3 au aE z20 aF z24)))/\(bW S K z0 ae z2 r3 au aE z20 aF z24)))/\(((((((bW S K z0 ae z2 r3
 au aE z20 aF z24)/\(bW S K z0 ae z2 r3 au aE z20 aF z24)))/\(bW S K z0 ae z2 r3 au aE z20 aF z24)))/\(((bW S K z0 ae z2 r3 au aE z20 aF z24)
 /\(bW S K z0 ae z2 r3 au aE z20 aF z24)))))))/\(((((((bW S K z0 ae z2 r3 au aE z20 aF z24)/\(bW S K z0 ae z2 r3 au aE z20 aF z24)))/\(bW S K
 z0 ae z2 r3 au aE z20 aF z24)))/\(((((((bW S K z0 ae z2 r3 au aE z20 aF z24)/\(bW S K z0 ae z2 r3 au aE z20 aF z24)))/\(bW S K z0 ae z2 r3 au
 aE z20 aF z24)))/\(((bW S K z0 ae z2 r3 au aE z20 aF z24)/\(bW S K z0 ae z2 r3 au aE z20 aF z24)))))))))))))))))))))
theorem anM:KF SB (ev SB [.d (.int .i64 6 6),.d (.int .i64 0 0),.d .str,.rd [.str],.rd [.int .i64 4 4,.int .i64 0 0,.str,.nil,.nil]] 674):=by
 delta KF aj bQ cz dk aH c9 bt br bu aV;dsimp only
 intro z0 a0 a1 ae b0 b1 z2 n0 n1 r3 H3 h z8 _ z9 _ _ aq _ c1 c8 ak _ z12 _ _ az _ d1 dI;obtain⟨h,hs,ht⟩:me z0 ae/\kD z2/\kD (r3.getD 2 0):=h;have c8:aq=((ab z0).length:Int):=c8;have dI:az=((ab ae).length:Int):=dI;have hl:(ab z0).length=(ab ae).length:=h.1;have hm:(ab z0).length<=1000000:=h.2.1;have awz:=pM z0;refine⟨⟨bD _,by omega,by omega⟩,λaC _ _ fs au e9 k1 aP _ _ hp=>⟨⟨bD _,by omega,by omega⟩,λbw _ _ kI=>?_⟩⟩;have qP:bn aC=bn z0:=by unfold bn;rw[whole c8 fs]
 have hp:Gy (bn aC) (U z2) au aP:=hp;rw[qP]at hp;obtain⟨⟨p1,bo⟩,bU,c6⟩:=hp;have T0:=whole c8 kI;refine⟨(by show(ab bw).length<=1000000;rw[T0];exact hm),λaE _ _ xm cA _ _ z20 _ _ zY=>⟨⟨bD _,by omega,by omega⟩,λz21 _ _ zZ=>?_⟩⟩;have xf:ab aE=ab z0:=(show ab aE=ab bw from xm).trans T0;have zY:z20=((ab aE).length:Int):=zY;have T1:=whole dI zZ;refine⟨(by show(ab z21).length<=1000000;rw[T1];omega),λaF _ _ Dr cl _ _ z24 _ _ sc=>?_⟩;have C6:ab aF=ab ae:=(show ab aF=ab z21 from Dr).trans T1;have sc:z24=((ab aF).length:Int):=sc;have axp:(ab aE).length=(ab z0).length:=by rw[xf]
 have axq:(ab aF).length=(ab ae).length:=by rw[C6]
 have fin:∀a' b':Int,0<=a'->a'<=ch->0<=b'->b'<=ch->u6 z0 ae z2 r3 a' b'->ev SB [.d (.int .i64 6 6),.d (.int .i64 0 0),.d .str,.rd [.str],.rd [.int .i64 4 4,.int .i64 0 0,.str,.nil,.nil]] 674 [[z0],[ae],[z2],r3] [[6],[0],[0],[a'],[b']]:=λa' b' u0 ib v0 v1 lI=>
  ⟨⟨by decide,by decide,by decide,by decide,bD _,gb,u0,ib,v0,v1,trivial⟩,rfl,rfl,rfl,lI⟩
 have hrow:∀{z:Int},z=aw 23 [0,r3.getD 0 0,r3.getD 1 0,r3.getD 2 0,0,0]->ab z=[r3]:=λhz=>by
  rw[hz];show ab (rc (ab 0++[[r3.getD 0 0,r3.getD 1 0,r3.getD 2 0,0,0]]))=_;rw[dv,fN,O7 H3];rfl
 refine⟨λhq=>⟨⟨by omega,by have:=bU (of_decide_eq_true hq);omega⟩,⟨by omega,by have:=bU (of_decide_eq_true hq);omega⟩,λHy dR _ _ oS=>?_⟩,λhq=>?_⟩
 ·have hq:=of_decide_eq_true hq;have oS:ab dR=(ab ae).set au.toNat r3:=by
   rw[oS];show ab (rc _)=_;rw[dv];have Hy:((ab aF).getD au.toNat []).length=5:=Hy;show(ab aF).set au.toNat ((((ab aF).getD au.toNat []).take 0)++[r3.getD 0 0,r3.getD 1 0,r3.getD 2 0,0,0]++((ab aF).getD au.toNat []).drop 5)=_;rw[FT (by omega),O7 H3,C6];simp
  have axr:(ab dR).length=(ab ae).length:=by rw[oS,aa1]
  refine⟨⟨bD _,by omega,by omega⟩,λcn u0 ib ns=>⟨⟨bD _,by omega,by omega⟩,λlX v0 v1 aey=>fin _ _ u0 ib v0 v1 ⟨au,aP,⟨⟨p1,bo⟩,bU,c6⟩,λ_=>?_,λhn=>absurd hq hn⟩⟩⟩;rw[whole zY ns,whole (by omega) aey,xf,oS];exact⟨rfl,rfl⟩
 ·have hq:=of_decide_eq_false hq;have hY:∀cn z28:Int,0<=cn->cn<=ch->ab cn=(ab z0).take au.toNat++[[z2]]++(ab z0).drop au.toNat->z28=((ab cn).length:Int)->ld SB (ev SB [.d (.int .i64 6 6),.d (.int .i64 0 0),.d .str,.rd [.str],.rd [.int .i64 4 4,.int .i64 0 0,.str,.nil,.nil]] 674) z0 ae z2 r3 au aF z24 cn z28:=λcn z28 w0 w1 C7 Hw=>by
   refine⟨sc,λhQ _ _ aez=>?_⟩;have T3:=hrow aez;refine⟨⟨⟨p1,by omega⟩,by rw[T3];rfl,by omega⟩,λku _ _ aeA z31 _ _ dG _ _ xp=>?_⟩;have T4:ab ku=(ab aF).take au.toNat++ab hQ++(ab aF).drop au.toNat:=aeA;rw[T3,C6]at T4;have xp:dG=((ab ku).length:Int):=xp;refine⟨⟨bD _,by omega,by omega⟩,λeY u0 ib MM=>⟨⟨bD _,by omega,by omega⟩,λgG v0 v1 xq=>fin _ _ u0 ib v0 v1 ⟨au,aP,⟨⟨p1,bo⟩,bU,c6⟩,λhn=>absurd hn hq,λ_=>?_⟩⟩⟩;rw[whole Hw MM,whole xp xq];exact⟨C7,T4⟩
  have lI:∀k:Int->Int->Prop,(∀cn z28:Int,0<=cn->cn<=ch->ab cn=(ab z0).take au.toNat++[[z2]]++(ab z0).drop au.toNat->z28=((ab cn).length:Int)->k cn z28)->su SB z2 au aE z20 k:=λk hk=>by
   refine⟨zY,λdR _ _ oS=>?_⟩;have T2:ab dR=[[z2]]:=by rw[oS];show ab (rc (ab 0++[[z2]]))=_;rw[dv,fN];rfl
   refine⟨⟨⟨p1,by omega⟩,by rw[T2];rfl,by omega⟩,λcn w0 w1 ns lX _ _ z28 _ _ Hw=>hk cn z28 w0 w1 ?_ Hw⟩;have C7:ab cn=(ab aE).take au.toNat++ab dR++(ab aE).drop au.toNat:=ns;rw[T2,xf]at C7;exact C7
  have bL:=lI _ hY
  repeat' first
   |exact bL
   |(refine lI _ λcn z28 w0 w1 C7 Hw=>?_)
   |(exact hY _ _ ‹_› ‹_› ‹_› ‹_›)
   |(refine And.intro ?_ ?_)
end Go.bH
