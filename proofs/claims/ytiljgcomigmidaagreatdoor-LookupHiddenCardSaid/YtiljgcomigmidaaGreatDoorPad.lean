/- The address seat: what each function says,on texts. -/
import Derived.Test.YtiljgcomigmidaaGreatDoorPac
open Bool renaming and_eq_true->aO,not_eq_true'->fX,eq_iff_iff->iG,not_eq_false'->mw,or_eq_true->ow,false_or->ta,true_and->wF,and_true->aak,and_eq_false_iff->aug,not_eq_true->auh,or_assoc->aui
open Go renaming FuncId->cz
open Go.IntKind renaming max->hO
open Go.Op renaming bytesLess->dy
open Int renaming le_refl->bB,toNat_natCast->eW,natCast_nonneg->rS,toNat_zero->y2
open List renaming getD->aC,length_cons->cW,range->c8,length_append->dn,length_nil->eH,map_append->fY,append_assoc->gJ,getElem?_eq_getElem->hP,take_append_drop->jn,nil_append->jH,mem_of_mem_take->j1,take_of_length_le->kr,mem_of_mem_drop->nL,dropWhile_cons->ou,all_eq_true->pI,cons_append->ti,getD_cons_zero->wG,map_take->y6,map_drop->y7,find?_cons->zh,drop_of_length_le->F6,drop_zero->Ke,all_cons->Kf,drop_eq_getElem_cons->Rc,drop_one->Rd,tail_cons->Re,length_singleton->Rf,length_reverse->Rg,getElem_of_mem->Rh,find?_append->RF,reverse_cons->aai,length_set->aaX,find?_eq_none->aaY,getElem_zip->aaZ,map_set->aue,getElem_set->au9,zip_append->ava
open List.cons renaming injEq->lp
open Nat renaming beq->aH,le_refl->aV,ble->bu,blt->bY,le_of_ble_eq_true->eh,zero_le->iF,lt_or_ge->mx,blt_eq->ov,ble_eq->pH,not_lt_zero->RE,lt_trichotomy->auj
open Option renaming getD_some->qx
open Option.some renaming injEq->aL
open Prod.mk renaming injEq->ct
open UInt8 renaming ofNat->kq,toNat_inj->Ra
set_option linter.unusedVariables false
set_option linter.unusedSimpArgs false
namespace Go.bE
open Go Go.ba
abbrev aq:=List UInt8
def u8 (z:Int):UInt8:=kq z.toNat
def aN (b:Bool):Int:=cond b 1 0
def e8 (p:UInt8->Bool) (l:aq):aq:=l.dropWhile p
def fM (p:UInt8->Bool) (l:aq):aq:=(l.reverse.dropWhile p).reverse
def jl (p:UInt8->Bool) (l:aq):aq:=e8 p (fM p l)
def dd (l:aq):Bool:=(c8 l.length).any λi=>l.getD i 0==46&&l.getD (i+1) 0==46
def mf (c:UInt8):Bool:=bu 97 c.toNat&&bu c.toNat 122
def me (c:UInt8):Bool:=bu 65 c.toNat&&bu c.toNat 90
def dM (c:UInt8):Bool:=bu 48 c.toNat&&bu c.toNat 57
def yQ:aq:=[33,35,36,37,38,39,42,43,47,61,63,94,95,96,123,124,125,126,45]
def oa (c:UInt8):Bool:=mf c||me c||dM c||yQ.contains c||c==46
def lB (c:UInt8):Bool:=c==46||c==45
def k5 (c:UInt8):Bool:=mf c||me c||dM c||lB c
def uy (inn ik:UInt8->Bool) (s:aq):Bool:=(c8 s.length).all λi=>
 inn (s.getD i 0)&&(!ik (s.getD i 0)||(bY 0 i&&bY (i+1) s.length))&& !(s.getD i 0==46&&bY 0 i&&s.getD (i-1) 0==46)
def jV (s:aq):Bool:=bY 0 s.length&&bu s.length 64&&uy oa (·==46) s
def fR (s:aq):Bool:=bY 0 s.length&&bu s.length 230&&uy k5 lB s
def rC (s:aq):Bool:=bY 0 s.length&&bu s.length 5&&s.all dM
def mF (c:Int) (s:aq):aq×aq×Int:=cond (decide (0<=idx c s)) (s.take (idx c s).toNat,s.drop ((idx c s).toNat+1),1) (s,[],0)
def jk (s:aq):Bool:=fR (mF 58 s).1&&(decide ((mF 58 s).2.2=0)||rC (mF 58 s).2.1)
def lo (c:UInt8):UInt8:=cond (me c) (kq (c.toNat+32)) c
def lower (s:aq):aq:=s.map lo
def qP (t:aq):aq×Int:=
 cond (decide (0<=idx 64 t)&&bu t.length 254&&jV (t.take (idx 64 t).toNat)&&fR (t.drop ((idx 64 t).toNat+1))&&(t.drop ((idx 64 t).toNat+1)).contains 46) (lower t,0) ([],2)
def lC (s:aq):aq×Int:=qP (jl (·==32) s)
def nB:aq:=[32,45,46,40,41]
def ea:aq->aq->Bool->Option (aq×Bool)
 |[],d,p=>some (d,p)
 |c::r,d,p=>cond (dM c) (ea r (d++[c]) p) (cond (c==43&&d.isEmpty&& !p) (ea r d true) (cond (nB.contains c) (ea r d p) none))
def iJ (w:aq):Option (aq×aq):=
 cond (w==[]) (some ([],[])) (cond (w==[71,66]) (some ([52,52],[48])) (cond (w==[85,83]) (some ([49],[])) (cond (w==[68,69]) (some ([52,57],[48])) (cond (w==[70,82]) (some ([51,51],[48])) (cond (w==[67,72]) (some ([52,49],[48])) none)))))
def qk (w code fV d:aq) (p:Bool):aq:=cond (!p&& !(w==[])) (code++cond (fV.isPrefixOf d) (d.drop fV.length) d) d
def sP (n:aq):aq×Int:=cond (bY n.length 6||bY 15 n.length||n.getD 0 0==48) ([],2) (n,0)
def jj (w s:aq):aq×Int:=match iJ w with
 |none=>([],7)
 |some (code,fV)=>match ea s [] false with
  |none=>([],2)
  |some (d,p)=>sP (qk w code fV d p)
def mQ (a b c d:aq):Bool:=cond (a==c) (dy b d) (dy a c)
def qO:aq:=[101,109,97,105,108]
def rz:aq:=[109,115,105,115,100,110]
def nz (m:aq) (p:aq×Int):aq×aq×Int:=cond (decide (p.2=0)) (m,p.1,0) ([],[],p.2)
def ld (m w:aq):aq×aq×Int:=cond (m==qO) (nz m (lC w)) (cond (m==rz) (nz m (jj [] w)) ([],[],1))
def lf (m w:aq):Bool:=decide ((ld m w).2.2=0)&&(m==(ld m w).1)&&(w==(ld m w).2.1)
def rn (c:UInt8):Bool:=mf c||dM c||([46,95,61,47,43,45]:aq).contains c
def WC (c:UInt8):Bool:=mf c||me c||dM c
def ji (k:UInt8) (s:aq):aq×aq×Int:=
 cond (bY 0 s.length&&bu s.length 255&&s.getD 0 0==k&&decide (0<=idx 58 s)&&jk (s.drop ((idx 58 s).toNat+1))) ((s.take (idx 58 s).toNat).drop 1,s.drop ((idx 58 s).toNat+1),1) ([],[],0)
def od (k:UInt8) (inn:UInt8->Bool) (most:Nat) (s:aq):Bool:=
 decide ((ji k s).2.2=1)&&bY 0 (ji k s).1.length&&bu (ji k s).1.length most&&(ji k s).1.all inn
def mW (s:aq):Bool:=od 64 rn 200 s
def JC (s:aq):Bool:=od 33 WC 64 s
def Zj (s:aq):aq×aq×Int:=cond (mW s||JC s) ((s.take (idx 58 s).toNat).drop 1,s.drop ((idx 58 s).toNat+1),0) ([],[],2)
def w5:aq:=[65,66,67,68,69,70,71,72,73,74,75,76,77,78,79,80,81,82,83,84,85,86,87,88,89,90,97,98,99,100,101,102,103,104,105,106,107,108,109,110,111,112,113,114,115,116,117,118,119,120,121,122,48,49,50,51,52,53,54,55,56,57,45,95]
def fW (c:UInt8):Int:=idx (c.toNat:Int) w5
def kh (n:Nat):UInt8:=w5.getD n 0
def eU:aq->aq
 |[]=>[]
 |[a]=>[kh (a.toNat/4),kh (a.toNat% 4*16)]
 |[a,b]=>[kh (a.toNat/4),kh (a.toNat% 4*16+b.toNat/16),kh (b.toNat% 16*4)]
 |a::b::c::r=>kh (a.toNat/4)::kh (a.toNat% 4*16+b.toNat/16)::kh (b.toNat% 16*4+c.toNat/64)::kh (c.toNat% 64)::eU r
def vt (a b c d:Int):Int:=262144*a+(4096*b+(64*c+d))
def Jo:aq->aq->Option aq
 |out,[]=>some out
 |_,[_]=>none
 |out,[a,b]=>cond (decide (0<=fW a)&&decide (0<=fW b)&&decide (vt (fW a) (fW b) 0 0% 65536=0)) (some (out++[u8 (vt (fW a) (fW b) 0 0/65536)])) none
 |out,[a,b,c]=>cond (decide (0<=fW a)&&decide (0<=fW b)&&decide (0<=fW c)&&decide (vt (fW a) (fW b) (fW c) 0% 256=0)) (some (out++[u8 (vt (fW a) (fW b) (fW c) 0/65536)]++[u8 (vt (fW a) (fW b) (fW c) 0/256% 256)])) none
 |out,a::b::c::d::r=>cond (decide (0<=fW a)&&decide (0<=fW b)&&decide (0<=fW c)&&decide (0<=fW d)) (Jo (out++[u8 (vt (fW a) (fW b) (fW c) (fW d)/65536)]++[u8 (vt (fW a) (fW b) (fW c) (fW d)/256% 256)]++[u8 (vt (fW a) (fW b) (fW c) (fW d)% 256)]) r) none
def gW (r:Int):aq:=(ab r).map λrow=>kq (row.getD 0 0).toNat
def T8 (s:aq):Bool:=decide (s.length=44)&&s.getD 0 0==36&&(Jo [] (s.drop 1)).isSome
abbrev gA:=(aq×aq)×aq×Int
def eS:gA:=(([],[]),[],0)
def ib (r:List Int):aq×aq:=(U (r.getD 0 0),U (r.getD 1 0))
def jL (r:List Int):gA:=(ib r,U (r.getD 2 0),r.getD 3 0)
def bds (z:Int):List gA:=(ab z).map jL
def J3 (z:Int):List (aq×aq):=(ab z).map ib
def ig (b:gA):Bool:=decide (0<=b.2.2)&&(decide (b.2.2<=1099511627776)&&(lf b.1.1 b.1.2&&mW b.2.1))
def oc (a b:aq×aq):Bool:=mQ a.1 a.2 b.1 b.2
def pV (a b:aq×aq):Int:=cond (a==b) 0 (cond (oc a b) (-1) 1)
def B2:List gA->Bool
 |[]=>true
 |[_]=>true
 |a::b::r=>oc a.1 b.1&&B2 (b::r)
def hX (l:List gA):Bool:=bu l.length 64&&l.all ig&&B2 l
def Uf (l:List gA) (w:aq×aq):Option gA:=cond (hX l) (l.find? (λb=>b.1==w)) none
def XK (l:List gA) (x:aq):List (aq×aq):=cond (hX l) ((l.filter (·.2.1==x)).map (·.1)) []
def Ta (l:List gA) (w:gA):List gA×Int:=cond (ig w&&hX l) (cond (l.any (·.1==w.1)) (l.map (λb=>cond (b.1==w.1) w b),0) (cond (decide (l.length=64)) (l,10) (l.filter (λb=>oc b.1 w.1)++w::l.filter (λb=>oc w.1 b.1),0))) (l,1)
def ZD (l:List gA) (w:gA):List gA×Int:=cond (hX l) (match l.find? (·.1==w.1)with|none=>(l,7)|some b=>cond (b.2.1==w.2.1) (l.filter (λb=> !(b.1==w.1)),0) (l,14)) (l,1)
def abj (l:List gA) (w:aq×aq) (i f:Int):Prop:=(0<=i/\i<=l.length)/\(f=1->i<l.length)/\(hX l=true->(∀j:Nat,(j:Int)<i->pV (l.getD j eS).1 w<0)/\(∀j:Nat,i<=j->j<l.length->0<=pV (l.getD j eS).1 w)/\(f=1↔i<l.length/\pV (l.getD i.toNat eS).1 w=0))
structure fO where
 id:Int
 sec:aq
 oY:aq×aq
 tok:aq
 w8:Int
 since:Int
 Cf:Int
 shown:Int
 Qq:Int
deriving DecidableEq
def rI:fO:=⟨0,[],([],[]),[],0,0,0,0,0⟩
def nA (r:List Int):fO:=⟨r.getD 0 0,U (r.getD 1 0),(U (r.getD 2 0),U (r.getD 3 0)),U (r.getD 4 0),r.getD 5 0,r.getD 6 0,r.getD 7 0,r.getD 8 0,r.getD 9 0⟩
def hZ (z:Int):List fO:=(ab z).map nA
def v7 (t:aq):Bool:=t.all λc=>bu 32 c.toNat&&bu c.toNat 126
def hE (t:aq):Bool:= !t.isEmpty&&(bu t.length 64&&(v7 t&& !t.contains 32))
def FI (n:Int):Bool:=decide (0<=n)&&decide (n<=1099511627776)
def JL (s:fO):Bool:=(decide (1<=s.id)&&decide (s.id<=1099511627776))&&(FI s.since&&FI s.Qq)&&(decide (1<=s.w8)&&decide (s.w8<=1000)&&(decide (0<=s.Cf)&&decide (s.Cf<=3)))&&(decide (s.shown=1)||decide (s.Qq=0))&&(hE s.sec&&(hE s.tok&&lf s.oY.1 s.oY.2))
def SV (a b:fO):Bool:=decide (a.sec=b.sec)&&decide (a.oY=b.oY)
def ac1 (x s:fO):Bool:=SV x s||(decide (x.tok=s.tok)||decide (s.id<=x.id))
def wg (l:List fO):Bool:=bu l.length 16&&(c8 l.length).all λi=>JL (l.getD i rI)&&(l.take i).all λx=> !ac1 x (l.getD i rI)
def atS (x:Int):Int:=(x+9223372036854775808)% 18446744073709551616-9223372036854775808
def Ja (s:fO) (now:Int):Bool:=decide (86400<atS (now-s.since))
def yE (l:List fO) (now:Int):List fO:=l.filter λs=> !Ja s now
def Uh (l:List fO) (id:Int):Option fO:=cond (wg l) (l.find? λs=>decide (s.id=id)) none
def sM (l:List fO) (now:Int) (w:fO):Nat×Int:=cond (FI now&&wg l) (match l.findIdx? (λs=>decide (s.id=w.id))with
 |some i=>cond (decide ((l.getD i rI).sec=w.sec)&& !Ja (l.getD i rI) now) (i,0) (0,11)
 |none=>(0,11)) (0,1)
def Za (l:List fO) (now:Int) (w:fO):(aq×aq)×Int:=cond (decide ((sM l now w).2=0)) (cond (decide ((l.getD (sM l now w).1 rI).shown=1)) ((l.getD (sM l now w).1 rI).oY,0) (([],[]),14)) (([],[]),(sM l now w).2)
def aqw (l:List fO) (now:Int) (w:fO) (i:Nat) (s:fO):List fO×Int:=cond (decide (s.Cf=3)) (l,16) (cond (decide (s.tok=w.tok)) (cond (decide (s.shown=1)) (l,0) (l.set i {s with shown:=1,Qq:=now},0)) (l.set i {s with Cf:=s.Cf+1},12))
def Zq (l:List fO) (now:Int) (w:fO):List fO×Int:=cond (decide ((sM l now w).2=0)) (aqw l now w (sM l now w).1 (l.getD (sM l now w).1 rI)) (l,(sM l now w).2)
def ao9 (live:List fO) (w:fO) (i:Nat) (s:fO):List fO×Int×Int×Int:=(live.set i {s with w8:=max s.w8 w.w8},s.id,aN (decide (s.w8<w.w8)),0)
def apa (l live:List fO) (w:fO):List fO×Int×Int×Int:=cond (live.any (λs=>decide (s.id=w.id))||live.any (λs=>decide (s.tok=w.tok))) (l,0,0,6) (cond (decide (live.length=16)) (l,0,0,10) (live.filter (λs=>decide (s.id<w.id))++w::live.filter (λs=>decide (w.id<s.id)),w.id,1,0))
def Yo (l:List fO) (w:fO):List fO×Int×Int×Int:=cond (JL w&&(decide (w.Cf<=0)&&(!decide (w.shown=1)&&wg l))) (match(yE l w.since).findIdx? (λs=>SV s w)with
 |some i=>ao9 (yE l w.since) w i ((yE l w.since).getD i rI)
 |none=>apa l (yE l w.since) w) (l,0,0,1)
def abh (l:List fO) (n i f:Int):Prop:=(0<=i/\i<=l.length)/\(f=1->i<l.length)/\(wg l=true->(∀j:Nat,(j:Int)<i->(l.getD j rI).id<n)/\(∀j:Nat,i<=j->j<l.length->n<=(l.getD j rI).id)/\(f=1↔i<l.length/\(l.getD i.toNat rI).id=n))
def ab1:List Int:=[5,116,477315081741,437051401625,117,1,100,0,0,0]
structure nN where
 tok:aq
 fy:aq
 qJ:List aq
deriving DecidableEq
def uL:nN:=⟨[],[],[]⟩
def bD (z:Int):List aq:=(ab z).map λr=>U (r.getD 0 0)
def asE (r:List Int):nN:=⟨U (r.getD 0 0),U (r.getD 1 0),bD (r.getD 2 0)⟩
def iR (z:Int):List nN:=(ab z).map asE
def aqP (l:List nN):Nat:=l.length+(l.map λu=>u.qJ.length).sum
def JB (l:List aq):Bool:=(c8 l.length).all λi=>hE (l.getD i [])&&(decide (i=0)||dy (l.getD (i-1) []) (l.getD i []))
def JA (l:List nN):Bool:=bu l.length 16&&(l.all (λu=>mW u.fy&&(bu u.qJ.length 4&&JB u.qJ))&&JB (l.map (·.tok)))
def abk (l:List nN) (t:aq) (i f:Int):Prop:=(0<=i/\i<=l.length)/\(f=1->i<l.length)/\(JB (l.map (·.tok))=true->(∀j:Nat,(j:Int)<i->dy (l.getD j uL).tok t=true)/\(∀j:Nat,i<=j->j<l.length->dy (l.getD j uL).tok t=false)/\(f=1↔i<l.length/\(l.getD i.toNat uL).tok=t))
def mj (l:List nN) (t:aq):Int×Int:=cond (JA l) (match l.findIdx? (λu=>decide (u.tok=t))with|some k=>((k:Int),0)|none=>(0,14)) (0,1)
def ZL (l:List nN) (t:aq):aq×Int:=cond (decide ((mj l t).2=0)) ((l.getD (mj l t).1.toNat uL).fy,0) ([],(mj l t).2)
def SR (l:List nN) (t:aq) (d:List aq):Int:=cond (decide ((mj l t).2=0)) (cond (d.all λs=>(l.getD (mj l t).1.toNat uL).qJ.contains s) 0 13) (mj l t).2
def Xi (l:List nN) (t:aq):List nN×Int:=cond (decide ((mj l t).2=0)) (l.take (mj l t).1.toNat++l.drop ((mj l t).1.toNat+1),0) (l,(mj l t).2)
def Yl (l:List nN) (t m:aq):List nN×Int:=cond (JA l&&(hE t&&mW m)) (cond (l.findIdx? (λu=>decide (u.tok=t))).isSome (l,6) (cond (decide (l.length=16)) (l,10) (l.takeWhile (λu=>dy u.tok t)++⟨t,m,[]⟩::l.dropWhile (λu=>dy u.tok t),0))) (l,1)
def rp (s:aq):List aq->List aq
 |[]=>[s]
 |x::r=>cond (decide (x=s)) (x::r) (cond (dy s x) (s::x::r) (x::rp s r))
def ZE (a d:List aq):List aq:=d.foldl (λl s=>rp s l) a
def SQ (l:List nN) (t:aq) (d:List aq):List nN×Int:=cond (decide ((mj l t).2=0)) (cond (d.all hE) (cond (bu (ZE (l.getD (mj l t).1.toNat uL).qJ d).length 4) (l.set (mj l t).1.toNat ⟨(l.getD (mj l t).1.toNat uL).tok,(l.getD (mj l t).1.toNat uL).fy,ZE (l.getD (mj l t).1.toNat uL).qJ d⟩,0) (l,10)) (l,1)) (l,(mj l t).2)
structure m9 where
 tok:aq
 oY:aq×aq
 room:aq
 apS:aq
 apP:aq
 zD:aq
deriving DecidableEq
def E8:m9:=⟨[],([],[]),[],[],[],[]⟩
def yD (r:List Int):m9:=⟨U (r.getD 0 0),(U (r.getD 1 0),U (r.getD 2 0)),U (r.getD 3 0),U (r.getD 4 0),U (r.getD 5 0),U (r.getD 6 0)⟩
def mS (z:Int):List m9:=(ab z).map yD
def Jp (p:m9):Bool:=hE p.tok&&(hE p.apP&&(lf p.oY.1 p.oY.2&&(JC p.room&&(mW p.apS&&(p.zD.isEmpty||mW p.zD)))))
def Ys (l:List m9):Bool:=(c8 l.length).all λi=>decide (i=0)||dy (l.getD (i-1) E8).tok (l.getD i E8).tok
def Fs (l:List m9):Bool:=bu l.length 32&&(l.all Jp&&Ys l)
def abi (l:List m9) (t:aq) (i f:Int):Prop:=(0<=i/\i<=l.length)/\(f=1->i<l.length)/\(Ys l=true->(∀j:Nat,(j:Int)<i->dy (l.getD j E8).tok t=true)/\(∀j:Nat,i<=j->j<l.length->dy (l.getD j E8).tok t=false)/\(f=1↔i<l.length/\(l.getD i.toNat E8).tok=t))
def Ug (l:List m9) (t:aq):Option m9:=cond (Fs l) (l.find? λp=>decide (p.tok=t)) none
def Zl (l:List m9) (w:m9):List m9×Int:=cond (Jp w&&(w.zD.isEmpty&&Fs l)) (cond (l.any λp=>decide (p.tok=w.tok)) (l,6) (cond (decide (l.length=32)) (l,10) (l.filter (λp=>dy p.tok w.tok)++w::l.filter (λp=>dy w.tok p.tok),0))) (l,1)
def ZJ (oY:aq×aq) (p:m9):Bool:=decide (p.oY=oY)&&p.zD.isEmpty
def Y9 (l:List m9) (oY:aq×aq) (fy:aq):List m9×List m9×Int:=cond (mW fy&&Fs l) (l.map (λp=>cond (ZJ oY p) {p with zD:=fy} p),(l.filter (ZJ oY)).map (λp=>{p with zD:=fy}),0) (l,[],1)
def abQ:aq:=[65,66,67,68,69,70,71,72,73,74,75,76,77,78,79,80,81,82,83,84,85,86,87,88,89,90,97,98,99,100,101,102,103,104,105,106,107,108,109,110,111,112,113,114,115,116,117,118,119,120,121,122,48,49,50,51,52,53,54,55,56,57,43,47]
def ux (n:Nat):UInt8:=abQ.getD n 0
def Yb:aq->aq
 |[]=>[]
 |[a]=>[ux (a.toNat/4),ux (a.toNat% 4*16)]
 |[a,b]=>[ux (a.toNat/4),ux (a.toNat% 4*16+b.toNat/16),ux (b.toNat% 16*4)]
 |a::b::c::r=>ux (a.toNat/4)::ux (a.toNat% 4*16+b.toNat/16)::ux (b.toNat% 16*4+c.toNat/64)::ux (c.toNat% 64)::Yb r
def amY:List Int:=[117,477315081741,437051401625,1786258745,1786259033,1721197221,0]
def gw (z:Int):List aq:=(ab z).map λr=>U (r.getD 2 0)
def GK (l:List aq) (t:aq) (i f:Int):Prop:=(0<=i/\i<=l.length)/\(f=1->i<l.length)/\(l.Pairwise (λa b=>dy a b=true)->(∀j:Nat,(j:Int)<i->dy (l.getD j []) t=true)/\(∀j:Nat,i<=j->j<l.length->dy (l.getD j []) t=false)/\(f=1↔i<l.length/\l.getD i.toNat []=t))
def vf (a b s:Int) (r:List Int) (a' b':Int):Prop:=∃i f:Int,GK (bD a) (U s) i f/\(f=1->ab a'=ab a/\ab b'=(ab b).set i.toNat r)/\(f≠1->ab a'=(ab a).take i.toNat++[[s]]++(ab a).drop i.toNat/\ab b'=(ab b).take i.toNat++[r]++(ab b).drop i.toNat)
def nt (a:Int) (s:aq):Option Nat:=(bD a).findIdx? λx=>decide (x=s)
def nh (a b:Int) (s:aq):Option aq:=(nt a s).map λi=>(gw b).getD i []
def qp (w:aq×aq):aq:=w.2++[32]++w.1
def nG (nm:aq×aq->aq) (l:List gA) (s:aq):Option aq:=(l.reverse.find? λb=>decide (nm b.1=s)).map (·.2.1)
def ny (l:List gA) (p q:aq) (d:List aq):Int:=cond (hE p&&hX l) (cond (decide (q=p)) (cond (bu d.length 32) 0 16) 15) 1
def tv (nm:aq×aq->aq) (l:List gA) (p q:aq) (d:List aq) (k n t a b e:Int):Prop:=e=ny l p q d/\n=0/\U t=[]/\(e≠0->k=0/\ab a=[]/\ab b=[])/\(e=0->k=6/\l8 a b/\∀s,nh a b s=cond (d.contains s) (nG nm l s) none)
def qn (t:aq):List Int:=t.map λb=>(b.toNat:Int)
def nj (p:aq) (w:aq×aq):aq:=eU ((nC cl (qn (qp w)++([32]++qn p))).map λz=>kq z.toNat)
def abE:Nat->List (List Int)->List (List Int)->Prop
 |472,[[a],[b],[c]],rs=>rs=[nC cl (cm a++(cm b++cm c))]
 |640,_,[[r]]=>r=1
 |642,_,[[r]]=>r=1
 |646,_,[[r]]=>r=1
 |677,_,[[r]]=>r=1
 |670,[[z]],[[r]]=>r=aN (hE (U z))
 |671,[[z],[t]],[[i],[f]]=>GK (bD z) (U t) i f
 |672,[[c],[i],[r]],[[y]]=>ab y=(ab c).take i.toNat++ab r++(ab c).drop i.toNat
 |673,[[c],[i],[r]],[[y]]=>ab y=(ab c).take i.toNat++ab r++(ab c).drop i.toNat
 |674,[[a],[b],[s],r],[[k],[n],[t],[a'],[b']]=>k=6/\n=0/\U t=[]/\vf a b s r a' b'
 |675,[[a],[b],[s],r],[[k],[n],[t],[a'],[b'],[e]]=>e=0/\k=6/\n=0/\U t=[]/\vf a b s r a' b'
 |676,[[k],[n],[t],[a],[b],[s]],[r,[f]]=>match cond (decide (k=6)) (nt a (U s)) none with
  |some i=>i<(ab b).length->r.getD 2 0=((ab b).getD i []).getD 2 0/\f=1
  |none=>U (r.getD 2 0)=[]/\f=0
 |678,[[z],[p],[q],[d]],[[k],[n],[t],[a],[b],[e]]=>tv qp (bds z) (U p) (U q) (bD d) k n t a b e
 |679,[[p],w],[[r]]=>U r=nj (U p) (ib w)
 |680,[],[[r]]=>r=1
 |681,_,_=>True
 |683,[[z]],[[r]]=>ab r=ab z
 |685,[[z],[p],[q],[d]],[[k],[n],[t],[a],[b],[e]]=>tv (nj (U p)) (bds z) (U p) (U q) (bD d) k n t a b e
 |686,[_,_,_],[[r]]=>r=1
 |684,[[z]],[[r]]=>ab r=ab z
 |682,[_,_,_],[[r]]=>r=1
 |n,a,b=>abD n a b
def abF:Nat->List (List Int)->List (List Int)->Prop
 |600,[[z]],[[r]]=>r=aN (hE (U z))
 |601,[r],[[z]]=>z=aN (Jp (yD r))
 |602,[[z]],[[r]]=>r=aN (Fs (mS z))
 |603,[[z],[t]],[[i],[f]]=>abi (mS z) (U t) i f
 |604,[[z],[t]],[r,[f]]=>match Ug (mS z) (U t)with
  |some b=>yD r=b/\f=1
  |none=>r=[0,0,0,0,0,0,0]/\f=0
 |605,[[c],[i],[r]],[[y]]=>ab y=(ab c).take i.toNat++ab r++(ab c).drop i.toNat
 |606,[[z],r],[[y],[e]]=>(mS y,e)=Zl (mS z) (yD r)
 |607,[[z],a,[m]],[[y],[d],[e]]=>(mS y,mS d,e)=Y9 (mS z) (ib a) (U m)
 |608,[],[r]=>r=amY
 |612,[r],[[z]]=>z=aN (Jp (yD r))
 |613,[[z]],[[r]]=>r=aN (Fs (mS z))
 |614,[[z],[t]],[r,[f]]=>match Ug (mS z) (U t)with
  |some b=>yD r=b/\f=1
  |none=>r=[0,0,0,0,0,0,0]/\f=0
 |615,[[z],r],[[y],[e]]=>(mS y,e)=Zl (mS z) (yD r)
 |616,[[z],a,[m]],[[y],[d],[e]]=>(mS y,mS d,e)=Y9 (mS z) (ib a) (U m)
 |617,[[a],[b]],[[r]]=>r=aN (decide (mS a=mS b))
 |618,[[r]],[[z]]=>U z=Yb (gW r)
 |619,[[z]],[[r]]=>ab r=ab z
 |n,a,b=>abE n a b
def abG:Nat->List (List Int)->List (List Int)->Prop
 |500,[[z]],[[r]]=>r=aN (decide (200<aqP (iR z)))
 |501,[[z]],[[r]]=>r=aN ((U z).contains 32)
 |502,[[z]],[[r]]=>r=aN (hE (U z))
 |503,[[z]],[[r]]=>r=aN (JB (bD z))
 |504,[[z]],[[r]]=>r=aN (JA (iR z))
 |505,[[z],[t]],[[i],[f]]=>abk (iR z) (U t) i f
 |506,[[z],[t]],[[i],[e]]=>(i,e)=mj (iR z) (U t)
 |507,[[z],[t]],[[s],[e]]=>(U s,e)=ZL (iR z) (U t)
 |508,[[z],[t]],[[y],[e]]=>(iR y,e)=Xi (iR z) (U t)
 |509,[[z],[t],[m]],[[y],[e]]=>(iR y,e)=Yl (iR z) (U t) (U m)
 |511,[[z],[t],[d]],[[e]]=>e=SR (iR z) (U t) (bD d)
 |513,[[z],[t],[d]],[[y],[e]]=>(iR y,e)=SQ (iR z) (U t) (bD d)
 |530,[[z]],[[r]]=>r=aN (JA (iR z))
 |531,[[z],[t]],[[i]]=>i=match(iR z).findIdx? (λu=>decide (u.tok=U t))with|some k=>(k:Int)|none=>-1
 |532,[[z],[t],[m]],[[y],[e]]=>(iR y,e)=Yl (iR z) (U t) (U m)
 |533,[[z],[t]],[[y],[e]]=>(iR y,e)=Xi (iR z) (U t)
 |534,[[z],[t]],[[s],[e]]=>(U s,e)=ZL (iR z) (U t)
 |535,[[z],[s]],[[y]]=>(bD z).Pairwise (λa b=>dy a b=true)->bD y=rp (U s) (bD z)
 |536,[[z],[t],[d]],[[y],[e]]=>(iR y,e)=SQ (iR z) (U t) (bD d)
 |537,[[z],[t],[d]],[[e]]=>e=SR (iR z) (U t) (bD d)
 |538,[[a],[b]],[[r]]=>r=aN (decide (iR a=iR b))
 |539,[[z]],[[y]]=>iR y=iR z
 |540,[_,_,_],[[r]]=>r=1
 |541,[_,_,_],[[r]]=>r=1
 |520,[],[[r]]=>r=1
 |521,[_,_],[[r]]=>r=1
 |522,[_,_,_],[[r]]=>r=1
 |512,[[z],[t]],[[r]]=>r=aN ((bD z).contains (U t))
 |510,[[a],[b]],[[r]]=>r=cond (dy (U a) (U b)) (-1) (cond (decide (U a=U b)) 0 1)
 |n,a,b=>abF n a b
def abC:Nat->List (List Int)->List (List Int)->Prop
 |400,[[z]],[[r]]=>r=aN (v7 (U z))
 |401,[[z]],[[r]]=>r=aN (hE (U z))
 |402,[r],[[z]]=>z=aN (JL (nA r))
 |403,[[z]],[[r]]=>r=aN (wg (hZ z))
 |404,[[z],[n]],[[i],[f]]=>abh (hZ z) n i f
 |417,[r,[n]],[[z]]=>z=aN (Ja (nA r) n)
 |405,[[z],[n]],[r,[f]]=>match Uh (hZ z) n with
  |some b=>nA r=b/\f=1
  |none=>r=[0,0,0,0,0,0,0,0,0,0]/\f=0
 |406,[[z],[n],r],[[i],[e]]=>(i,e)=(((sM (hZ z) n (nA r)).1:Int),(sM (hZ z) n (nA r)).2)
 |407,[[z],[n],r],[a,[e]]=>(ib a,e)=Za (hZ z) n (nA r)
 |408,[[z],[n],r],[[y],[e]]=>(hZ y,e)=Zq (hZ z) n (nA r)
 |409,[[z],[n]],[[y]]=>hZ y=yE (hZ z) n
 |410,[[z],[n]],[[y]]=>hZ y=cond (FI n&&wg (hZ z)) (yE (hZ z) n) []
 |411,[[c],[i],[r]],[[y]]=>ab y=(ab c).take i.toNat++ab r++(ab c).drop i.toNat
 |412,[[z],r],[[y],[i],[s],[e]]=>(hZ y,i,s,e)=Yo (hZ z) (nA r)
 |416,[[a],[b]],[[r]]=>r=aN (decide (hZ a=hZ b))
 |418,[],[r]=>r=ab1
 |413,[],[[r]]=>r=1
 |414,[_],[[r]]=>r=1
 |415,[_,_],[[r]]=>r=1
 |420,[[z]],[[r]]=>r=aN (hE (U z))
 |422,[r],[[z]]=>z=aN (JL (nA r))
 |423,[[z]],[[r]]=>r=aN (wg (hZ z))
 |424,[[z],[n]],[[y]]=>hZ y=cond (FI n&&wg (hZ z)) (yE (hZ z) n) []
 |425,[[z],[n]],[r,[f]]=>match Uh (hZ z) n with
  |some b=>nA r=b/\f=1
  |none=>r=[0,0,0,0,0,0,0,0,0,0]/\f=0
 |426,[[z],[n],r],[[i]]=>i=match(hZ z).findIdx? (λs=>decide (s.id=(nA r).id)&&(decide (s.sec=(nA r).sec)&& !Ja s n))with
  |some k=>(k:Int)
  |none=>-1
 |427,[[z],[n],r],[[y],[e]]=>(hZ y,e)=Zq (hZ z) n (nA r)
 |428,[[z],[n],r],[a,[e]]=>(ib a,e)=Za (hZ z) n (nA r)
 |429,[[z],r],[[y],[i],[s],[e]]=>(hZ y,i,s,e)=Yo (hZ z) (nA r)
 |430,[_,_],[[r]]=>r=1
 |431,[_,_,_],[[r]]=>r=1
 |n,a,b=>abG n a b
def abB:Nat->List (List Int)->List (List Int)->Prop
 |300,[r],[[z]]=>z=aN (ig (jL r))
 |301,[r,a],[[z]]=>z=pV (ib r) (ib a)
 |302,[[z],a],[[i],[f]]=>abj (bds z) (ib a) i f
 |303,[[z]],[[r]]=>r=aN (hX (bds z))
 |304,[[z],a],[r,[f]]=>match Uf (bds z) (ib a)with
  |some b=>jL r=b/\f=1
  |none=>jL r=eS/\f=0
 |305,[[z],[x]],[[y]]=>J3 y=XK (bds z) (U x)
 |306,[[c],[i],[r]],[[y]]=>ab y=(ab c).take i.toNat++ab r++(ab c).drop i.toNat
 |307,[[c],[i],[j]],[[y]]=>ab y=(ab c).take i.toNat++(ab c).drop j.toNat
 |308,[[z],r],[[y],[e]]=>(bds y,e)=Ta (bds z) (jL r)
 |309,[[z],r],[[y],[e]]=>(bds y,e)=ZD (bds z) (jL r)
 |310,[],[[r]]=>r=1
 |311,[_,_],[[r]]=>r=1
 |312,[_],[[r]]=>r=1
 |320,[r],[[z]]=>z=aN (ig (jL r))
 |321,[[z]],[[r]]=>r=aN (hX (bds z))
 |322,[[z],a],[r,[f]]=>match Uf (bds z) (ib a)with
  |some b=>jL r=b/\f=1
  |none=>jL r=eS/\f=0
 |323,[[z],a],[[y]]=>bds y=(bds z).filter (λb=> !(b.1==ib a))
 |324,[[z],r],[[y],[e]]=>(bds y,e)=Ta (bds z) (jL r)
 |325,[[z],r],[[y],[e]]=>(bds y,e)=ZD (bds z) (jL r)
 |326,[[z],[x]],[[y]]=>J3 y=XK (bds z) (U x)
 |327,[[a],[b]],[[r]]=>r=aN (decide (bds a=bds b))
 |328,[[a],[b]],[[r]]=>r=aN (decide (J3 a=J3 b))
 |329,[_,_,_],[[r]]=>r=1
 |n,a,b=>abC n a b
def SB:Nat->List (List Int)->List (List Int)->Prop
 |73,[[z],[b]],[[r]]=>r=idx b (U z)
 |36,[[z],[b]],[[r]]=>U r=e8 (·==u8 b) (U z)
 |37,[[z],[b]],[[r]]=>U r=fM (·==u8 b) (U z)
 |120,[[z]],[[r]]=>U r=jl (·==32) (U z)
 |121,[[z]],[[r]]=>U r=jl (·==46) (U z)
 |122,[[z]],[[r]]=>U r=jl lB (U z)
 |123,[[z]],[[r]]=>U r=jl k5 (U z)
 |124,[[z]],[[r]]=>U r=jl dM (U z)
 |125,[[z]],[[a],[b],[c]]=>(U a,U b,c)=mF 64 (U z)
 |126,[[z]],[[a],[b],[c]]=>(U a,U b,c)=mF 58 (U z)
 |127,[[z]],[[r]]=>r=aN ((U z).contains 46)
 |128,[[z]],[[r]]=>r=aN (dd (U z))
 |44,[[s],[b]],[[r]]=>r=aN ((U s).all λc=>(U b).contains c)
 |65,[[s],[b]],[[r]]=>r=aN ((U s).all λc=>(U b).contains c)
 |28,[[z]],[[r]]=>U r=lower (U z)
 |17,[[z]],[[r]]=>U r=lower (U z)
 |31,[[z],[c]],[[r]]=>r=aN ((U z).contains (u8 c))
 |47,[[z]],[[r]]=>r=aN (fR (U z))
 |30,[[z]],[[r]]=>r=aN (fR (U z))
 |27,[[z]],[[r]]=>r=aN (jk (U z))
 |24,[[z]],[[r]]=>r=aN (jV (U z))
 |29,[[z]],[[r]]=>r=aN (jV (U z))
 |50,[[c]],[[r]]=>r=aN (mf (u8 c))
 |51,[[c]],[[r]]=>r=aN (me (u8 c))
 |52,[[c]],[[r]]=>r=aN (dM (u8 c))
 |10,[[z]],[[a],[e]]=>(U a,e)=lC (U z)
 |11,[[z]],[[a],[e]]=>(U a,e)=lC (U z)
 |35,[[w]],[[c],[t],[o]]=>match iJ (U w)with
  |some (code,fV)=>U c=code/\t=aN (!fV.isEmpty)/\o=1
  |none=>U c=[]/\t=0/\o=0
 |32,[[w]],[[c,t],[o]]=>match iJ (U w)with
  |some (code,fV)=>U c=code/\U t=fV/\o=1
  |none=>o=0/\U c=[]/\U t=[]
 |33,[[s]],[[d],[p],[o]]=>match ea (U s) [] false with
  |some (d',p')=>U d=d'/\p=aN p'/\o=1
  |none=>U d=[]/\p=0/\o=0
 |34,[[s],[t]],[[r]]=>U r=cond ((U t).isPrefixOf (U s)) ((U s).drop (U t).length) (U s)
 |12,[[w],[s]],[[a],[e]]=>(U a,e)=jj (U w) (U s)
 |13,[[w],[s]],[[a],[e]]=>(U a,e)=jj (U w) (U s)
 |14,[[a,b],[c,d]],[[r]]=>r=aN (mQ (U a) (U b) (U c) (U d))
 |21,[[a,b],[c,d]],[[r]]=>r=aN (mQ (U a) (U b) (U c) (U d))
 |15,[[m],[w]],[[a,b],[e]]=>(U a,U b,e)=ld (U m) (U w)
 |18,[[m],[w]],[[a,b],[e]]=>(U a,U b,e)=ld (U m) (U w)
 |16,[[m,w]],[[r]]=>r=aN (lf (U m) (U w))
 |19,[[m,w]],[[r]]=>r=aN (lf (U m) (U w))
 |20,[[m,w]],[[r]]=>U r=U m++[32]++U w
 |202,[[z]],[[r]]=>U r=jl rn (U z)
 |203,[[z]],[[r]]=>U r=jl WC (U z)
 |200,[[z]],[[r]]=>r=aN (mW (U z))
 |207,[[z]],[[r]]=>r=aN (mW (U z))
 |201,[[z]],[[r]]=>r=aN (JC (U z))
 |208,[[z]],[[r]]=>r=aN (JC (U z))
 |204,[[z]],[[r]]=>r=idx 58 (U z)
 |205,[[z]],[[r]]=>r=aN (jk (U z))
 |206,[[z],[k]],[[a],[b],[c]]=>(U a,U b,c)=ji (u8 k) (U z)
 |211,[[z],[k]],[[a],[b],[c]]=>(U a,U b,c)=ji (u8 k) (U z)
 |209,[[z]],[[a],[b],[e]]=>(U a,U b,e)=Zj (U z)
 |210,[[z]],[[a],[b],[e]]=>(U a,U b,e)=Zj (U z)
 |220,[[z]],[[r],[e]]=>match Jo [] (U z)with
  |some l=>gW r=l/\e=0
  |none=>gW r=[]/\e=2
 |221,[[z]],[[r],[e]]=>match Jo [] (U z)with
  |some l=>gW r=l/\e=0
  |none=>gW r=[]/\e=2
 |222,[[r]],[[z]]=>U z=eU (gW r)
 |225,[[r]],[[z]]=>U z=eU (gW r)
 |223,[[z]],[[r]]=>r=aN (T8 (U z))
 |224,[[z]],[[r]]=>r=aN (T8 (U z))
 |230,[[c]],[[r]]=>r=idx c w5
 |226,[],[[r]]=>r=1
 |227,[_],[[r]]=>r=1
 |228,[_],[[r]]=>r=1
 |229,[_,_],[[r]]=>r=1
 |9,[],[[r]]=>r=1
 |3,[_],[[r]]=>r=1
 |4,[_,_],[[r]]=>r=1
 |5,[_],[[r]]=>r=1
 |6,[_,_,_],[[r]]=>r=1
 |7,[_,_],[[r]]=>r=1
 |8,[_,_],[[r]]=>r=1
 |n,a,b=>abB n a b
theorem Ca (b:UInt8):u8 (b.toNat:Int)=b:=by simp[u8]
theorem qq {b:UInt8} {z:Int} (h0:0<=z) (h1:z<=255):((b.toNat:Int)=z)↔(b==u8 z)=true:=by
 rw[beq_iff_eq,<-Ra];unfold u8;simp;omega
theorem AJ {c:Int} (h0:0<=c) (h1:c<=255):∀l:aq,(idx c l=-1/\u8 c∉l)∨(0<=idx c l/\(idx c l).toNat<l.length/\l.getD (idx c l).toNat 0=u8 c/\u8 c∈l/\∀j,j<(idx c l).toNat->l.getD j 0≠u8 c)
 |[]=> .inl ⟨rfl,by simp⟩
 |b::r=>by
  have hb:=qq (b:=b) h0 h1;have ih:=AJ h0 h1 r;by_cases he:(b.toNat:Int)=c
  ·have hb':b=u8 c:=by simpa using hb.1 he
   right
   have:idx c (b::r)=0:=by simp[idx,he]
   rw[this];refine⟨bB _,by simp,by simp[hb'],by simp[hb'],λj hj=>by simp at hj⟩
  ·have hb':¬b=u8 c:=λe=>he (hb.2 (by simpa using e));rcases ih with⟨h2,h3⟩|⟨h2,h3,h4,h5,h6⟩
   ·left
    exact⟨by simp[idx,he,h2],by simp[h3];exactλe=>hb' e.symm⟩
   ·right
    have e:idx c (b::r)=idx c r+1:=by
     show(if(b.toNat:Int)=c then 0 else if idx c r<0 then-1 else idx c r+1)=_;rw[if_neg he,if_neg (by omega)]
    have nf:(idx c (b::r)).toNat=(idx c r).toNat+1:=by omega
    rw[nf];refine⟨by omega,by simp;omega,by simpa using h4,by simp[h5],λj hj=>?_⟩;cases j with
    |zero=>simpa using hb'
    |succ j=>simpa using h6 j (by omega)
theorem Iy {c:Int} (h0:0<=c) (h1:c<=255) (l:aq):decide (0<=idx c l)=l.contains (u8 c):=by
 rcases AJ h0 h1 l with⟨h2,h3⟩|⟨h2,_,_,h3,_⟩
 ·rw[h2];simp[h3]
 ·simp[h2,h3]
theorem oH (b:Bool):0<=aN b/\aN b<=1:=by cases b<;>decide
theorem CK (b:Bool):decide (aN b=1)=b:=by cases b<;>rfl
theorem JZ {z:Int} (h0:0<=z) (h1:z<=255):((u8 z).toNat:Int)=z:=by unfold u8;simp;omega
theorem FH (l:aq) (i:Nat) (h:i<l.length):l.take (i+1)=l.take i++[l.getD i 0]:=by
 rw[List.take_add_one];simp[aC,h]
theorem qM (l:aq) (i:Nat) (h:i<l.length):l.drop i=l.getD i 0::l.drop (i+1):=by
 rw[Rc h];simp[aC,h]
theorem uw {z:Int} (h:z<=bp):((U z).length:Int)<=9223372036854775807:=by
 have:=rW h;unfold eN at this;omega
theorem wi (p:UInt8->Bool) (l:aq) (x:UInt8):fM p (l++[x])=cond (p x) (fM p l) (l++[x]):=by
 unfold fM;simp only[List.reverse_append,aai,List.reverse_nil,jH,List.singleton_append,ou];cases p x<;>simp
end Go.bE
namespace Go.bE
open Go Go.ba
def qI:D:= .mix [.str,.str]
def xh:D:= .int .u8 0 255
def TS:D:= .int .i64 (-1) 9223372036854775807
def tN:D:= .int .i64 0 21
def WY:D:= .jC [32]
def WS:D:= .jC [46]
def ajb:D:= .jC [46,46]
def ajd:D:= .jC [46,45]
def ai9:D:= .jC [64]
def aja:D:= .jC [58]
def ajf:D:= .jC [97,98,99,100,101,102,103,104,105,106,107,108,109,110,111,112,113,114,115,116,117,118,119,120,121,122,65,66,67,68,69,70,71,72,73,74,75,76,77,78,79,80,81,82,83,84,85,86,87,88,89,90,48,49,50,51,52,53,54,55,56,57,46,45]
def ajc:D:= .jC [48,49,50,51,52,53,54,55,56,57]
def ajk:D:= .jC [97,98,99,100,101,102,103,104,105,106,107,108,109,110,111,112,113,114,115,116,117,118,119,120,121,122,48,49,50,51,52,53,54,55,56,57,46,95,61,47,43,45]
def d64:D:= .int .u8 64 64
def aji:D:= .jC [65,66,67,68,69,70,71,72,73,74,75,76,77,78,79,80,81,82,83,84,85,86,87,88,89,90,97,98,99,100,101,102,103,104,105,106,107,108,109,110,111,112,113,114,115,116,117,118,119,120,121,122,48,49,50,51,52,53,54,55,56,57,45,95]
def Jj:bL:= .jy [.int .u8 0 255] 5
def CM:D:= .mix [.str,.str,.str,.int .i64 (-9223372036854775808) 9223372036854775807]
def EU:bL:= .rd [.str,.str,.str,.int .i64 (-9223372036854775808) 9223372036854775807]
def adh:D:= .int .i64 (-1) 1
def Mm:D:= .int .i64 0 9223372036854775807
def zO:D:= .int .i64 (-9223372036854775808) 9223372036854775807
def adn:D:= .int .i64 0 79
def ak3:bL:= .rd [.int .u32 0 4294967295]
def Ji:bL:= .jy [.int .u32 0 4294967295] 78
def aiW:D:= .n9 .i64 32
def oL:D:= .int .u32 0 4294967295
def SL:D:= .agg .u8 32 0 255
def ajg:D:= .jC [110,111,110,101]
def ajj:D:= .jC [115,104,97,50,53,54]
def Jh:bL:= .jy [.str] 9
def Jb:bL:= .jy [.int .i64 4 4,.int .i64 0 0,.str,.nil,.nil] 30
def d66:D:= .int .i64 6 6
def C2:D:= .int .i64 0 0
def Hq:D:= .int .i64 0 6
def ajB:D:= .mix [.int .i64 0 4,.int .i64 0 0,.str,.nil,.nil]
def ajs:bL:= .rd [.int .u8 0 127]
def sG:bL:= .rd [.int .i64 4 4,.int .i64 0 0,.str,.nil,.nil]
def leaf:D:= .mix [.int .i64 4 4,.int .i64 0 0,.str,.nil,.nil]
def mh:D:= .n9 .i64 6
def e7:D:= .n9 .i64 0
def OU:D:= .jC []
def pB:bL:= .rd [.str]
def rv:bL:= .rd [.int .u8 0 255]
end Go.bE
set_option maxRecDepth 100000
namespace Go.bE
open Go Go.ba
def ek:cz->Nat->Option cX:=λ_ _=>none
def en:Nat->List Nat:=λ_=>[]
def nx:b9:=⟨137,73,[.str,xh],[TS]⟩
def vO:b9:=⟨154,36,[.str,xh],[.str]⟩
def aj7:cz->Nat->Option cX:=λf r=>match f,r with
 |154,1=>some ⟨[1],[(0,0,0)],[],[],[],[],[]⟩
 |_,_=>none
def akV:Nat->List Nat:=λn=>[1]
def vP:b9:=⟨155,37,[.str,xh],[.str]⟩
def aj8:cz->Nat->Option cX:=λf r=>match f,r with
 |155,1=>some ⟨[1],[(0,0,0)],[],[],[],[],[]⟩
 |_,_=>none
def akW:Nat->List Nat:=λn=>[1]
def Bk:b9:=⟨140,120,[.str,WY],[.str]⟩
def Bh:b9:=⟨140,121,[.str,WS],[.str]⟩
def AM:b9:=⟨33,127,[.str,WS],[.bool]⟩
def Bg:b9:=⟨140,122,[.str,ajd],[.str]⟩
def aj5:cz->Nat->Option cX:=λf r=>match f,r with
 |157,1=>some ⟨[1],[(0,0,0)],[],[],[],[],[]⟩
 |158,1=>some ⟨[1],[(0,0,0)],[],[],[],[],[]⟩
 |_,_=>none
def akT:Nat->List Nat:=λn=>[1]
def AP:b9:=⟨122,125,[.str,ai9],[.str,.str,.bool]⟩
def vK:b9:=⟨122,126,[.str,aja],[.str,.str,.bool]⟩
def A0:b9:=⟨161,44,[.str,.str],[.bool]⟩
def ajT:cz->Nat->Option cX:=λf r=>match f,r with
 |161,2=>some ⟨[0,1,7],[(8,0,9223372036854775807)],[],[],[],[],[]⟩
 |_,_=>none
def akH:Nat->List Nat:=λn=>[1]
def sD:b9:=⟨149,65,[.str,.str],[.bool]⟩
def ajN:cz->Nat->Option cX:=λf r=>match f,r with
 |149,2=>some ⟨[0,1,7],[(8,0,9223372036854775807)],[],[],[],[],[]⟩
 |_,_=>none
def akB:Nat->List Nat:=λn=>[1]
def AY:b9:=⟨143,28,[.str],[.str]⟩
def ajS:cz->Nat->Option cX:=λf r=>match f,r with
 |143,3=>some ⟨[3,8,9],[(10,0,9223372036854775807)],[(0,0,0,0)],[],[],[],[]⟩
 |_,_=>none
def akG:Nat->List Nat:=λn=>[1,1]
def A9:b9:=⟨135,17,[.str],[.str]⟩
def ajZ:cz->Nat->Option cX:=λf r=>match f,r with
 |135,3=>some ⟨[3],[(4,0,9223372036854775807)],[(0,0,0,0)],[],[],[],[]⟩
 |_,_=>none
def akN:Nat->List Nat:=λn=>[1,1]
def A5:b9:=⟨134,31,[.str,xh],[.bool]⟩
def ajW:cz->Nat->Option cX:=λf r=>match f,r with
 |134,2=>some ⟨[0,1],[(5,0,9223372036854775807)],[],[],[],[],[]⟩
 |_,_=>none
def akK:Nat->List Nat:=λn=>[1]
def ai7:b9:=⟨33,128,[.str,ajb],[.bool]⟩
def BK:j6:=⟨ai7,41⟩
def Bi:b9:=⟨140,123,[.str,ajf],[.str]⟩
def aj6:cz->Nat->Option cX:=λf r=>match f,r with
 |157,1=>some ⟨[1],[(0,0,0)],[],[],[],[],[]⟩
 |158,1=>some ⟨[1],[(0,0,0)],[],[],[],[],[]⟩
 |_,_=>none
def akU:Nat->List Nat:=λn=>[1]
def Bf:b9:=⟨140,124,[.str,ajc],[.str]⟩
def aj4:cz->Nat->Option cX:=λf r=>match f,r with
 |157,1=>some ⟨[1],[(0,0,0)],[],[],[],[],[]⟩
 |158,1=>some ⟨[1],[(0,0,0)],[],[],[],[],[]⟩
 |_,_=>none
def akS:Nat->List Nat:=λn=>[1]
def AT:b9:=⟨150,47,[.str],[.bool]⟩
def vM:b9:=⟨125,27,[.str],[.bool]⟩
def AX:b9:=⟨141,24,[.str],[.bool]⟩
def A8:b9:=⟨132,29,[.str],[.bool]⟩
def ajY:cz->Nat->Option cX:=λf r=>match f,r with
 |132,5=>some ⟨[0,3],[(4,0,9223372036854775807)],[],[],[],[],[]⟩
 |132,10=>some ⟨[0,3,4,5],[(7,0,9223372036854775807)],[],[6],[],[],[]⟩
 |_,_=>none
def akM:Nat->List Nat:=λn=>cond (aH n 3) [1] [1,1]
def vN:b9:=⟨80,50,[xh],[.bool]⟩
def AS:b9:=⟨153,51,[xh],[.bool]⟩
def sC:b9:=⟨81,52,[xh],[.bool]⟩
def vL:b9:=⟨133,30,[.str],[.bool]⟩
def ajX:cz->Nat->Option cX:=λf r=>match f,r with
 |133,4=>some ⟨[0],[(3,0,9223372036854775807)],[],[],[],[],[]⟩
 |_,_=>none
def akL:Nat->List Nat:=λn=>[1]
def A3:b9:=⟨136,35,[.str],[.str,.bool,.bool]⟩
def EO:b9:=⟨108,13,[.str,.str],[.str,tN]⟩
def Fg:j6:=⟨EO,44⟩
def aj0:cz->Nat->Option cX:=λf r=>match f,r with
 |108,7=>some ⟨[0,1,6,7,8],[(9,0,0),(11,0,9223372036854775807)],[],[10],[],[],[]⟩
 |_,_=>none
def akO:Nat->List Nat:=λn=>[1,1,1]
def A4:b9:=⟨107,11,[.str],[.str,tN]⟩
def ajV:cz->Nat->Option cX:=λf r=>match f,r with
 |107,1=>some ⟨[],[(0,0,0)],[],[],[],[],[]⟩
 |107,3=>some ⟨[],[(0,0,0)],[],[],[],[],[]⟩
 |107,6=>some ⟨[0],[(4,0,9223372036854775807)],[],[],[],[],[]⟩
 |_,_=>none
def akJ:Nat->List Nat:=λn=>[1]
def IG:b9:=⟨144,32,[.str],[qI,.bool]⟩
def IF:b9:=⟨145,33,[.str],[.str,.bool,.bool]⟩
def Bj:b9:=⟨146,34,[.str,.str],[.str]⟩
def AR:b9:=⟨119,10,[.str],[.str,tN]⟩
def EN:b9:=⟨120,12,[.str,.str],[.str,tN]⟩
def Ff:j6:=⟨EN,44⟩
def AZ:b9:=⟨93,15,[.str,.str],[qI,tN]⟩
def Ba:b9:=⟨78,18,[.str,.str],[qI,tN]⟩
def A6:b9:=⟨64,16,[qI],[.bool]⟩
def Bb:b9:=⟨49,19,[qI],[.bool]⟩
def AW:b9:=⟨66,14,[qI,qI],[.bool]⟩
def A7:b9:=⟨31,21,[qI,qI],[.bool]⟩
def Bl:b9:=⟨140,202,[.str,ajk],[.str]⟩
def aj9:cz->Nat->Option cX:=λf r=>match f,r with
 |157,1=>some ⟨[1],[(0,0,0)],[],[],[],[],[]⟩
 |158,1=>some ⟨[1],[(0,0,0)],[],[],[],[],[]⟩
 |_,_=>none
def akX:Nat->List Nat:=λn=>[1]
def vJ:b9:=⟨109,204,[.str],[TS]⟩
def ajM:cz->Nat->Option cX:=λf r=>match f,r with
 |109,2=>some ⟨[0],[(3,0,9223372036854775807)],[],[],[],[],[]⟩
 |_,_=>none
def akA:Nat->List Nat:=λn=>[1]
def Bc:b9:=⟨110,205,[.str],[.bool]⟩
def aj1:cz->Nat->Option cX:=λf r=>match f,r with
 |110,6=>some ⟨[0,3,4],[(5,0,9223372036854775807)],[],[],[],[],[]⟩
 |_,_=>none
def akP:Nat->List Nat:=λn=>[1]
def A1:b9:=⟨79,206,[.str,d64],[.str,.str,.bool]⟩
def Bd:b9:=⟨50,207,[.str],[.bool]⟩
def aj2:cz->Nat->Option cX:=λf r=>match f,r with
 |50,3=>some ⟨[3,5],[(6,0,9223372036854775807)],[],[],[],[],[]⟩
 |_,_=>none
def akQ:Nat->List Nat:=λn=>[1]
def Bm:b9:=⟨65,200,[.str],[.bool]⟩
def AL:b9:=⟨39,300,[CM],[.bool]⟩
def AK:b9:=⟨40,301,[CM,qI],[adh]⟩
def vI:dw:=⟨22,303,[EU],[.d .bool],0⟩
def ajL:cz->Nat->Option cX:=λf r=>match f,r with
 |22,4=>some ⟨[0,8,9],[(10,0,9223372036854775807)],[],[],[],[],[]⟩
 |_,_=>none
def akz:Nat->List Nat:=λn=>[1]
def Bn:b9:=⟨30,320,[CM],[.bool]⟩
def ym:dw:=⟨13,321,[EU],[.d .bool],0⟩
def akb:cz->Nat->Option cX:=λf r=>match f,r with
 |13,4=>some ⟨[0],[(3,0,9223372036854775807)],[],[],[],[],[]⟩
 |_,_=>none
def akZ:Nat->List Nat:=λn=>[1]
def A2:b9:=⟨32,400,[.str],[.bool]⟩
def ajU:cz->Nat->Option cX:=λf r=>match f,r with
 |32,2=>some ⟨[0,5],[(6,0,9223372036854775807)],[],[],[],[],[]⟩
 |_,_=>none
def akI:Nat->List Nat:=λn=>[1]
def AO:b9:=⟨33,501,[.str,WY],[.bool]⟩
def ru:b9:=⟨14,670,[.str],[.bool]⟩
def sE:dw:=⟨68,640,[ajs],[.d .bool],0⟩
def aka:cz->Nat->Option cX:=λf r=>match f,r with
 |68,2=>some ⟨[2],[],[],[],[],[],[(0,[.int .u8 0 127])]⟩
 |68,10=>some ⟨[2],[],[],[],[],[],[(0,[.int .u8 0 127])]⟩
 |_,_=>none
def akY:Nat->List Nat:=λn=>[1,1,1]
def ON:dw:=⟨41,642,[.d mh,.d e7,.d OU,pB,sG],[.d .bool],88⟩
def HF:eK:=⟨ON,[5],[0]⟩
def ajP:cz->Nat->Option cX:=λf r=>match f,r with
 |95,4=>some ⟨[0,1,2,13,14],[(15,0,9223372036854775807)],[],[],[],[],[]⟩
 |126,2=>some ⟨[0,1,7],[(8,0,9223372036854775807)],[],[],[],[],[]⟩
 |_,_=>none
def akD:Nat->List Nat:=λn=>[1]
def OO:dw:=⟨41,677,[.d leaf],[.d .bool],89⟩
def HG:eK:=⟨OO,[0],[0]⟩
def AU:dw:=⟨70,671,[pB,.d .str],[.d Mm,.d .bool],0⟩
def ajQ:cz->Nat->Option cX:=λf r=>match f,r with
 |70,3=>some ⟨[0,1,6],[(7,0,9223372036854775807),(8,0,9223372036854775807)],[],[],[],[],[]⟩
 |_,_=>none
def akE:Nat->List Nat:=λn=>[1,1]
def ef:j4:=⟨73,672,[.str],9,[.d Mm,pB],51⟩
def ee:j4:=⟨74,673,[.int .i64 4 4,.int .i64 0 0,.str,.nil,.nil],30,[.d Mm,sG],51⟩
def AN:dw:=⟨71,683,[pB],[Jh],66⟩
def AQ:dw:=⟨72,684,[sG],[Jb],66⟩
def OQ:dw:=⟨44,674,[.d mh,.d e7,.d OU,pB,sG,.d .str,.d leaf],[.d d66,.d C2,.d .str,pB,sG],87⟩
def HH:eK:=⟨OQ,[5,0,0],[5]⟩
def OP:dw:=⟨24,675,[.d mh,.d e7,.d OU,pB,sG,.d .str,.d leaf],[.d Hq,.d C2,.d .str,pB,sG,.d tN],87⟩
def Dp:eK:=⟨OP,[5,0,0],[5,0]⟩
def OM:dw:=⟨12,676,[.d Hq,.d C2,.d .str,pB,sG,.d .str],[.d ajB,.d .bool],0⟩
def xn:eK:=⟨OM,[5,0],[0,0]⟩
def ajO:cz->Nat->Option cX:=λf r=>match f,r with
 |29,2=>some ⟨[0,1,7],[(8,0,9223372036854775807)],[],[],[],[],[]⟩
 |_,_=>none
def akC:Nat->List Nat:=λn=>[1]
def Be:b9:=⟨86,440,[zO,zO],[zO]⟩
def uk:b9:=⟨53,444,[oL],[oL]⟩
def um:b9:=⟨55,445,[oL],[oL]⟩
def uo:b9:=⟨56,446,[oL],[oL]⟩
def uq:b9:=⟨57,447,[oL],[oL]⟩
def yl:dw:=⟨59,442,[rv,.d aiW],[Jj],71⟩
def aj3:cz->Nat->Option cX:=λf r=>match f,r with
 |59,6=>some ⟨[0,1,5],[(6,0,18446744073709551615),(7,-1,9223372036854775807)],[(1,0,0,0)],[],[],[],[]⟩
 |_,_=>none
def akR:Nat->List Nat:=λn=>[1,1,1]
def ur:b9:=⟨52,466,[adn],[oL]⟩
def yj:dw:=⟨116,462,[ak3],[Ji],66⟩
def IE:dw:=⟨58,464,[rv],[Jj],72⟩
def yK:lx:=⟨IE,[.int .u32 1779033703,.int .u32 3144134277,.int .u32 1013904242,.int .u32 2773480762,.int .u32 1359893119,.int .u32 2600822924,.int .u32 528734635,.int .u32 1541459225,.int .i64 64,.fn 52,.fn 53,.fn 55,.fn 56,.fn 57],87,[.int .i64 4]⟩
def IQ:cz->Nat->Option cX:=λf r=>match f,r with
 |85,3=>some ⟨[0],[(5,16,9223372036854775807)],[],[],[(4,[.int .u32 0 4294967295],78)],[],[]⟩
 |85,8=>some ⟨[0,106,107],[(108,0,9223372036854775807),(6,0,4294967295),(7,0,4294967295),(8,0,4294967295),(9,0,4294967295),(10,0,4294967295),(11,0,4294967295),(12,0,4294967295),(13,0,4294967295)],[],[],[],[],[]⟩
 |58,15=>some ⟨[3,5,13,47,48],[(14,-1,3)],[],[],[(11,[.int .u8 0 255],5)],[],[]⟩
 |_,_=>none
def Xn:Nat->List Nat:=λn=>cond (aH n 4) [8,1] (cond (aH n 102) [8,1] [1,1,1,1])
def II:dw:=⟨60,469,[rv,rv,rv],[rv],75⟩
def yB:jJ:=⟨II,63,true⟩
def IJ:dw:=⟨34,472,[rv,rv,rv],[.d SL],75⟩
def BF:jJ:=⟨IJ,63,false⟩
def IH:dw:=⟨61,225,[.d aji,rv],[.d .str],48⟩
def rr:dw:=⟨15,679,[.d .str,.d qI],[.d .str],90⟩
def AV:dw:=⟨9,678,[EU,.d .str,.d ajg,.d .str,pB],[.d Hq,.d C2,.d .str,pB,sG,.d tN],0⟩
def zY:eK:=⟨AV,[0,0,3],[5,0]⟩
def ai8:dw:=⟨9,685,[EU,.d .str,.d ajj,.d .str,pB],[.d Hq,.d C2,.d .str,pB,sG,.d tN],0⟩
def Dq:eK:=⟨ai8,[0,0,3],[5,0]⟩
def yk:dw:=⟨7,680,[],[.d .bool],0⟩
def EM:dw:=⟨5,686,[EU,.d .str,.d .str],[.d .bool],0⟩
def ajR:cz->Nat->Option cX:=λf r=>match f,r with
 |5,6=>some ⟨[0,1,2],[(7,0,9223372036854775807)],[],[],[],[],[]⟩
 |_,_=>none
def akF:Nat->List Nat:=λn=>[1]
def sh:Nat->List Nat×List Nat
 |73=>([1,1],[1])
 |36=>([1,1],[1])
 |37=>([1,1],[1])
 |120=>([1],[1])
 |121=>([1],[1])
 |127=>([1],[1])
 |122=>([1],[1])
 |125=>([1],[1,1,1])
 |126=>([1],[1,1,1])
 |44=>([1,1],[1])
 |65=>([1,1],[1])
 |28=>([1],[1])
 |17=>([1],[1])
 |31=>([1,1],[1])
 |128=>([1],[1])
 |123=>([1],[1])
 |124=>([1],[1])
 |47=>([1],[1])
 |27=>([1],[1])
 |24=>([1],[1])
 |29=>([1],[1])
 |50=>([1],[1])
 |51=>([1],[1])
 |52=>([1],[1])
 |30=>([1],[1])
 |35=>([1],[1,1,1])
 |13=>([1,1],[1,1])
 |11=>([1],[1,1])
 |32=>([1],[2,1])
 |33=>([1],[1,1,1])
 |34=>([1,1],[1])
 |10=>([1],[1,1])
 |12=>([1,1],[1,1])
 |15=>([1,1],[2,1])
 |18=>([1,1],[2,1])
 |16=>([2],[1])
 |19=>([2],[1])
 |14=>([2,2],[1])
 |21=>([2,2],[1])
 |202=>([1],[1])
 |204=>([1],[1])
 |205=>([1],[1])
 |206=>([1,1],[1,1,1])
 |207=>([1],[1])
 |200=>([1],[1])
 |300=>([4],[1])
 |301=>([4,2],[1])
 |303=>([1],[1])
 |320=>([4],[1])
 |321=>([1],[1])
 |400=>([1],[1])
 |501=>([1],[1])
 |670=>([1],[1])
 |640=>([1],[1])
 |642=>([1,1],[1])
 |677=>([5],[1])
 |671=>([1,1],[1,1])
 |672=>([1,1,1],[1])
 |673=>([1,1,1],[1])
 |683=>([1],[1])
 |684=>([1],[1])
 |674=>([1,1,1,5],[1,1,1,1,1])
 |675=>([1,1,1,5],[1,1,1,1,1,1])
 |676=>([1,1,1,1,1,1],[5,1])
 |440=>([1,1],[1])
 |444=>([1],[1])
 |445=>([1],[1])
 |446=>([1],[1])
 |447=>([1],[1])
 |442=>([1],[1])
 |466=>([1],[1])
 |462=>([1],[1])
 |464=>([1],[1])
 |469=>([1,1,1],[1])
 |472=>([1,1,1],[32])
 |225=>([1],[1])
 |679=>([1,2],[1])
 |678=>([1,1,1,1],[1,1,1,1,1,1])
 |685=>([1,1,1,1],[1,1,1,1,1,1])
 |680=>([],[1])
 |686=>([1,1,1],[1])
 |_=>([],[])
abbrev dH (P:Program) (gl:dz) (c:b9) (cal:dW) (li:cz->Nat->Option cX) (lsh:Nat->List Nat) (lens:List Nat) (B:(Nat->List (List Int)->List (List Int)->Prop)->(List (List Int)->List (List Int)->Prop)->Prop):Prop:=∀S K,tx sh lsh S K lens (dA c.args) c.res (c.tree P gl cal li 600 6)=B S K
end Go.bE
namespace Go.bE
open Go Go.ba
def Sc (S:zzS) (K:zzK):Prop:=
 bt λz0=>uD λae=>∃(fD:List (List Int)->Prop) (iT:List (List Int)->Nat),fD [[z0]]/\(bt λz3=>fD [[z3]]->aI 0 [z3] λz4=>(ak (decide
 (0<z4)) (af 1 [z3,0]/\bF 1 [z3,0] λz5=>(ak (decide (z5=ae)) (aI 0 [z3] λz6=>af 2 [z3,1,z6]/\b8 2 [z3,1,z6] λz7=>(fD [[z7]]/\iT
 [[z7]]<iT [[z3]])) (K [[z0],[ae]] [[z3]]))) (K [[z0],[ae]] [[z3]])))
def Sd (S:zzS) (K:zzK):Prop:=
 bt λz0=>uD λae=>∃(fD:List (List Int)->Prop) (iT:List (List Int)->Nat),fD [[z0]]/\(bt λz3=>fD [[z3]]->aI 0 [z3] λz4=>(ak (decide
 (0<z4)) (aI 0 [z3] λz5=>af 1 [z3,(z5+(-1))]/\bF 1 [z3,(z5+(-1))] λz6=>(ak (decide (z6=ae)) (aI 0 [z3] λz7=>af 2 [z3,0,(z7+
 (-1))]/\b8 2 [z3,0,(z7+(-1))] λz8=>(fD [[z8]]/\iT [[z8]]<iT [[z3]])) (K [[z0],[ae]] [[z3]]))) (K [[z0],[ae]] [[z3]])))
def Se (S:zzS) (K:zzK):Prop:=
 bt λz0=>cf 4 [z0,0] λae=>(ak (decide (ae=1)) (K [[z0]] [[z0]]) (bt λz2=>S 37 [[z0],[32]] [[z2]]->bt λz3=>S 36 [[z2],[32]] [[z3]]->K
 [[z0]] [[z3]]))
def Sa (S:zzS) (K:zzK):Prop:=
 bt λz0=>cf 4 [z0,0] λae=>(ak (decide (ae=1)) (K [[z0]] [[z0]]) (bt λz2=>S 37 [[z0],[46]] [[z2]]->bt λz3=>S 36 [[z2],[46]] [[z3]]->K
 [[z0]] [[z3]]))
def RO (S:zzS) (K:zzK):Prop:=
 bt λz0=>cf 4 [47,z0] λae=>(ak (decide (ae=1)) (K [[z0]] [[(cond (true) 1 0)]]) (ql λz2=>S 73 [[z0],[46]] [[z2]]->K [[z0]] [[(cond (decide (0
 <=z2)) 1 0)]]))
theorem aoi:Sc SB (aW SB [.str] 36):=by
 intro z0 a0 a1 ae b0 b1;refine⟨λbl=>∃z,bl=[[z]]/\e8 (·==u8 ae) (U z)=e8 (·==u8 ae) (U z0),λbl=>(U ((bl.getD 0 []).getD 0 0)).length,⟨z0,rfl,rfl⟩,?_⟩
 rintro z3 bA c1 ⟨z,e,hz⟩
 obtain rfl:z3=z:=by simpa using e
 intro z4 d0 d1 ed;simp only[aw]at ed;cases hl:U z3 with
 |nil=>
  rw[hl]at ed hz;simp only[eH]at ed;subst ed;refine⟨λhp=>by simp at hp,λ_=>⟨⟨bA,c1,trivial⟩,?_⟩⟩;show U z3=_
  try dsimp only
  rw[hl,<-hz];rfl
 |cons x r=>
  rw[hl]at ed hz;simp only[cW]at ed;refine⟨λ_=>⟨⟨bB _,by rw[hl];simp only[cW];omega⟩,?_⟩,λhp=>by simp at hp;omega⟩;intro z5 e0 e1 mc;simp only[aw,hl,y2,wG]at mc;have hx:=qq (b:=x) b0 b1;rw[<-mc]at hx;refine⟨λhe=>?_,λhe=>⟨⟨bA,c1,trivial⟩,?_⟩⟩
  ·have nV:=hx.1 (by simpa using he);intro z6 f0 f1 lK;simp only[aw,hl,cW]at lK;refine⟨⟨by omega,by omega,by rw[hl];simp only[cW];omega⟩,?_⟩;intro z7 g0 g1 pz;have hr:U z7=r:=by
    try dsimp only
    rw[pz];simp only[aw,dZ,hl]
    try dsimp only
    rw[show(1:Int).toNat=1 from rfl,Rd,Re];exact kr (by omega)
   refine⟨⟨z7,rfl,?_⟩,?_⟩
   ·try dsimp only
    rw[hr,<-hz];simp only[e8,ou,nV,if_true]
   ·show(U z7).length<(U z3).length
    try dsimp only
    rw[hr,hl];simp
  ·show U z3=_;have nV:¬(x==u8 ae)=true:=λh=>by have:=hx.2 h;simp[this]at he
   try dsimp only
   rw[hl,<-hz];simp only[e8,ou,nV,if_false];rfl
theorem FA {l:aq} (h:l≠[]):∃r x,l=r++[x]:=⟨_,_,(List.dropLast_concat_getLast h).symm⟩
theorem aok:Sd SB (aW SB [.str] 37):=by
 intro z0 a0 a1 ae b0 b1;refine⟨λbl=>∃z,bl=[[z]]/\fM (·==u8 ae) (U z)=fM (·==u8 ae) (U z0),λbl=>(U ((bl.getD 0 []).getD 0 0)).length,⟨z0,rfl,rfl⟩,?_⟩
 rintro z3 bA c1 ⟨z,e,hz⟩
 obtain rfl:z3=z:=by simpa using e
 intro z4 d0 d1 ed;simp only[aw]at ed;by_cases hl:U z3=[]
 ·rw[hl]at ed hz;simp only[eH]at ed;subst ed;refine⟨λhp=>by simp at hp,λ_=>⟨⟨bA,c1,trivial⟩,?_⟩⟩;show U z3=_
  try dsimp only
  rw[hl,<-hz];rfl
 ·obtain⟨r,x,hl⟩:=FA hl;rw[hl]at ed hz;simp only[dn,cW,eH]at ed;refine⟨λ_=>?_,λhp=>by simp at hp;omega⟩;intro z5 e0 e1 mc;simp only[aw,hl,dn,cW,eH]at mc;refine⟨⟨by omega,by rw[hl];simp only[dn,cW,eH];omega⟩,?_⟩;intro z6 f0 f1 lK;have ht:(z5+-1).toNat=r.length:=by omega
  simp only[aw,hl,ht]at lK;have hx:=qq (b:=x) b0 b1;rw[show((r++[x]).getD r.length 0)=x by simp[aC]]at lK;rw[<-lK]at hx;refine⟨λhe=>?_,λhe=>⟨⟨bA,c1,trivial⟩,?_⟩⟩
  ·have nV:=hx.1 (by simpa using he);intro z7 f0 f1 pz;simp only[aw,hl,dn,cW,eH]at pz;have Eu:(z7+-1).toNat=r.length:=by omega
   refine⟨⟨by omega,by omega,by rw[hl];simp only[dn,cW,eH];omega⟩,?_⟩;intro z8 g0 g1 EK;have hr:U z8=r:=by
    try dsimp only
    rw[EK];simp only[aw,dZ,hl,Eu];simp
   refine⟨⟨z8,rfl,?_⟩,?_⟩
   ·try dsimp only
    rw[hr,<-hz,wi,nV,cond_true]
   ·show(U z8).length<(U z3).length
    try dsimp only
    rw[hr,hl];simp
  ·show U z3=_;have nV:(x==u8 ae)=false:=by
    cases h:(x==u8 ae)with
    |false=>rfl
    |true=>have:=hx.2 h;simp[this]at he
   try dsimp only
   rw[hl,<-hz,wi,nV,cond_false]
theorem apN:U 0=[]:=rfl
theorem eq_nil {z ae:Int} (h:ae=aw 4 [z,0]):decide (ae=1)=(U z==[]):=by
 try dsimp only
 rw[h];simp only[aw,apN];cases hz:U z with
 |nil=>rfl
 |cons x r=>simp
theorem X6 {c:Int} {p:UInt8->Bool} (hc:p=(·==u8 c)) {id:Nat} (hid:∀z r,SB id [[z]] [[r]]=(U r=jl p (U z))):
 (∀z0:Int,0<=z0->z0<=bp->
 ∀ae:Int,0<=ae->ae<=1->ae=aw 4 [z0,0]->
 (((decide (ae=1))=true->
  aW SB [.str] id [[z0]] [[z0]]
 )/\((decide (ae=1))=false->
  ∀z2:Int,0<=z2->z2<=bp->SB 37 [[z0],[c]] [[z2]]->
  ∀z3:Int,0<=z3->z3<=bp->SB 36 [[z2],[c]] [[z3]]->
  aW SB [.str] id [[z0]] [[z3]]
 ))):=by
  intro z0 a0 a1 ae b0 b1 hz1
  try dsimp only
  rw[eq_nil hz1];refine⟨λh=>⟨⟨a0,a1,trivial⟩,?_⟩,λh z2 bA c1 h2 z3 d0 d1 h3=>⟨⟨d0,d1,trivial⟩,?_⟩⟩
  ·try dsimp only
   rw[hid];have:U z0=[]:=by simpa using h
   try dsimp only
   rw[this];rfl
  ·try dsimp only
   rw[hid];have h2:U z2=fM (·==u8 c) (U z0):=h2;have h3:U z3=e8 (·==u8 c) (U z2):=h3
   try dsimp only
   rw[h3,h2,hc];rfl
theorem aol:Se SB (aW SB [.str] 120):=X6 (c:=32) (p:=(·==32)) rfl λ_ _=>rfl
theorem aog:Sa SB (aW SB [.str] 121):=X6 (c:=46) (p:=(·==46)) rfl λ_ _=>rfl
theorem ani:RO SB (aW SB [.bool] 127):=by
 intro z0 a0 a1 ae b0 b1 hz1;simp only[aw]at hz1;refine⟨λh=>⟨⟨by decide,by decide,trivial⟩,?_⟩,λh z2 bA c1 h2=>⟨⟨(oH _).1,(oH _).2,trivial⟩,?_⟩⟩
 ·have:U z0=[46]:=by
   have e:U 47=[46]:=by decide
   rw[e]at hz1;by_cases h':[46]=U z0
   ·exact h'.symm
   ·rw[if_neg h']at hz1;subst hz1;simp at h
  show(1:Int)=aN ((U z0).contains 46)
  try dsimp only
  rw[this];rfl
 ·have h2:z2=idx 46 (U z0):=h2;show(cond (decide (0<=z2)) 1 0:Int)=aN ((U z0).contains 46)
  try dsimp only
  rw[h2,Iy (by decide) (by decide)];rfl
def RR (S:zzS) (K:zzK):Prop:=
 bt λz0=>cf 4 [65,z0] λae=>(ak (decide (ae=1)) (af 2 [z0,0,0]/\b8 2 [z0,0,0] λz2=>aI 0 [z0] λz3=>af 2 [z0,1,z3]/\b8 2 [z0,1,z3]
 λz4=>K [[z0]] [[z2],[z4],[(cond (true) 1 0)]]) (ql λz2=>S 73 [[z0],[64]] [[z2]]->(ak (decide (0<=z2)) (af 2 [z0,0,z2]/\b8 2 [z0,0,z2] λz3=>
 bk (z2+9223372036854775809) 18446744073709551616 λz4=>aI 0 [z0] λz5=>af 2 [z0,((z2+((-18446744073709551616)*z4))+1),z5]/\b8 2 [z0,((z2+
 ((-18446744073709551616)*z4))+1),z5] λz6=>K [[z0]] [[z3],[z6],[(cond (true) 1 0)]]) (K [[z0]] [[z0],[0],[(cond (false) 1 0)]]))))
def RS (S:zzS) (K:zzK):Prop:=
 bt λz0=>cf 4 [59,z0] λae=>(ak (decide (ae=1)) (af 2 [z0,0,0]/\b8 2 [z0,0,0] λz2=>aI 0 [z0] λz3=>af 2 [z0,1,z3]/\b8 2 [z0,1,z3]
 λz4=>K [[z0]] [[z2],[z4],[(cond (true) 1 0)]]) (ql λz2=>S 73 [[z0],[58]] [[z2]]->(ak (decide (0<=z2)) (af 2 [z0,0,z2]/\b8 2 [z0,0,z2] λz3=>
 bk (z2+9223372036854775809) 18446744073709551616 λz4=>aI 0 [z0] λz5=>af 2 [z0,((z2+((-18446744073709551616)*z4))+1),z5]/\b8 2 [z0,((z2+
 ((-18446744073709551616)*z4))+1),z5] λz6=>K [[z0]] [[z3],[z6],[(cond (true) 1 0)]]) (K [[z0]] [[z0],[0],[(cond (false) 1 0)]]))))
def R2 (S:zzS) (K:zzK):Prop:=
 bt λz0=>bt λae=>aI 0 [z0] λz2=>∃(ey:List (List Int)->Prop) (c6:List (List Int)->Nat),ey [[0]]/\(dC λz4=>ey [[z4]]->(ak (decide
 (z4<z2)) (af 1 [z0,z4]/\bF 1 [z0,z4] λz5=>ql λz6=>S 73 [[ae],[z5]] [[z6]]->(ak (decide (z6<0)) (K [[z0],[ae]] [[(cond (false) 1 0)]]) (bk
 (z4+9223372036854775809) 18446744073709551616 λz7=>af 39 [((z4+((-18446744073709551616)*z7))+1),0,9223372036854775807]/\(ey [[((z4+
 ((-18446744073709551616)*z7))+1)]]/\c6 [[((z4+((-18446744073709551616)*z7))+1)]]<c6 [[z4]])))) (K [[z0],[ae]] [[(cond (true) 1 0)]])))
def RY (S:zzS) (K:zzK):Prop:=
 bt λz0=>bt λae=>aI 0 [z0] λz2=>∃(ey:List (List Int)->Prop) (c6:List (List Int)->Nat),ey [[0]]/\(dC λz4=>ey [[z4]]->(ak (decide
 (z4<z2)) (af 1 [z0,z4]/\bF 1 [z0,z4] λz5=>ql λz6=>S 73 [[ae],[z5]] [[z6]]->(ak (decide (z6<0)) (K [[z0],[ae]] [[(cond (false) 1 0)]]) (bk
 (z4+9223372036854775809) 18446744073709551616 λz7=>af 39 [((z4+((-18446744073709551616)*z7))+1),0,9223372036854775807]/\(ey [[((z4+
 ((-18446744073709551616)*z7))+1)]]/\c6 [[((z4+((-18446744073709551616)*z7))+1)]]<c6 [[z4]])))) (K [[z0],[ae]] [[(cond (true) 1 0)]])))
def R4 (S:zzS) (K:zzK):Prop:=
 bt λz0=>uD λae=>∃(fD:List (List Int)->Prop) (iT:List (List Int)->Nat),fD [[0]]/\(dC λz3=>fD [[z3]]->aI 0 [z0] λz4=>(ak (decide
 (z3<z4)) (af 1 [z0,z3]/\bF 1 [z0,z3] λz5=>(ak (decide (z5=ae)) (K [[z0],[ae]] [[(cond (true) 1 0)]]) (bk (z3+9223372036854775809)
 18446744073709551616 λz6=>af 39 [((z3+((-18446744073709551616)*z6))+1),0,9223372036854775807]/\(fD [[((z3+((-18446744073709551616)*z6))+1)]]
 /\iT [[((z3+((-18446744073709551616)*z6))+1)]]<iT [[z3]])))) (K [[z0],[ae]] [[(cond (false) 1 0)]])))
theorem X4 {c n:Int} (h0:0<=c) (h1:c<=255) (hn:U n=[u8 c]) {id:Nat} (hid:∀z a b r,SB id [[z]] [[a],[b],[r]]=((U a,U b,r)=mF c (U z))):
 (∀z0:Int,0<=z0->z0<=bp->
 ∀ae:Int,0<=ae->ae<=1->ae=aw 4 [n,z0]->
 (((decide (ae=1))=true->
  af 2 [z0,0,0]/\
  ∀z2:Int,0<=z2->z2<=bp->z2=aw 2 [z0,0,0]->
  ∀z3:Int,0<=z3->z3<=9223372036854775807->z3=aw 0 [z0]->
  af 2 [z0,1,z3]/\
  ∀z4:Int,0<=z4->z4<=bp->z4=aw 2 [z0,1,z3]->
  aW SB [.str,.str,.bool] id [[z0]] [[z2],[z4],[(cond (true) 1 0)]]
 )/\((decide (ae=1))=false->
  ∀z2:Int,(-1)<=z2->z2<=9223372036854775807->SB 73 [[z0],[c]] [[z2]]->
  (((decide (0<=z2))=true->
   af 2 [z0,0,z2]/\
   ∀z3:Int,0<=z3->z3<=bp->z3=aw 2 [z0,0,z2]->
   ∀z4:Int,0<=z4->z4<=1->0<=(z2+9223372036854775809)-18446744073709551616*z4->(z2+9223372036854775809)-18446744073709551616*z4<18446744073709551616->
   ∀z5:Int,0<=z5->z5<=9223372036854775807->z5=aw 0 [z0]->
   af 2 [z0,((z2+((-18446744073709551616)*z4))+1),z5]/\
   ∀z6:Int,0<=z6->z6<=bp->z6=aw 2 [z0,((z2+((-18446744073709551616)*z4))+1),z5]->
   aW SB [.str,.str,.bool] id [[z0]] [[z3],[z6],[(cond (true) 1 0)]]
  )/\((decide (0<=z2))=false->
   aW SB [.str,.str,.bool] id [[z0]] [[z0],[0],[(cond (false) 1 0)]]
  ))
 ))):=by
  intro z0 a0 a1 ae b0 b1 hz1;simp only[aw,hn]at hz1;refine⟨λh=>?_,λh z2 bA c1 h2=>?_⟩
  ·have hs:U z0=[u8 c]:=by
    by_cases h':[u8 c]=U z0
    ·exact h'.symm
    ·rw[if_neg h']at hz1;subst hz1;simp at h
   refine⟨⟨by omega,by omega,by omega⟩,λz2 bA c1 h2 z3 d0 d1 h3=>?_⟩;simp only[aw,hs,Rf]at h3;refine⟨⟨by omega,by omega,by rw[hs];simp only[Rf];omega⟩,λz4 e0 e1 h4=>⟨⟨bA,c1,e0,e1,by decide,by decide,trivial⟩,?_⟩⟩
   try dsimp only
   rw[hid];have e2:U z2=[]:=by rw[h2];simp[aw,dZ]
   have fo:U z4=[]:=by rw[h4];simp[aw,dZ,hs]
   have adH:idx c [u8 c]=0:=by simp[idx,JZ h0 h1]
   try dsimp only
   rw[e2,fo,hs];simp[mF,adH]
  ·have h2:z2=idx c (U z0):=h2;refine⟨λhp=>?_,λhp=>⟨⟨a0,a1,bB _,fZ,by decide,by decide,trivial⟩,?_⟩⟩
   ·have hp:0<=z2:=by simpa using hp
    have hr:=yg c (U z0);have bW:=uw a1;refine⟨⟨by omega,by omega,by omega⟩,λz3 d0 d1 h3 z4 e0 e1 e2 e3 z5 f0 f1 h5=>?_⟩;simp only[aw]at h5;have Hx:z2+-18446744073709551616*z4+1=z2+1:=by omega
    try dsimp only
    rw[Hx];refine⟨⟨by omega,by omega,by omega⟩,λz6 g0 g1 h6=>⟨⟨d0,d1,g0,g1,by decide,by decide,trivial⟩,?_⟩⟩
    try dsimp only
    rw[hid];have e3:U z3=(U z0).take z2.toNat:=by rw[h3];simp[aw,dZ]
    have lA:U z6=(U z0).drop (z2.toNat+1):=by
     try dsimp only
     rw[h6];simp only[aw,dZ]
     try dsimp only
     rw[show(z2+1).toNat=z2.toNat+1 by omega];exact kr (by simp;omega)
    try dsimp only
    rw[e3,lA];unfold mF
    try dsimp only
    rw[<-h2,show decide (0<=z2)=true by simpa using hp];rfl
   ·try dsimp only
    rw[hid];unfold mF
    try dsimp only
    rw[<-h2,hp];rfl
theorem ann:RR SB (aW SB [.str,.str,.bool] 125):=X4 (c:=64) (n:=65) (by decide) (by decide) (by decide) λ_ _ _ _=>rfl
theorem ano:RS SB (aW SB [.str,.str,.bool] 126):=X4 (c:=58) (n:=59) (by decide) (by decide) (by decide) λ_ _ _ _=>rfl
theorem LG (p:UInt8->Bool) (l:aq) (i:Nat) (h:i<l.length):(l.take (i+1)).all p=((l.take i).all p&&p (l.getD i 0)):=by
 try dsimp only
 rw[FH l i h];simp
theorem LF (p:UInt8->Bool) (l:aq) (i:Nat) (h:i<l.length) (hp:p (l.getD i 0)=false):l.all p=false:=by
 try dsimp only
 rw[List.all_eq_false];refine⟨l.getD i 0,?_,λe=>by rw[hp]at e;cases e⟩;simp[aC,h]
theorem mr {z q L:Int} (h:z<L) (bW:L<=9223372036854775807) (h0:0<=z) (q0:0<=q) (e2:0<=(z+9223372036854775809)-18446744073709551616*q):z+-18446744073709551616*q+1=z+1:=by omega
theorem X5 {id:Nat} (hid:∀s b r,SB id [[s],[b]] [[r]]=(r=aN ((U s).all λc=>(U b).contains c))):
 (∀z0:Int,0<=z0->z0<=bp->∀ae:Int,0<=ae->ae<=bp->
 ∀z2:Int,0<=z2->z2<=9223372036854775807->z2=aw 0 [z0]->
 ∃(ey:List (List Int)->Prop) (c6:List (List Int)->Nat),ey [[0]]/\(∀z4:Int,0<=z4->z4<=9223372036854775807->ey [[z4]]->
  (((decide (z4<z2))=true->
   af 1 [z0,z4]/\
   ∀z5:Int,0<=z5->z5<=255->z5=aw 1 [z0,z4]->
   ∀z6:Int,(-1)<=z6->z6<=9223372036854775807->SB 73 [[ae],[z5]] [[z6]]->
   (((decide (z6<0))=true->
    aW SB [.bool] id [[z0],[ae]] [[(cond (false) 1 0)]]
   )/\((decide (z6<0))=false->
    ∀z7:Int,0<=z7->z7<=1->0<=(z4+9223372036854775809)-18446744073709551616*z7->(z4+9223372036854775809)-18446744073709551616*z7<18446744073709551616->
    af 39 [((z4+((-18446744073709551616)*z7))+1),0,9223372036854775807]/\
    (ey [[((z4+((-18446744073709551616)*z7))+1)]]/\c6 [[((z4+((-18446744073709551616)*z7))+1)]]<c6 [[z4]])
   ))
  )/\((decide (z4<z2))=false->
   aW SB [.bool] id [[z0],[ae]] [[(cond (true) 1 0)]]
  ))
 )):=by
  intro z0 a0 a1 ae b0 b1 z2 bA c1 h2;simp only[aw]at h2;refine⟨λbl=>∃i:Nat,bl=[[(i:Int)]]/\i<=(U z0).length/\((U z0).take i).all (λc=>(U ae).contains c)=true,λbl=>(U z0).length-((bl.getD 0 []).getD 0 0).toNat,⟨0,rfl,iF _,rfl⟩,?_⟩
  rintro z4 d0 d1 ⟨i,e,hi,hall⟩
  obtain rfl:z4=i:=by simpa using e
  refine⟨λhp=>?_,λhp=>⟨⟨by decide,by decide,trivial⟩,?_⟩⟩
  ·have hp:(i:Int)<z2:=by simpa using hp
   refine⟨⟨d0,by omega⟩,λz5 e0 e1 h5 z6 f0 f1 h6=>?_⟩;have h6:z6=idx z5 (U ae):=h6;simp only[aw,eW]at h5;have hu:u8 z5=(U z0).getD i 0:=by rw[h5,Ca]
   have hm:=Iy e0 e1 (U ae);rw[hu,<-h6]at hm;refine⟨λhq=>⟨⟨by decide,by decide,trivial⟩,?_⟩,λhq z7 g0 g1 g2 g3=>?_⟩
   ·try dsimp only
    rw[hid,LF _ _ i (by omega) (by rw[<-hm];simpa using hq)];rfl
   ·have hq:0<=z6:=by simpa using hq
    try dsimp only
    rw[mr (L:=z2) hp c1 d0 g0 g2];refine⟨⟨by omega,by omega⟩,⟨i+1,by simp,by omega,?_⟩,?_⟩
    ·try dsimp only
     rw[LG _ _ _ (by omega),hall,<-hm];simpa using hq
    ·show(U z0).length-((i:Int)+1).toNat<(U z0).length-(i:Int).toNat;omega
  ·have hp:¬(i:Int)<z2:=by simpa using hp
   rw[kr (by omega)]at hall
   try dsimp only
   rw[hid,hall];rfl
theorem anQ:R2 SB (aW SB [.bool] 44):=X5 λ_ _ _=>rfl
theorem anA:RY SB (aW SB [.bool] 65):=X5 λ_ _ _=>rfl
theorem Mf (l:aq) (c:UInt8) (i:Nat) (h:i<l.length):(l.take (i+1)).contains c=((l.take i).contains c||l.getD i 0==c):=by
 try dsimp only
 rw[FH l i h,iG];simp;exact or_congr Iff.rfl ⟨λh=>h.symm,λh=>h.symm⟩
theorem anX:R4 SB (aW SB [.bool] 31):=by
 intro z0 a0 a1 ae b0 b1;refine⟨λbl=>∃i:Nat,bl=[[(i:Int)]]/\i<=(U z0).length/\((U z0).take i).contains (u8 ae)=false,λbl=>(U z0).length-((bl.getD 0 []).getD 0 0).toNat,⟨0,rfl,iF _,rfl⟩,?_⟩
 rintro z4 d0 d1 ⟨i,e,hi,hall⟩
 obtain rfl:z4=i:=by simpa using e
 intro z2 bA c1 h2;simp only[aw]at h2;refine⟨λhp=>?_,λhp=>⟨⟨by decide,by decide,trivial⟩,?_⟩⟩
 ·have hp:(i:Int)<z2:=by simpa using hp
  refine⟨⟨d0,by omega⟩,λz5 e0 e1 h5=>?_⟩;simp only[aw,eW]at h5;have hu:=qq (b:=(U z0).getD i 0) b0 b1;rw[<-h5]at hu;refine⟨λhq=>⟨⟨by decide,by decide,trivial⟩,?_⟩,λhq z7 g0 g1 g2 g3=>?_⟩
  ·have:=hu.1 (by simpa using hq);show(1:Int)=aN ((U z0).contains (u8 ae));have hm:(U z0).contains (u8 ae)=true:=by
    try dsimp only
    rw[<-beq_iff_eq.1 this];simp[aC,show i<(U z0).length by omega]
   try dsimp only
   rw[hm];rfl
  ·try dsimp only
   rw[mr (L:=z2) hp c1 d0 g0 g2];refine⟨⟨by omega,by omega⟩,⟨i+1,by simp,by omega,?_⟩,?_⟩
   ·try dsimp only
    rw[Mf _ _ _ (by omega),hall,ta];cases h:((U z0).getD i 0==u8 ae)with
    |false=>rfl
    |true=>have:=hu.2 h;simp[this]at hq
   ·show(U z0).length-((i:Int)+1).toNat<(U z0).length-(i:Int).toNat;omega
 ·have hp:¬(i:Int)<z2:=by simpa using hp
  rw[kr (by omega)]at hall;show(0:Int)=aN ((U z0).contains (u8 ae))
  try dsimp only
  rw[hall];rfl
def R9 (S:zzS) (K:zzK):Prop:=
 bt λz0=>cf 4 [z0,0] λae=>(ak (decide (ae=1)) (K [[z0]] [[z0]]) (∃(fD:List (List Int)->Prop) (iT:List (List Int)->Nat),fD [[z0]]/\(bt λ
 z3=>fD [[z3]]->aI 0 [z3] λz4=>(ak (decide (0<z4)) (aI 0 [z3] λz5=>af 1 [z3,(z5+(-1))]/\bF 1 [z3,(z5+(-1))] λz6=>cf 43 [12125,z6]
 λz7=>(ak ((!(decide (z7=1)))) (∃(ei:List (List Int)->Prop) (fk:List (List Int)->Nat),ei [[z3]]/\(bt λz9=>ei [[z9]]->aI 0 [z9] λav
 =>(ak (decide (0<av)) (af 1 [z9,0]/\bF 1 [z9,0] λaj=>cf 43 [12125,aj] λz12=>(ak ((!(decide (z12=1)))) (K [[z0]] [[z9]]) (aI 0 [z9] λ
 aA=>af 2 [z9,1,aA]/\b8 2 [z9,1,aA] λaB=>(ei [[aB]]/\fk [[aB]]<fk [[z9]])))) (K [[z0]] [[z9]])))) (aI 0 [z3] λz8=>af 2 [z3,0,(z8+
 (-1))]/\b8 2 [z3,0,(z8+(-1))] λz9=>(fD [[z9]]/\iT [[z9]]<iT [[z3]])))) (∃(dk:List (List Int)->Prop) (cT:List (List Int)->Nat),dk [[z3]]/\
 (bt λz6=>dk [[z6]]->aI 0 [z6] λz7=>(ak (decide (0<z7)) (af 1 [z6,0]/\bF 1 [z6,0] λz8=>cf 43 [12125,z8] λz9=>(ak ((!(decide (z9=
 1)))) (K [[z0]] [[z6]]) (aI 0 [z6] λav=>af 2 [z6,1,av]/\b8 2 [z6,1,av] λaj=>(dk [[aj]]/\cT [[aj]]<cT [[z6]])))) (K [[z0]]
 [[z6]]))))))))
def Sb (S:zzS) (K:zzK):Prop:=
 bt λz0=>cf 4 [z0,0] λae=>(ak (decide (ae=1)) (K [[z0]] [[z0]]) (∃(fD:List (List Int)->Prop) (iT:List (List Int)->Nat),fD [[z0]]/\(bt λ
 z3=>fD [[z3]]->aI 0 [z3] λz4=>(ak (decide (0<z4)) (aI 0 [z3] λz5=>af 1 [z3,(z5+(-1))]/\bF 1 [z3,(z5+(-1))] λz6=>cf 43
 [8267443711659794979134808499087199072256874527605039863196959864303977456569186565734100443375465041388132907546406408792979960403300126342849461211344038,z6]
 λz7=>(ak ((!(decide (z7=1)))) (∃(ei:List (List Int)->Prop) (fk:List (List Int)->Nat),ei [[z3]]/\(bt λz9=>ei [[z9]]->aI 0 [z9] λav
 =>(ak (decide (0<av)) (af 1 [z9,0]/\bF 1 [z9,0] λaj=>cf 43
 [8267443711659794979134808499087199072256874527605039863196959864303977456569186565734100443375465041388132907546406408792979960403300126342849461211344038,aj]
 λz12=>(ak ((!(decide (z12=1)))) (K [[z0]] [[z9]]) (aI 0 [z9] λaA=>af 2 [z9,1,aA]/\b8 2 [z9,1,aA] λaB=>(ei [[aB]]/\fk [[aB]]<fk
 [[z9]])))) (K [[z0]] [[z9]])))) (aI 0 [z3] λz8=>af 2 [z3,0,(z8+(-1))]/\b8 2 [z3,0,(z8+(-1))] λz9=>(fD [[z9]]/\iT [[z9]]<iT [[z3]])))) (∃
 (dk:List (List Int)->Prop) (cT:List (List Int)->Nat),dk [[z3]]/\(bt λz6=>dk [[z6]]->aI 0 [z6] λz7=>(ak (decide (0<z7)) (af 1 [z6,0]/\
 bF 1 [z6,0] λz8=>cf 43
 [8267443711659794979134808499087199072256874527605039863196959864303977456569186565734100443375465041388132907546406408792979960403300126342849461211344038,z8]
 λz9=>(ak ((!(decide (z9=1)))) (K [[z0]] [[z6]]) (aI 0 [z6] λav=>af 2 [z6,1,av]/\b8 2 [z6,1,av] λaj=>(dk [[aj]]/\cT [[aj]]<cT
 [[z6]])))) (K [[z0]] [[z6]]))))))))
def R8 (S:zzS) (K:zzK):Prop:=
 bt λz0=>cf 4 [z0,0] λae=>(ak (decide (ae=1)) (K [[z0]] [[z0]]) (∃(fD:List (List Int)->Prop) (iT:List (List Int)->Nat),fD [[z0]]/\(bt λ
 z3=>fD [[z3]]->aI 0 [z3] λz4=>(ak (decide (0<z4)) (aI 0 [z3] λz5=>af 1 [z3,(z5+(-1))]/\bF 1 [z3,(z5+(-1))] λz6=>cf 43
 [284767230291263911083031,z6] λz7=>(ak ((!(decide (z7=1)))) (∃(ei:List (List Int)->Prop) (fk:List (List Int)->Nat),ei [[z3]]/\(bt λz9=>ei
 [[z9]]->aI 0 [z9] λav=>(ak (decide (0<av)) (af 1 [z9,0]/\bF 1 [z9,0] λaj=>cf 43 [284767230291263911083031,aj] λz12=>(ak ((!(decide
 (z12=1)))) (K [[z0]] [[z9]]) (aI 0 [z9] λaA=>af 2 [z9,1,aA]/\b8 2 [z9,1,aA] λaB=>(ei [[aB]]/\fk [[aB]]<fk [[z9]])))) (K [[z0]]
 [[z9]])))) (aI 0 [z3] λz8=>af 2 [z3,0,(z8+(-1))]/\b8 2 [z3,0,(z8+(-1))] λz9=>(fD [[z9]]/\iT [[z9]]<iT [[z3]])))) (∃(dk:List (List Int)
 ->Prop) (cT:List (List Int)->Nat),dk [[z3]]/\(bt λz6=>dk [[z6]]->aI 0 [z6] λz7=>(ak (decide (0<z7)) (af 1 [z6,0]/\bF 1 [z6,0] λz8
 =>cf 43 [284767230291263911083031,z8] λz9=>(ak ((!(decide (z9=1)))) (K [[z0]] [[z6]]) (aI 0 [z6] λav=>af 2 [z6,1,av]/\b8 2 [z6,1,av] λ
 aj=>(dk [[aj]]/\cT [[aj]]<cT [[z6]])))) (K [[z0]] [[z6]]))))))))
theorem Uv {n z q:Int} {p:UInt8->Bool} (hn:∀c,(U n).contains c=p c) (h:q=aw 43 [n,z]):decide (q=1)=p (u8 z):=by
 try dsimp only
 rw[h];simp only[aw];have:=hn (u8 z);unfold u8 at this⊢
 try dsimp only
 rw[<-this];by_cases hm:kq z.toNat∈U n
 ·simp[hm]
 ·simp[hm]
theorem Jk {n:Int} {p:UInt8->Bool} (hn:∀c,(U n).contains c=p c) {id:Nat} (hid:∀z r,SB id [[z]] [[r]]=(U r=jl p (U z))):
 (∀z0:Int,0<=z0->z0<=bp->
 ∀ae:Int,0<=ae->ae<=1->ae=aw 4 [z0,0]->
 (((decide (ae=1))=true->
   aW SB [.str] id [[z0]] [[z0]]
 )/\((decide (ae=1))=false->
  ∃(fD:List (List Int)->Prop) (iT:List (List Int)->Nat),fD [[z0]]/\(∀z3:Int,0<=z3->z3<=bp->fD [[z3]]->
   ∀z4:Int,0<=z4->z4<=9223372036854775807->z4=aw 0 [z3]->
   (((decide (0<z4))=true->
    ∀z5:Int,0<=z5->z5<=9223372036854775807->z5=aw 0 [z3]->
    af 1 [z3,(z5+(-1))]/\
    ∀z6:Int,0<=z6->z6<=255->z6=aw 1 [z3,(z5+(-1))]->
    ∀z7:Int,0<=z7->z7<=1->z7=aw 43 [n,z6]->
    ((((!(decide (z7=1))))=true->
     ∃(ei:List (List Int)->Prop) (fk:List (List Int)->Nat),ei [[z3]]/\(∀z9:Int,0<=z9->z9<=bp->ei [[z9]]->
      ∀av:Int,0<=av->av<=9223372036854775807->av=aw 0 [z9]->
      (((decide (0<av))=true->
       af 1 [z9,0]/\
       ∀aj:Int,0<=aj->aj<=255->aj=aw 1 [z9,0]->
       ∀z12:Int,0<=z12->z12<=1->z12=aw 43 [n,aj]->
       ((((!(decide (z12=1))))=true->
         aW SB [.str] id [[z0]] [[z9]]
       )/\(((!(decide (z12=1))))=false->
        ∀aA:Int,0<=aA->aA<=9223372036854775807->aA=aw 0 [z9]->
        af 2 [z9,1,aA]/\
        ∀aB:Int,0<=aB->aB<=bp->aB=aw 2 [z9,1,aA]->
        (ei [[aB]]/\fk [[aB]]<fk [[z9]])
       ))
      )/\((decide (0<av))=false->
       aW SB [.str] id [[z0]] [[z9]]
      ))
     )
    )/\(((!(decide (z7=1))))=false->
     ∀z8:Int,0<=z8->z8<=9223372036854775807->z8=aw 0 [z3]->
     af 2 [z3,0,(z8+(-1))]/\
     ∀z9:Int,0<=z9->z9<=bp->z9=aw 2 [z3,0,(z8+(-1))]->
     (fD [[z9]]/\iT [[z9]]<iT [[z3]])
    ))
   )/\((decide (0<z4))=false->
    ∃(dk:List (List Int)->Prop) (cT:List (List Int)->Nat),dk [[z3]]/\(∀z6:Int,0<=z6->z6<=bp->dk [[z6]]->
     ∀z7:Int,0<=z7->z7<=9223372036854775807->z7=aw 0 [z6]->
     (((decide (0<z7))=true->
      af 1 [z6,0]/\
      ∀z8:Int,0<=z8->z8<=255->z8=aw 1 [z6,0]->
      ∀z9:Int,0<=z9->z9<=1->z9=aw 43 [n,z8]->
      ((((!(decide (z9=1))))=true->
        aW SB [.str] id [[z0]] [[z6]]
      )/\(((!(decide (z9=1))))=false->
       ∀av:Int,0<=av->av<=9223372036854775807->av=aw 0 [z6]->
       af 2 [z6,1,av]/\
       ∀aj:Int,0<=aj->aj<=bp->aj=aw 2 [z6,1,av]->
       (dk [[aj]]/\cT [[aj]]<cT [[z6]])
      ))
     )/\((decide (0<z7))=false->
      aW SB [.str] id [[z0]] [[z6]]
     ))
    )
   ))
  )
 ))):=by
  intro z0 a0 a1 ae b0 b1 hz1
  try dsimp only
  rw[eq_nil hz1];have inner:∀z3:Int,0<=z3->z3<=bp->U z3=fM p (U z0)->∃(ei:List (List Int)->Prop) (fk:List (List Int)->Nat),ei [[z3]]/\(∀z9:Int,0<=z9->z9<=bp->ei [[z9]]->
   ∀av:Int,0<=av->av<=9223372036854775807->av=aw 0 [z9]->
   (((decide (0<av))=true->
    af 1 [z9,0]/\
    ∀aj:Int,0<=aj->aj<=255->aj=aw 1 [z9,0]->
    ∀z12:Int,0<=z12->z12<=1->z12=aw 43 [n,aj]->
    ((((!(decide (z12=1))))=true->
     aW SB [.str] id [[z0]] [[z9]]
    )/\(((!(decide (z12=1))))=false->
     ∀aA:Int,0<=aA->aA<=9223372036854775807->aA=aw 0 [z9]->
     af 2 [z9,1,aA]/\
     ∀aB:Int,0<=aB->aB<=bp->aB=aw 2 [z9,1,aA]->
     (ei [[aB]]/\fk [[aB]]<fk [[z9]])
    ))
   )/\((decide (0<av))=false->
    aW SB [.str] id [[z0]] [[z9]]
   ))):=by
   intro z3 a0 a1 h3;refine⟨λbl=>∃z,bl=[[z]]/\e8 p (U z)=e8 p (fM p (U z0)),λbl=>(U ((bl.getD 0 []).getD 0 0)).length,⟨z3,rfl,by rw[h3]⟩,?_⟩
   rintro z9 bA c1 ⟨z,e,hz⟩
   obtain rfl:z9=z:=by simpa using e
   intro z4 d0 d1 ed;simp only[aw]at ed;cases hl:U z9 with
   |nil=>
    rw[hl]at ed hz;simp only[eH]at ed;subst ed;refine⟨λhp=>by simp at hp,λ_=>⟨⟨bA,c1,trivial⟩,?_⟩⟩
    try dsimp only
    rw[hid,hl];exact hz
   |cons x r=>
    rw[hl]at ed hz;simp only[cW]at ed;refine⟨λ_=>⟨⟨bB _,by rw[hl];simp only[cW];omega⟩,?_⟩,λhp=>by simp at hp;omega⟩;intro z5 e0 e1 mc;simp only[aw,hl,y2,wG]at mc;intro z6 f0 f1 lK
    try dsimp only
    rw[Uv hn lK,mc,Ca];refine⟨λhe=>⟨⟨bA,c1,trivial⟩,?_⟩,λhe=>?_⟩
    ·try dsimp only
     rw[hid,hl];have he:p x=false:=by simpa using he
     show x::r=e8 p (fM p (U z0))
     try dsimp only
     rw[<-hz];simp[e8,ou,he]
    ·have he:p x=true:=by simpa using he
     intro aA f0 f1 lK;simp only[aw,hl,cW]at lK;refine⟨⟨by omega,by omega,by rw[hl];simp only[cW];omega⟩,?_⟩;intro z7 g0 g1 pz;have hr:U z7=r:=by
      try dsimp only
      rw[pz];simp only[aw,dZ,hl]
      try dsimp only
      rw[show(1:Int).toNat=1 from rfl,Rd,Re];exact kr (by omega)
     refine⟨⟨z7,rfl,?_⟩,?_⟩
     ·try dsimp only
      rw[hr,<-hz];simp only[e8,ou,he,if_true]
     ·show(U z7).length<(U z9).length
      try dsimp only
      rw[hr,hl];simp
  refine⟨λh=>⟨⟨a0,a1,trivial⟩,?_⟩,λh=>?_⟩
  ·try dsimp only
   rw[hid];have:U z0=[]:=by simpa using h
   try dsimp only
   rw[this];rfl
  ·refine⟨λbl=>∃z,bl=[[z]]/\fM p (U z)=fM p (U z0),λbl=>(U ((bl.getD 0 []).getD 0 0)).length,⟨z0,rfl,rfl⟩,?_⟩
   rintro z3 bA c1 ⟨z,e,hz⟩
   obtain rfl:z3=z:=by simpa using e
   intro z4 d0 d1 ed;simp only[aw]at ed;by_cases hl:U z3=[]
   ·have awS:=ed;rw[hl]at ed;simp only[eH]at ed;subst ed;refine⟨λhp=>by simp at hp,λ_=>inner z3 bA c1 ?_⟩;rw[hl]at hz⊢;exact hz
   ·obtain⟨r,x,hl⟩:=FA hl;rw[hl]at ed hz;simp only[dn,cW,eH]at ed;refine⟨λ_=>?_,λhp=>by simp at hp;omega⟩;intro z5 d0 d1 mc;simp only[aw,hl,dn,cW,eH]at mc;refine⟨⟨by omega,by rw[hl];simp only[dn,cW,eH];omega⟩,?_⟩;intro z6 f0 f1 lK;have ht:(z5+-1).toNat=r.length:=by omega
    simp only[aw,hl,ht]at lK;rw[show((r++[x]).getD r.length 0)=x by simp[aC]]at lK;intro z7 g0 g1 pz
    try dsimp only
    rw[Uv hn pz,lK,Ca];refine⟨λhe=>inner z3 bA c1 ?_,λhe=>?_⟩
    ·have he:p x=false:=by simpa using he
     try dsimp only
     rw[hl,<-hz,wi,he,cond_false]
    ·have he:p x=true:=by simpa using he
     intro z7 f0 f1 pz;simp only[aw,hl,dn,cW,eH]at pz;have Eu:(z7+-1).toNat=r.length:=by omega
     refine⟨⟨by omega,by omega,by rw[hl];simp only[dn,cW,eH];omega⟩,?_⟩;intro z8 g0 g1 EK;have hr:U z8=r:=by
      try dsimp only
      rw[EK];simp only[aw,dZ,hl,Eu];simp
     refine⟨⟨z8,rfl,?_⟩,?_⟩
     ·try dsimp only
      rw[hr,<-hz,wi,he,cond_true]
     ·show(U z8).length<(U z3).length
      try dsimp only
      rw[hr,hl];simp
theorem vh {q p:UInt8->Bool} (h:((c8 256).all λi=>q (kq i)==p (kq i))=true) (c:UInt8):q c=p c:=by
 have:=List.all_eq_true.1 h c.toNat (List.mem_range.2 c.toNat_lt);simpa using this
theorem aof:R9 SB (aW SB [.str] 122):=Jk (n:=12125) (p:=lB) (vh (by decide+kernel)) λ_ _=>rfl
theorem aoh:Sb SB (aW SB [.str] 123):=Jk (n:=8267443711659794979134808499087199072256874527605039863196959864303977456569186565734100443375465041388132907546406408792979960403300126342849461211344038) (p:=k5) (vh (by decide+kernel)) λ_ _=>rfl
theorem aoe:R8 SB (aW SB [.str] 124):=Jk (n:=284767230291263911083031) (p:=dM) (vh (by decide+kernel)) λ_ _=>rfl
def R1 (S:zzS) (K:zzK):Prop:=
 bt λz0=>bq 27 [z0] λae=>aI 0 [z0] λz2=>bN (-2) 9223372036854775807 λz3=>∃(eQ:List (List Int)->Prop) (et:List (List Int)->Nat),eQ
 [[0],[ae]]/\(dC λz5=>di λz6=>eQ [[z5],[z6]]->(ak (decide (z5<z2)) (af 30 [z5,z2]/\af 21 [z6,z5]/\bF 21 [z6,z5,0] λz7=>(ak (decide
 (65<=z7)) ((ak (decide (z7<=90)) (cB λz8=>z8<=hO .u8->z8=cy .or .u8 z7 32->af 30 [z5,z2]/\af 21 [z6,z5]/\(af 67 [z6,z5,1]->
 bq 42 [z6,z5,0,z8] λz9=>bk (z5+9223372036854775809) 18446744073709551616 λav=>af 39 [((z5+((-18446744073709551616)*av))+
 1),0,9223372036854775807]/\(eQ [[((z5+((-18446744073709551616)*av))+1)],[z9]]/\et [[((z5+((-18446744073709551616)*av))+1)],[z9]]<et
 [[z5],[z6]]))) (bk (z5+9223372036854775809) 18446744073709551616 λz8=>af 39 [((z5+((-18446744073709551616)*z8))+1),0,9223372036854775807]/\(eQ
 [[((z5+((-18446744073709551616)*z8))+1)],[z6]]/\et [[((z5+((-18446744073709551616)*z8))+1)],[z6]]<et [[z5],[z6]])))) (bk (z5+
 9223372036854775809) 18446744073709551616 λz8=>af 39 [((z5+((-18446744073709551616)*z8))+1),0,9223372036854775807]/\(eQ [[((z5+
 ((-18446744073709551616)*z8))+1)],[z6]]/\et [[((z5+((-18446744073709551616)*z8))+1)],[z6]]<et [[z5],[z6]])))) (af 35 [z6,0,z2]/\b8 34
 [z6,0,z2] λz7=>K [[z0]] [[z7]])))
def R5 (S:zzS) (K:zzK):Prop:=
 bt λz0=>bq 27 [z0] λae=>aI 0 [z0] λz2=>bN (-2) 9223372036854775807 λz3=>∃(eQ:List (List Int)->Prop) (et:List (List Int)->Nat),eQ
 [[0],[ae]]/\(dC λz5=>di λz6=>eQ [[z5],[z6]]->(ak (decide (z5<z2)) (af 30 [z5,z2]/\af 21 [z6,z5]/\bF 21 [z6,z5,0] λz7=>(ak (decide
 (65<=z7)) (af 30 [z5,z2]/\af 21 [z6,z5]/\bF 21 [z6,z5,0] λz8=>(ak (decide (z8<=90)) (af 30 [z5,z2]/\af 21 [z6,z5]/\bF 21 [z6,z5,0] λ
 z9=>bk (z9+32) 256 λav=>af 30 [z5,z2]/\af 21 [z6,z5]/\(af 67 [z6,z5,1]->bq 42 [z6,z5,0,((z9+((-256)*av))+32)] λaj=>bk (z5+
 9223372036854775809) 18446744073709551616 λz12=>af 39 [((z5+((-18446744073709551616)*z12))+1),0,9223372036854775807]/\(eQ [[((z5+
 ((-18446744073709551616)*z12))+1)],[aj]]/\et [[((z5+((-18446744073709551616)*z12))+1)],[aj]]<et [[z5],[z6]]))) (bk (z5+9223372036854775809)
 18446744073709551616 λz9=>af 39 [((z5+((-18446744073709551616)*z9))+1),0,9223372036854775807]/\(eQ [[((z5+((-18446744073709551616)*z9))+
 1)],[z6]]/\et [[((z5+((-18446744073709551616)*z9))+1)],[z6]]<et [[z5],[z6]])))) (bk (z5+9223372036854775809) 18446744073709551616 λz8=>af 39
 [((z5+((-18446744073709551616)*z8))+1),0,9223372036854775807]/\(eQ [[((z5+((-18446744073709551616)*z8))+1)],[z6]]/\et [[((z5+
 ((-18446744073709551616)*z8))+1)],[z6]]<et [[z5],[z6]])))) (af 35 [z6,0,z2]/\b8 34 [z6,0,z2] λz7=>K [[z0]] [[z7]])))
def mT (l:aq):List (List Int):=l.map λb=>[(b.toNat:Int)]
theorem P7 (l:aq):(mT l).length=l.length:=by simp[mT]
theorem YE (l:aq) (i:Nat) (h:i<l.length):(mT l).getD i []=[((l.getD i 0).toNat:Int)]:=by
 simp[mT,aC,h]
theorem apu (l:aq) (i:Nat) (c:UInt8):(mT l).set i [(c.toNat:Int)]=mT (l.set i c):=by
 simp[mT,aue]
theorem apt (l:aq):(mT l).map (λrow=>kq (row.getD 0 0).toNat)=l:=by
 unfold mT
 try dsimp only
 rw[List.map_map]
 conv=>rhs;rw[<-List.map_id l]
 exact List.map_congr_left λb _=>by simp
def lN (s:aq) (i:Nat):aq:=(s.take i).map lo++s.drop i
theorem Ph (s:aq) (i:Nat) (h:i<=s.length):(lN s i).length=s.length:=by
 simp[lN];omega
theorem ald (s:aq) (i:Nat) (h:i<s.length):(lN s i).getD i 0=s.getD i 0:=by
 unfold lN
 try dsimp only
 rw[qM s i h];simp only[aC]
 try dsimp only
 rw[List.getElem?_append_right (by simp;omega)];simp[show min i s.length=i by omega]
theorem alf (s:aq) (i:Nat) (h:i<s.length):lN s (i+1)=(lN s i).set i (lo (s.getD i 0)):=by
 unfold lN
 try dsimp only
 rw[FH s i h,qM s i h,fY];have:((s.take i).map lo).length=i:=by simp;omega
 try dsimp only
 rw[List.set_append_right _ _ (by omega),this];simp
theorem ale (s:aq) (i:Nat) (h:i<s.length) (hl:me (s.getD i 0)=false):lN s (i+1)=lN s i:=by
 unfold lN;have e:lo (s.getD i 0)=s.getD i 0:=by unfold lo;rw[hl];rfl
 try dsimp only
 rw[FH s i h,qM s i h,fY,List.map_singleton,e];simp
theorem alc (s:aq) (i:Nat) (h:s.length<=i):lN s i=lower s:=by
 unfold lN lower
 try dsimp only
 rw[kr h,F6 h,List.append_nil]
theorem OI {z:Int} {c:UInt8} (h:z=(c.toNat:Int)):me c=(decide (65<=z)&&decide (z<=90)):=by
 try dsimp only
 rw[h];unfold me
 try dsimp only
 rw[iG];simp[pH];omega
theorem Xh {z:Int} {c:UInt8} (h:z=(c.toNat:Int)) (h1:65<=z) (h2:z<=90):z+32=((lo c).toNat:Int):=by
 have:=OI h;unfold lo
 try dsimp only
 rw[this,show decide (65<=z)=true by simpa using h1,show decide (z<=90)=true by simpa using h2];simp;omega
theorem am6 {z:Int} (h1:65<=z) (h2:z<=90):cy .or .u8 z 32=z+32:=by
 have h:∀i:Fin 26,cy .or .u8 (65+(i.val:Int)) 32=65+(i.val:Int)+32:=by decide+kernel
 have:=h ⟨(z-65).toNat,by omega⟩;simp only at this;rw[show(65+((z-65).toNat:Int))=z by omega]at this;exact this
def j5 (z0 ae:Int) (bl:List (List Int)):Prop:=∃(i:Nat) (r:Int),bl=[[(i:Int)],[r]]/\i<=(U z0).length/\ab r=mT (lN (U z0) i)
theorem j5.start {z0 ae:Int} (h:ae=aw 27 [z0]):j5 z0 ae [[0],[ae]]:=by
 refine⟨0,ae,rfl,iF _,?_⟩
 try dsimp only
 rw[h];simp only[aw,du];simp[lN,mT]
theorem j5.get {z0 z2 r z7:Int} {i:Nat} (h2:z2=aw 0 [z0]) (hr:ab r=mT (lN (U z0) i)) (hi:i<=(U z0).length) (hp:(i:Int)<z2):af 30 [(i:Int),z2]/\af 21 [r,(i:Int)]/\(z7=aw 21 [r,(i:Int),0]->z7=(((U z0).getD i 0).toNat:Int)):=by
 simp only[aw]at h2;refine⟨⟨rS _,hp⟩,⟨rS _,?_⟩,λh=>?_⟩
 ·try dsimp only
  rw[hr,P7,Ph _ _ hi];omega
 ·try dsimp only
  rw[h];simp only[aw]
  try dsimp only
  rw[hr,eW,YE _ _ (by rw[Ph _ _ hi];omega),ald _ _ (by omega)];rfl
theorem j5.set {z0 ae z2 r z9 v:Int} {i:Nat} (h2:z2=aw 0 [z0]) (hr:ab r=mT (lN (U z0) i)) (hi:i<=(U z0).length) (hp:(i:Int)<z2) (hv:v=((lo ((U z0).getD i 0)).toNat:Int)) (h:z9=aw 42 [r,(i:Int),0,v]):j5 z0 ae [[(i:Int)+1],[z9]]:=by
 simp only[aw]at h2;refine⟨i+1,z9,by simp,by omega,?_⟩
 try dsimp only
 rw[h];simp only[aw,du];have hl:i<(lN (U z0) i).length:=by rw[Ph _ _ hi];omega
 try dsimp only
 rw[hr,eW,YE _ _ hl,alf _ _ (by omega),<-apu,hv];rfl
theorem j5.same {z0 ae z2 r:Int} {i:Nat} (h2:z2=aw 0 [z0]) (hr:ab r=mT (lN (U z0) i)) (hi:i<=(U z0).length) (hp:(i:Int)<z2) (hg:me ((U z0).getD i 0)=false):j5 z0 ae [[(i:Int)+1],[r]]:=by
 simp only[aw]at h2;refine⟨i+1,r,by simp,by omega,?_⟩
 try dsimp only
 rw[ale _ _ (by omega) hg,hr]
theorem j5.done {z0 z2 r:Int} {i:Nat} (h2:z2=aw 0 [z0]) (bW:z0<=bp) (hr:ab r=mT (lN (U z0) i)) (hi:i<=(U z0).length) (hp:¬(i:Int)<z2):af 35 [r,0,z2]/\∀z7,z7=aw 34 [r,0,z2]->U z7=lower (U z0):=by
 have q9:=rW bW;unfold eN at q9;simp only[aw]at h2;have hm:=alc (U z0) i (by omega);rw[hm]at hr;have hlen:(lower (U z0)).length=(U z0).length:=by simp[lower]
 refine⟨⟨⟨by omega,by omega,by rw[hr,P7,hlen];omega⟩,by omega⟩,λz7 h=>?_⟩
 try dsimp only
 rw[h];simp only[aw,dZ]
 try dsimp only
 rw[hr,show((mT (lower (U z0))).drop (0:Int).toNat)=mT (lower (U z0)) from rfl,kr (by rw[P7,hlen];omega),apt]
def IW (z0:Int) (bl:List (List Int)):Nat:=(U z0).length-((bl.getD 0 []).getD 0 0).toNat
theorem Bq {z0 z2 r r':Int} {i:Nat} (h2:z2=aw 0 [z0]) (hp:(i:Int)<z2):IW z0 [[(i:Int)+1],[r]]<IW z0 [[(i:Int)],[r']]:=by
 simp only[aw]at h2;show(U z0).length-((i:Int)+1).toNat<(U z0).length-(i:Int).toNat;omega
theorem anM:R1 SB (aW SB [.str] 28):=by
 intro z0 a0 a1 ae b0 b1 h1 z2 bA c1 h2 z3 d0 d1;refine⟨j5 z0 ae,IW z0,j5.start h1,?_⟩
 rintro z5 e0 e1 z6 f0 f1 ⟨i,r,e,hi,hr⟩
 obtain⟨rfl,rfl⟩:z5=i/\z6=r:=by simpa using e
 refine⟨λhp=>?_,λhp=>?_⟩
 ·have hp:(i:Int)<z2:=by simpa using hp
  have hg:=λz7=>j5.get (z7:=z7) h2 hr hi hp;refine⟨(hg 0).1,(hg 0).2.1,λz7 g0 g1 h7=>?_⟩;have h7:=(hg z7).2.2 h7;have hG:=OI h7;refine⟨λhA=>⟨λhB z8 e7 k1 h8=>?_,λhB z8 e7 k1 k2 k3=>?_⟩,λhA z8 e7 k1 k2 k3=>?_⟩
  ·have MT:65<=z7:=by simpa using hA
   have MV:z7<=90:=by simpa using hB
   refine⟨(hg 0).1,(hg 0).2.1,λ_ z9 l0 l1 a8 av m0 fT m2 m3=>?_⟩
   try dsimp only
   rw[mr (L:=z2) hp c1 e0 m0 m2];refine⟨⟨by omega,by omega⟩,j5.set h2 hr hi hp ?_ a8,Bq h2 hp⟩
   try dsimp only
   rw[h8,am6 MT MV,Xh h7 MT MV]
  ·try dsimp only
   rw[mr (L:=z2) hp c1 e0 e7 k2];refine⟨⟨by omega,by omega⟩,j5.same h2 hr hi hp ?_,Bq h2 hp⟩
   try dsimp only
   rw[hG,hB];simp
  ·try dsimp only
   rw[mr (L:=z2) hp c1 e0 e7 k2];refine⟨⟨by omega,by omega⟩,j5.same h2 hr hi hp ?_,Bq h2 hp⟩
   try dsimp only
   rw[hG,hA];simp
 ·have hp:¬(i:Int)<z2:=by simpa using hp
  have hd:=j5.done h2 a1 hr hi hp;exact⟨hd.1,λz7 g0 g1 h7=>⟨⟨g0,g1,trivial⟩,hd.2 z7 h7⟩⟩
theorem an2:R5 SB (aW SB [.str] 17):=by
 intro z0 a0 a1 ae b0 b1 h1 z2 bA c1 h2 z3 d0 d1;refine⟨j5 z0 ae,IW z0,j5.start h1,?_⟩
 rintro z5 e0 e1 z6 f0 f1 ⟨i,r,e,hi,hr⟩
 obtain⟨rfl,rfl⟩:z5=i/\z6=r:=by simpa using e
 refine⟨λhp=>?_,λhp=>?_⟩
 ·have hp:(i:Int)<z2:=by simpa using hp
  have hg:=λz7=>j5.get (z7:=z7) h2 hr hi hp;refine⟨(hg 0).1,(hg 0).2.1,λz7 g0 g1 h7=>?_⟩;have h7:=(hg z7).2.2 h7;have hG:=OI h7;refine⟨λhA=>⟨(hg 0).1,(hg 0).2.1,λz8 n0 n1 h8=>⟨λhB=>⟨(hg 0).1,(hg 0).2.1,λz9 yu o1 a8 av e7 k1 k2 k3=>?_⟩,λhB z9 e7 k1 k2 k3=>?_⟩⟩,λhA z8 e7 k1 k2 k3=>?_⟩
  ·have h8:=(hg z8).2.2 h8;have a8:=(hg z9).2.2 a8;have MT:65<=z7:=by simpa using hA
   have MV:z8<=90:=by simpa using hB
   refine⟨(hg 0).1,(hg 0).2.1,λ_ aj l0 l1 dF z12 m0 fT m2 m3=>?_⟩
   try dsimp only
   rw[mr (L:=z2) hp c1 e0 m0 m2];refine⟨⟨by omega,by omega⟩,j5.set h2 hr hi hp ?_ dF,Bq h2 hp⟩;have:=Xh a8 (by omega) (by omega);omega
  ·have h8:=(hg z8).2.2 h8
   try dsimp only
   rw[mr (L:=z2) hp c1 e0 e7 k2];refine⟨⟨by omega,by omega⟩,j5.same h2 hr hi hp ?_,Bq h2 hp⟩
   try dsimp only
   rw[hG,h7.trans h8.symm,hB];simp
  ·try dsimp only
   rw[mr (L:=z2) hp c1 e0 e7 k2];refine⟨⟨by omega,by omega⟩,j5.same h2 hr hi hp ?_,Bq h2 hp⟩
   try dsimp only
   rw[hG,hA];simp
 ·have hp:¬(i:Int)<z2:=by simpa using hp
  have hd:=j5.done h2 a1 hr hi hp;exact⟨hd.1,λz7 g0 g1 h7=>⟨⟨g0,g1,trivial⟩,hd.2 z7 h7⟩⟩
end Go.bE
namespace Go.bE
open Go Go.ba
def KH (S:zzS) (K:zzK):Prop:=
 bt λz0=>cf 4 [z0,0] λae=>(ak ((!(decide (ae=1)))) (aI 0 [z0] λz2=>(ak (decide (z2<=230)) (bt λz3=>S 123 [[z0]] [[z3]]->cf 4 [z3,0]
 λz4=>(ak (decide (z4=1)) (bC λz5=>S 65
 [[z0],[3092260449727753699381237987134896180985020549865866695797500355328521677512090486983914513878993150076419119825652852662229468458769751959831595687466918]]
 [[z5]]->(ak (decide (z5=1)) (bt λz6=>S 122 [[z0]] [[z6]]->cf 4 [z6,z0] λz7=>(ak (decide (z7=1)) (af 41 [z0]/\bC λz8=>S 128 [[z0]]
 [[z8]]->K [[z0]] [[(cond ((!(decide (z8=1)))) 1 0)]]) (K [[z0]] [[(cond (false) 1 0)]]))) (K [[z0]] [[(cond (false) 1 0)]]))) (K [[z0]] [[(cond (false) 1
 0)]]))) (K [[z0]] [[(cond (false) 1 0)]]))) (K [[z0]] [[(cond (false) 1 0)]]))
def KQ (S:zzS) (K:zzK):Prop:=
 bt λz0=>cf 4 [z0,0] λae=>(ak (decide (ae=1)) (K [[z0]] [[(cond (false) 1 0)]]) (aI 0 [z0] λz2=>(ak (decide (64<z2)) (K [[z0]] [[(cond
 (false) 1 0)]]) (bC λz3=>S 44
 [[z0],[74473080028620518966381883429228484808440201678127597570840141201138927665149786990616077870556514776478160775702785383470653111892427074463158448094822482491594731032954821022169486867841687777697]]
 [[z3]]->(ak ((!(decide (z3=1)))) (K [[z0]] [[(cond (false) 1 0)]]) (bt λz4=>S 121 [[z0]] [[z4]]->cf 4 [z4,z0] λz5=>(ak (decide (z5=1)) (af
 41 [z0]/\bC λz6=>S 128 [[z0]] [[z6]]->K [[z0]] [[(cond ((!(decide (z6=1)))) 1 0)]]) (K [[z0]] [[(cond (false) 1 0)]]))))))))
theorem IX (p:UInt8->Bool) (l:aq):(e8 p l).length<=l.length:=(List.dropWhile_sublist p).length_le
theorem apB (p:UInt8->Bool) (l:aq):(fM p l).length<=l.length:=by
 unfold fM;rw[Rg];have:=IX p l.reverse
 rwa [Rg]at this
theorem ak2 {p:UInt8->Bool} {l:aq} (h:l.length<=(e8 p l).length):e8 p l=l:=(List.dropWhile_suffix p).eq_of_length (Nat.le_antisymm (IX p l) h)
theorem apA {p:UInt8->Bool} {l:aq} (h:l.length<=(fM p l).length):fM p l=l:=by
 have:e8 p l.reverse=l.reverse:=ak2 (by unfold fM at h;rw[Rg]at h;rw[Rg];exact h);unfold fM;unfold e8 at this;rw[this,List.reverse_reverse]
theorem MJ (r:aq) (x:UInt8):(r++[x]).getD r.length 0=x:=by simp[aC]
theorem aqR (p:UInt8->Bool) (s:aq):jl p s=s↔∀i,i<s.length->p (s.getD i 0)=true->0<i/\i+1<s.length:=by
 by_cases hs:s=[]
 ·subst hs;exact⟨λ_ i h=>by simp at h,λ_=>rfl⟩
 ·constructor
  ·intro h i hi hp;have hl:s.length<=(jl p s).length:=by rw[h];exact aV _
   have h1:=IX p (fM p s);have hr:fM p s=s:=apA (Nat.le_trans hl h1);have ht:e8 p s=s:=by unfold jl at h;rwa [hr]at h
   refine⟨Nat.pos_of_ne_zero λh0=>?_,Nat.lt_of_le_of_ne hi λh0=>?_⟩
   ·subst h0;cases s with
    |nil=>exact hs rfl
    |cons x r=>
     have hp:p x=true:=hp;have h2:e8 p (x::r)=e8 p r:=by simp[e8,ou,hp]
     have:=IX p r;rw[h2]at ht;rw[ht]at this;simp at this;omega
   ·obtain⟨r,x,rfl⟩:=FA hs;have:i=r.length:=by simp at h0;omega
    subst this;rw[MJ]at hp;rw[wi,hp,cond_true]at hr;have:=apB p r;rw[hr]at this;simp at this;omega
  ·intro h;have hr:fM p s=s:=by
    obtain⟨r,x,rfl⟩:=FA hs;rw[wi];cases hx:p x with
    |false=>rfl
    |true=>have:=(h r.length (by simp) (by rw[MJ];exact hx)).2;simp at this
   unfold jl;rw[hr];cases s with
   |nil=>rfl
   |cons x r=>
    cases hx:p x with
    |false=>simp[e8,ou,hx]
    |true=>have:=(h 0 (by simp) hx).1;omega
theorem abS (p:UInt8->Bool) (s:aq):s.all p=true↔∀i,i<s.length->p (s.getD i 0)=true:=by
 rw[pI];constructor
 ·intro h i hi;refine h _ ?_;simp[aC,hi]
 ·intro h x hx;obtain⟨i,hi,rfl⟩:=Rh hx;have:=h i hi;simpa [aC,hi]using this
theorem adm (s:aq):dd s=false↔∀i,i<s.length->¬(s.getD i 0=46/\s.getD (i+1) 0=46):=by
 unfold dd;rw[List.any_eq_false];constructor
 ·intro h i hi ah;exact h i (List.mem_range.2 hi) (by rw[ah.1,ah.2];rfl)
 ·intro h i hi ah;rw[aO,beq_iff_eq,beq_iff_eq]at ah;exact h i (List.mem_range.1 hi) ah
theorem XO (inn ik:UInt8->Bool) (s:aq):uy inn ik s=true↔∀i,i<s.length->inn (s.getD i 0)=true/\(ik (s.getD i 0)=true->0<i/\i+1<s.length)/\¬(s.getD i 0=46/\0<i/\s.getD (i-1) 0=46):=by
 unfold uy;rw[pI];constructor
 ·intro h i hi;have:=h i (List.mem_range.2 hi);simp only[aO,ow,fX,ov,aug,beq_eq_false_iff_ne]at this;refine⟨this.1.1,λhe=>?_,λah=>?_⟩
  ·rcases this.1.2 with h1|h1
   ·rw[h1]at he;cases he
   ·exact h1
  ·have h3:bY 0 i=true:=by rw[ov];exact ah.2.1
   rcases this.2 with(h1|h1)|h1
   ·exact h1 ah.1
   ·rw[h3]at h1;cases h1
   ·exact h1 ah.2.2
 ·intro h i hi;obtain⟨h1,h2,h3⟩:=h i (List.mem_range.1 hi);simp only[aO,ow,fX,ov,aug,beq_eq_false_iff_ne];refine⟨⟨h1,?_⟩,?_⟩
  ·cases he:ik (s.getD i 0)with
   |false=>exact .inl rfl
   |true=>exact .inr (h2 he)
  ·by_cases e1:s.getD i 0=46
   ·by_cases e2:s.getD (i-1) 0=46
    ·left;right
     cases hb:bY 0 i with
     |false=>rfl
     |true=>rw[ov]at hb;exact absurd ⟨e1,hb,e2⟩ h3
    ·exact .inr e2
   ·exact .inl (.inl e1)
theorem vX (inn ik:UInt8->Bool) (s:aq):uy inn ik s=(s.all inn&&decide (jl ik s=s)&& !dd s):=by
 rw[iG,XO,aO,aO,abS,decide_eq_true_eq,aqR,fX,adm];constructor
 ·intro h;refine⟨⟨λi hi=>(h i hi).1,λi hi=>(h i hi).2.1⟩,λi hi ah=>?_⟩;by_cases hj:i+1<s.length
  ·exact(h (i+1) hj).2.2 ⟨ah.2,by omega,by simpa using ah.1⟩
  ·have:s.getD (i+1) 0=0:=by simp[aC,show s.length<=i+1 by omega]
   rw[this]at ah;exact absurd ah.2 (by decide)
 ·rintro⟨⟨h1,h2⟩,h3⟩ i hi
  refine⟨h1 i hi,h2 i hi,λah=>?_⟩;exact h3 (i-1) (by omega) ⟨ah.2.2,by rw[show i-1+1=i by omega];exact ah.1⟩
theorem TV {p:UInt8->Bool}:∀{l:aq},l.all p=true->l.dropWhile p=[]
 |[],_=>rfl
 |x::r,h=>by
  simp only[Kf,aO]at h;rw[ou,if_pos h.1];exact TV h.2
theorem QJ {p:UInt8->Bool} {s:aq} (h:s.all p=true):jl p s=[]:=by
 have:fM p s=[]:=by
  unfold fM;have:s.reverse.all p=true:=by rw[List.all_reverse];exact h
  rw[TV this];rfl
 unfold jl;rw[this];rfl
theorem iL {z a b:Int} (h:z=aw 4 [a,b]):decide (z=1)=decide (U a=U b):=by
 rw[h];simp only[aw];by_cases e:U a=U b<;>simp[e]
theorem E4 {z a:Int} (h:z=aw 4 [a,0]):(!decide (z=1))=bY 0 (U a).length:=by
 rw[eq_nil h];cases U a with
 |nil=>rfl
 |cons x r=>simp
theorem yo {z a n:Int} (m:Nat) (hm:n=(m:Int)) (h:z=aw 0 [a]):decide (z<=n)=bu (U a).length m:=by
 rw[h,hm];simp only[aw];rw[iG,decide_eq_true_eq,pH];omega
theorem vS {z a n:Int} (m:Nat) (hm:n=(m:Int)) (h:z=aw 0 [a]):decide (n<z)= !bu (U a).length m:=by
 rw[h,hm];simp only[aw];rw[iG,decide_eq_true_eq,fX,<-auh,pH];omega
theorem fF {z:Int} {b:Bool} (h:z=aN b):decide (z=1)=b:=by rw[h,CK]
theorem lL {id:Nat} {zs:List (List Int)} {b:Bool} (h:SB id zs [[aN b]]):aW SB [.bool] id zs [[aN b]]:=⟨⟨(oH b).1,(oH b).2,trivial⟩,h⟩
theorem am2 (s:aq) {n:Int} (hn:∀c,(U n).contains c=k5 c):(s.all λc=>(U n).contains c)=s.all k5:=by
 congr 1;funext c;exact hn c
theorem anz:KH SB (aW SB [.bool] 47):=by
 delta KH ak aI bt bC cf;dsimp only
 intro z0 a0 a1 ae b0 b1 h1;have aU:∀b:Bool,fR (U z0)=b->aW SB [.bool] 47 [[z0]] [[aN b]]:=λb h=>lL (by show aN b=aN (fR (U z0));rw[h]);refine⟨λhp z2 bA c1 h2=>⟨λhq z3 d0 d1 h3 z4 e0 e1 h4=>⟨λhr z5 f0 f1 h5=>?_,λhr=>aU false ?_⟩,λhq=>aU false ?_⟩,λhp=>aU false ?_⟩
 ·rw[E4 h1]at hp;rw[yo (n:=230) 230 rfl h2]at hq;have h5:z5=aN ((U z0).all λc=>(U _).contains c):=h5;rw[am2 (U z0) (vh (by decide+kernel))]at h5;rw[fF h5];refine⟨λhs z6 g0 g1 h6 z7 i0 i1 h7=>?_,λhs=>aU false ?_⟩
  ·have h6:U z6=jl lB (U z0):=h6;rw[iL h7,h6];refine⟨λht=>⟨?_,λz8 fS da h8=>?_⟩,λht=>aU false ?_⟩
   ·show(U z0).length<=4294967280;rw[pH]at hq;omega
   ·have h8:z8=aN (dd (U z0)):=h8;rw[fF h8];refine aU _ ?_;unfold fR;rw[hp,hq,vX,hs,ht];rfl
   ·unfold fR;rw[vX,ht];simp
  ·unfold fR;rw[vX,hs];simp
 ·have h3:U z3=jl k5 (U z0):=h3;rw[eq_nil h4,h3]at hr;unfold fR;rw[vX];cases ha:(U z0).all k5 with
  |false=>simp
  |true=>rw[QJ ha]at hr;simp at hr
 ·rw[yo (n:=230) 230 rfl h2]at hq;unfold fR;rw[hq];simp
 ·rw[E4 h1]at hp;unfold fR;rw[hp];rfl
theorem anL:KQ SB (aW SB [.bool] 24):=by
 delta KQ ak aI bt bC cf;dsimp only
 intro z0 a0 a1 ae b0 b1 h1;have aU:∀b:Bool,jV (U z0)=b->aW SB [.bool] 24 [[z0]] [[aN b]]:=λb h=>lL (by show aN b=aN (jV (U z0));rw[h]);have hn:=E4 h1;refine⟨λhp=>aU false ?_,λhp z2 bA c1 h2=>⟨λhq=>aU false ?_,λhq z3 d0 d1 h3=>?_⟩⟩
 ·rw[hp]at hn;unfold jV;rw[<-hn];rfl
 ·rw[vS (n:=64) 64 rfl h2,fX]at hq;unfold jV;rw[hq];simp
 ·rw[vS (n:=64) 64 rfl h2,mw]at hq;rw[hp]at hn;have h3:z3=aN ((U z0).all λc=>(U _).contains c):=h3;have e:((U z0).all λc=>(U 74473080028620518966381883429228484808440201678127597570840141201138927665149786990616077870556514776478160775702785383470653111892427074463158448094822482491594731032954821022169486867841687777697).contains c)=(U z0).all oa:=congrArg (List.all (U z0)) (funext (vh (p:=oa) (by decide+kernel)));rw[e]at h3;rw[fF h3];refine⟨λhs=>aU false ?_,λhs z4 e0 e1 h4 z5 f0 f1 h5=>?_⟩
  ·have hs:(U z0).all oa=false:=by simpa using hs
   unfold jV;rw[vX,hs];simp
  ·have hs:(U z0).all oa=true:=by simpa using hs
   have h4:U z4=jl (·==46) (U z0):=h4;rw[iL h5,h4];refine⟨λht=>⟨?_,λz8 fS da h8=>?_⟩,λht=>aU false ?_⟩
   ·show(U z0).length<=4294967280;rw[pH]at hq;omega
   ·have h8:z8=aN (dd (U z0)):=h8;rw[fF h8];refine aU _ ?_;unfold jV;rw[<-hn,hq,vX,hs,ht];rfl
   ·unfold jV;rw[vX,ht];simp
def K4 (S:zzS) (K:zzK):Prop:=
 bt λz0=>bt λae=>bt λz2=>bC λz3=>S 126 [[z0]] [[ae],[z2],[z3]]->bC λz4=>S 47 [[ae]] [[z4]]->(ak (decide (z4=1)) ((ak ((!(decide (z3
 =1)))) (K [[z0]] [[(cond (true) 1 0)]]) (cf 4 [z2,0] λz5=>(ak ((!(decide (z5=1)))) (aI 0 [z2] λz6=>(ak (decide (z6<=5)) (bt λz7=>S 124
 [[z2]] [[z7]]->cf 4 [z7,0] λz8=>(ak (decide (z8=1)) (bC λz9=>S 65 [[z2],[284767230291263911083031]] [[z9]]->K [[z0]] [[(cond (decide (z9=1)) 1
 0)]]) (K [[z0]] [[(cond (false) 1 0)]]))) (K [[z0]] [[(cond (false) 1 0)]]))) (K [[z0]] [[(cond (false) 1 0)]]))))) (K [[z0]] [[(cond (false) 1 0)]]))
def KF (S:zzS) (K:zzK):Prop:=
 bt λz0=>bt λae=>S 120 [[z0]] [[ae]]->bt λz2=>bt λz3=>bC λz4=>S 125 [[ae]] [[z2],[z3],[z4]]->(ak ((!(decide (z4=1)))) (K [[z0]]
 [[0],[2]]) (aI 0 [ae] λz5=>(ak (decide (254<z5)) (K [[z0]] [[0],[2]]) (bC λz6=>S 24 [[z2]] [[z6]]->(ak ((!(decide (z6=1)))) (K [[z0]] [[0],[2]])
 (ql λz7=>S 73 [[z3],[58]] [[z7]]->(ak (decide (0<=z7)) (K [[z0]] [[0],[2]]) (bC λz8=>S 127 [[z3]] [[z8]]->(ak ((!(decide (z8=1)))) (K [[z0]]
 [[0],[2]]) (bC λz9=>S 27 [[z3]] [[z9]]->(ak ((!(decide (z9=1)))) (K [[z0]] [[0],[2]]) (bt λav=>S 28 [[ae]] [[av]]->K [[z0]]
 [[av],[0]]))))))))))))
def K6 (S:zzS) (K:zzK):Prop:=
 uD λz0=>(ak (decide (97<=z0)) (K [[z0]] [[(cond (decide (z0<=122)) 1 0)]]) (K [[z0]] [[(cond (false) 1 0)]]))
def KG (S:zzS) (K:zzK):Prop:=
 uD λz0=>(ak (decide (65<=z0)) (K [[z0]] [[(cond (decide (z0<=90)) 1 0)]]) (K [[z0]] [[(cond (false) 1 0)]]))
def KE (S:zzS) (K:zzK):Prop:=
 uD λz0=>(ak (decide (48<=z0)) (K [[z0]] [[(cond (decide (z0<=57)) 1 0)]]) (K [[z0]] [[(cond (false) 1 0)]]))
def KO (S:zzS) (K:zzK):Prop:=
 ∀r0:List Int,bd (hW 0 bp 2) r0->∀r2:List Int,bd (hW 0 bp 2) r2->cf 4 [(aC r0 0 0),(aC r2 0 0)] λz4=>(ak ((!(decide (z4=
 1)))) (cf 5 [(aC r0 0 0),(aC r2 0 0)] λz5=>K [r0,r2] [[(cond (decide (z5=1)) 1 0)]]) (cf 5 [(aC r0 1 0),(aC r2 1 0)] λz5
 =>K [r0,r2] [[(cond (decide (z5=1)) 1 0)]]))
def KZ (S:zzS) (K:zzK):Prop:=
 ∀r0:List Int,bd (hW 0 bp 2) r0->∀r2:List Int,bd (hW 0 bp 2) r2->cf 5 [(aC r0 0 0),(aC r2 0 0)] λz4=>(ak (decide (z4=1)) (K
 [r0,r2] [[(cond (true) 1 0)]]) (cf 4 [(aC r0 0 0),(aC r2 0 0)] λz5=>(ak (decide (z5=1)) (cf 5 [(aC r0 1 0),(aC r2 1 0)] λ
 z6=>K [r0,r2] [[(cond (decide (z6=1)) 1 0)]]) (K [r0,r2] [[(cond (false) 1 0)]]))))
theorem ak9:k5 58=false:=by decide
theorem ahA {s:aq} (h:fR s=true):¬(58:UInt8)∈s:=λhm=>by
 unfold fR at h;rw[vX]at h;simp only[aO]at h;have:=List.all_eq_true.1 h.2.1.1 58 hm;rw[ak9]at this;cases this
theorem Y7 {s:aq} (h:idx 58 s<0):jk s=fR s:=by
 have:decide (0<=idx 58 s)=false:=by simpa using h
 unfold jk mF;rw[this];simp
theorem an8:K4 SB (aW SB [.bool] 27):=by
 delta K4 ak aI bt bC cf;dsimp only
 intro z0 a0 a1 ae b0 b1 z2 bA c1 z3 d0 d1 bX z4 e0 e1 h4;have bX:(U ae,U z2,z3)=mF 58 (U z0):=bX;have h4:z4=aN (fR (U ae)):=h4;have hv:jk (U z0)=(fR (U ae)&&(decide (z3=0)||rC (U z2))):=by unfold jk;rw[<-bX]
 have aU:∀b:Bool,jk (U z0)=b->aW SB [.bool] 27 [[z0]] [[aN b]]:=λb h=>lL (by show aN b=aN (jk (U z0));rw[h]);have h3:(!decide (z3=1))=decide (z3=0):=by
  rcases(show z3=0∨z3=1 by omega)with rfl|rfl<;>rfl
 rw[fF h4,h3];refine⟨λhp=>⟨λhq=>aU true ?_,λhq z5 f0 f1 h5=>?_⟩,λhp=>aU false ?_⟩
 ·rw[hv,hp,hq];rfl
 ·have hn:=E4 h5;refine⟨λhr z6 g0 g1 h6=>⟨λhs z7 i0 i1 h7 z8 fS da h8=>?_,λhs=>aU false ?_⟩,λhr=>aU false ?_⟩
  ·rw[hr]at hn;rw[yo (n:=5) 5 rfl h6]at hs;have h7:U z7=jl dM (U z2):=h7;rw[eq_nil h8,h7];refine⟨λht z9 e7 k1 a8=>?_,λht=>aU false ?_⟩
   ·have a8:z9=aN ((U z2).all λc=>(U 284767230291263911083031).contains c):=a8;have e:((U z2).all λc=>(U 284767230291263911083031).contains c)=(U z2).all dM:=congrArg (List.all (U z2)) (funext (vh (p:=dM) (by decide+kernel)));rw[e]at a8;rw[fF a8];refine aU _ ?_;rw[hv,hp,hq];unfold rC;rw[<-hn,hs];simp
   ·rw[hv,hp,hq];unfold rC;cases ha:(U z2).all dM with
    |false=>simp
    |true=>rw[QJ ha]at ht;simp at ht
  ·rw[yo (n:=5) 5 rfl h6]at hs;rw[hv,hp,hq];unfold rC;rw[hs];simp
  ·rw[hr]at hn;rw[hv,hp,hq];unfold rC;rw[<-hn];rfl
 ·rw[hv,hp];rfl
theorem vQ {id:Nat} {zs:List (List Int)} {a e:Int} (h0:0<=a) (h1:a<=bp) (e0:0<=e) (e1:e<=21) (h:SB id zs [[a],[e]]):aW SB [.str,.int .i64 0 21] id zs [[a],[e]]:=⟨⟨h0,h1,e0,e1,trivial⟩,h⟩
theorem zQ {t:aq} (h:(decide (0<=idx 64 t)&&bu t.length 254&&jV (t.take (idx 64 t).toNat)&&fR (t.drop ((idx 64 t).toNat+1))&&(t.drop ((idx 64 t).toNat+1)).contains 46)=false):qP t=([],2):=by unfold qP;rw[h];rfl
theorem anr:KF SB (aW SB [.str,.int .i64 0 21] 10):=by
 delta KF ak aI bt bC ql;dsimp only
 intro z0 a0 a1 ae b0 b1 h1 z2 bA c1 z3 d0 d1 z4 e0 e1 bX;have h1:U ae=jl (·==32) (U z0):=h1;have bX:(U z2,U z3,z4)=mF 64 (U ae):=bX;have aU:qP (U ae)=([],2)->aW SB [.str,.int .i64 0 21] 10 [[z0]] [[0],[2]]:=λh=>vQ (bB _) fZ (by decide) (by decide) (by
  show(U 0,(2:Int))=lC (U z0);unfold lC;rw[<-h1,h];rfl)
 unfold mF at bX;cases hi:decide (0<=idx 64 (U ae))with
 |false=>
  rw[hi]at bX;simp only[cond_false,ct]at bX;obtain⟨_,_,rfl⟩:=bX;exact⟨λ_=>aU (zQ (by rw[hi];rfl)),λh=>by simp at h⟩
 |true=>
  rw[hi]at bX;simp only[cond_true,ct]at bX;obtain⟨h2,h3,rfl⟩:=bX;refine⟨λh=>by simp at h,λ_ z5 f0 f1 h5=>⟨λhq=>aU (zQ ?_),λhq z6 g0 g1 h6=>?_⟩⟩
  ·rw[vS (n:=254) 254 rfl h5,fX]at hq;rw[hq];simp
  ·rw[vS (n:=254) 254 rfl h5,mw]at hq;have h6:z6=aN (jV (U z2)):=h6;rw[fF h6,h2];refine⟨λhl=>aU (zQ ?_),λhl z7 i0 i1 h7=>?_⟩
   ·rw[fX]at hl;rw[hl];simp
   ·rw[mw]at hl;have h7:z7=idx 58 (U z3):=h7;refine⟨λhc=>aU (zQ ?_),λhc z8 fS da h8=>?_⟩
    ·have vB:u8 58∈U z3:=by
      have:=Iy (c:=58) (by decide) (by decide) (U z3);rw[<-h7,hc]at this;simpa using this.symm
     have:fR (U z3)=false:=by
      cases ah:fR (U z3)with
      |false=>rfl
      |true=>exact absurd vB (ahA ah)
     rw[<-h3,this];simp
    ·have hlt:idx 58 (U z3)<0:=by rw[<-h7];simpa using hc
     have h8:z8=aN ((U z3).contains 46):=h8;rw[fF h8];refine⟨λhd=>aU (zQ ?_),λhd z9 e7 k1 a8=>?_⟩
     ·rw[fX]at hd;rw[<-h3,hd];simp
     ·rw[mw]at hd;have a8:z9=aN (jk (U z3)):=a8;rw[fF a8,Y7 hlt];refine⟨λah=>aU (zQ ?_),λah av l0 l1 dg=>?_⟩
      ·rw[fX]at ah;rw[<-h3,ah];simp
      ·rw[mw]at ah;have dg:U av=lower (U ae):=dg;refine vQ l0 l1 (by decide) (by decide) ?_;show(U av,(0:Int))=lC (U z0);unfold lC qP;rw[<-h1,hi,hq,hl,<-h3,ah,hd,dg];rfl
theorem OK {lo hi:Nat} {z:Int} (h0:0<=z) (h1:z<=255):(bu lo (u8 z).toNat&&bu (u8 z).toNat hi)=(decide ((lo:Int)<=z)&&decide (z<=(hi:Int))):=by
 have:=JZ h0 h1;rw[iG];simp[pH];omega
theorem aoa:K6 SB (aW SB [.bool] 50):=by
 delta K6 ak uD;dsimp only
 intro z0 a0 a1;have e:=OK (lo:=97) (hi:=122) a0 a1;have aU:∀b:Bool,mf (u8 z0)=b->aW SB [.bool] 50 [[z0]] [[aN b]]:=λb h=>lL (by show aN b=aN (mf (u8 z0));rw[h]);refine⟨λh=>aU _ ?_,λh=>aU false ?_⟩
 ·unfold mf;rw[e];have h:decide (((97:Nat):Int)<=z0)=true:=h;rw[h];rfl
 ·unfold mf;rw[e];have h:decide (((97:Nat):Int)<=z0)=false:=h;rw[h];rfl
theorem anx:KG SB (aW SB [.bool] 51):=by
 delta KG ak uD;dsimp only
 intro z0 a0 a1;have e:=OK (lo:=65) (hi:=90) a0 a1;have aU:∀b:Bool,me (u8 z0)=b->aW SB [.bool] 51 [[z0]] [[aN b]]:=λb h=>lL (by show aN b=aN (me (u8 z0));rw[h]);refine⟨λh=>aU _ ?_,λh=>aU false ?_⟩
 ·unfold me;rw[e];have h:decide (((65:Nat):Int)<=z0)=true:=h;rw[h];rfl
 ·unfold me;rw[e];have h:decide (((65:Nat):Int)<=z0)=false:=h;rw[h];rfl
theorem anq:KE SB (aW SB [.bool] 52):=by
 delta KE ak uD;dsimp only
 intro z0 a0 a1;have e:=OK (lo:=48) (hi:=57) a0 a1;have aU:∀b:Bool,dM (u8 z0)=b->aW SB [.bool] 52 [[z0]] [[aN b]]:=λb h=>lL (by show aN b=aN (dM (u8 z0));rw[h]);refine⟨λh=>aU _ ?_,λh=>aU false ?_⟩
 ·unfold dM;rw[e];have h:decide (((48:Nat):Int)<=z0)=true:=h;rw[h];rfl
 ·unfold dM;rw[e];have h:decide (((48:Nat):Int)<=z0)=false:=h;rw[h];rfl
theorem uK {r:List Int} (h:bd (hW 0 bp 2) r):∃a b,r=[a,b]/\0<=a/\a<=bp/\0<=b/\b<=bp:=by
 match r,h with
 |[a,b],h=>exact⟨a,b,rfl,h.1,h.2.1,h.2.2.1,h.2.2.2.1⟩
theorem IP {z a b:Int} (h:z=aw 5 [a,b]):decide (z=1)=dy (U a) (U b):=by
 rw[h];simp only[aw];cases dy (U a) (U b)<;>simp
theorem Bp:∀l:aq,dy l l=false
 |[]=>rfl
 |x::r=>by
  have:=Bp r;simp[dy,this]
theorem anI:KO SB (aW SB [.bool] 14):=by
 delta KO ak cf;dsimp only
 intro r0 h0 r2 h2 z4 a0 a1 h4;obtain⟨a,b,rfl,_⟩:=uK h0;obtain⟨c,d,rfl,_⟩:=uK h2;have h4:z4=aw 4 [a,c]:=h4;rw[iL h4];have aU:∀x:Bool,mQ (U a) (U b) (U c) (U d)=x->aW SB [.bool] 14 [[a,b],[c,d]] [[aN x]]:=λx h=>lL (by show aN x=aN (mQ (U a) (U b) (U c) (U d));rw[h]);refine⟨λhp z5 b0 b1 h5=>?_,λhp z5 b0 b1 h5=>?_⟩
 ·have h5:z5=aw 5 [a,c]:=h5;rw[IP h5];refine aU _ ?_;have:¬U a=U c:=by simpa using hp
  unfold mQ;rw[show(U a==U c)=false by simpa using this];rfl
 ·have h5:z5=aw 5 [b,d]:=h5;rw[IP h5];refine aU _ ?_;have:U a=U c:=by simpa using hp
  unfold mQ;rw[this];simp
theorem an0:KZ SB (aW SB [.bool] 21):=by
 delta KZ ak cf;dsimp only
 intro r0 h0 r2 h2 z4 a0 a1 h4;obtain⟨a,b,rfl,_⟩:=uK h0;obtain⟨c,d,rfl,_⟩:=uK h2;have h4:z4=aw 5 [a,c]:=h4;rw[IP h4];have aU:∀x:Bool,mQ (U a) (U b) (U c) (U d)=x->aW SB [.bool] 21 [[a,b],[c,d]] [[aN x]]:=λx h=>lL (by show aN x=aN (mQ (U a) (U b) (U c) (U d));rw[h]);refine⟨λhp=>aU true ?_,λhp z5 b0 b1 h5=>?_⟩
 ·unfold mQ;cases he:(U a==U c)with
  |false=>exact hp
  |true=>rw[beq_iff_eq]at he;rw[he,Bp]at hp;cases hp
 ·have h5:z5=aw 4 [a,c]:=h5;rw[iL h5];refine⟨λhq z6 bA c1 h6=>?_,λhq=>aU false ?_⟩
  ·have h6:z6=aw 5 [b,d]:=h6;rw[IP h6];refine aU _ ?_;have:U a=U c:=by simpa using hq
   unfold mQ;rw[this];simp
  ·have:¬U a=U c:=by simpa using hq
   unfold mQ;rw[show(U a==U c)=false by simpa using this];exact hp
def La (S:zzS) (K:zzK):Prop:=
 bt λz0=>bt λae=>aI 0 [z0] λz2=>aI 0 [ae] λz3=>(ak (decide (z3<=z2)) (aI 0 [ae] λz4=>af 2 [z0,0,z4]/\b8 2 [z0,0,z4] λz5=>
 cf 4 [z5,ae] λz6=>(ak (decide (z6=1)) (aI 0 [ae] λz7=>aI 0 [z0] λz8=>af 2 [z0,z7,z8]/\b8 2 [z0,z7,z8] λz9=>K [[z0],[ae]] [[z9]]) (K
 [[z0],[ae]] [[z0]]))) (K [[z0],[ae]] [[z0]]))
def KV (S:zzS) (K:zzK):Prop:=
 bt λz0=>cf 4 [z0,17291] λae=>(ak (decide (ae=1)) (K [[z0]] [[13674],[(cond (true) 1 0)],[(cond (true) 1 0)]]) (cf 4 [z0,21674] λz2=>(ak
 (decide (z2=1)) (K [[z0]] [[50],[(cond (false) 1 0)],[(cond (true) 1 0)]]) (cf 4 [z0,18059] λz3=>(ak (decide (z3=1)) (K [[z0]] [[14959],[(cond (true) 1
 0)],[(cond (true) 1 0)]]) (cf 4 [z0,21402] λz4=>(ak (decide (z4=1)) (K [[z0]] [[13416],[(cond (true) 1 0)],[(cond (true) 1 0)]]) (cf 4 [z0,18829] λz5
 =>(ak (decide (z5=1)) (K [[z0]] [[12903],[(cond (true) 1 0)],[(cond (true) 1 0)]]) (cf 4 [z0,0] λz6=>K [[z0]] [[0],[(cond (false) 1 0)],[(cond (decide
 (z6=1)) 1 0)]]))))))))))
def KT (S:zzS) (K:zzK):Prop:=
 bt λz0=>bt λae=>(af 44 [z0,ae]->∀r2:List Int,bd (hW 0 bp 2) r2->bC λz4=>S 32 [[z0]] [r2,[z4]]->(ak ((!(decide (z4=1)))) (K
 [[z0],[ae]] [[0],[7]]) (bt λz5=>bC λz6=>bC λz7=>S 33 [[ae]] [[z5],[z6],[z7]]->(ak ((!(decide (z7=1)))) (K [[z0],[ae]] [[0],[2]]) ((ak
 ((!(decide (z6=1)))) (cf 4 [z0,0] λz8=>(ak ((!(decide (z8=1)))) (bt λz9=>S 34 [[z5],[(aC r2 1 0)]] [[z9]]->af 3 [(aC r2 0 0),z9]
 /\b8 3 [(aC r2 0 0),z9] λav=>aI 0 [av] λaj=>(ak (decide (aj<6)) (K [[z0],[ae]] [[0],[2]]) (aI 0 [av] λz12=>(ak (decide (15<
 z12)) (K [[z0],[ae]] [[0],[2]]) (af 1 [av,0]/\bF 1 [av,0] λaA=>(ak (decide (aA=48)) (K [[z0],[ae]] [[0],[2]]) (K [[z0],[ae]] [[av],[0]])))))))
 (aI 0 [z5] λz9=>(ak (decide (z9<6)) (K [[z0],[ae]] [[0],[2]]) (aI 0 [z5] λav=>(ak (decide (15<av)) (K [[z0],[ae]] [[0],[2]]) (af 1 [z5,0]/\
 bF 1 [z5,0] λaj=>(ak (decide (aj=48)) (K [[z0],[ae]] [[0],[2]]) (K [[z0],[ae]] [[z5],[0]]))))))))) (aI 0 [z5] λz8=>(ak (decide (z8<6)) (K
 [[z0],[ae]] [[0],[2]]) (aI 0 [z5] λz9=>(ak (decide (15<z9)) (K [[z0],[ae]] [[0],[2]]) (af 1 [z5,0]/\bF 1 [z5,0] λav=>(ak (decide (av=48))
 (K [[z0],[ae]] [[0],[2]]) (K [[z0],[ae]] [[z5],[0]])))))))))))))
theorem aoj:La SB (aW SB [.str] 34):=by
 delta La ak aI bt b8 cf;dsimp only
 intro z0 a0 a1 ae b0 b1 z2 bA c1 h2 z3 d0 d1 h3;have aU:∀x:Int,0<=x->x<=bp->U x=cond ((U ae).isPrefixOf (U z0)) ((U z0).drop (U ae).length) (U z0)->aW SB [.str] 34 [[z0],[ae]] [[x]]:=λx h0 h1 h=>⟨⟨h0,h1,trivial⟩,h⟩;simp only[aw]at h2 h3;refine⟨λhp z4 e0 e1 h4=>⟨?_,λz5 f0 f1 h5 z6 g0 g1 h6=>?_⟩,λhp=>aU _ a0 a1 ?_⟩
 ·simp only[aw]at h4;have hp:z3<=z2:=by simpa using hp
  exact⟨by omega,by omega,by omega⟩
 ·simp only[aw]at h4;have hp:z3<=z2:=by simpa using hp
  have oM:U z5=(U z0).take (U ae).length:=by rw[h5];simp[aw,dZ,h4]
  have gD:(U ae).isPrefixOf (U z0)=decide (U z5=U ae):=by
   rw[iG,List.isPrefixOf_iff_prefix,List.prefix_iff_eq_take,decide_eq_true_eq,oM];exact eq_comm
  rw[iL h6,<-gD];refine⟨λhq z7 i0 i1 h7 z8 fS da h8=>?_,λhq=>aU _ a0 a1 (by rw[hq];rfl)⟩;simp only[aw]at h7 h8;refine⟨⟨by omega,by omega,by omega⟩,λz9 e7 k1 a8=>aU _ e7 k1 ?_⟩;rw[hq,a8];simp only[aw,dZ,cond_true];rw[show z7.toNat=(U ae).length by omega];exact kr (by simp;omega)
 ·have hp:¬z3<=z2:=by simpa using hp
  cases hc:(U ae).isPrefixOf (U z0)with
  |false=>rfl
  |true=>
   have:=(List.isPrefixOf_iff_prefix.1 hc).length_le;omega
theorem ai4:U 17291=[71,66]:=by decide
theorem ai6:U 21674=[85,83]:=by decide
theorem ai2:U 18059=[68,69]:=by decide
theorem ai3:U 21402=[70,82]:=by decide
theorem ai1:U 18829=[67,72]:=by decide
theorem anV:KV SB (aW SB [.str,.bool,.bool] 35):=by
 delta KV ak bt cf;dsimp only
 intro z0 a0 a1 ae b0 b1 h1;have aU:∀(w c t:aq) (x y z:Int),U z0=w->iJ w=some (c,t)->0<=x->x<=17291->U x=c->y=aN (!t.isEmpty)->z=1->aW SB [.str,.bool,.bool] 35 [[z0]] [[x],[y],[z]]:=λw c t x y z hw hc hx0 hx1 hx hy hz=>by
  have hb:(17291:Int)<=bp:=my (l:=[71,66]) (by decide);subst hy hz;refine⟨⟨hx0,Int.le_trans hx1 hb,(oH _).1,(oH _).2,by decide,by decide,trivial⟩,?_⟩;show(match iJ (U z0)with|some (code,fV)=>U x=code/\_=aN (!fV.isEmpty)/\_|none=>_);rw[hw,hc];exact⟨hx,rfl,rfl⟩
 rw[iL h1,ai4];refine⟨λh=>aU [71,66] [52,52] [48] _ _ _ (by simpa using h) rfl (by decide) (by decide) (by decide) rfl rfl,λh z2 b0 b1 h2=>?_⟩;have n1:¬U z0=[71,66]:=by simpa using h
 rw[iL h2,ai6];refine⟨λh=>aU [85,83] [49] [] _ _ _ (by simpa using h) rfl (by decide) (by decide) (by decide) rfl rfl,λh z2 b0 b1 h2=>?_⟩;have n2:¬U z0=[85,83]:=by simpa using h
 rw[iL h2,ai2];refine⟨λh=>aU [68,69] [52,57] [48] _ _ _ (by simpa using h) rfl (by decide) (by decide) (by decide) rfl rfl,λh z2 b0 b1 h2=>?_⟩;have n3:¬U z0=[68,69]:=by simpa using h
 rw[iL h2,ai3];refine⟨λh=>aU [70,82] [51,51] [48] _ _ _ (by simpa using h) rfl (by decide) (by decide) (by decide) rfl rfl,λh z2 b0 b1 h2=>?_⟩;have sJ:¬U z0=[70,82]:=by simpa using h
 rw[iL h2,ai1];refine⟨λh=>aU [67,72] [52,49] [48] _ _ _ (by simpa using h) rfl (by decide) (by decide) (by decide) rfl rfl,λh z2 b0 b1 h2=>?_⟩;have qi:¬U z0=[67,72]:=by simpa using h
 rw[eq_nil h2];cases he:(U z0==[])with
 |true=>exact aU [] [] [] _ _ _ (by simpa using he) rfl (by decide) (by decide) (by decide) rfl rfl
 |false=>
  refine⟨⟨bB _,fZ,by decide,by decide,by decide,by decide,trivial⟩,?_⟩;have hn:iJ (U z0)=none:=by
   unfold iJ;rw[he,show(U z0==[71,66])=false by simpa using n1,show(U z0==[85,83])=false by simpa using n2,show(U z0==[68,69])=false by simpa using n3,show(U z0==[70,82])=false by simpa using sJ,show(U z0==[67,72])=false by simpa using qi];rfl
  show(match iJ (U z0)with|some (code,fV)=>_|none=>U 0=[]/\_/\_);rw[hn];exact⟨rfl,rfl,rfl⟩
theorem CL:∀(s d:aq) (p:Bool) {d':aq} {p':Bool},ea s d p=some (d',p')->d'.length<=d.length+s.length
 |[],d,p,d',p',h=>by
  simp only[ea,aL,ct]at h;rw[h.1];simp
 |c::r,d,p,d',p',h=>by
  unfold ea at h;cases h1:dM c with
  |true=>
   rw[h1,cond_true]at h;have:=CL r _ _ h;simp at this⊢;omega
  |false=>
   rw[h1,cond_false]at h;cases h2:(c==43&&d.isEmpty&& !p)with
   |true=>
    rw[h2,cond_true]at h;have:=CL r _ _ h;simp at this⊢;omega
   |false=>
    rw[h2,cond_false]at h;cases h3:nB.contains c with
    |true=>
     rw[h3,cond_true]at h;have:=CL r _ _ h;simp at this⊢;omega
    |false=>rw[h3,cond_false]at h;cases h
theorem Mg {w c t:aq} (h:iJ w=some (c,t)):c.length<=2:=by
 unfold iJ at h;cases h0:(w==[])with
 |true=>rw[h0,cond_true]at h;simp only[aL,ct]at h;rw[<-h.1];decide
 |false=>
  rw[h0,cond_false]at h;cases h1:(w==[71,66])with
  |true=>rw[h1,cond_true]at h;simp only[aL,ct]at h;rw[<-h.1];decide
  |false=>
   rw[h1,cond_false]at h;cases h2:(w==[85,83])with
   |true=>rw[h2,cond_true]at h;simp only[aL,ct]at h;rw[<-h.1];decide
   |false=>
    rw[h2,cond_false]at h;cases h3:(w==[68,69])with
    |true=>rw[h3,cond_true]at h;simp only[aL,ct]at h;rw[<-h.1];decide
    |false=>
     rw[h3,cond_false]at h;cases h4:(w==[70,82])with
     |true=>rw[h4,cond_true]at h;simp only[aL,ct]at h;rw[<-h.1];decide
     |false=>
      rw[h4,cond_false]at h;cases h5:(w==[67,72])with
      |true=>rw[h5,cond_true]at h;simp only[aL,ct]at h;rw[<-h.1];decide
      |false=>
       rw[h5,cond_false]at h;cases h
theorem yC {w s:aq} {z n:Int} (zs:List (List Int)) (id:Nat) (hid:∀a e,(U a,e)=jj w s->SB id zs [[a],[e]]) (n0:0<=n) (n1:n<=bp) (hf:jj w s=sP (U n)):
 ∀aj:Int,0<=aj->aj<=9223372036854775807->aj=aw 0 [n]->
  (((decide (aj<6))=true->
   aW SB [.str,.int .i64 0 21] id zs [[0],[2]]
  )/\((decide (aj<6))=false->
   ∀z12:Int,0<=z12->z12<=9223372036854775807->z12=aw 0 [n]->
   (((decide (15<z12))=true->
    aW SB [.str,.int .i64 0 21] id zs [[0],[2]]
   )/\((decide (15<z12))=false->
    af 1 [n,0]/\
    ∀aA:Int,0<=aA->aA<=255->aA=aw 1 [n,0]->
    (((decide (aA=48))=true->
     aW SB [.str,.int .i64 0 21] id zs [[0],[2]]
    )/\((decide (aA=48))=false->
     aW SB [.str,.int .i64 0 21] id zs [[n],[0]]
    ))
   ))
  )):=by
 intro ae a0 a1 h1;have e1:decide (ae<6)=bY (U n).length 6:=by
  rw[h1];simp only[aw];rw[iG,decide_eq_true_eq,ov];omega
 have aU:sP (U n)=([],2)->aW SB [.str,.int .i64 0 21] id zs [[0],[2]]:=λh=>vQ (bB _) fZ (by decide) (by decide) (hid _ _ (by rw[hf,h];rfl));rw[e1];refine⟨λh=>aU (by unfold sP;rw[h];rfl),λh z2 b0 b1 h2=>?_⟩;have e2:decide (15<z2)=bY 15 (U n).length:=by
  rw[h2];simp only[aw];rw[iG,decide_eq_true_eq,ov];omega
 rw[e2];refine⟨λh'=>aU (by unfold sP;rw[h,h'];rfl),λh'=>⟨⟨bB _,?_⟩,λz3 bA c1 h3=>?_⟩⟩
 ·have:¬bY (U n).length 6=true:=by rw[h];simp
  rw[ov]at this;omega
 ·have e3:decide (z3=48)=((U n).getD 0 0==48):=by
   rw[h3];simp only[aw,y2];rw[iG,decide_eq_true_eq,qq (by decide) (by decide)];rfl
  rw[e3];refine⟨λh3=>aU (by unfold sP;rw[h,h',h3];rfl),λh3=>vQ n0 n1 (by decide) (by decide) (hid _ _ ?_)⟩;rw[hf];unfold sP;rw[h,h',h3];rfl
theorem anT:KT SB (aW SB [.str,.int .i64 0 21] 12):=by
 delta KT ak aI bt b8 bF bC cf;dsimp only
 intro z0 a0 a1 ae b0 b1 hq r2 h2 z4 bA c1 hc;obtain⟨c,t,rfl,x0,x1,uQ,kL⟩:=uK h2;have hid:∀a e,(U a,e)=jj (U z0) (U ae)->SB 12 [[z0],[ae]] [[a],[e]]:=λ_ _ h=>h;have hq:U z0=[]∨(U ae).length<=4294967280:=hq;have hc:(match iJ (U z0)with|some (code,fV)=>U c=code/\U t=fV/\z4=1|none=>z4=0/\U c=[]/\U t=[]):=hc;have aU:∀e:Int,0<=e->e<=21->jj (U z0) (U ae)=([],e)->aW SB [.str,.int .i64 0 21] 12 [[z0],[ae]] [[0],[e]]:=λe e0 e1 h=>vQ (bB _) fZ e0 e1 (hid _ _ (by rw[h];rfl));cases gN:iJ (U z0)with
 |none=>
  rw[gN]at hc;obtain⟨rfl,_⟩:=hc;exact⟨λ_=>aU 7 (by decide) (by decide) (by unfold jj;rw[gN]),λh=>by simp at h⟩
 |some tK=>
  obtain⟨code,fV⟩:=tK;rw[gN]at hc;obtain⟨p6,Ew,rfl⟩:=hc;refine⟨λh=>by simp at h,λ_ z5 d0 d1 z6 e0 e1 z7 f0 f1 hb=>?_⟩;have hb:(match ea (U ae) [] false with|some (d',p')=>U z5=d'/\z6=aN p'/\z7=1|none=>U z5=[]/\z6=0/\z7=0):=hb;cases sj:ea (U ae) [] false with
  |none=>
   rw[sj]at hb;obtain⟨_,_,rfl⟩:=hb;exact⟨λ_=>aU 2 (by decide) (by decide) (by unfold jj;rw[gN];simp only[sj]),λh=>by simp at h⟩
  |some adp=>
   obtain⟨d,p⟩:=adp;rw[sj]at hb;obtain⟨hd,hp,rfl⟩:=hb;have hf:jj (U z0) (U ae)=sP (qk (U z0) code fV d p):=by unfold jj;rw[gN];simp only[sj]
   have hlen:=CL _ _ _ sj;refine⟨λh=>by simp at h,λ_=>?_⟩;rw[fF hp];refine⟨λhp=>λz8 g0 g1 h8=>?_,λhp=>yC (z:=0) _ 12 hid d0 d1 ?_⟩
   ·rw[eq_nil h8];refine⟨λhw z9 i0 i1 a8=>?_,λhw=>yC (z:=0) _ 12 hid d0 d1 ?_⟩
    ·have a8:U z9=cond ((U t).isPrefixOf (U z5)) ((U z5).drop (U t).length) (U z5):=a8;have ahb:(U z9).length<=(U z5).length:=by
      rw[a8];cases(U t).isPrefixOf (U z5)<;>simp
     refine⟨?_,λav fS da dg=>yC (z:=0) _ 12 hid fS da ?_⟩
     ·show(U c).length+(U z9).length<=eN;have:=Mg gN;have hq:(U ae).length<=4294967280:=by
       rcases hq with h|h
       ·have hw:(!(U z0==[]))=true:=hw;rw[h]at hw;cases hw
       ·exact h
      rw[p6];rw[hd]at ahb;unfold eN;simp at hlen;omega
     ·rw[hf];have:U av=U c++U z9:=by rw[dg];simp only[aw,dZ];rfl
      rw[this,a8,p6,Ew,hd];unfold qk;have hw:(!(U z0==[]))=true:=hw;rw[hp,hw];rfl
    ·rw[hf,hd];unfold qk;have hw:(!(U z0==[]))=false:=hw;rw[hp,hw];rfl
   ·rw[hf,hd];unfold qk;rw[hp];rfl
end Go.bE
namespace Go.bE
open Go Go.ba
def KX (S:zzS) (K:zzK):Prop:=
 bt λz0=>aI 0 [z0] λae=>(ak (decide (ae<1)) (K [[z0]] [[(cond (false) 1 0)]]) (aI 0 [z0] λz2=>(ak (decide (230<z2)) (K [[z0]] [[(cond (false)
 1 0)]]) (∃(ey:List (List Int)->Prop) (c6:List (List Int)->Nat),ey [[0]]/\(dC λz4=>ey [[z4]]->aI 0 [z0] λz5=>(ak (decide (z4<z5)) (af
 1 [z0,z4]/\bF 1 [z0,z4] λz6=>(ak (decide (z6=46)) (af 1 [z0,z4]/\bF 1 [z0,z4] λz7=>bC λz8=>S 50 [[z7]] [[z8]]->(ak ((!(decide (z8=
 1)))) (af 1 [z0,z4]/\bF 1 [z0,z4] λz9=>bC λav=>S 51 [[z9]] [[av]]->(ak ((!(decide (av=1)))) (af 1 [z0,z4]/\bF 1 [z0,z4] λaj=>bC
 λz12=>S 52 [[aj]] [[z12]]->(ak ((!(decide (z12=1)))) ((ak (decide (z4=0)) (K [[z0]] [[(cond (false) 1 0)]]) (aI 0 [z0] λaA=>(ak (decide (z4=
 (aA+(-1)))) (K [[z0]] [[(cond (false) 1 0)]]) (af 1 [z0,z4]/\bF 1 [z0,z4] λaB=>(ak (decide (aB=46)) (af 1 [z0,(z4+(-1))]/\bF 1 [z0,(z4+
 (-1))] λau=>(ak (decide (au=46)) (K [[z0]] [[(cond (false) 1 0)]]) (bk (z4+bU) bP λaT=>af 39 [((z4+
 (ax*aT))+1),0,aZ]/\(ey [[((z4+(ax*aT))+1)]]/\c6 [[((z4+(ax*
 aT))+1)]]<c6 [[z4]])))) (bk (z4+bU) bP λau=>af 39 [((z4+(ax*au))+
 1),0,aZ]/\(ey [[((z4+(ax*au))+1)]]/\c6 [[((z4+(ax*au))+1)]]<c6 [[z4]])))))))) ((ak
 (decide (z4=0)) (K [[z0]] [[(cond (false) 1 0)]]) (aI 0 [z0] λaA=>(ak (decide (z4=(aA+(-1)))) (K [[z0]] [[(cond (false) 1 0)]]) (af 1 [z0,z4]/\
 bF 1 [z0,z4] λaB=>(ak (decide (aB=46)) (af 1 [z0,(z4+(-1))]/\bF 1 [z0,(z4+(-1))] λau=>(ak (decide (au=46)) (K [[z0]] [[(cond (false)
 1 0)]]) (bk (z4+bU) bP λaT=>af 39 [((z4+(ax*aT))+1),0,aZ]/\(ey [[((z4
 +(ax*aT))+1)]]/\c6 [[((z4+(ax*aT))+1)]]<c6 [[z4]])))) (bk (z4+bU)
 bP λau=>af 39 [((z4+(ax*au))+1),0,aZ]/\(ey [[((z4+(ax*au))+
 1)]]/\c6 [[((z4+(ax*au))+1)]]<c6 [[z4]])))))))))) ((ak (decide (z4=0)) (K [[z0]] [[(cond (false) 1 0)]]) (aI 0 [z0] λaj=>
 (ak (decide (z4=(aj+(-1)))) (K [[z0]] [[(cond (false) 1 0)]]) (af 1 [z0,z4]/\bF 1 [z0,z4] λz12=>(ak (decide (z12=46)) (af 1 [z0,(z4+(-1))]
 /\bF 1 [z0,(z4+(-1))] λaA=>(ak (decide (aA=46)) (K [[z0]] [[(cond (false) 1 0)]]) (bk (z4+bU) bP λaB=>
 af 39 [((z4+(ax*aB))+1),0,aZ]/\(ey [[((z4+(ax*aB))+1)]]/\c6 [[((z4+
 (ax*aB))+1)]]<c6 [[z4]])))) (bk (z4+bU) bP λaA=>af 39 [((z4+(ax*
 aA))+1),0,aZ]/\(ey [[((z4+(ax*aA))+1)]]/\c6 [[((z4+(ax*aA))+1)]]<c6
 [[z4]])))))))))) ((ak (decide (z4=0)) (K [[z0]] [[(cond (false) 1 0)]]) (aI 0 [z0] λz9=>(ak (decide (z4=(z9+(-1)))) (K [[z0]] [[(cond (false) 1 0)]])
 (af 1 [z0,z4]/\bF 1 [z0,z4] λav=>(ak (decide (av=46)) (af 1 [z0,(z4+(-1))]/\bF 1 [z0,(z4+(-1))] λaj=>(ak (decide (aj=46)) (K
 [[z0]] [[(cond (false) 1 0)]]) (bk (z4+bU) bP λz12=>af 39 [((z4+(ax*z12))+
 1),0,aZ]/\(ey [[((z4+(ax*z12))+1)]]/\c6 [[((z4+(ax*z12))+1)]]<c6 [[z4]])))) (bk (z4
 +bU) bP λaj=>af 39 [((z4+(ax*aj))+1),0,aZ]/\(ey [[((z4+
 (ax*aj))+1)]]/\c6 [[((z4+(ax*aj))+1)]]<c6 [[z4]])))))))))) (af 1 [z0,z4]/\bF 1 [z0,z4] λz7=>
 af 1 [z0,z4]/\bF 1 [z0,z4] λz8=>bC λz9=>S 50 [[z8]] [[z9]]->(ak ((!(decide (z9=1)))) (af 1 [z0,z4]/\bF 1 [z0,z4] λav=>bC λaj=>
 S 51 [[av]] [[aj]]->(ak ((!(decide (aj=1)))) (af 1 [z0,z4]/\bF 1 [z0,z4] λz12=>bC λaA=>S 52 [[z12]] [[aA]]->(ak ((!(decide (aA=1))))
 ((ak ((!(decide (z7=45)))) (K [[z0]] [[(cond (false) 1 0)]]) ((ak (decide (z7=45)) ((ak (decide (z4=0)) (K [[z0]] [[(cond (false) 1 0)]]) (aI 0 [z0] λ
 aB=>(ak (decide (z4=(aB+(-1)))) (K [[z0]] [[(cond (false) 1 0)]]) (af 1 [z0,z4]/\bF 1 [z0,z4] λau=>(ak (decide (au=46)) (af 1 [z0,(z4+
 (-1))]/\bF 1 [z0,(z4+(-1))] λaT=>(ak (decide (aT=46)) (K [[z0]] [[(cond (false) 1 0)]]) (bk (z4+bU) bP λbz
 =>af 39 [((z4+(ax*bz))+1),0,aZ]/\(ey [[((z4+(ax*bz))+1)]]/\c6 [[((z4+
 (ax*bz))+1)]]<c6 [[z4]])))) (bk (z4+bU) bP λaT=>af 39 [((z4+(ax*
 aT))+1),0,aZ]/\(ey [[((z4+(ax*aT))+1)]]/\c6 [[((z4+(ax*aT))+1)]]<c6
 [[z4]])))))))) (bk (z4+bU) bP λaB=>af 39 [((z4+(ax*aB))+1),0,aZ]/\(ey
 [[((z4+(ax*aB))+1)]]/\c6 [[((z4+(ax*aB))+1)]]<c6 [[z4]])))))) ((ak (decide (z7=45)) ((ak (decide
 (z4=0)) (K [[z0]] [[(cond (false) 1 0)]]) (aI 0 [z0] λaB=>(ak (decide (z4=(aB+(-1)))) (K [[z0]] [[(cond (false) 1 0)]]) (af 1 [z0,z4]/\bF 1
 [z0,z4] λau=>(ak (decide (au=46)) (af 1 [z0,(z4+(-1))]/\bF 1 [z0,(z4+(-1))] λaT=>(ak (decide (aT=46)) (K [[z0]] [[(cond (false) 1
 0)]]) (bk (z4+bU) bP λbz=>af 39 [((z4+(ax*bz))+1),0,aZ]/\(ey [[((z4+
 (ax*bz))+1)]]/\c6 [[((z4+(ax*bz))+1)]]<c6 [[z4]])))) (bk (z4+bU)
 bP λaT=>af 39 [((z4+(ax*aT))+1),0,aZ]/\(ey [[((z4+(ax*aT))+
 1)]]/\c6 [[((z4+(ax*aT))+1)]]<c6 [[z4]])))))))) (bk (z4+bU) bP λaB=>af 39 [((z4+
 (ax*aB))+1),0,aZ]/\(ey [[((z4+(ax*aB))+1)]]/\c6 [[((z4+(ax*
 aB))+1)]]<c6 [[z4]])))))) ((ak (decide (z7=45)) ((ak (decide (z4=0)) (K [[z0]] [[(cond (false) 1 0)]]) (aI 0 [z0] λz12=>(ak (decide (z4=(z12+
 (-1)))) (K [[z0]] [[(cond (false) 1 0)]]) (af 1 [z0,z4]/\bF 1 [z0,z4] λaA=>(ak (decide (aA=46)) (af 1 [z0,(z4+(-1))]/\bF 1 [z0,(z4+(-1))]
 λaB=>(ak (decide (aB=46)) (K [[z0]] [[(cond (false) 1 0)]]) (bk (z4+bU) bP λau=>af 39 [((z4+
 (ax*au))+1),0,aZ]/\(ey [[((z4+(ax*au))+1)]]/\c6 [[((z4+(ax*
 au))+1)]]<c6 [[z4]])))) (bk (z4+bU) bP λaB=>af 39 [((z4+(ax*aB))+
 1),0,aZ]/\(ey [[((z4+(ax*aB))+1)]]/\c6 [[((z4+(ax*aB))+1)]]<c6 [[z4]])))))))) (bk
 (z4+bU) bP λz12=>af 39 [((z4+(ax*z12))+1),0,aZ]/\(ey [[((z4+
 (ax*z12))+1)]]/\c6 [[((z4+(ax*z12))+1)]]<c6 [[z4]])))))) ((ak (decide (z7=45)) ((ak (decide (z4=0))
 (K [[z0]] [[(cond (false) 1 0)]]) (aI 0 [z0] λav=>(ak (decide (z4=(av+(-1)))) (K [[z0]] [[(cond (false) 1 0)]]) (af 1 [z0,z4]/\bF 1 [z0,z4] λ
 aj=>(ak (decide (aj=46)) (af 1 [z0,(z4+(-1))]/\bF 1 [z0,(z4+(-1))] λz12=>(ak (decide (z12=46)) (K [[z0]] [[(cond (false) 1 0)]]) (bk (z4+
 bU) bP λaA=>af 39 [((z4+(ax*aA))+1),0,aZ]/\(ey [[((z4+
 (ax*aA))+1)]]/\c6 [[((z4+(ax*aA))+1)]]<c6 [[z4]])))) (bk (z4+bU)
 bP λz12=>af 39 [((z4+(ax*z12))+1),0,aZ]/\(ey [[((z4+(ax*z12))+
 1)]]/\c6 [[((z4+(ax*z12))+1)]]<c6 [[z4]])))))))) (bk (z4+bU) bP λav=>af 39 [((z4+
 (ax*av))+1),0,aZ]/\(ey [[((z4+(ax*av))+1)]]/\c6 [[((z4+(ax*
 av))+1)]]<c6 [[z4]])))))))) (K [[z0]] [[(cond (true) 1 0)]])))))))
def rB (inn ik:UInt8->Bool) (s:aq) (i:Nat):Prop:=inn (s.getD i 0)=true/\(ik (s.getD i 0)=true->0<i/\i+1<s.length)/\¬(s.getD i 0=46/\0<i/\s.getD (i-1) 0=46)
theorem Ps (inn ik:UInt8->Bool) (s:aq):uy inn ik s=true↔∀i,i<s.length->rB inn ik s i:=XO inn ik s
theorem XN {inn ik:UInt8->Bool} {s:aq} {i:Nat} (hi:i<s.length) (h:¬rB inn ik s i):uy inn ik s=false:=by
 cases ho:uy inn ik s with
 |false=>rfl
 |true=>exact absurd ((Ps inn ik s).1 ho i hi) h
def zo (inn ik:UInt8->Bool) (z0:Int) (bl:List (List Int)):Prop:=∃i:Nat,bl=[[(i:Int)]]/\i<=(U z0).length/\∀j,j<i->rB inn ik (U z0) j
def zp (z0:Int) (bl:List (List Int)):Nat:=(U z0).length-((bl.getD 0 []).getD 0 0).toNat
def Gu (I:List (List Int)->Prop) (M:List (List Int)->Nat) (i:Int):Prop:=∀aT:Int,0<=aT->aT<=1->0<=(i+9223372036854775809)-18446744073709551616*aT->(i+9223372036854775809)-18446744073709551616*aT<18446744073709551616->
 af 39 [((i+((-18446744073709551616)*aT))+1),0,9223372036854775807]/\(I [[((i+((-18446744073709551616)*aT))+1)]]/\M [[((i+((-18446744073709551616)*aT))+1)]]<M [[i]])
theorem SP {inn ik:UInt8->Bool} {z0:Int} {i:Nat} (h1:z0<=bp) (hi:i<(U z0).length) (hall:∀j,j<i->rB inn ik (U z0) j) (h:rB inn ik (U z0) i):Gu (zo inn ik z0) (zp z0) i:=by
 intro q q0 q1 q2 q3;have bW:=uw h1;rw[mr (L:=((U z0).length:Int)) (by omega) bW (rS _) q0 q2];refine⟨⟨by omega,by omega⟩,⟨i+1,by simp,by omega,λj hj=>?_⟩,?_⟩
 ·by_cases hj':j=i
  ·subst hj';exact h
  ·exact hall j (by omega)
 ·show(U z0).length-((i:Int)+1).toNat<(U z0).length-(i:Int).toNat;omega
theorem tH {z0 z i n:Int} {k:Nat} (hi:i=(k:Int)) (hn:0<=n) (fi:n<=255) (h:z=aw 1 [z0,i]):decide (z=n)=((U z0).getD k 0==u8 n):=by
 rw[h,hi];simp only[aw,eW];rw[iG,decide_eq_true_eq,qq hn fi]
theorem ap0 {K:Prop} {A:Prop} {z0:Int} {i:Nat} (hi:i<(U z0).length) (he:lB ((U z0).getD i 0)=true) (cE:k5 ((U z0).getD i 0)=true)
 (hK:¬rB k5 lB (U z0) i->K) (hA:rB k5 lB (U z0) i->A):
   (((decide ((i:Int)=0))=true->
    K
   )/\((decide ((i:Int)=0))=false->
    ∀aA:Int,0<=aA->aA<=9223372036854775807->aA=aw 0 [z0]->
    (((decide ((i:Int)=(aA+(-1))))=true->
     K
    )/\((decide ((i:Int)=(aA+(-1))))=false->
     af 1 [z0,(i:Int)]/\
     ∀aB:Int,0<=aB->aB<=255->aB=aw 1 [z0,(i:Int)]->
     (((decide (aB=46))=true->
      af 1 [z0,((i:Int)+(-1))]/\
      ∀au:Int,0<=au->au<=255->au=aw 1 [z0,((i:Int)+(-1))]->
      (((decide (au=46))=true->
       K
      )/\((decide (au=46))=false->
       A
      ))
     )/\((decide (aB=46))=false->
      A
     ))
    ))
   )):=by
 refine⟨λh=>hK λho=>?_,λh aA a0 a1 dK=>?_⟩
 ·have:=(ho.2.1 he).1;have:(i:Int)=0:=by simpa using h
  omega
 ·have h0:¬(i:Int)=0:=by simpa using h
  simp only[aw]at dK;refine⟨λh=>hK λho=>?_,λh=>⟨⟨rS _,by omega⟩,λaB b0 b1 eM=>?_⟩⟩
  ·have:=(ho.2.1 he).2;have:(i:Int)=aA+-1:=by simpa using h
   omega
  ·have h1:¬(i:Int)=aA+-1:=by simpa using h
   rw[tH (n:=46) (k:=i) rfl (by decide) (by decide) eM];refine⟨λh=>⟨⟨by omega,by omega⟩,λau bA c1 eZ=>?_⟩,λh=>hA ⟨cE,λ_=>⟨by omega,by omega⟩,λah=>?_⟩⟩
   ·rw[tH (n:=46) (k:=i-1) (by omega) (by decide) (by decide) eZ];have h:(U z0).getD i 0=46:=beq_iff_eq.1 h;refine⟨λh'=>hK λho=>ho.2.2 ⟨h,by omega,beq_iff_eq.1 h'⟩,λh'=>hA ⟨cE,λ_=>⟨by omega,by omega⟩,λah=>?_⟩⟩;have:((U z0).getD (i-1) 0==u8 46)=true:=beq_iff_eq.2 ah.2.2;rw[this]at h';cases h'
   ·have:((U z0).getD i 0==u8 46)=true:=beq_iff_eq.2 ah.1;rw[this]at h;cases h
theorem LN {z0 i z q:Int} {k:Nat} {f:UInt8->Bool} (hi:i=(k:Int)) (h:z=aw 1 [z0,i]) (hq:q=aN (f (u8 z))):decide (q=1)=f ((U z0).getD k 0):=by
 rw[fF hq,h,hi];simp only[aw,eW,Ca]
theorem one_le {ae z0:Int} (h:ae=aw 0 [z0]):decide (ae<1)= !bY 0 (U z0).length:=by
 rw[h];simp only[aw];rw[iG,decide_eq_true_eq,fX,<-auh,ov];omega
theorem anY:KX SB (aW SB [.bool] 30):=by
 delta KX ak bk dC aI bt bF bC bP ax aZ bU;dsimp only
 intro z0 a0 a1 ae b0 b1 h1;have aU:∀b:Bool,fR (U z0)=b->aW SB [.bool] 30 [[z0]] [[aN b]]:=λb h=>lL (by show aN b=aN (fR (U z0));rw[h]);rw[one_le h1];refine⟨λh=>aU false ?_,λh z2 bA c1 h2=>?_⟩
 ·rw[fX]at h;unfold fR;rw[h];rfl
 rw[mw]at h;rw[vS (n:=230) 230 rfl h2];refine⟨λh'=>aU false ?_,λh'=>⟨zo k5 lB z0,zp z0,⟨0,rfl,iF _,λj hj=>by omega⟩,?_⟩⟩
 ·rw[fX]at h';unfold fR;rw[h'];simp
 rw[mw]at h'
 rintro z4 d0 d1 ⟨i,e,hi,hall⟩ z5 e0 e1 h5
 obtain rfl:z4=i:=by simpa using e
 simp only[aw]at h5;refine⟨λhp=>?_,λhp=>aU true ?_⟩
 ·have hp:(i:Int)<z5:=by simpa using hp
  have hlt:i<(U z0).length:=by omega
  have hc1:af 1 [z0,(i:Int)]:=⟨d0,by omega⟩;have hK:¬rB k5 lB (U z0) i->aW SB [.bool] 30 [[z0]] [[aN false]]:=λhn=>aU false (by unfold fR;rw[XN hlt hn];simp);have hA:rB k5 lB (U z0) i->Gu (zo k5 lB z0) (zp z0) i:=SP a1 hlt hall;have bX:lB ((U z0).getD i 0)=true->_:=λhe=>ap0 hlt he (by unfold k5;rw[he];simp) hK hA;refine⟨hc1,λz6 f0 f1 h6=>?_⟩;rw[tH (n:=46) (k:=i) rfl (by decide) (by decide) h6];refine⟨λmG=>?_,λmG=>?_⟩
  ·have hs:=bX (by unfold lB;rw[show((U z0).getD i 0==46)=true from mG];rfl);refine⟨hc1,λz7 g0 g1 h7 z8 i0 i1 h8=>⟨λ_=>⟨hc1,λz9 fS da a8 av e7 k1 dg=>⟨λ_=>⟨hc1,λaj l0 l1 dF z12 m0 fT dJ=>⟨λ_=>hs,λ_=>hs⟩⟩,λ_=>hs⟩⟩,λ_=>hs⟩⟩
  ·refine⟨hc1,λz7 g0 g1 h7=>⟨hc1,λz8 i0 i1 h8 z9 fS da a8=>?_⟩⟩;have Pl:¬(U z0).getD i 0=46:=λe=>by
    have:((U z0).getD i 0==u8 46)=true:=beq_iff_eq.2 e;rw[this]at mG;cases mG
   have adv:=tH (n:=45) (k:=i) rfl (by decide) (by decide) h7;rw[adv];have sy:(mf ((U z0).getD i 0)=true∨me ((U z0).getD i 0)=true∨dM ((U z0).getD i 0)=true)->_:=λgY=>And.intro (λxv:((U z0).getD i 0==u8 45)=true=>bX (by unfold lB;rw[show((U z0).getD i 0==45)=true from xv];simp)) (λxv:((U z0).getD i 0==u8 45)=false=>hA ⟨(by
    unfold k5;rcases gY with h|h|h<;>rw[h]<;>simp),(λhe=>by
    unfold lB at he;rw[show((U z0).getD i 0==45)=false from xv,show((U z0).getD i 0==46)=false from mG]at he;cases he),λah=>Pl ah.1⟩)
   rw[LN (f:=mf) (k:=i) rfl h8 a8];refine⟨λalq=>⟨hc1,λav e7 k1 dg aj l0 l1 dF=>?_⟩,λafc=>sy (.inl (by simpa using afc))⟩;rw[LN (f:=me) (k:=i) rfl dg dF];refine⟨λalp=>⟨hc1,λz12 m0 fT dJ aA n0 n1 dK=>?_⟩,λae2=>sy (.inr (.inl (by simpa using ae2)))⟩;rw[LN (f:=dM) (k:=i) rfl dJ dK];refine⟨λalo=>⟨λXE=>hK λho=>?_,λxv=>?_⟩,λae0=>sy (.inr (.inr (by simpa using ae0)))⟩
   ·have cE:=ho.1;unfold k5 lB at cE;rw[show mf ((U z0).getD i 0)=false by simpa using alq,show me ((U z0).getD i 0)=false by simpa using alp,show dM ((U z0).getD i 0)=false by simpa using alo,show((U z0).getD i 0==45)=false from by rw[fX]at XE;exact XE,show((U z0).getD i 0==46)=false from mG]at cE;cases cE
   ·rw[mw]at xv;have hs:=bX (by unfold lB;rw[show((U z0).getD i 0==45)=true from xv];simp);exact⟨λ_=>hs,λh=>by rw[xv]at h;cases h⟩
 ·have hp:¬(i:Int)<z5:=by simpa using hp
  unfold fR;rw[h,h',(Ps k5 lB (U z0)).2 λj hj=>hall j (by omega)];rfl
def K0 (S:zzS) (K:zzK):Prop:=
 bt λz0=>aI 0 [z0] λae=>(ak (decide (ae<1)) (K [[z0]] [[(cond (false) 1 0)]]) (aI 0 [z0] λz2=>(ak (decide (64<z2)) (K [[z0]] [[(cond (false)
 1 0)]]) (∃(ey:List (List Int)->Prop) (c6:List (List Int)->Nat),ey [[0]]/\(dC λz4=>ey [[z4]]->aI 0 [z0] λz5=>(ak (decide (z4<z5)) (af
 1 [z0,z4]/\bF 1 [z0,z4] λz6=>(ak (decide (97<=z6)) ((ak (decide (z6<=122)) (∃(ga:List (List Int)->Prop) (gz:List (List Int)->Nat),ga [[0],[1]]
 /\(dC λz8=>bC λz9=>ga [[z8],[z9]]->(ak (decide (z8<19)) ((ak (decide (z9=1)) ((ga [[(z8+1)],[1]]/\gz [[(z8+1)],[1]]<gz [[z8],[z9]]))
 (af 1 [1112275947084288557575193961879115365961291049,z8]/\bF 1 [1112275947084288557575193961879115365961291049,z8] λav=>bC λaj=>decide (av=
 z6)=decide (aj=1)->(ga [[(z8+1)],[aj]]/\gz [[(z8+1)],[aj]]<gz [[z8],[z9]])))) ((ak ((!(decide (z9=1)))) (K [[z0]] [[(cond (false) 1 0)]]) (bk
 (z4+bU) bP λav=>af 39 [((z4+(ax*av))+1),0,aZ]/\(ey [[((z4+
 (ax*av))+1)]]/\c6 [[((z4+(ax*av))+1)]]<c6 [[z4]]))))))) (∃(ga:List (List Int)->Prop) (gz:List
 (List Int)->Nat),ga [[0],[0]]/\(dC λz8=>bC λz9=>ga [[z8],[z9]]->(ak (decide (z8<19)) ((ak (decide (z9=1)) ((ga [[(z8+1)],[1]]/\gz [[(z8+
 1)],[1]]<gz [[z8],[z9]])) (af 1 [1112275947084288557575193961879115365961291049,z8]/\bF 1 [1112275947084288557575193961879115365961291049,z8] λav=>
 bC λaj=>decide (av=z6)=decide (aj=1)->(ga [[(z8+1)],[aj]]/\gz [[(z8+1)],[aj]]<gz [[z8],[z9]])))) ((ak ((!(decide (z9=1)))) (K [[z0]]
 [[(cond (false) 1 0)]]) (bk (z4+bU) bP λav=>af 39 [((z4+(ax*av))+
 1),0,aZ]/\(ey [[((z4+(ax*av))+1)]]/\c6 [[((z4+(ax*av))+1)]]<c6 [[z4]])))))))))
 ((ak (decide (65<=z6)) ((ak (decide (z6<=90)) (∃(ga:List (List Int)->Prop) (gz:List (List Int)->Nat),ga [[0],[1]]/\(dC λz8=>bC λz9=>ga
 [[z8],[z9]]->(ak (decide (z8<19)) ((ak (decide (z9=1)) ((ga [[(z8+1)],[1]]/\gz [[(z8+1)],[1]]<gz [[z8],[z9]])) (af 1
 [1112275947084288557575193961879115365961291049,z8]/\bF 1 [1112275947084288557575193961879115365961291049,z8] λav=>bC λaj=>decide (av=z6)=
 decide (aj=1)->(ga [[(z8+1)],[aj]]/\gz [[(z8+1)],[aj]]<gz [[z8],[z9]])))) ((ak ((!(decide (z9=1)))) (K [[z0]] [[(cond (false) 1 0)]]) (bk (z4+
 bU) bP λav=>af 39 [((z4+(ax*av))+1),0,aZ]/\(ey [[((z4+
 (ax*av))+1)]]/\c6 [[((z4+(ax*av))+1)]]<c6 [[z4]]))))))) (∃(ga:List (List Int)->Prop) (gz:List
 (List Int)->Nat),ga [[0],[0]]/\(dC λz8=>bC λz9=>ga [[z8],[z9]]->(ak (decide (z8<19)) ((ak (decide (z9=1)) ((ga [[(z8+1)],[1]]/\gz [[(z8+
 1)],[1]]<gz [[z8],[z9]])) (af 1 [1112275947084288557575193961879115365961291049,z8]/\bF 1 [1112275947084288557575193961879115365961291049,z8] λav=>
 bC λaj=>decide (av=z6)=decide (aj=1)->(ga [[(z8+1)],[aj]]/\gz [[(z8+1)],[aj]]<gz [[z8],[z9]])))) ((ak ((!(decide (z9=1)))) (K [[z0]]
 [[(cond (false) 1 0)]]) (bk (z4+bU) bP λav=>af 39 [((z4+(ax*av))+
 1),0,aZ]/\(ey [[((z4+(ax*av))+1)]]/\c6 [[((z4+(ax*av))+1)]]<c6 [[z4]])))))))))
 ((ak (decide (48<=z6)) (bC λz7=>decide (z6<=57)=decide (z7=1)->∃(ei:List (List Int)->Prop) (fk:List (List Int)->Nat),ei [[0],[z7]]/\(dC
 λz9=>bC λav=>ei [[z9],[av]]->(ak (decide (z9<19)) ((ak (decide (av=1)) ((ei [[(z9+1)],[1]]/\fk [[(z9+1)],[1]]<fk [[z9],[av]])) (af
 1 [1112275947084288557575193961879115365961291049,z9]/\bF 1 [1112275947084288557575193961879115365961291049,z9] λaj=>bC λz12=>decide (aj=z6)=
 decide (z12=1)->(ei [[(z9+1)],[z12]]/\fk [[(z9+1)],[z12]]<fk [[z9],[av]])))) ((ak ((!(decide (av=1)))) (K [[z0]] [[(cond (false) 1 0)]]) (bk (z4
 +bU) bP λaj=>af 39 [((z4+(ax*aj))+1),0,aZ]/\(ey [[((z4+
 (ax*aj))+1)]]/\c6 [[((z4+(ax*aj))+1)]]<c6 [[z4]]))))))) (∃(ga:List (List Int)->Prop) (gz:List
 (List Int)->Nat),ga [[0],[0]]/\(dC λz8=>bC λz9=>ga [[z8],[z9]]->(ak (decide (z8<19)) ((ak (decide (z9=1)) ((ga [[(z8+1)],[1]]/\gz [[(z8+
 1)],[1]]<gz [[z8],[z9]])) (af 1 [1112275947084288557575193961879115365961291049,z8]/\bF 1 [1112275947084288557575193961879115365961291049,z8] λav=>
 bC λaj=>decide (av=z6)=decide (aj=1)->(ga [[(z8+1)],[aj]]/\gz [[(z8+1)],[aj]]<gz [[z8],[z9]])))) ((ak (decide (z6=46)) ((ak (decide
 (0<z4)) (aI 0 [z0] λav=>(ak (decide (z4<(av+(-1)))) (af 1 [z0,(z4+(-1))]/\bF 1 [z0,(z4+(-1))] λaj=>(ak (decide (aj=46)) (K [[z0]]
 [[(cond (false) 1 0)]]) (bk (z4+bU) bP λz12=>af 39 [((z4+(ax*z12))+
 1),0,aZ]/\(ey [[((z4+(ax*z12))+1)]]/\c6 [[((z4+(ax*z12))+1)]]<c6 [[z4]])))) (K
 [[z0]] [[(cond (false) 1 0)]]))) (K [[z0]] [[(cond (false) 1 0)]]))) ((ak ((!(decide (z9=1)))) (K [[z0]] [[(cond (false) 1 0)]]) (bk (z4+bU)
 bP λav=>af 39 [((z4+(ax*av))+1),0,aZ]/\(ey [[((z4+(ax*av))+
 1)]]/\c6 [[((z4+(ax*av))+1)]]<c6 [[z4]]))))))))))))))) (K [[z0]] [[(cond (true) 1 0)]])))))))
def cls (c:UInt8):Bool:=mf c||me c||dM c
theorem ac4 {z:Int} {c:UInt8} (h:z=(c.toNat:Int)):cls c=decide ((97<=z/\z<=122)∨(65<=z/\z<=90)∨(48<=z/\z<=57)):=by
 rw[h];unfold cls mf me dM;rw[iG];simp only[ow,aO,pH,decide_eq_true_eq];omega
theorem WR:U 1112275947084288557575193961879115365961291049=yQ:=by decide+kernel
theorem BY {c:UInt8} {z6 z7:Int} (h6:z6=(c.toNat:Int)) (z70:0<=z7) (Ck:z7<=1) {E:Int->Prop} (jN:∀z9,0<=z9->z9<=1->z9=aN (decide (z7=1)||yQ.contains c)->E z9):
 ∃(ga:List (List Int)->Prop) (gz:List (List Int)->Nat),ga [[0],[z7]]/\(∀z8:Int,0<=z8->z8<=9223372036854775807->∀z9:Int,0<=z9->z9<=1->ga [[z8],[z9]]->
  (((decide (z8<19))=true->
   (((decide (z9=1))=true->
    (ga [[(z8+1)],[1]]/\gz [[(z8+1)],[1]]<gz [[z8],[z9]])
   )/\((decide (z9=1))=false->
    af 1 [1112275947084288557575193961879115365961291049,z8]/\
    ∀av:Int,0<=av->av<=255->av=aw 1 [1112275947084288557575193961879115365961291049,z8]->
    ∀aj:Int,0<=aj->aj<=1->decide (av=z6)=decide (aj=1)->
    (ga [[(z8+1)],[aj]]/\gz [[(z8+1)],[aj]]<gz [[z8],[z9]])
   ))
  )/\((decide (z8<19))=false->
   E z9
  ))
 ):=by
 have adr:∀z:Int,0<=z->z<=1->z=aN (decide (z=1)):=λz h0 h1=>by
  rcases(show z=0∨z=1 by omega)with rfl|rfl<;>rfl
 refine⟨λbl=>∃(k:Nat) (z:Int),bl=[[(k:Int)],[z]]/\k<=19/\decide (z=1)=(decide (z7=1)||(yQ.take k).contains c),λbl=>19-((bl.getD 0 []).getD 0 0).toNat,⟨0,z7,rfl,by omega,by simp⟩,?_⟩
 rintro z8 a0 a1 z9 b0 b1 ⟨k,z,e,hk,hz⟩
 obtain⟨rfl,rfl⟩:z8=k/\z9=z:=by simpa using e
 have n5:yQ.length=19:=by decide
 refine⟨λhp=>?_,λhp=>jN z9 b0 b1 ?_⟩
 ·have hp:(k:Int)<19:=by simpa using hp
  have hlt:k<yQ.length:=by omega
  refine⟨λh1=>⟨⟨k+1,1,by simp,by omega,?_⟩,by show 19-((k:Int)+1).toNat<19-(k:Int).toNat;omega⟩,λh1=>⟨⟨a0,by rw[WR];omega⟩,λav bA c1 dg aj d0 d1 dF=>⟨⟨k+1,aj,by simp,by omega,?_⟩,by show 19-((k:Int)+1).toNat<19-(k:Int).toNat;omega⟩⟩⟩
  ·rw[Mf _ _ _ hlt,<-aui,<-hz,h1];rfl
  ·rw[Mf _ _ _ hlt,<-aui,<-hz,h1,ta,<-dF,dg,h6];simp only[aw,WR,eW];rw[iG,decide_eq_true_eq,beq_iff_eq,<-Ra];omega
 ·have hp:¬(k:Int)<19:=by simpa using hp
  rw[kr (by omega)]at hz;rw[adr z9 b0 b1,hz]
theorem an1:K0 SB (aW SB [.bool] 29):=by
 delta K0 ak bk dC aI bt bF bC bP ax aZ bU;dsimp only
 intro z0 a0 a1 ae b0 b1 h1;have aU:∀b:Bool,jV (U z0)=b->aW SB [.bool] 29 [[z0]] [[aN b]]:=λb h=>lL (by show aN b=aN (jV (U z0));rw[h]);rw[one_le h1];refine⟨λh=>aU false ?_,λh z2 bA c1 h2=>?_⟩
 ·rw[fX]at h;unfold jV;rw[h];rfl
 rw[mw]at h;rw[vS (n:=64) 64 rfl h2];refine⟨λh'=>aU false ?_,λh'=>⟨zo oa (·==46) z0,zp z0,⟨0,rfl,iF _,λj hj=>by omega⟩,?_⟩⟩
 ·rw[fX]at h';unfold jV;rw[h'];simp
 rw[mw]at h'
 rintro z4 d0 d1 ⟨i,e,hi,hall⟩ z5 e0 e1 h5
 obtain rfl:z4=i:=by simpa using e
 simp only[aw]at h5;refine⟨λhp=>?_,λhp=>aU true ?_⟩
 ·have hp:(i:Int)<z5:=by simpa using hp
  have hlt:i<(U z0).length:=by omega
  have hc1:af 1 [z0,(i:Int)]:=⟨d0,by omega⟩;have hK:¬rB oa (·==46) (U z0) i->aW SB [.bool] 29 [[z0]] [[aN false]]:=λhn=>aU false (by unfold jV;rw[XN hlt hn];simp);have hA:rB oa (·==46) (U z0) i->Gu (zo oa (·==46) z0) (zp z0) i:=SP a1 hlt hall;refine⟨hc1,λz6 f0 f1 h6=>?_⟩;have h6:z6=(((U z0).getD i 0).toNat:Int):=by rw[h6];simp only[aw,eW]
  have T2:=qq (b:=(U z0).getD i 0) (z:=46) (by decide) (by decide);have jN:¬z6=46->∀z9:Int,z9=aN (cls ((U z0).getD i 0)||yQ.contains ((U z0).getD i 0))->(((!decide (z9=1))=true->aW SB [.bool] 29 [[z0]] [[aN false]])/\((!decide (z9=1))=false->Gu (zo oa (·==46) z0) (zp z0) i)):=λPl z9 a8=>by
   have I2:((U z0).getD i 0==46)=false:=by
    cases ah:((U z0).getD i 0==46)with
    |false=>rfl
    |true=>exact absurd (h6.trans (T2.2 ah)) Pl
   rw[fF a8];refine⟨λhx=>hK λho=>?_,λhx=>hA ⟨?_,λhe=>?_,λah=>?_⟩⟩
   ·have cE:=ho.1;rw[fX]at hx;unfold oa at cE;unfold cls at hx;rw[hx,I2]at cE;cases cE
   ·rw[mw]at hx;unfold oa;unfold cls at hx;rw[hx];rfl
   ·have he:((U z0).getD i 0==46)=true:=he;rw[I2]at he;cases he
   ·rw[ah.1]at I2;cases I2
  have p7:=ac4 h6;refine⟨λmH=>⟨λDy=>?_,λDy=>?_⟩,λmH=>⟨λtU=>⟨λDA=>?_,λDA=>?_⟩,λtU=>⟨λqT z7 g0 g1 h7=>?_,λqT=>?_⟩⟩⟩
  ·have mH:97<=z6:=by simpa using mH
   have Dy:z6<=122:=by simpa using Dy
   refine BY h6 (by decide) (by decide) λz9 i0 i1 a8=>jN (by omega) z9 ?_;rw[a8,p7];congr 2;simp;omega
  ·have mH:97<=z6:=by simpa using mH
   have Dy:¬z6<=122:=by simpa using Dy
   refine BY h6 (by decide) (by decide) λz9 i0 i1 a8=>jN (by omega) z9 ?_;rw[a8,p7];congr 2;simp;omega
  ·have mH:¬97<=z6:=by simpa using mH
   have tU:65<=z6:=by simpa using tU
   have DA:z6<=90:=by simpa using DA
   refine BY h6 (by decide) (by decide) λz9 i0 i1 a8=>jN (by omega) z9 ?_;rw[a8,p7];congr 2;simp;omega
  ·have mH:¬97<=z6:=by simpa using mH
   have tU:65<=z6:=by simpa using tU
   have DA:¬z6<=90:=by simpa using DA
   refine BY h6 (by decide) (by decide) λz9 i0 i1 a8=>jN (by omega) z9 ?_;rw[a8,p7];congr 2;simp;omega
  ·have mH:¬97<=z6:=by simpa using mH
   have tU:¬65<=z6:=by simpa using tU
   have qT:48<=z6:=by simpa using qT
   refine BY h6 g0 g1 λz9 i0 i1 a8=>jN (by omega) z9 ?_;rw[a8,p7,<-h7];congr 2;rw[iG,decide_eq_true_eq,decide_eq_true_eq];omega
  ·have mH:¬97<=z6:=by simpa using mH
   have tU:¬65<=z6:=by simpa using tU
   have qT:¬48<=z6:=by simpa using qT
   refine BY h6 (by decide) (by decide) λz9 i0 i1 a8=>⟨λmG=>?_,λmG=>?_⟩
   ·have mG:z6=46:=by simpa using mG
    have hc:(U z0).getD i 0=46:=beq_iff_eq.1 (T2.1 (by omega));have cE:oa ((U z0).getD i 0)=true:=by rw[hc];decide
    refine⟨λim av fS da dg=>?_,λim=>hK λho=>?_⟩
    ·have im:0<(i:Int):=by simpa using im
     simp only[aw]at dg;refine⟨λhl=>⟨⟨by omega,by omega⟩,λaj e7 k1 dF=>?_⟩,λhl=>hK λho=>?_⟩
     ·have hl:(i:Int)<av+-1:=by simpa using hl
      rw[tH (n:=46) (k:=i-1) (by omega) (by decide) (by decide) dF];refine⟨λhq=>hK λho=>ho.2.2 ⟨hc,by omega,beq_iff_eq.1 hq⟩,λhq=>hA ⟨cE,λ_=>⟨by omega,by omega⟩,λah=>?_⟩⟩;have:((U z0).getD (i-1) 0==u8 46)=true:=beq_iff_eq.2 ah.2.2;rw[this]at hq;cases hq
     ·have hl:¬(i:Int)<av+-1:=by simpa using hl
      have:=(ho.2.1 (beq_iff_eq.2 hc)).2;omega
    ·have im:¬0<(i:Int):=by simpa using im
     have:=(ho.2.1 (beq_iff_eq.2 hc)).1;omega
   ·have mG:¬z6=46:=by simpa using mG
    refine jN mG z9 ?_;rw[a8,p7];congr 2;simp;omega
 ·have hp:¬(i:Int)<z5:=by simpa using hp
  unfold jV;rw[h,h',(Ps oa (·==46) (U z0)).2 λj hj=>hall j (by omega)];rfl
def KW (S:zzS) (K:zzK):Prop:=
 bt λz0=>∃(wU:List (List Int)->Prop) (Gr:List (List Int)->Nat),wU [[z0]]/\(bt λz2=>wU [[z2]]->aI 0 [z2] λz3=>(ak (decide (0<z3))
 (af 1 [z2,0]/\bF 1 [z2,0] λz4=>(ak (decide (z4=32)) (aI 0 [z2] λz5=>af 2 [z2,1,z5]/\b8 2 [z2,1,z5] λz6=>(wU [[z6]]/\Gr [[z6]]<Gr
 [[z2]])) (∃(dk:List (List Int)->Prop) (cT:List (List Int)->Nat),dk [[z2]]/\(bt λz6=>dk [[z6]]->aI 0 [z6] λz7=>(ak (decide (0<z7)) (aI
 0 [z6] λz8=>af 1 [z6,(z8+(-1))]/\bF 1 [z6,(z8+(-1))] λz9=>(ak (decide (z9=32)) (aI 0 [z6] λav=>af 2 [z6,0,(av+(-1))]/\b8 2
 [z6,0,(av+(-1))] λaj=>(dk [[aj]]/\cT [[aj]]<cT [[z6]])) (∃(jq:List (List Int)->Prop) (lX:List (List Int)->Nat),jq [[0]]/\(dC λaj
 =>jq [[aj]]->aI 0 [z6] λz12=>(ak (decide (aj<z12)) (af 1 [z6,aj]/\bF 1 [z6,aj] λaA=>(ak (decide (aA=64)) (af 2 [z6,0,aj]/\b8
 2 [z6,0,aj] λaB=>bC λau=>S 29 [[aB]] [[au]]->(ak (decide (au=1)) (bk (aj+bU) bP λaT=>aI 0 [z6]
 λbz=>af 2 [z6,((aj+(ax*aT))+1),bz]/\b8 2 [z6,((aj+(ax*aT))+1),bz] λaF=>bC λcL=>
 S 30 [[aF]] [[cL]]->(ak (decide (cL=1)) (bk (aj+bU) bP λz20=>aI 0 [z6] λz21=>af 2 [z6,((aj+
 (ax*z20))+1),z21]/\b8 2 [z6,((aj+(ax*z20))+1),z21] λaE=>bC λcx=>S 31 [[aE],[46]] [[cx]]->
 (ak (decide (cx=1)) (aI 0 [z6] λz24=>(ak (decide (z24<=254)) (bt λdP=>S 17 [[z6]] [[dP]]->K [[z0]] [[dP],[0]]) (K [[z0]] [[0],[2]]))) (K
 [[z0]] [[0],[2]]))) (K [[z0]] [[0],[2]]))) (K [[z0]] [[0],[2]]))) (bk (aj+bU) bP λaB=>af 39 [((aj+
 (ax*aB))+1),0,aZ]/\(jq [[((aj+(ax*aB))+1)]]/\lX [[((aj+(ax
 *aB))+1)]]<lX [[aj]])))) (K [[z0]] [[0],[2]])))))) (∃(ei:List (List Int)->Prop) (fk:List (List Int)->Nat),ei [[0]]/\(dC λz9=>ei [[z9]]->
 aI 0 [z6] λav=>(ak (decide (z9<av)) (af 1 [z6,z9]/\bF 1 [z6,z9] λaj=>(ak (decide (aj=64)) (af 2 [z6,0,z9]/\b8 2 [z6,0,z9] λz12=>
 bC λaA=>S 29 [[z12]] [[aA]]->(ak (decide (aA=1)) (bk (z9+bU) bP λaB=>aI 0 [z6] λau=>af 2 [z6,((z9
 +(ax*aB))+1),au]/\b8 2 [z6,((z9+(ax*aB))+1),au] λaT=>bC λbz=>S 30 [[aT]] [[bz]]->(ak
 (decide (bz=1)) (bk (z9+bU) bP λaF=>aI 0 [z6] λcL=>af 2 [z6,((z9+(ax*aF))+
 1),cL]/\b8 2 [z6,((z9+(ax*aF))+1),cL] λz20=>bC λz21=>S 31 [[z20],[46]] [[z21]]->(ak (decide (z21=1)) (aI 0 [z6]
 λaE=>(ak (decide (aE<=254)) (bt λcx=>S 17 [[z6]] [[cx]]->K [[z0]] [[cx],[0]]) (K [[z0]] [[0],[2]]))) (K [[z0]] [[0],[2]]))) (K [[z0]]
 [[0],[2]]))) (K [[z0]] [[0],[2]]))) (bk (z9+bU) bP λz12=>af 39 [((z9+(ax*z12))+
 1),0,aZ]/\(ei [[((z9+(ax*z12))+1)]]/\fk [[((z9+(ax*z12))+1)]]<fk [[z9]])))) (K
 [[z0]] [[0],[2]]))))))))) (∃(eQ:List (List Int)->Prop) (et:List (List Int)->Nat),eQ [[z2]]/\(bt λz5=>eQ [[z5]]->aI 0 [z5] λz6=>(ak
 (decide (0<z6)) (aI 0 [z5] λz7=>af 1 [z5,(z7+(-1))]/\bF 1 [z5,(z7+(-1))] λz8=>(ak (decide (z8=32)) (aI 0 [z5] λz9=>af 2 [z5,0,(z9
 +(-1))]/\b8 2 [z5,0,(z9+(-1))] λav=>(eQ [[av]]/\et [[av]]<et [[z5]])) (∃(Ln:List (List Int)->Prop) (aa4:List (List Int)->Nat),Ln [[0]]
 /\(dC λav=>Ln [[av]]->aI 0 [z5] λaj=>(ak (decide (av<aj)) (af 1 [z5,av]/\bF 1 [z5,av] λz12=>(ak (decide (z12=64)) (af 2
 [z5,0,av]/\b8 2 [z5,0,av] λaA=>bC λaB=>S 29 [[aA]] [[aB]]->(ak (decide (aB=1)) (bk (av+bU) bP λ
 au=>aI 0 [z5] λaT=>af 2 [z5,((av+(ax*au))+1),aT]/\b8 2 [z5,((av+(ax*au))+1),aT] λ
 bz=>bC λaF=>S 30 [[bz]] [[aF]]->(ak (decide (aF=1)) (bk (av+bU) bP λcL=>aI 0 [z5] λz20=>af 2
 [z5,((av+(ax*cL))+1),z20]/\b8 2 [z5,((av+(ax*cL))+1),z20] λz21=>bC λaE=>S 31 [[z21],[46]]
 [[aE]]->(ak (decide (aE=1)) (aI 0 [z5] λcx=>(ak (decide (cx<=254)) (bt λz24=>S 17 [[z5]] [[z24]]->K [[z0]] [[z24],[0]]) (K [[z0]]
 [[0],[2]]))) (K [[z0]] [[0],[2]]))) (K [[z0]] [[0],[2]]))) (K [[z0]] [[0],[2]]))) (bk (av+bU) bP λaA=>af 39 [((av
 +(ax*aA))+1),0,aZ]/\(Ln [[((av+(ax*aA))+1)]]/\aa4 [[((av+(ax
 *aA))+1)]]<aa4 [[av]])))) (K [[z0]] [[0],[2]])))))) (∃(ga:List (List Int)->Prop) (gz:List (List Int)->Nat),ga [[0]]/\(dC λz8=>ga [[z8]]->
 aI 0 [z5] λz9=>(ak (decide (z8<z9)) (af 1 [z5,z8]/\bF 1 [z5,z8] λav=>(ak (decide (av=64)) (af 2 [z5,0,z8]/\b8 2 [z5,0,z8] λaj=>
 bC λz12=>S 29 [[aj]] [[z12]]->(ak (decide (z12=1)) (bk (z8+bU) bP λaA=>aI 0 [z5] λaB=>af 2 [z5,((z8
 +(ax*aA))+1),aB]/\b8 2 [z5,((z8+(ax*aA))+1),aB] λau=>bC λaT=>S 30 [[au]] [[aT]]->(ak
 (decide (aT=1)) (bk (z8+bU) bP λbz=>aI 0 [z5] λaF=>af 2 [z5,((z8+(ax*bz))+
 1),aF]/\b8 2 [z5,((z8+(ax*bz))+1),aF] λcL=>bC λz20=>S 31 [[cL],[46]] [[z20]]->(ak (decide (z20=1)) (aI 0 [z5]
 λz21=>(ak (decide (z21<=254)) (bt λaE=>S 17 [[z5]] [[aE]]->K [[z0]] [[aE],[0]]) (K [[z0]] [[0],[2]]))) (K [[z0]] [[0],[2]]))) (K [[z0]]
 [[0],[2]]))) (K [[z0]] [[0],[2]]))) (bk (z8+bU) bP λaj=>af 39 [((z8+(ax*aj))+
 1),0,aZ]/\(ga [[((z8+(ax*aj))+1)]]/\gz [[((z8+(ax*aj))+1)]]<gz [[z8]])))) (K
 [[z0]] [[0],[2]])))))))))
theorem YM (p:UInt8->Bool) (x:UInt8) (r:aq):fM p (x::r)=cond ((fM p r).isEmpty) (cond (p x) [] [x]) (x::fM p r):=by
 unfold fM;rw[aai,List.dropWhile_append];cases hd:r.reverse.dropWhile p with
 |nil=>cases hp:p x<;>simp[ou,hp]
 |cons y t=>
  have e:((y::t).reverse).isEmpty=false:=by
   cases h:(y::t).reverse with
   |nil=>simp at h
   |cons a b=>rfl
  rw[e,if_neg (by simp)];simp
theorem YN (p:UInt8->Bool):∀s:aq,fM p (e8 p s)=e8 p (fM p s)
 |[]=>rfl
 |x::r=>by
  have ih:=YN p r;rw[YM];cases hp:p x with
  |true=>
   have e:e8 p (x::r)=e8 p r:=by simp[e8,ou,hp]
   rw[e,ih];cases hr:fM p r with
   |nil=>simp[e8]
   |cons y t=>simp[e8,ou,hp]
  |false=>
   have e:e8 p (x::r)=x::r:=by simp[e8,ou,hp]
   rw[e,YM];cases hr:fM p r with
   |nil=>simp[e8,ou,hp]
   |cons y t=>simp[e8,ou,hp]
theorem Wq {c:Int} (h0:0<=c) (h1:c<=255) {l:aq} {i:Nat} (hi:i<l.length) (he:l.getD i 0=u8 c) (hb:∀j,j<i->l.getD j 0≠u8 c):idx c l=(i:Int):=by
 rcases AJ h0 h1 l with⟨_,h2⟩|⟨h2,h3,h4,_,h5⟩
 ·refine absurd ?_ h2;rw[<-he];simp[aC,hi]
 ·rcases auj i (idx c l).toNat with h|h|h
  ·exact absurd he (h5 i h)
  ·omega
  ·exact absurd h4 (hb _ h)
theorem Wt {c:Int} (h0:0<=c) (h1:c<=255) {l:aq} (hb:∀j,j<l.length->l.getD j 0≠u8 c):idx c l=-1:=by
 rcases AJ h0 h1 l with⟨h2,_⟩|⟨h2,h3,h4,_,h5⟩
 ·exact h2
 ·exact absurd h4 (hb _ h3)
theorem ao7 {z0 z6:Int} (a1:z6<=bp) (hz:lC (U z0)=qP (U z6)):
 ∃(jq:List (List Int)->Prop) (lX:List (List Int)->Nat),jq [[0]]/\(∀aj:Int,0<=aj->aj<=9223372036854775807->jq [[aj]]->
  ∀z12:Int,0<=z12->z12<=9223372036854775807->z12=aw 0 [z6]->
  (((decide (aj<z12))=true->
   af 1 [z6,aj]/\
   ∀aA:Int,0<=aA->aA<=255->aA=aw 1 [z6,aj]->
   (((decide (aA=64))=true->
    af 2 [z6,0,aj]/\
    ∀aB:Int,0<=aB->aB<=bp->aB=aw 2 [z6,0,aj]->
    ∀au:Int,0<=au->au<=1->SB 29 [[aB]] [[au]]->
    (((decide (au=1))=true->
     ∀aT:Int,0<=aT->aT<=1->0<=(aj+9223372036854775809)-18446744073709551616*aT->(aj+9223372036854775809)-18446744073709551616*aT<18446744073709551616->
     ∀bz:Int,0<=bz->bz<=9223372036854775807->bz=aw 0 [z6]->
     af 2 [z6,((aj+((-18446744073709551616)*aT))+1),bz]/\
     ∀aF:Int,0<=aF->aF<=bp->aF=aw 2 [z6,((aj+((-18446744073709551616)*aT))+1),bz]->
     ∀cL:Int,0<=cL->cL<=1->SB 30 [[aF]] [[cL]]->
     (((decide (cL=1))=true->
      ∀z20:Int,0<=z20->z20<=1->0<=(aj+9223372036854775809)-18446744073709551616*z20->(aj+9223372036854775809)-18446744073709551616*z20<18446744073709551616->
      ∀z21:Int,0<=z21->z21<=9223372036854775807->z21=aw 0 [z6]->
      af 2 [z6,((aj+((-18446744073709551616)*z20))+1),z21]/\
      ∀aE:Int,0<=aE->aE<=bp->aE=aw 2 [z6,((aj+((-18446744073709551616)*z20))+1),z21]->
      ∀cx:Int,0<=cx->cx<=1->SB 31 [[aE],[46]] [[cx]]->
      (((decide (cx=1))=true->
       ∀z24:Int,0<=z24->z24<=9223372036854775807->z24=aw 0 [z6]->
       (((decide (z24<=254))=true->
        ∀dP:Int,0<=dP->dP<=bp->SB 17 [[z6]] [[dP]]->
        aW SB [.str,.int .i64 0 21] 11 [[z0]] [[dP],[0]]
       )/\((decide (z24<=254))=false->
        aW SB [.str,.int .i64 0 21] 11 [[z0]] [[0],[2]]
       ))
      )/\((decide (cx=1))=false->
       aW SB [.str,.int .i64 0 21] 11 [[z0]] [[0],[2]]
      ))
     )/\((decide (cL=1))=false->
      aW SB [.str,.int .i64 0 21] 11 [[z0]] [[0],[2]]
     ))
    )/\((decide (au=1))=false->
     aW SB [.str,.int .i64 0 21] 11 [[z0]] [[0],[2]]
    ))
   )/\((decide (aA=64))=false->
    ∀aB:Int,0<=aB->aB<=1->0<=(aj+9223372036854775809)-18446744073709551616*aB->(aj+9223372036854775809)-18446744073709551616*aB<18446744073709551616->
    af 39 [((aj+((-18446744073709551616)*aB))+1),0,9223372036854775807]/\
    (jq [[((aj+((-18446744073709551616)*aB))+1)]]/\lX [[((aj+((-18446744073709551616)*aB))+1)]]<lX [[aj]])
   ))
  )/\((decide (aj<z12))=false->
   aW SB [.str,.int .i64 0 21] 11 [[z0]] [[0],[2]]
  ))
 ):=by
 have aU:qP (U z6)=([],2)->aW SB [.str,.int .i64 0 21] 11 [[z0]] [[0],[2]]:=λh=>vQ (bB _) fZ (by decide) (by decide) (by
  show(U 0,(2:Int))=lC (U z0);rw[hz,h];rfl)
 refine⟨λbl=>∃i:Nat,bl=[[(i:Int)]]/\i<=(U z6).length/\∀j,j<i->(U z6).getD j 0≠u8 64,λbl=>(U z6).length-((bl.getD 0 []).getD 0 0).toNat,⟨0,rfl,iF _,λj hj=>by omega⟩,?_⟩
 rintro aj b0 b1 ⟨i,e,hi,hall⟩ z12 bA c1 dJ
 obtain rfl:aj=i:=by simpa using e
 simp only[aw]at dJ;refine⟨λhp=>?_,λhp=>aU ?_⟩
 ·have hp:(i:Int)<z12:=by simpa using hp
  have hlt:i<(U z6).length:=by omega
  refine⟨⟨b0,by omega⟩,λaA d0 d1 dK=>?_⟩;rw[tH (n:=64) (k:=i) rfl (by decide) (by decide) dK];refine⟨λp3=>⟨⟨by omega,b0,by omega⟩,λaB e0 e1 eM au f0 f1 eZ=>?_⟩,λp3 q q0 q1 q2 q3=>?_⟩
  ·have hx:idx 64 (U z6)=(i:Int):=Wq (by decide) (by decide) hlt (beq_iff_eq.1 p3) hall;have qN:U aB=(U z6).take i:=by rw[eM];simp[aw,dZ]
   have eZ:au=aN (jV (U aB)):=eZ;rw[fF eZ,qN];have hd:∀q x,0<=q->0<=(i:Int)+9223372036854775809-18446744073709551616*q->z12=aw 0 [z6]->x=aw 2 [z6,((i:Int)+-18446744073709551616*q)+1,z12]->U x=(U z6).drop (i+1):=λq x q0 q2 _ hx=>by
    rw[mr (L:=z12) hp c1 b0 q0 q2]at hx;rw[hx];simp only[aw,dZ];rw[show((i:Int)+1).toNat=i+1 by omega];exact kr (by simp;omega)
   have jf:qP (U z6)=cond (bu (U z6).length 254&&jV ((U z6).take i)&&fR ((U z6).drop (i+1))&&((U z6).drop (i+1)).contains 46) (lower (U z6),0) ([],2):=by
    unfold qP;rw[hx,show decide (0<=(i:Int))=true by simp,eW,wF]
   refine⟨λhl q q0 q1 q2 q3 bz g0 g1 jM=>?_,λhl=>aU (by rw[jf,hl];simp)⟩;have aek:=jM;simp only[aw]at aek;have Hx:bz=z12:=by omega
   refine⟨?_,λaF i0 i1 xp cL fS da xq=>?_⟩
   ·rw[mr (L:=z12) hp c1 b0 q0 q2];exact⟨by omega,by omega,by omega⟩
   ·have xi:=hd q aF q0 q2 (by rw[<-Hx];exact jM) (by rw[<-Hx];exact xp);have xq:cL=aN (fR (U aF)):=xq;rw[fF xq,xi];refine⟨λah q' Js Fb v8 yH z21 e7 k1 Ac=>?_,λah=>aU (by rw[jf,ah];simp)⟩;have ael:=Ac;simp only[aw]at ael;have Uc:z21=z12:=by omega
    refine⟨?_,λaE l0 l1 Du cx m0 fT Ad=>?_⟩
    ·rw[mr (L:=z12) hp c1 b0 Js v8];exact⟨by omega,by omega,by omega⟩
    ·have C6:=hd q' aE Js v8 (by rw[<-Uc];exact Ac) (by rw[<-Uc];exact Du);have Ad:cx=aN ((U aE).contains (u8 46)):=Ad;rw[fF Ad,C6];refine⟨λhc z24 n0 n1 sf=>?_,λhc=>aU (by rw[jf,show((U z6).drop (i+1)).contains 46=false from hc];simp)⟩;rw[yo (n:=254) 254 rfl sf];refine⟨λhq dP yu o1 oO=>vQ yu o1 (by decide) (by decide) ?_,λhq=>aU (by rw[jf,hq];simp)⟩;have oO:U dP=lower (U z6):=oO;show(U dP,(0:Int))=lC (U z0);rw[hz,jf,hq,hl,ah,show((U z6).drop (i+1)).contains 46=true from hc,oO];rfl
  ·rw[mr (L:=z12) hp c1 b0 q0 q2];refine⟨⟨by omega,by omega⟩,⟨i+1,by simp,by omega,λj hj=>?_⟩,?_⟩
   ·by_cases hj':j=i
    ·subst hj';intro he;rw[he]at p3;simp at p3
    ·exact hall j (by omega)
   ·show(U z6).length-((i:Int)+1).toNat<(U z6).length-(i:Int).toNat;omega
 ·have hp:¬(i:Int)<z12:=by simpa using hp
  have:=Wt (c:=64) (by decide) (by decide) (l:=U z6) λj hj=>hall j (by omega);unfold qP;rw[this];rfl
theorem anW:KW SB (aW SB [.str,.int .i64 0 21] 11):=by
 delta KW ak bk dC aI bt b8 bF bC bP ax aZ bU;dsimp only
 intro z0 a0 a1;have two:∀z6:Int,z6<=bp->U z6=fM (·==32) (e8 (·==32) (U z0))->_:=λz6 h1 he=>ao7 (z0:=z0) (z6:=z6) h1 (by unfold lC jl;rw[he,YN]);have one:∀z2:Int,0<=z2->z2<=bp->U z2=e8 (·==32) (U z0)->
  ∃(dk:List (List Int)->Prop) (cT:List (List Int)->Nat),dk [[z2]]/\(∀z6:Int,0<=z6->z6<=bp->dk [[z6]]->
   ∀z7:Int,0<=z7->z7<=9223372036854775807->z7=aw 0 [z6]->
   (((decide (0<z7))=true->
    ∀z8:Int,0<=z8->z8<=9223372036854775807->z8=aw 0 [z6]->
    af 1 [z6,(z8+(-1))]/\
    ∀z9:Int,0<=z9->z9<=255->z9=aw 1 [z6,(z8+(-1))]->
    (((decide (z9=32))=true->
     ∀av:Int,0<=av->av<=9223372036854775807->av=aw 0 [z6]->
     af 2 [z6,0,(av+(-1))]/\
     ∀aj:Int,0<=aj->aj<=bp->aj=aw 2 [z6,0,(av+(-1))]->
     (dk [[aj]]/\cT [[aj]]<cT [[z6]])
    )/\((decide (z9=32))=false->
     ∃(jq:List (List Int)->Prop) (lX:List (List Int)->Nat),jq [[0]]/\(∀aj:Int,0<=aj->aj<=9223372036854775807->jq [[aj]]->
      ∀z12:Int,0<=z12->z12<=9223372036854775807->z12=aw 0 [z6]->
      (((decide (aj<z12))=true->
       af 1 [z6,aj]/\
       ∀aA:Int,0<=aA->aA<=255->aA=aw 1 [z6,aj]->
       (((decide (aA=64))=true->
        af 2 [z6,0,aj]/\
        ∀aB:Int,0<=aB->aB<=bp->aB=aw 2 [z6,0,aj]->
        ∀au:Int,0<=au->au<=1->SB 29 [[aB]] [[au]]->
        (((decide (au=1))=true->
         ∀aT:Int,0<=aT->aT<=1->0<=(aj+9223372036854775809)-18446744073709551616*aT->(aj+9223372036854775809)-18446744073709551616*aT<18446744073709551616->
         ∀bz:Int,0<=bz->bz<=9223372036854775807->bz=aw 0 [z6]->
         af 2 [z6,((aj+((-18446744073709551616)*aT))+1),bz]/\
         ∀aF:Int,0<=aF->aF<=bp->aF=aw 2 [z6,((aj+((-18446744073709551616)*aT))+1),bz]->
         ∀cL:Int,0<=cL->cL<=1->SB 30 [[aF]] [[cL]]->
         (((decide (cL=1))=true->
          ∀z20:Int,0<=z20->z20<=1->0<=(aj+9223372036854775809)-18446744073709551616*z20->(aj+9223372036854775809)-18446744073709551616*z20<18446744073709551616->
          ∀z21:Int,0<=z21->z21<=9223372036854775807->z21=aw 0 [z6]->
          af 2 [z6,((aj+((-18446744073709551616)*z20))+1),z21]/\
          ∀aE:Int,0<=aE->aE<=bp->aE=aw 2 [z6,((aj+((-18446744073709551616)*z20))+1),z21]->
          ∀cx:Int,0<=cx->cx<=1->SB 31 [[aE],[46]] [[cx]]->
          (((decide (cx=1))=true->
           ∀z24:Int,0<=z24->z24<=9223372036854775807->z24=aw 0 [z6]->
           (((decide (z24<=254))=true->
            ∀dP:Int,0<=dP->dP<=bp->SB 17 [[z6]] [[dP]]->
            aW SB [.str,.int .i64 0 21] 11 [[z0]] [[dP],[0]]
           )/\((decide (z24<=254))=false->
            aW SB [.str,.int .i64 0 21] 11 [[z0]] [[0],[2]]
           ))
          )/\((decide (cx=1))=false->
           aW SB [.str,.int .i64 0 21] 11 [[z0]] [[0],[2]]
          ))
         )/\((decide (cL=1))=false->
          aW SB [.str,.int .i64 0 21] 11 [[z0]] [[0],[2]]
         ))
        )/\((decide (au=1))=false->
         aW SB [.str,.int .i64 0 21] 11 [[z0]] [[0],[2]]
        ))
       )/\((decide (aA=64))=false->
        ∀aB:Int,0<=aB->aB<=1->0<=(aj+9223372036854775809)-18446744073709551616*aB->(aj+9223372036854775809)-18446744073709551616*aB<18446744073709551616->
        af 39 [((aj+((-18446744073709551616)*aB))+1),0,9223372036854775807]/\
        (jq [[((aj+((-18446744073709551616)*aB))+1)]]/\lX [[((aj+((-18446744073709551616)*aB))+1)]]<lX [[aj]])
       ))
      )/\((decide (aj<z12))=false->
       aW SB [.str,.int .i64 0 21] 11 [[z0]] [[0],[2]]
      ))
     )
    ))
   )/\((decide (0<z7))=false->
    ∃(ei:List (List Int)->Prop) (fk:List (List Int)->Nat),ei [[0]]/\(∀z9:Int,0<=z9->z9<=9223372036854775807->ei [[z9]]->
     ∀av:Int,0<=av->av<=9223372036854775807->av=aw 0 [z6]->
     (((decide (z9<av))=true->
      af 1 [z6,z9]/\
      ∀aj:Int,0<=aj->aj<=255->aj=aw 1 [z6,z9]->
      (((decide (aj=64))=true->
       af 2 [z6,0,z9]/\
       ∀z12:Int,0<=z12->z12<=bp->z12=aw 2 [z6,0,z9]->
       ∀aA:Int,0<=aA->aA<=1->SB 29 [[z12]] [[aA]]->
       (((decide (aA=1))=true->
        ∀aB:Int,0<=aB->aB<=1->0<=(z9+9223372036854775809)-18446744073709551616*aB->(z9+9223372036854775809)-18446744073709551616*aB<18446744073709551616->
        ∀au:Int,0<=au->au<=9223372036854775807->au=aw 0 [z6]->
        af 2 [z6,((z9+((-18446744073709551616)*aB))+1),au]/\
        ∀aT:Int,0<=aT->aT<=bp->aT=aw 2 [z6,((z9+((-18446744073709551616)*aB))+1),au]->
        ∀bz:Int,0<=bz->bz<=1->SB 30 [[aT]] [[bz]]->
        (((decide (bz=1))=true->
         ∀aF:Int,0<=aF->aF<=1->0<=(z9+9223372036854775809)-18446744073709551616*aF->(z9+9223372036854775809)-18446744073709551616*aF<18446744073709551616->
         ∀cL:Int,0<=cL->cL<=9223372036854775807->cL=aw 0 [z6]->
         af 2 [z6,((z9+((-18446744073709551616)*aF))+1),cL]/\
         ∀z20:Int,0<=z20->z20<=bp->z20=aw 2 [z6,((z9+((-18446744073709551616)*aF))+1),cL]->
         ∀z21:Int,0<=z21->z21<=1->SB 31 [[z20],[46]] [[z21]]->
         (((decide (z21=1))=true->
          ∀aE:Int,0<=aE->aE<=9223372036854775807->aE=aw 0 [z6]->
          (((decide (aE<=254))=true->
           ∀cx:Int,0<=cx->cx<=bp->SB 17 [[z6]] [[cx]]->
           aW SB [.str,.int .i64 0 21] 11 [[z0]] [[cx],[0]]
          )/\((decide (aE<=254))=false->
           aW SB [.str,.int .i64 0 21] 11 [[z0]] [[0],[2]]
          ))
         )/\((decide (z21=1))=false->
          aW SB [.str,.int .i64 0 21] 11 [[z0]] [[0],[2]]
         ))
        )/\((decide (bz=1))=false->
         aW SB [.str,.int .i64 0 21] 11 [[z0]] [[0],[2]]
        ))
       )/\((decide (aA=1))=false->
        aW SB [.str,.int .i64 0 21] 11 [[z0]] [[0],[2]]
       ))
      )/\((decide (aj=64))=false->
       ∀z12:Int,0<=z12->z12<=1->0<=(z9+9223372036854775809)-18446744073709551616*z12->(z9+9223372036854775809)-18446744073709551616*z12<18446744073709551616->
       af 39 [((z9+((-18446744073709551616)*z12))+1),0,9223372036854775807]/\
       (ei [[((z9+((-18446744073709551616)*z12))+1)]]/\fk [[((z9+((-18446744073709551616)*z12))+1)]]<fk [[z9]])
      ))
     )/\((decide (z9<av))=false->
      aW SB [.str,.int .i64 0 21] 11 [[z0]] [[0],[2]]
     ))
    )
   ))
  ):=λz2 h0 h1 he=>(by
  refine⟨λbl=>∃z,bl=[[z]]/\fM (·==32) (U z)=fM (·==32) (U z2),λbl=>(U ((bl.getD 0 []).getD 0 0)).length,⟨z2,rfl,rfl⟩,?_⟩
  rintro z3 bA c1 ⟨z,e,hz⟩
  obtain rfl:z3=z:=by simpa using e
  intro z4 d0 d1 ed;simp only[aw]at ed;by_cases hl:U z3=[]
  ·rw[hl]at ed hz;simp only[eH]at ed;subst ed;refine⟨λhp=>by simp at hp,λ_=>two z3 c1 ?_⟩;rw[hl,<-he,<-hz];rfl
  ·obtain⟨r,x,hl⟩:=FA hl;rw[hl]at ed hz;simp only[dn,cW,eH]at ed;refine⟨λ_=>?_,λhp=>by simp at hp;omega⟩;intro z5 e0 e1 mc;simp only[aw,hl,dn,cW,eH]at mc;refine⟨⟨by omega,by rw[hl];simp only[dn,cW,eH];omega⟩,?_⟩;intro z6 f0 f1 lK;rw[tH (n:=32) (k:=r.length) (by omega) (by decide) (by decide) lK,hl,MJ];refine⟨λnV=>?_,λnV=>two z3 c1 ?_⟩
   ·have nV:(x==32)=true:=nV;intro z7 f0 f1 pz;simp only[aw,hl,dn,cW,eH]at pz;have Eu:(z7+-1).toNat=r.length:=by omega
    refine⟨⟨by omega,by omega,by rw[hl];simp only[dn,cW,eH];omega⟩,?_⟩;intro z8 g0 g1 EK;have hr:U z8=r:=by
     rw[EK];simp only[aw,dZ,hl,Eu];simp
    refine⟨⟨z8,rfl,?_⟩,?_⟩
    ·rw[hr,<-hz,wi,nV,cond_true]
    ·show(U z8).length<(U z3).length;rw[hr,hl];simp
   ·have nV:(x==32)=false:=nV;rw[hl,<-he,<-hz,wi,nV,cond_false])
 refine⟨λbl=>∃z,bl=[[z]]/\e8 (·==32) (U z)=e8 (·==32) (U z0),λbl=>(U ((bl.getD 0 []).getD 0 0)).length,⟨z0,rfl,rfl⟩,?_⟩
 rintro z3 bA c1 ⟨z,e,hz⟩
 obtain rfl:z3=z:=by simpa using e
 intro z4 d0 d1 ed;simp only[aw]at ed;cases hl:U z3 with
 |nil=>
  rw[hl]at ed hz;simp only[eH]at ed;subst ed;refine⟨λhp=>by simp at hp,λ_=>one z3 bA c1 ?_⟩;rw[hl,<-hz];rfl
 |cons x r=>
  rw[hl]at ed hz;simp only[cW]at ed;refine⟨λ_=>⟨⟨bB _,by rw[hl];simp only[cW];omega⟩,?_⟩,λhp=>by simp at hp;omega⟩;intro z5 e0 e1 mc;rw[tH (n:=32) (k:=0) rfl (by decide) (by decide) mc,hl];refine⟨λhe=>?_,λhe=>one z3 bA c1 ?_⟩
  ·have he:(x==32)=true:=he;intro z6 f0 f1 lK;simp only[aw,hl,cW]at lK;refine⟨⟨by omega,by omega,by rw[hl];simp only[cW];omega⟩,?_⟩;intro z7 g0 g1 pz;have hr:U z7=r:=by
    rw[pz];simp only[aw,dZ,hl];rw[show(1:Int).toNat=1 from rfl,Rd,Re];exact kr (by omega)
   refine⟨⟨z7,rfl,?_⟩,?_⟩
   ·rw[hr,<-hz];simp only[e8,ou,he,if_true]
   ·show(U z7).length<(U z3).length;rw[hr,hl];simp
  ·have he:(x==32)=false:=he;rw[hl,<-hz];simp[e8,ou,he]
def K2 (S:zzS) (K:zzK):Prop:=
 bt λz0=>bt λae=>(af 44 [z0,ae]->bt λz2=>bC λz3=>bC λz4=>S 35 [[z0]] [[z2],[z3],[z4]]->(ak ((!(decide (z4=1)))) (K [[z0],[ae]]
 [[0],[7]]) (∃(dk:List (List Int)->Prop) (cT:List (List Int)->Nat),dk [[0],[0],[0]]/\(bt λz6=>dC λz7=>bC λz8=>dk [[z6],[z7],[z8]]->aI
 0 [ae] λz9=>(ak (decide (z7<z9)) (af 1 [ae,z7]/\bF 1 [ae,z7] λav=>(ak (decide (48<=av)) ((ak (decide (av<=57)) (bk (z7+
 bU) bP λaj=>af 2 [ae,z7,((z7+(ax*aj))+1)]/\b8 2 [ae,z7,((z7+(ax
 *aj))+1)] λz12=>af 3 [z6,z12]/\b8 3 [z6,z12] λaA=>bk (z7+bU) bP λaB=>af 39 [((z7+
 (ax*aB))+1),0,aZ]/\bC λau=>decide (z8=1)=decide (au=1)->(dk [[aA],[((z7+(ax*
 aB))+1)],[au]]/\cT [[aA],[((z7+(ax*aB))+1)],[au]]<cT [[z6],[z7],[z8]])) (K [[z0],[ae]] [[0],[2]]))) ((ak (decide (av=
 43)) (cf 4 [z6,0] λaj=>(ak (decide (aj=1)) ((ak ((!(decide (z8=1)))) (bk (z7+bU) bP λz12=>af 39 [((z7+
 (ax*z12))+1),0,aZ]/\(dk [[z6],[((z7+(ax*z12))+1)],[1]]/\cT [[z6],[((z7+
 (ax*z12))+1)],[1]]<cT [[z6],[z7],[z8]])) ((ak (decide (av=32)) (bk (z7+bU) bP λz12=>af
 39 [((z7+(ax*z12))+1),0,aZ]/\bC λaA=>decide (z8=1)=decide (aA=1)->(dk [[z6],[((z7+
 (ax*z12))+1)],[aA]]/\cT [[z6],[((z7+(ax*z12))+1)],[aA]]<cT [[z6],[z7],[z8]])) ((ak (decide (av=45))
 (bk (z7+bU) bP λz12=>af 39 [((z7+(ax*z12))+1),0,aZ]/\bC λaA=>
 decide (z8=1)=decide (aA=1)->(dk [[z6],[((z7+(ax*z12))+1)],[aA]]/\cT [[z6],[((z7+(ax*z12))+
 1)],[aA]]<cT [[z6],[z7],[z8]])) ((ak (decide (av=46)) (bk (z7+bU) bP λz12=>af 39 [((z7+
 (ax*z12))+1),0,aZ]/\bC λaA=>decide (z8=1)=decide (aA=1)->(dk [[z6],[((z7+(ax*
 z12))+1)],[aA]]/\cT [[z6],[((z7+(ax*z12))+1)],[aA]]<cT [[z6],[z7],[z8]])) ((ak (decide (av=40)) (bk (z7+
 bU) bP λz12=>af 39 [((z7+(ax*z12))+1),0,aZ]/\bC λaA=>decide (z8=
 1)=decide (aA=1)->(dk [[z6],[((z7+(ax*z12))+1)],[aA]]/\cT [[z6],[((z7+(ax*z12))+1)],[aA]]<cT
 [[z6],[z7],[z8]])) ((ak (decide (av=41)) (bk (z7+bU) bP λz12=>af 39 [((z7+(ax*z12))+
 1),0,aZ]/\bC λaA=>decide (z8=1)=decide (aA=1)->(dk [[z6],[((z7+(ax*z12))+1)],[aA]]/\cT
 [[z6],[((z7+(ax*z12))+1)],[aA]]<cT [[z6],[z7],[z8]])) (K [[z0],[ae]] [[0],[2]]))))))))))))) ((ak (decide (av=32)) (bk (z7+
 bU) bP λz12=>af 39 [((z7+(ax*z12))+1),0,aZ]/\bC λaA=>decide (z8=
 1)=decide (aA=1)->(dk [[z6],[((z7+(ax*z12))+1)],[aA]]/\cT [[z6],[((z7+(ax*z12))+1)],[aA]]<cT
 [[z6],[z7],[z8]])) ((ak (decide (av=45)) (bk (z7+bU) bP λz12=>af 39 [((z7+(ax*z12))+
 1),0,aZ]/\bC λaA=>decide (z8=1)=decide (aA=1)->(dk [[z6],[((z7+(ax*z12))+1)],[aA]]/\cT
 [[z6],[((z7+(ax*z12))+1)],[aA]]<cT [[z6],[z7],[z8]])) ((ak (decide (av=46)) (bk (z7+bU) bP
 λz12=>af 39 [((z7+(ax*z12))+1),0,aZ]/\bC λaA=>decide (z8=1)=decide (aA=1)->(dk [[z6],[((z7+
 (ax*z12))+1)],[aA]]/\cT [[z6],[((z7+(ax*z12))+1)],[aA]]<cT [[z6],[z7],[z8]])) ((ak (decide (av=40))
 (bk (z7+bU) bP λz12=>af 39 [((z7+(ax*z12))+1),0,aZ]/\bC λaA=>
 decide (z8=1)=decide (aA=1)->(dk [[z6],[((z7+(ax*z12))+1)],[aA]]/\cT [[z6],[((z7+(ax*z12))+
 1)],[aA]]<cT [[z6],[z7],[z8]])) ((ak (decide (av=41)) (bk (z7+bU) bP λz12=>af 39 [((z7+
 (ax*z12))+1),0,aZ]/\bC λaA=>decide (z8=1)=decide (aA=1)->(dk [[z6],[((z7+(ax*
 z12))+1)],[aA]]/\cT [[z6],[((z7+(ax*z12))+1)],[aA]]<cT [[z6],[z7],[z8]])) (K [[z0],[ae]] [[0],[2]]))))))))))))) ((ak (decide
 (av=32)) (bk (z7+bU) bP λaj=>af 39 [((z7+(ax*aj))+1),0,aZ]/\bC λ
 z12=>decide (z8=1)=decide (z12=1)->(dk [[z6],[((z7+(ax*aj))+1)],[z12]]/\cT [[z6],[((z7+(ax*aj))
 +1)],[z12]]<cT [[z6],[z7],[z8]])) ((ak (decide (av=45)) (bk (z7+bU) bP λaj=>af 39 [((z7+
 (ax*aj))+1),0,aZ]/\bC λz12=>decide (z8=1)=decide (z12=1)->(dk [[z6],[((z7+(ax*
 aj))+1)],[z12]]/\cT [[z6],[((z7+(ax*aj))+1)],[z12]]<cT [[z6],[z7],[z8]])) ((ak (decide (av=46)) (bk (z7+
 bU) bP λaj=>af 39 [((z7+(ax*aj))+1),0,aZ]/\bC λz12=>decide (z8=
 1)=decide (z12=1)->(dk [[z6],[((z7+(ax*aj))+1)],[z12]]/\cT [[z6],[((z7+(ax*aj))+1)],[z12]]<cT
 [[z6],[z7],[z8]])) ((ak (decide (av=40)) (bk (z7+bU) bP λaj=>af 39 [((z7+(ax*aj))+
 1),0,aZ]/\bC λz12=>decide (z8=1)=decide (z12=1)->(dk [[z6],[((z7+(ax*aj))+1)],[z12]]/\cT
 [[z6],[((z7+(ax*aj))+1)],[z12]]<cT [[z6],[z7],[z8]])) ((ak (decide (av=41)) (bk (z7+bU) bP
 λaj=>af 39 [((z7+(ax*aj))+1),0,aZ]/\bC λz12=>decide (z8=1)=decide (z12=1)->(dk [[z6],[((z7+
 (ax*aj))+1)],[z12]]/\cT [[z6],[((z7+(ax*aj))+1)],[z12]]<cT [[z6],[z7],[z8]])) (K [[z0],[ae]]
 [[0],[2]]))))))))))))))) ((ak ((!(decide (z8=1)))) (cf 4 [z0,0] λav=>(ak ((!(decide (av=1)))) ((ak (decide (z3=1)) (aI 0 [z6] λaj=>(ak
 (decide (0<aj)) (af 1 [z6,0]/\bF 1 [z6,0] λz12=>(ak (decide (z12=48)) (aI 0 [z6] λaA=>af 2 [z6,1,aA]/\b8 2 [z6,1,aA] λaB=>af
 3 [z2,aB]/\b8 3 [z2,aB] λau=>aI 0 [au] λaT=>(ak (decide (aT<6)) (K [[z0],[ae]] [[0],[2]]) (aI 0 [au] λbz=>(ak (decide (15<bz))
 (K [[z0],[ae]] [[0],[2]]) (af 1 [au,0]/\bF 1 [au,0] λaF=>(ak (decide (aF=48)) (K [[z0],[ae]] [[0],[2]]) (K [[z0],[ae]] [[au],[0]]))))))) (af 3
 [z2,z6]/\b8 3 [z2,z6] λaA=>aI 0 [aA] λaB=>(ak (decide (aB<6)) (K [[z0],[ae]] [[0],[2]]) (aI 0 [aA] λau=>(ak (decide (15<au)) (K
 [[z0],[ae]] [[0],[2]]) (af 1 [aA,0]/\bF 1 [aA,0] λaT=>(ak (decide (aT=48)) (K [[z0],[ae]] [[0],[2]]) (K [[z0],[ae]] [[aA],[0]]))))))))) (af 3
 [z2,z6]/\b8 3 [z2,z6] λz12=>aI 0 [z12] λaA=>(ak (decide (aA<6)) (K [[z0],[ae]] [[0],[2]]) (aI 0 [z12] λaB=>(ak (decide (15<aB)) (K
 [[z0],[ae]] [[0],[2]]) (af 1 [z12,0]/\bF 1 [z12,0] λau=>(ak (decide (au=48)) (K [[z0],[ae]] [[0],[2]]) (K [[z0],[ae]] [[z12],[0]]))))))))) (af 3
 [z2,z6]/\b8 3 [z2,z6] λaj=>aI 0 [aj] λz12=>(ak (decide (z12<6)) (K [[z0],[ae]] [[0],[2]]) (aI 0 [aj] λaA=>(ak (decide (15<aA)) (K
 [[z0],[ae]] [[0],[2]]) (af 1 [aj,0]/\bF 1 [aj,0] λaB=>(ak (decide (aB=48)) (K [[z0],[ae]] [[0],[2]]) (K [[z0],[ae]] [[aj],[0]]))))))))) (aI 0
 [z6] λaj=>(ak (decide (aj<6)) (K [[z0],[ae]] [[0],[2]]) (aI 0 [z6] λz12=>(ak (decide (15<z12)) (K [[z0],[ae]] [[0],[2]]) (af 1 [z6,0]/\bF 1
 [z6,0] λaA=>(ak (decide (aA=48)) (K [[z0],[ae]] [[0],[2]]) (K [[z0],[ae]] [[z6],[0]]))))))))) (aI 0 [z6] λav=>(ak (decide (av<6)) (K
 [[z0],[ae]] [[0],[2]]) (aI 0 [z6] λaj=>(ak (decide (15<aj)) (K [[z0],[ae]] [[0],[2]]) (af 1 [z6,0]/\bF 1 [z6,0] λz12=>(ak (decide (z12=48))
 (K [[z0],[ae]] [[0],[2]]) (K [[z0],[ae]] [[z6],[0]]))))))))))))))
def wP (ae:Int) (bl:List (List Int)):Prop:=∃(i:Nat) (d p:Int),bl=[[d],[(i:Int)],[p]]/\i<=(U ae).length/\(U d).length<=i/\ea ((U ae).drop i) (U d) (decide (p=1))=ea (U ae) [] false
def Gw (ae:Int) (bl:List (List Int)):Nat:=(U ae).length-((bl.getD 1 []).getD 0 0).toNat
theorem wP.next {ae d d' p p':Int} {i:Nat} (h1:ae<=bp) (hi:i<(U ae).length) (hd:(U d').length<=i+1) (hb:ea ((U ae).drop (i+1)) (U d') (decide (p'=1))=ea (U ae) [] false):wP ae [[d'],[(i:Int)+1],[p']]/\Gw ae [[d'],[(i:Int)+1],[p']]<Gw ae [[d],[(i:Int)],[p]]:=by
 refine⟨⟨i+1,d',p',by simp,by omega,hd,hb⟩,?_⟩;show(U ae).length-((i:Int)+1).toNat<(U ae).length-(i:Int).toNat;omega
theorem S5 {s d:aq} {p:Bool} {i:Nat} (hi:i<s.length):ea (s.drop i) d p=cond (dM (s.getD i 0)) (ea (s.drop (i+1)) (d++[s.getD i 0]) p) (cond (s.getD i 0==43&&d.isEmpty&& !p) (ea (s.drop (i+1)) d true) (cond (nB.contains (s.getD i 0)) (ea (s.drop (i+1)) d p) none)):=by
 rw[qM s i hi,ea]
theorem apT {So:Prop} {I:List (List Int)->Prop} {M:List (List Int)->Nat} {ae z6 z8 av:Int} {i:Nat} {c:UInt8} (h1:ae<=bp) (hi:i<(U ae).length) (hc:av=(c.toNat:Int))
 (hK:nB.contains c=false->So) (hA:nB.contains c=true->∀aA:Int,decide (z8=1)=decide (aA=1)->I [[z6],[(i:Int)+1],[aA]]/\M [[z6],[(i:Int)+1],[aA]]<M [[z6],[(i:Int)],[z8]]):
   (((decide (av=32))=true->
    ∀aj:Int,0<=aj->aj<=1->0<=((i:Int)+9223372036854775809)-18446744073709551616*aj->((i:Int)+9223372036854775809)-18446744073709551616*aj<18446744073709551616->
    af 39 [(((i:Int)+((-18446744073709551616)*aj))+1),0,9223372036854775807]/\
    ∀z12:Int,0<=z12->z12<=1->decide (z8=1)=decide (z12=1)->
    (I [[z6],[(((i:Int)+((-18446744073709551616)*aj))+1)],[z12]]/\M [[z6],[(((i:Int)+((-18446744073709551616)*aj))+1)],[z12]]<M [[z6],[(i:Int)],[z8]])
   )/\((decide (av=32))=false->
    (((decide (av=45))=true->
     ∀aj:Int,0<=aj->aj<=1->0<=((i:Int)+9223372036854775809)-18446744073709551616*aj->((i:Int)+9223372036854775809)-18446744073709551616*aj<18446744073709551616->
     af 39 [(((i:Int)+((-18446744073709551616)*aj))+1),0,9223372036854775807]/\
     ∀z12:Int,0<=z12->z12<=1->decide (z8=1)=decide (z12=1)->
     (I [[z6],[(((i:Int)+((-18446744073709551616)*aj))+1)],[z12]]/\M [[z6],[(((i:Int)+((-18446744073709551616)*aj))+1)],[z12]]<M [[z6],[(i:Int)],[z8]])
    )/\((decide (av=45))=false->
     (((decide (av=46))=true->
      ∀aj:Int,0<=aj->aj<=1->0<=((i:Int)+9223372036854775809)-18446744073709551616*aj->((i:Int)+9223372036854775809)-18446744073709551616*aj<18446744073709551616->
      af 39 [(((i:Int)+((-18446744073709551616)*aj))+1),0,9223372036854775807]/\
      ∀z12:Int,0<=z12->z12<=1->decide (z8=1)=decide (z12=1)->
      (I [[z6],[(((i:Int)+((-18446744073709551616)*aj))+1)],[z12]]/\M [[z6],[(((i:Int)+((-18446744073709551616)*aj))+1)],[z12]]<M [[z6],[(i:Int)],[z8]])
     )/\((decide (av=46))=false->
      (((decide (av=40))=true->
       ∀aj:Int,0<=aj->aj<=1->0<=((i:Int)+9223372036854775809)-18446744073709551616*aj->((i:Int)+9223372036854775809)-18446744073709551616*aj<18446744073709551616->
       af 39 [(((i:Int)+((-18446744073709551616)*aj))+1),0,9223372036854775807]/\
       ∀z12:Int,0<=z12->z12<=1->decide (z8=1)=decide (z12=1)->
       (I [[z6],[(((i:Int)+((-18446744073709551616)*aj))+1)],[z12]]/\M [[z6],[(((i:Int)+((-18446744073709551616)*aj))+1)],[z12]]<M [[z6],[(i:Int)],[z8]])
      )/\((decide (av=40))=false->
       (((decide (av=41))=true->
        ∀aj:Int,0<=aj->aj<=1->0<=((i:Int)+9223372036854775809)-18446744073709551616*aj->((i:Int)+9223372036854775809)-18446744073709551616*aj<18446744073709551616->
        af 39 [(((i:Int)+((-18446744073709551616)*aj))+1),0,9223372036854775807]/\
        ∀z12:Int,0<=z12->z12<=1->decide (z8=1)=decide (z12=1)->
        (I [[z6],[(((i:Int)+((-18446744073709551616)*aj))+1)],[z12]]/\M [[z6],[(((i:Int)+((-18446744073709551616)*aj))+1)],[z12]]<M [[z6],[(i:Int)],[z8]])
       )/\((decide (av=41))=false->
        So
       ))
      ))
     ))
    ))
   )):=by
 have bW:=uw h1;have DM:nB.contains c=true->∀q:Int,0<=q->q<=1->0<=((i:Int)+9223372036854775809)-18446744073709551616*q->((i:Int)+9223372036854775809)-18446744073709551616*q<18446744073709551616->
  af 39 [(((i:Int)+((-18446744073709551616)*q))+1),0,9223372036854775807]/\∀z12:Int,0<=z12->z12<=1->decide (z8=1)=decide (z12=1)->
   (I [[z6],[(((i:Int)+((-18446744073709551616)*q))+1)],[z12]]/\M [[z6],[(((i:Int)+((-18446744073709551616)*q))+1)],[z12]]<M [[z6],[(i:Int)],[z8]]):=λhs q q0 q1 q2 q3=>by
  rw[mr (L:=((U ae).length:Int)) (by omega) bW (rS _) q0 q2];exact⟨⟨by omega,by omega⟩,λz12 _ _ h=>hA hs z12 h⟩
 have pY:∀n:Int,0<=n->n<=255->decide (av=n)=(c==u8 n):=λn h0 h1=>by
  rw[iG,decide_eq_true_eq,hc,qq h0 h1]
 rw[pY 32 (by decide) (by decide),pY 45 (by decide) (by decide),pY 46 (by decide) (by decide),pY 40 (by decide) (by decide),pY 41 (by decide) (by decide)];refine⟨λh=>DM ?_,λh1=>⟨λh=>DM ?_,λh2=>⟨λh=>DM ?_,λh3=>⟨λh=>DM ?_,λh4=>⟨λh=>DM ?_,λh5=>hK ?_⟩⟩⟩⟩⟩
 ·rw[beq_iff_eq.1 h];decide
 ·rw[beq_iff_eq.1 h];decide
 ·rw[beq_iff_eq.1 h];decide
 ·rw[beq_iff_eq.1 h];decide
 ·rw[beq_iff_eq.1 h];decide
 ·have e:nB=[u8 32,u8 45,u8 46,u8 40,u8 41]:=by decide
  rw[e];simp only[List.contains_cons,h1,h2,h3,h4,h5];rfl
theorem Mh {w c t:aq} (h:iJ w=some (c,t)):t=[]∨t=[48]:=by
 unfold iJ at h;cases h0:(w==[])with
 |true=>rw[h0,cond_true]at h;simp only[aL,ct]at h;rw[<-h.2];decide
 |false=>
  rw[h0,cond_false]at h;cases h1:(w==[71,66])with
  |true=>rw[h1,cond_true]at h;simp only[aL,ct]at h;rw[<-h.2];decide
  |false=>
   rw[h1,cond_false]at h;cases h2:(w==[85,83])with
   |true=>rw[h2,cond_true]at h;simp only[aL,ct]at h;rw[<-h.2];decide
   |false=>
    rw[h2,cond_false]at h;cases h3:(w==[68,69])with
    |true=>rw[h3,cond_true]at h;simp only[aL,ct]at h;rw[<-h.2];decide
    |false=>
     rw[h3,cond_false]at h;cases h4:(w==[70,82])with
     |true=>rw[h4,cond_true]at h;simp only[aL,ct]at h;rw[<-h.2];decide
     |false=>
      rw[h4,cond_false]at h;cases h5:(w==[67,72])with
      |true=>rw[h5,cond_true]at h;simp only[aL,ct]at h;rw[<-h.2];decide
      |false=>
       rw[h5,cond_false]at h;cases h
theorem an4:K2 SB (aW SB [.str,.int .i64 0 21] 13):=by
 delta K2 ak bk dC aI bt b8 bF bC cf bP ax aZ bU;dsimp only
 intro z0 a0 a1 ae b0 b1 hq z2 x0 x1 z3 uQ kL z4 bA c1 hc;have hid:∀a e,(U a,e)=jj (U z0) (U ae)->SB 13 [[z0],[ae]] [[a],[e]]:=λ_ _ h=>h;have hq:U z0=[]∨(U ae).length<=4294967280:=hq;have hc:(match iJ (U z0)with|some (code,fV)=>U z2=code/\z3=aN (!fV.isEmpty)/\z4=1|none=>U z2=[]/\z3=0/\z4=0):=hc;have aU:∀e:Int,0<=e->e<=21->jj (U z0) (U ae)=([],e)->aW SB [.str,.int .i64 0 21] 13 [[z0],[ae]] [[0],[e]]:=λe e0 e1 h=>vQ (bB _) fZ e0 e1 (hid _ _ (by rw[h];rfl));cases gN:iJ (U z0)with
 |none=>
  rw[gN]at hc;obtain⟨_,_,rfl⟩:=hc;exact⟨λ_=>aU 7 (by decide) (by decide) (by unfold jj;rw[gN]),λh=>by simp at h⟩
 |some tK=>
  obtain⟨code,fV⟩:=tK;rw[gN]at hc;obtain⟨p6,Ew,rfl⟩:=hc;refine⟨λh=>by simp at h,λ_=>⟨wP ae,Gw ae,⟨0,0,0,rfl,iF _,iF _,rfl⟩,?_⟩⟩
  rintro z6 d0 d1 z7 e0 e1 z8 f0 f1 ⟨i,d,p,e,hi,Ny,hb⟩ z9 g0 g1 a8
  obtain⟨rfl,rfl,rfl⟩:z6=d/\z7=i/\z8=p:=by simpa using e
  simp only[aw]at a8;have bW:=uw b1;refine⟨λhp=>?_,λhp=>?_⟩
  ·have hp:(i:Int)<z9:=by simpa using hp
   have hlt:i<(U ae).length:=by omega
   refine⟨⟨e0,by omega⟩,λav i0 i1 dg=>?_⟩;have dg:av=(((U ae).getD i 0).toNat:Int):=by rw[dg];simp only[aw,eW]
   have hst:=S5 (s:=U ae) (d:=U z6) (p:=decide (z8=1)) hlt;rw[hst]at hb;have hD:dM ((U ae).getD i 0)=(decide (48<=av)&&decide (av<=57)):=by
    rw[dg];unfold dM;rw[iG];simp[pH];omega
   have zP:decide (av=43)=((U ae).getD i 0==43):=by
    rw[iG,decide_eq_true_eq,dg,qq (z:=43) (by decide) (by decide)];rfl
   have jU:ea (U ae) [] false=none->aW SB [.str,.int .i64 0 21] 13 [[z0],[ae]] [[0],[2]]:=λh=>aU 2 (by decide) (by decide) (by unfold jj;rw[gN];simp only[h]);have hs:dM ((U ae).getD i 0)=false->((U ae).getD i 0==43&&(U z6).isEmpty&& !decide (z8=1))=false->_:=λEd VN=>
    apT (I:=wP ae) (M:=Gw ae) (z6:=z6) (z8:=z8) b1 hlt dg (λOi=>jU (by rw[<-hb,Ed,VN,Oi];rfl)) (λOi aA dK=>wP.next (d:=z6) (p:=z8) b1 hlt (by omega) (by rw[<-dK,<-hb,Ed,VN,Oi];rfl))
   refine⟨λhA=>⟨λhB q q0 q1 q2 q3=>?_,λhB=>?_⟩,λhA=>?_⟩
   ·rw[hA,hB]at hD;rw[mr (L:=z9) hp g1 e0 q0 q2];refine⟨⟨e0,by omega,by omega⟩,λz12 fS da dJ=>?_⟩;have C4:U z12=[(U ae).getD i 0]:=by
     rw[dJ];simp only[aw,dZ];rw[show(i:Int).toNat=i by omega,show((i:Int)+1).toNat-i=1 by omega,qM _ _ hlt];rfl
    refine⟨?_,λaA e7 k1 dK q' Js Fb v8 yH=>?_⟩
    ·show(U z6).length+(U z12).length<=eN;have hm:=rW b1;rw[C4];simp;omega
    ·have vu:U aA=U z6++[(U ae).getD i 0]:=by rw[dK];simp only[aw,dZ,C4]
     rw[mr (L:=z9) hp g1 e0 Js v8];refine⟨⟨by omega,by omega⟩,λau l0 l1 eZ=>wP.next (d:=z6) (p:=z8) b1 hlt (by rw[vu];simp;omega) ?_⟩;rw[<-eZ,vu,<-hb,hD];rfl
   ·refine jU ?_;have MR:¬av<=57:=by simpa using hB
    rw[hB,Bool.and_false]at hD;have XD:((U ae).getD i 0==43)=false:=by rw[<-zP];simp;omega
    rw[<-hb,hD,XD];have:nB.contains ((U ae).getD i 0)=false:=by
     cases ah:nB.contains ((U ae).getD i 0)with
     |false=>rfl
     |true=>
      exfalso;have hm:(U ae).getD i 0∈nB:=by simpa using ah
      have:∀c∈nB,c.toNat<=57:=by decide
      have:=this _ hm;omega
    rw[this];rfl
   ·rw[hA,Bool.false_and]at hD;rw[zP];refine⟨λtT aj fS da dF=>?_,λtT=>hs hD (by rw[tT];rfl)⟩;rw[eq_nil dF];have agI:(U z6==[])=(U z6).isEmpty:=by cases U z6<;>rfl
    rw[agI];refine⟨λhe=>⟨λN8 q q0 q1 q2 q3=>?_,λN8=>hs hD (by rw[N8];simp)⟩,λhe=>hs hD (by rw[he];simp)⟩;rw[mr (L:=z9) hp g1 e0 q0 q2];refine⟨⟨by omega,by omega⟩,wP.next (d:=z6) (p:=z8) b1 hlt (by omega) ?_⟩;rw[<-hb,hD,tT,he,N8];rfl
  ·have hp:¬(i:Int)<z9:=by simpa using hp
   rw[F6 (by omega)]at hb;have sj:ea (U ae) [] false=some (U z6,decide (z8=1)):=by rw[<-hb,ea]
   have hf:jj (U z0) (U ae)=sP (qk (U z0) code fV (U z6) (decide (z8=1))):=by unfold jj;rw[gN];simp only[sj]
   have gY:=Mg gN;refine⟨λh8 av i0 i1 dg=>?_,λh8=>yC (z:=0) _ 13 hid d0 d1 (by rw[hf];unfold qk;rw[h8];rfl)⟩;rw[eq_nil dg];refine⟨λhw=>?_,λhw=>yC (z:=0) _ 13 hid d0 d1 (by
    rw[hf];unfold qk;have hw:(!(U z0==[]))=false:=hw;rw[h8,hw];rfl)⟩
   have hw:(!(U z0==[]))=true:=hw;have hN:qk (U z0) code fV (U z6) (decide (z8=1))=code++cond (fV.isPrefixOf (U z6)) ((U z6).drop fV.length) (U z6):=by unfold qk;rw[h8,hw];rfl
   rw[hN]at hf;have HU:∀x:Int,(U x).length<=(U z6).length->af 3 [z2,x]:=λx hx=>by
    show(U z2).length+(U x).length<=eN;have hq:(U ae).length<=4294967280:=by
     rcases hq with h|h
     ·rw[h]at hw;cases hw
     ·exact h
    rw[p6];unfold eN;omega
   have same:cond (fV.isPrefixOf (U z6)) ((U z6).drop fV.length) (U z6)=U z6->af 3 [z2,z6]/\∀aA:Int,0<=aA->aA<=bp->aA=aw 3 [z2,z6]->_:=λvG=>⟨HU z6 (aV _),λaA fS da dK=>yC (z:=0) _ 13 hid fS da (by
    rw[hf,vG,dK];simp only[aw,dZ,p6])⟩
   rw[fF Ew];refine⟨λht aj fS da dF=>?_,λht=>same ?_⟩
   ·have Oj:fV=[48]:=by
     rcases Mh gN with h|h
     ·rw[h]at ht;cases ht
     ·exact h
    simp only[aw]at dF;refine⟨λgP=>⟨⟨bB _,?_⟩,λz12 e7 k1 dJ=>?_⟩,λgP=>same ?_⟩
    ·have gP:0<aj:=by simpa using gP
     omega
    ·have gP:0<aj:=by simpa using gP
     rw[tH (n:=48) (k:=0) rfl (by decide) (by decide) dJ];cases h6:U z6 with
     |nil=>rw[h6]at dF;simp at dF;omega
     |cons x r=>
      refine⟨λsg aA l0 l1 dK=>?_,λsg=>?_⟩
      ·have hx:x=48:=beq_iff_eq.1 sg;simp only[aw,h6,cW]at dK;refine⟨⟨by omega,by omega,by rw[h6];simp;omega⟩,λaB m0 fT eM=>?_⟩;have qN:U aB=r:=by
        rw[eM];simp only[aw,dZ,h6];rw[show(1:Int).toNat=1 from rfl,Rd,Re];exact kr (by omega)
       refine⟨HU aB (by rw[qN,h6];simp),λau n0 n1 eZ=>yC (z:=0) _ 13 hid n0 n1 ?_⟩;rw[hf,eZ];simp only[aw,dZ,p6,qN,Oj,h6,hx];simp
      ·have hx:(x==48)=false:=sg;have:=same (by rw[Oj,h6];simp[List.isPrefixOf,Bool.beq_comm,hx]);exact this
    ·have gP:¬0<aj:=by simpa using gP
     cases h6:U z6 with
     |nil=>rw[Oj];rfl
     |cons x r=>rw[h6]at dF;simp at dF;omega
   ·have ri:fV=[]:=by
     rcases Mh gN with h|h
     ·exact h
     ·rw[h]at ht;cases ht
    rw[ri];simp
end Go.bE
namespace Go.bE
open Go Go.ba
def KS (S:zzS) (K:zzK):Prop:=
 bt λz0=>bt λae=>cf 4 [z0,477315081741] λz2=>(ak (decide (z2=1)) (bt λz3=>bN 0 21 λz4=>S 10 [[ae]] [[z3],[z4]]->(ak ((!(decide (z4=
 0)))) (K [[z0],[ae]] [[0,0],[z4]]) (K [[z0],[ae]] [[z0,z3],[0]]))) (cf 4 [z0,124890778723732] λz3=>(ak (decide (z3=1)) (af 44 [0,ae]/\bt λz4=>bN
 0 21 λz5=>S 12 [[0],[ae]] [[z4],[z5]]->(ak ((!(decide (z5=0)))) (K [[z0],[ae]] [[0,0],[z5]]) (K [[z0],[ae]] [[z0,z4],[0]]))) (K [[z0],[ae]]
 [[0,0],[1]]))))
def K1 (S:zzS) (K:zzK):Prop:=
 bt λz0=>bt λae=>cf 4 [z0,477315081741] λz2=>(ak (decide (z2=1)) (bt λz3=>bN 0 21 λz4=>S 11 [[ae]] [[z3],[z4]]->(ak ((!(decide (z4=
 0)))) (K [[z0],[ae]] [[0,0],[z4]]) (K [[z0],[ae]] [[z0,z3],[0]]))) (cf 4 [z0,124890778723732] λz3=>(ak (decide (z3=1)) (af 44 [0,ae]/\bt λz4=>bN
 0 21 λz5=>S 13 [[0],[ae]] [[z4],[z5]]->(ak ((!(decide (z5=0)))) (K [[z0],[ae]] [[0,0],[z5]]) (K [[z0],[ae]] [[z0,z4],[0]]))) (K [[z0],[ae]]
 [[0,0],[1]]))))
def KY (S:zzS) (K:zzK):Prop:=
 ∀r0:List Int,bd (hW 0 bp 2) r0->∀r2:List Int,bd (hW 0 bp 2) r2->bN 0 21 λz4=>S 15 [[(aC r0 0 0)],[(aC r0 1 0)]] [r2,[z4]]->
 (ak (decide (z4=0)) (cf 4 [(aC r0 0 0),(aC r2 0 0)] λz5=>cf 4 [(aC r0 1 0),(aC r2 1 0)] λz6=>K [r0] [[(cond (decide
 ([z5,z6]=[1,1])) 1 0)]]) (K [r0] [[(cond (false) 1 0)]]))
def K3 (S:zzS) (K:zzK):Prop:=
 ∀r0:List Int,bd (hW 0 bp 2) r0->∀r2:List Int,bd (hW 0 bp 2) r2->bN 0 21 λz4=>S 18 [[(aC r0 0 0)],[(aC r0 1 0)]] [r2,[z4]]->
 (ak (decide (z4=0)) (cf 4 [(aC r0 0 0),(aC r2 0 0)] λz5=>cf 4 [(aC r0 1 0),(aC r2 1 0)] λz6=>K [r0] [[(cond (decide
 ([z5,z6]=[1,1])) 1 0)]]) (K [r0] [[(cond (false) 1 0)]]))
theorem WO:U 477315081741=qO:=by decide+kernel
theorem WQ:U 124890778723732=rz:=by decide+kernel
theorem WW {id:Nat} {zs:List (List Int)} {a b e:Int} (a0:0<=a) (a1:a<=bp) (b0:0<=b) (b1:b<=bp) (e0:0<=e) (e1:e<=21) (h:SB id zs [[a,b],[e]]):aW SB [.mix [.str,.str],.int .i64 0 21] id zs [[a,b],[e]]:=⟨⟨a0,a1,b0,b1,e0,e1,trivial⟩,h⟩
theorem anO:KS SB (aW SB [.mix [.str,.str],.int .i64 0 21] 15):=by
 delta KS ak bN bt cf;dsimp only
 intro z0 a0 a1 ae b0 b1 z2 bA c1 h2;have aU:∀a b e:Int,0<=a->a<=bp->0<=b->b<=bp->0<=e->e<=21->(U a,U b,e)=ld (U z0) (U ae)->aW SB [.mix [.str,.str],.int .i64 0 21] 15 [[z0],[ae]] [[a,b],[e]]:=λa b e h1 h2 h3 h4 h5 h6 h=>WW h1 h2 h3 h4 h5 h6 h;rw[iL h2,WO];refine⟨λjN z3 d0 d1 z4 e0 e1 h=>?_,λjN z3 d0 d1 h3=>?_⟩
 ·have hm:(U z0==qO)=true:=by simpa using jN
  have h:(U z3,z4)=lC (U ae):=h;have hM:ld (U z0) (U ae)=nz (U z0) (U z3,z4):=by unfold ld;rw[hm,<-h];rfl
  refine⟨λhz=>aU 0 0 z4 (bB _) fZ (bB _) fZ e0 e1 ?_,λhz=>aU z0 z3 0 a0 a1 d0 d1 (by decide) (by decide) ?_⟩
  ·rw[hM];unfold nz;rw[show decide (z4=0)=false by simpa using hz];rfl
  ·rw[hM];unfold nz;rw[show decide (z4=0)=true by simpa using hz];rfl
 ·have hm:(U z0==qO)=false:=by
   have:¬U z0=qO:=by simpa using jN
   simpa using this
  rw[iL h3,WQ];refine⟨λbX=>⟨.inl (by decide),λz4 e0 e1 z5 f0 f1 h=>?_⟩,λbX=>aU 0 0 1 (bB _) fZ (bB _) fZ (by decide) (by decide) ?_⟩
  ·have hs:(U z0==rz)=true:=by simpa using bX
   have h:(U z4,z5)=jj (U 0) (U ae):=h;have hM:ld (U z0) (U ae)=nz (U z0) (U z4,z5):=by unfold ld;rw[hm,hs,h];rfl
   refine⟨λhz=>aU 0 0 z5 (bB _) fZ (bB _) fZ f0 f1 ?_,λhz=>aU z0 z4 0 a0 a1 e0 e1 (by decide) (by decide) ?_⟩
   ·rw[hM];unfold nz;rw[show decide (z5=0)=false by simpa using hz];rfl
   ·rw[hM];unfold nz;rw[show decide (z5=0)=true by simpa using hz];rfl
  ·have hs:(U z0==rz)=false:=by
    have:¬U z0=rz:=by simpa using bX
    simpa using this
   unfold ld;rw[hm,hs];rfl
theorem an3:K1 SB (aW SB [.mix [.str,.str],.int .i64 0 21] 18):=by
 delta K1 ak bN bt cf;dsimp only
 intro z0 a0 a1 ae b0 b1 z2 bA c1 h2;have aU:∀a b e:Int,0<=a->a<=bp->0<=b->b<=bp->0<=e->e<=21->(U a,U b,e)=ld (U z0) (U ae)->aW SB [.mix [.str,.str],.int .i64 0 21] 18 [[z0],[ae]] [[a,b],[e]]:=λa b e h1 h2 h3 h4 h5 h6 h=>WW h1 h2 h3 h4 h5 h6 h;rw[iL h2,WO];refine⟨λjN z3 d0 d1 z4 e0 e1 h=>?_,λjN z3 d0 d1 h3=>?_⟩
 ·have hm:(U z0==qO)=true:=by simpa using jN
  have h:(U z3,z4)=lC (U ae):=h;have hM:ld (U z0) (U ae)=nz (U z0) (U z3,z4):=by unfold ld;rw[hm,<-h];rfl
  refine⟨λhz=>aU 0 0 z4 (bB _) fZ (bB _) fZ e0 e1 ?_,λhz=>aU z0 z3 0 a0 a1 d0 d1 (by decide) (by decide) ?_⟩
  ·rw[hM];unfold nz;rw[show decide (z4=0)=false by simpa using hz];rfl
  ·rw[hM];unfold nz;rw[show decide (z4=0)=true by simpa using hz];rfl
 ·have hm:(U z0==qO)=false:=by
   have:¬U z0=qO:=by simpa using jN
   simpa using this
  rw[iL h3,WQ];refine⟨λbX=>⟨.inl (by decide),λz4 e0 e1 z5 f0 f1 h=>?_⟩,λbX=>aU 0 0 1 (bB _) fZ (bB _) fZ (by decide) (by decide) ?_⟩
  ·have hs:(U z0==rz)=true:=by simpa using bX
   have h:(U z4,z5)=jj (U 0) (U ae):=h;have hM:ld (U z0) (U ae)=nz (U z0) (U z4,z5):=by unfold ld;rw[hm,hs,h];rfl
   refine⟨λhz=>aU 0 0 z5 (bB _) fZ (bB _) fZ f0 f1 ?_,λhz=>aU z0 z4 0 a0 a1 e0 e1 (by decide) (by decide) ?_⟩
   ·rw[hM];unfold nz;rw[show decide (z5=0)=false by simpa using hz];rfl
   ·rw[hM];unfold nz;rw[show decide (z5=0)=true by simpa using hz];rfl
  ·have hs:(U z0==rz)=false:=by
    have:¬U z0=rz:=by simpa using bX
    simpa using this
   unfold ld;rw[hm,hs];rfl
theorem anZ:KY SB (aW SB [.bool] 16):=by
 delta KY ak bN cf;dsimp only
 intro r0 h0;obtain⟨a,b,rfl,_⟩:=uK h0;have aU:∀x:Bool,lf (U a) (U b)=x->aW SB [.bool] 16 [[a,b]] [[aN x]]:=λx h=>lL (by show aN x=aN (lf (U a) (U b));rw[h])
 refineλr2 h2 z4 bA c1 hM=>?_
 obtain⟨c,d,rfl,_⟩:=uK h2;have hM:(U c,U d,z4)=ld (U a) (U b):=hM;have hR:lf (U a) (U b)=(decide (z4=0)&&(U a==U c)&&(U b==U d)):=by unfold lf;rw[<-hM]
 refine⟨λhz z5 d0 d1 h5 z6 e0 e1 h6=>?_,λhz=>aU false (by rw[hR,hz];rfl)⟩;have h5:z5=aw 4 [a,c]:=h5;have h6:z6=aw 4 [b,d]:=h6;have oM:=iL h5;have lA:=iL h6;refine aU _ ?_;rw[hR,hz,wF,iG];have C9:z5=1↔U a=U c:=by rw[<-decide_eq_true_eq (p:=z5=1),oM,decide_eq_true_eq]
 have Da:z6=1↔U b=U d:=by rw[<-decide_eq_true_eq (p:=z6=1),lA,decide_eq_true_eq]
 simp only[aO,beq_iff_eq,decide_eq_true_eq,lp,and_true,C9,Da]
theorem an5:K3 SB (aW SB [.bool] 19):=by
 delta K3 ak bN cf;dsimp only
 intro r0 h0;obtain⟨a,b,rfl,_⟩:=uK h0;have aU:∀x:Bool,lf (U a) (U b)=x->aW SB [.bool] 19 [[a,b]] [[aN x]]:=λx h=>lL (by show aN x=aN (lf (U a) (U b));rw[h])
 refineλr2 h2 z4 bA c1 hM=>?_
 obtain⟨c,d,rfl,_⟩:=uK h2;have hM:(U c,U d,z4)=ld (U a) (U b):=hM;have hR:lf (U a) (U b)=(decide (z4=0)&&(U a==U c)&&(U b==U d)):=by unfold lf;rw[<-hM]
 refine⟨λhz z5 d0 d1 h5 z6 e0 e1 h6=>?_,λhz=>aU false (by rw[hR,hz];rfl)⟩;have h5:z5=aw 4 [a,c]:=h5;have h6:z6=aw 4 [b,d]:=h6;have oM:=iL h5;have lA:=iL h6;refine aU _ ?_;rw[hR,hz,wF,iG];have C9:z5=1↔U a=U c:=by rw[<-decide_eq_true_eq (p:=z5=1),oM,decide_eq_true_eq]
 have Da:z6=1↔U b=U d:=by rw[<-decide_eq_true_eq (p:=z6=1),lA,decide_eq_true_eq]
 simp only[aO,beq_iff_eq,decide_eq_true_eq,lp,and_true,C9,Da]
end Go.bE
namespace Go.bE
open Go Go.ba
def Sf (S:zzS) (K:zzK):Prop:=
 bt λz0=>cf 4 [z0,0] λae=>(ak (decide (ae=1)) (K [[z0]] [[z0]]) (∃(fD:List (List Int)->Prop) (iT:List (List Int)->Nat),fD [[z0]]/\(bt λ
 z3=>fD [[z3]]->aI 0 [z3] λz4=>(ak (decide (0<z4)) (aI 0 [z3] λz5=>af 1 [z3,(z5+(-1))]/\bF 1 [z3,(z5+(-1))] λz6=>cf 43
 [79221403731691789204265450354666987086070872538664503581038852739373042335165977954796146613462291367,z6] λz7=>(ak ((!(decide (z7=1)))) (∃(ei:List
 (List Int)->Prop) (fk:List (List Int)->Nat),ei [[z3]]/\(bt λz9=>ei [[z9]]->aI 0 [z9] λav=>(ak (decide (0<av)) (af 1 [z9,0]/\bF 1
 [z9,0] λaj=>cf 43 [79221403731691789204265450354666987086070872538664503581038852739373042335165977954796146613462291367,aj] λz12=>(ak ((!(decide
 (z12=1)))) (K [[z0]] [[z9]]) (aI 0 [z9] λaA=>af 2 [z9,1,aA]/\b8 2 [z9,1,aA] λaB=>(ei [[aB]]/\fk [[aB]]<fk [[z9]])))) (K [[z0]]
 [[z9]])))) (aI 0 [z3] λz8=>af 2 [z3,0,(z8+(-1))]/\b8 2 [z3,0,(z8+(-1))] λz9=>(fD [[z9]]/\iT [[z9]]<iT [[z3]])))) (∃(dk:List (List Int)
 ->Prop) (cT:List (List Int)->Nat),dk [[z3]]/\(bt λz6=>dk [[z6]]->aI 0 [z6] λz7=>(ak (decide (0<z7)) (af 1 [z6,0]/\bF 1 [z6,0] λz8
 =>cf 43 [79221403731691789204265450354666987086070872538664503581038852739373042335165977954796146613462291367,z8] λz9=>(ak ((!(decide (z9=1)))) (K
 [[z0]] [[z6]]) (aI 0 [z6] λav=>af 2 [z6,1,av]/\b8 2 [z6,1,av] λaj=>(dk [[aj]]/\cT [[aj]]<cT [[z6]])))) (K [[z0]] [[z6]]))))))))
def RP (S:zzS) (K:zzK):Prop:=
 bt λz0=>∃(wU:List (List Int)->Prop) (Gr:List (List Int)->Nat),wU [[0]]/\(dC λz2=>wU [[z2]]->aI 0 [z0] λz3=>(ak (decide (z2<z3))
 (af 1 [z0,z2]/\bF 1 [z0,z2] λz4=>(ak (decide (z4=58)) (K [[z0]] [[z2]]) (bk (z2+9223372036854775809) 18446744073709551616 λz5=>af 39 [((z2+
 ((-18446744073709551616)*z5))+1),0,9223372036854775807]/\(wU [[((z2+((-18446744073709551616)*z5))+1)]]/\Gr [[((z2+((-18446744073709551616)*z5))
 +1)]]<Gr [[z2]])))) (K [[z0]] [[(-1)]])))
def R6 (S:zzS) (K:zzK):Prop:=
 bt λz0=>ql λae=>S 204 [[z0]] [[ae]]->(ak (decide (ae<0)) (bC λz2=>S 30 [[z0]] [[z2]]->K [[z0]] [[(cond (decide (z2=1)) 1 0)]]) (bk (ae+
 9223372036854775809) 18446744073709551616 λz2=>aI 0 [z0] λz3=>af 2 [z0,((ae+((-18446744073709551616)*z2))+1),z3]/\b8 2 [z0,((ae+
 ((-18446744073709551616)*z2))+1),z3] λz4=>∃(dk:List (List Int)->Prop) (cT:List (List Int)->Nat),dk [[0]]/\(dC λz6=>dk [[z6]]->aI 0
 [z4] λz7=>(ak (decide (z6<z7)) (af 1 [z4,z6]/\bF 1 [z4,z6] λz8=>bC λz9=>S 52 [[z8]] [[z9]]->(ak ((!(decide (z9=1)))) (K [[z0]] [[(cond
 (false) 1 0)]]) (bk (z6+9223372036854775809) 18446744073709551616 λav=>af 39 [((z6+((-18446744073709551616)*av))+1),0,9223372036854775807]/\
 (dk [[((z6+((-18446744073709551616)*av))+1)]]/\cT [[((z6+((-18446744073709551616)*av))+1)]]<cT [[z6]])))) (af 2 [z0,0,ae]/\b8 2 [z0,0,ae]
 λz8=>bC λz9=>S 30 [[z8]] [[z9]]->(ak (decide (z9=1)) (aI 0 [z4] λav=>(ak (decide (1<=av)) (aI 0 [z4] λaj=>K [[z0]] [[(cond (decide
 (aj<=5)) 1 0)]]) (K [[z0]] [[(cond (false) 1 0)]]))) (K [[z0]] [[(cond (false) 1 0)]])))))))
def R3 (S:zzS) (K:zzK):Prop:=
 bt λz0=>bN 64 64 λae=>aI 0 [z0] λz2=>(ak (decide (z2=0)) (K [[z0],[ae]] [[0],[0],[(cond (false) 1 0)]]) (aI 0 [z0] λz3=>(ak (decide (255
 <z3)) (K [[z0],[ae]] [[0],[0],[(cond (false) 1 0)]]) (af 1 [z0,0]/\bF 1 [z0,0] λz4=>(ak ((!(decide (z4=ae)))) (K [[z0],[ae]] [[0],[0],[(cond (false)
 1 0)]]) (ql λz5=>S 204 [[z0]] [[z5]]->(ak (decide (z5<0)) (K [[z0],[ae]] [[0],[0],[(cond (false) 1 0)]]) (bk (z5+9223372036854775809)
 18446744073709551616 λz6=>aI 0 [z0] λz7=>af 2 [z0,((z5+((-18446744073709551616)*z6))+1),z7]/\b8 2 [z0,((z5+((-18446744073709551616)*
 z6))+1),z7] λz8=>bC λz9=>S 205 [[z8]] [[z9]]->(ak ((!(decide (z9=1)))) (K [[z0],[ae]] [[0],[0],[(cond (false) 1 0)]]) (af 2 [z0,1,z5]/\b8 2
 [z0,1,z5] λav=>bk (z5+9223372036854775809) 18446744073709551616 λaj=>aI 0 [z0] λz12=>af 2 [z0,((z5+((-18446744073709551616)*aj))+
 1),z12]/\b8 2 [z0,((z5+((-18446744073709551616)*aj))+1),z12] λaA=>K [[z0],[ae]] [[av],[aA],[(cond (true) 1 0)]]))))))))))
def R7 (S:zzS) (K:zzK):Prop:=
 bt λz0=>bt λae=>bt λz2=>bC λz3=>S 206 [[z0],[64]] [[ae],[z2],[z3]]->∃(eQ:List (List Int)->Prop) (et:List (List Int)->Nat),eQ [[0]]
 /\(dC λz5=>eQ [[z5]]->aI 0 [ae] λz6=>(ak (decide (z5<z6)) (af 1 [ae,z5]/\bF 1 [ae,z5] λz7=>bC λz8=>S 50 [[z7]] [[z8]]->(ak
 ((!(decide (z8=1)))) (bC λz9=>S 52 [[z7]] [[z9]]->(ak ((!(decide (z9=1)))) ((ak ((!(decide (z7=46)))) ((ak ((!(decide (z7=95)))) ((ak ((!(decide
 (z7=61)))) ((ak ((!(decide (z7=47)))) ((ak ((!(decide (z7=43)))) ((ak ((!(decide (z7=45)))) (K [[z0]] [[(cond (false) 1 0)]]) (bk (z5+
 9223372036854775809) 18446744073709551616 λav=>af 39 [((z5+((-18446744073709551616)*av))+1),0,9223372036854775807]/\(eQ [[((z5+
 ((-18446744073709551616)*av))+1)]]/\et [[((z5+((-18446744073709551616)*av))+1)]]<et [[z5]])))) (bk (z5+9223372036854775809)
 18446744073709551616 λav=>af 39 [((z5+((-18446744073709551616)*av))+1),0,9223372036854775807]/\(eQ [[((z5+((-18446744073709551616)*av))+
 1)]]/\et [[((z5+((-18446744073709551616)*av))+1)]]<et [[z5]])))) (bk (z5+9223372036854775809) 18446744073709551616 λav=>af 39 [((z5+
 ((-18446744073709551616)*av))+1),0,9223372036854775807]/\(eQ [[((z5+((-18446744073709551616)*av))+1)]]/\et [[((z5+((-18446744073709551616)*
 av))+1)]]<et [[z5]])))) (bk (z5+9223372036854775809) 18446744073709551616 λav=>af 39 [((z5+((-18446744073709551616)*av))+
 1),0,9223372036854775807]/\(eQ [[((z5+((-18446744073709551616)*av))+1)]]/\et [[((z5+((-18446744073709551616)*av))+1)]]<et [[z5]])))) (bk (z5
 +9223372036854775809) 18446744073709551616 λav=>af 39 [((z5+((-18446744073709551616)*av))+1),0,9223372036854775807]/\(eQ [[((z5+
 ((-18446744073709551616)*av))+1)]]/\et [[((z5+((-18446744073709551616)*av))+1)]]<et [[z5]])))) (bk (z5+9223372036854775809)
 18446744073709551616 λav=>af 39 [((z5+((-18446744073709551616)*av))+1),0,9223372036854775807]/\(eQ [[((z5+((-18446744073709551616)*av))+
 1)]]/\et [[((z5+((-18446744073709551616)*av))+1)]]<et [[z5]])))) (bk (z5+9223372036854775809) 18446744073709551616 λav=>af 39 [((z5+
 ((-18446744073709551616)*av))+1),0,9223372036854775807]/\(eQ [[((z5+((-18446744073709551616)*av))+1)]]/\et [[((z5+((-18446744073709551616)*
 av))+1)]]<et [[z5]])))) (bk (z5+9223372036854775809) 18446744073709551616 λz9=>af 39 [((z5+((-18446744073709551616)*z9))+
 1),0,9223372036854775807]/\(eQ [[((z5+((-18446744073709551616)*z9))+1)]]/\et [[((z5+((-18446744073709551616)*z9))+1)]]<et [[z5]])))) ((ak
 (decide (z3=1)) (aI 0 [ae] λz7=>(ak (decide (1<=z7)) (aI 0 [ae] λz8=>K [[z0]] [[(cond (decide (z8<=200)) 1 0)]]) (K [[z0]] [[(cond (false) 1
 0)]]))) (K [[z0]] [[(cond (false) 1 0)]])))))
theorem aom:Sf SB (aW SB [.str] 202):=Jk (n:=79221403731691789204265450354666987086070872538664503581038852739373042335165977954796146613462291367) (p:=rn) (vh (by decide+kernel)) λ_ _=>rfl
theorem LA {I:List (List Int)->Prop} {M:List (List Int)->Nat} {L:Int} {i:Nat} (hlt:(i:Int)<L) (bW:L<=9223372036854775807) (hI:I [[((i+1:Nat):Int)]]) (hM:M [[((i+1:Nat):Int)]]<M [[(i:Int)]]):
 ∀q:Int,0<=q->q<=1->0<=((i:Int)+9223372036854775809)-18446744073709551616*q->((i:Int)+9223372036854775809)-18446744073709551616*q<18446744073709551616->
  af 39 [(((i:Int)+((-18446744073709551616)*q))+1),0,9223372036854775807]/\
  (I [[(((i:Int)+((-18446744073709551616)*q))+1)]]/\M [[(((i:Int)+((-18446744073709551616)*q))+1)]]<M [[(i:Int)]]):=by
 intro q q0 q1 q2 q3;rw[mr (L:=L) hlt bW (rS _) q0 q2];exact⟨⟨by omega,by omega⟩,by simpa using hI,by simpa using hM⟩
def vq (n:Nat) (bl:List (List Int)):Nat:=n-((bl.getD 0 []).getD 0 0).toNat
theorem Md {n i:Nat} (h:i<n):vq n [[((i+1:Nat):Int)]]<vq n [[(i:Int)]]:=by
 show n-(((i+1:Nat):Int)).toNat<n-((i:Int)).toNat;omega
theorem ank:RP SB (aW SB [.int .i64 (-1) 9223372036854775807] 204):=by
 intro z0 a0 a1;have bW:=uw a1;refine⟨λbl=>∃i:Nat,bl=[[(i:Int)]]/\i<=(U z0).length/\∀j,j<i->(U z0).getD j 0≠u8 58,vq (U z0).length,⟨0,rfl,iF _,λj h=>by omega⟩,?_⟩
 rintro z2 b0 b1 ⟨i,e,hi,hb⟩ z3 bA c1 h3
 obtain rfl:z2=i:=by simpa using e
 simp only[aw]at h3;have fin:∀r:Int,-1<=r->r<=9223372036854775807->r=idx 58 (U z0)->aW SB [.int .i64 (-1) 9223372036854775807] 204 [[z0]] [[r]]:=λr r0 r1 h=>⟨⟨r0,r1,trivial⟩,h⟩;refine⟨λhp=>?_,λhp=>fin _ (by decide) (by decide) ?_⟩
 ·have hp:(i:Int)<z3:=by simpa using hp
  refine⟨⟨b0,by omega⟩,λz4 d0 d1 h4=>?_⟩;simp only[aw,eW]at h4;have hu:=qq (b:=(U z0).getD i 0) (z:=58) (by decide) (by decide);rw[<-h4]at hu;refine⟨λhq=>fin _ (by omega) (by omega) ?_,λhq=>LA (I:=λbl=>∃i:Nat,bl=[[(i:Int)]]/\i<=(U z0).length/\∀j,j<i->(U z0).getD j 0≠u8 58) (M:=vq (U z0).length) (L:=z3) hp c1 ⟨i+1,rfl,by omega,λj hj=>?_⟩ (Md (by omega))⟩
  ·exact(Wq (by decide) (by decide) (by omega) (beq_iff_eq.1 (hu.1 (of_decide_eq_true hq))) hb).symm
  ·by_cases he:j=i
   ·subst he;intro h;have:=hu.2 (by rw[h];simp);exact of_decide_eq_false hq this
   ·exact hb j (by omega)
 ·have hp:¬(i:Int)<z3:=by simpa using hp
  exact(Wt (by decide) (by decide) λj hj=>hb j (by omega)).symm
theorem JV {s z L:Int} {n:Nat} (hz:z=(n:Int)) (h:n<=(U s).length) (bW:L=aw 0 [s]):(0<=z/\z<=L/\L<=((U s).length:Int))/\∀y,y=aw 2 [s,z,L]->U y=(U s).drop n:=by
 subst hz;simp only[aw]at bW;refine⟨⟨by omega,by omega,by omega⟩,λy hy=>?_⟩;rw[hy];simp only[aw,dZ];rw[show((n:Int)).toNat=n by omega];exact kr (by simp;omega)
theorem an6:R6 SB (aW SB [.bool] 205):=by
 intro z0 a0 a1 ae b0 b1 h1;have bW:=uw a1;have h1:ae=idx 58 (U z0):=h1;have aU:∀b:Bool,jk (U z0)=b->aW SB [.bool] 205 [[z0]] [[aN b]]:=λb h=>lL (by show aN b=aN (jk (U z0));rw[h]);have hr:=yg 58 (U z0);refine⟨λhn z2 bA c1 h2=>?_,λhn z2 bA c1 c2 c3 z3 d0 d1 h3=>?_⟩
 ·have h2:z2=aN (fR (U z0)):=h2;have hn:ae<0:=of_decide_eq_true hn;rw[fF h2];exact aU _ (Y7 (by omega))
 ·have hn:¬ae<0:=of_decide_eq_false hn;have hw:ae+-18446744073709551616*z2+1=((ae.toNat+1:Nat):Int):=by omega
  rw[hw];obtain⟨s1,s2⟩:=JV (s:=z0) (z:=((ae.toNat+1:Nat):Int)) (L:=z3) (n:=ae.toNat+1) rfl (by omega) h3;refine⟨s1,λz4 e0 e1 h4=>?_⟩;have fo:=s2 z4 h4;have awI:=uw e1;have mM:jk (U z0)=(fR ((U z0).take ae.toNat)&&rC (U z4)):=by
   unfold jk mF;have:decide (0<=idx 58 (U z0))=true:=decide_eq_true (by omega);rw[this,fo,h1];simp
  refine⟨λbl=>∃i:Nat,bl=[[(i:Int)]]/\i<=(U z4).length/\((U z4).take i).all dM=true,vq (U z4).length,⟨0,rfl,iF _,rfl⟩,?_⟩
  rintro z6 f0 f1 ⟨i,e,hi,hall⟩ z7 g0 g1 h7
  obtain rfl:z6=i:=by simpa using e
  simp only[aw]at h7;refine⟨λhp=>?_,λhp=>?_⟩
  ·have hp:(i:Int)<z7:=by simpa using hp
   refine⟨⟨f0,by omega⟩,λz8 i0 i1 h8 z9 fS da a8=>?_⟩;simp only[aw,eW]at h8;have a8:z9=aN (dM (u8 z8)):=a8;rw[h8,Ca]at a8;rw[fF a8];refine⟨λhd=>aU false ?_,λhd=>LA (I:=λbl=>∃i:Nat,bl=[[(i:Int)]]/\i<=(U z4).length/\((U z4).take i).all dM=true) (M:=vq (U z4).length) (L:=z7) hp g1 ⟨i+1,rfl,by omega,?_⟩ (Md (by omega))⟩
   ·have hd:dM ((U z4).getD i 0)=false:=by simpa using hd
    rw[mM];unfold rC;rw[LF dM _ i (by omega) hd];simp
   ·have hd:dM ((U z4).getD i 0)=true:=by simpa using hd
    rw[LG _ _ _ (by omega),hall,hd];rfl
  ·have hp:¬(i:Int)<z7:=by simpa using hp
   rw[kr (by omega)]at hall;refine⟨⟨bB _,by omega,by omega⟩,λz8 i0 i1 h8 z9 fS da a8=>?_⟩;have pa:U z8=(U z0).take ae.toNat:=by
    rw[h8];simp only[aw,dZ];rw[show(0:Int).toNat=0 from rfl,Ke];rfl
   have a8:z9=aN (fR (U z8)):=a8;rw[fF a8,pa];have ahD:rC (U z4)=(bY 0 (U z4).length&&bu (U z4).length 5):=by unfold rC;rw[hall,aak]
   rw[ahD]at mM;refine⟨λah av e7 k1 dg=>?_,λah=>aU false (by rw[mM,ah];rfl)⟩;simp only[aw]at dg;refine⟨λhq aj l0 l1 dF=>?_,λhq=>aU false ?_⟩
   ·simp only[aw]at dF;have hq:1<=av:=of_decide_eq_true hq;refine aU _ ?_;rw[mM,ah,show bY 0 (U z4).length=true by rw[ov];omega,wF,wF,iG,decide_eq_true_eq,pH];omega
   ·have hq:¬1<=av:=of_decide_eq_false hq;rw[mM,show bY 0 (U z4).length=false by
     cases hb:bY 0 (U z4).length with
     |false=>rfl
     |true=>rw[ov]at hb;omega];simp
theorem EP {id:Nat} {zs:List (List Int)} {a b:Int} {c:Bool} (a0:0<=a) (a1:a<=bp) (b0:0<=b) (b1:b<=bp) (h:SB id zs [[a],[b],[aN c]]):aW SB [.str,.str,.bool] id zs [[a],[b],[aN c]]:=⟨⟨a0,a1,b0,b1,(oH c).1,(oH c).2,trivial⟩,h⟩
theorem yA {k:UInt8} {s:aq} (h:(bY 0 s.length&&bu s.length 255&&s.getD 0 0==k&&decide (0<=idx 58 s)&&jk (s.drop ((idx 58 s).toNat+1)))=false):ji k s=([],[],0):=by unfold ji;rw[h];rfl
theorem anR {k:Int} (e7:0<=k) (k1:k<=255) (hk:k≠58) {id:Nat} (hid:∀z a b c,SB id [[z],[k]] [[a],[b],[c]]=((U a,U b,c)=ji (u8 k) (U z))):
 (∀z0:Int,0<=z0->z0<=bp->∀ae:Int,k<=ae->ae<=k->
 ∀z2:Int,0<=z2->z2<=9223372036854775807->z2=aw 0 [z0]->
 (((decide (z2=0))=true->
  aW SB [.str,.str,.bool] id [[z0],[ae]] [[0],[0],[(cond (false) 1 0)]]
 )/\((decide (z2=0))=false->
  ∀z3:Int,0<=z3->z3<=9223372036854775807->z3=aw 0 [z0]->
  (((decide (255<z3))=true->
   aW SB [.str,.str,.bool] id [[z0],[ae]] [[0],[0],[(cond (false) 1 0)]]
  )/\((decide (255<z3))=false->
   af 1 [z0,0]/\
   ∀z4:Int,0<=z4->z4<=255->z4=aw 1 [z0,0]->
   ((((!(decide (z4=ae))))=true->
    aW SB [.str,.str,.bool] id [[z0],[ae]] [[0],[0],[(cond (false) 1 0)]]
   )/\(((!(decide (z4=ae))))=false->
    ∀z5:Int,(-1)<=z5->z5<=9223372036854775807->SB 204 [[z0]] [[z5]]->
    (((decide (z5<0))=true->
     aW SB [.str,.str,.bool] id [[z0],[ae]] [[0],[0],[(cond (false) 1 0)]]
    )/\((decide (z5<0))=false->
     ∀z6:Int,0<=z6->z6<=1->0<=(z5+9223372036854775809)-18446744073709551616*z6->(z5+9223372036854775809)-18446744073709551616*z6<18446744073709551616->
     ∀z7:Int,0<=z7->z7<=9223372036854775807->z7=aw 0 [z0]->
     af 2 [z0,((z5+((-18446744073709551616)*z6))+1),z7]/\
     ∀z8:Int,0<=z8->z8<=bp->z8=aw 2 [z0,((z5+((-18446744073709551616)*z6))+1),z7]->
     ∀z9:Int,0<=z9->z9<=1->SB 205 [[z8]] [[z9]]->
     ((((!(decide (z9=1))))=true->
      aW SB [.str,.str,.bool] id [[z0],[ae]] [[0],[0],[(cond (false) 1 0)]]
     )/\(((!(decide (z9=1))))=false->
      af 2 [z0,1,z5]/\
      ∀av:Int,0<=av->av<=bp->av=aw 2 [z0,1,z5]->
      ∀aj:Int,0<=aj->aj<=1->0<=(z5+9223372036854775809)-18446744073709551616*aj->(z5+9223372036854775809)-18446744073709551616*aj<18446744073709551616->
      ∀z12:Int,0<=z12->z12<=9223372036854775807->z12=aw 0 [z0]->
      af 2 [z0,((z5+((-18446744073709551616)*aj))+1),z12]/\
      ∀aA:Int,0<=aA->aA<=bp->aA=aw 2 [z0,((z5+((-18446744073709551616)*aj))+1),z12]->
      aW SB [.str,.str,.bool] id [[z0],[ae]] [[av],[aA],[(cond (true) 1 0)]]
     ))
    ))
   ))
  ))
 ))):=by
  intro z0 a0 a1 ae b0 b1 z2 bA c1 h2;have bW:=uw a1;obtain rfl:ae=k:=by omega
  simp only[aw]at h2;have jU:ji (u8 ae) (U z0)=([],[],0)->aW SB [.str,.str,.bool] id [[z0],[ae]] [[0],[0],[(cond (false) 1 0)]]:=λh=>EP (c:=false) (bB _) fZ (bB _) fZ (by rw[hid,h];rfl);have gP:bY 0 (U z0).length= !decide (z2=0):=by
   rw[iG,ov];simp;omega
  refine⟨λh=>jU (yA (by rw[gP,h];rfl)),λh z3 d0 d1 h3=>?_⟩;have hz2:¬z2=0:=of_decide_eq_false h;rw[h]at gP;have Aj:=vS (n:=255) 255 rfl h3;refine⟨λh'=>jU (yA (by
   rw[h']at Aj;have:bu (U z0).length 255=false:=by simpa using Aj.symm
   rw[this];simp)),λh'=>⟨⟨bB _,by omega⟩,λz4 e0 e1 h4=>?_⟩⟩
  rw[h']at Aj;have Aj:bu (U z0).length 255=true:=by simpa using Aj.symm
  have ag5:decide (z4=ae)=((U z0).getD 0 0==u8 ae):=by
   rw[h4];simp only[aw,y2];rw[iG,decide_eq_true_eq,qq e7 k1]
  rw[ag5];refine⟨λhk=>jU (yA (by
   have:((U z0).getD 0 0==u8 ae)=false:=by simpa using hk
   rw[this];simp)),λja z5 f0 f1 h5=>?_⟩
  have ja:((U z0).getD 0 0==u8 ae)=true:=by simpa using ja
  have h5:z5=idx 58 (U z0):=h5;have hr:=yg 58 (U z0);refine⟨λhn=>jU (yA (by
   have hn:z5<0:=of_decide_eq_true hn;rw[show decide (0<=idx 58 (U z0))=false from decide_eq_false (by omega)];simp)),λhn z6 g0 g1 g2 g3 z7 i0 i1 h7=>?_⟩
  have hn:¬z5<0:=of_decide_eq_false hn;have h1:1<=z5:=by
   rcases AJ (c:=58) (by decide) (by decide) (U z0)with⟨q,_⟩|⟨q1,q2,q3,_⟩
   ·omega
   ·by_cases h0:z5=0
    ·rw[<-h5,h0]at q3;have q3:(U z0).getD 0 0=u8 58:=q3;rw[q3]at ja;have:=beq_iff_eq.1 ja;have:=congrArg UInt8.toNat this;have e1:=JZ e7 k1;have e2:=JZ (z:=58) (by decide) (by decide);omega
    ·omega
  have hw:∀q:Int,0<=q->q<=1->0<=(z5+9223372036854775809)-18446744073709551616*q->z5+-18446744073709551616*q+1=((z5.toNat+1:Nat):Int):=λq q0 q1 q2=>by omega
  rw[hw z6 g0 g1 g2];obtain⟨s1,s2⟩:=JV (s:=z0) (z:=((z5.toNat+1:Nat):Int)) (L:=z7) (n:=z5.toNat+1) rfl (by omega) h7;refine⟨s1,λz8 fS da h8 z9 l0 l1 a8=>?_⟩;have pa:=s2 z8 h8;have a8:z9=aN (jk (U z8)):=a8;rw[fF a8,pa];have hi:decide (0<=idx 58 (U z0))=true:=decide_eq_true (by omega);refine⟨λhs=>jU (yA (by
   have hs:jk ((U z0).drop (z5.toNat+1))=false:=by simpa using hs
   rw[<-h5,hs];simp)),λhs=>⟨⟨by decide,by omega,by omega⟩,λav m0 fT dg aj n0 n1 n2 n3 z12 yu o1 dJ=>?_⟩⟩
  have hs:jk ((U z0).drop (z5.toNat+1))=true:=by simpa using hs
  rw[hw aj n0 n1 n2];obtain⟨t1,t2⟩:=JV (s:=z0) (z:=((z5.toNat+1:Nat):Int)) (L:=z12) (n:=z5.toNat+1) rfl (by omega) dJ;refine⟨t1,λaA p0 p1 dK=>EP (c:=true) m0 fT p0 p1 ?_⟩;rw[hid,t2 aA dK];have Ht:U av=((U z0).take z5.toNat).drop 1:=by
   rw[dg];simp only[aw,dZ];rw[List.drop_take];rfl
  have hbl:bY 0 (U z0).length=true:=by rw[gP];rfl
  unfold ji;rw[hbl,Aj,ja,hi,<-h5,hs,Ht];rfl
theorem anS:R3 SB (aW SB [.str,.str,.bool] 206):=anR (k:=64) (by decide) (by decide) (by decide) λ_ _ _ _=>rfl
theorem alr {z0 ae z3:Int} {k:UInt8} {inn:UInt8->Bool} {most:Nat} {Bv:Int} (hm:Bv=(most:Int)) {id:Nat} (hid:∀r,SB id [[z0]] [[r]]=(r=aN (od k inn most (U z0)))) (h3:0<=z3/\z3<=1) (hp:(ji k (U z0)).1=U ae) (Ij:(ji k (U z0)).2.2=z3) (hall:(U ae).all inn=true):
 (((decide (z3=1))=true->
  ∀z7:Int,0<=z7->z7<=9223372036854775807->z7=aw 0 [ae]->
  (((decide (1<=z7))=true->
   ∀z8:Int,0<=z8->z8<=9223372036854775807->z8=aw 0 [ae]->
   aW SB [.bool] id [[z0]] [[(cond (decide (z8<=Bv)) 1 0)]]
  )/\((decide (1<=z7))=false->
   aW SB [.bool] id [[z0]] [[(cond (false) 1 0)]]
  ))
 )/\((decide (z3=1))=false->
  aW SB [.bool] id [[z0]] [[(cond (false) 1 0)]]
 )):=by
 have aU:∀b:Bool,od k inn most (U z0)=b->aW SB [.bool] id [[z0]] [[aN b]]:=λb h=>lL (by rw[hid,h]);have hv:od k inn most (U z0)=(decide (z3=1)&&bY 0 (U ae).length&&bu (U ae).length most):=by
  unfold od;rw[hp,Ij,hall,aak]
 refine⟨λh z7 a0 a1 h7=>?_,λh=>aU false (by rw[hv,h];rfl)⟩;simp only[aw]at h7;refine⟨λh1 z8 b0 b1 h8=>aU _ ?_,λh1=>aU false ?_⟩
 ·have h1:1<=z7:=of_decide_eq_true h1;rw[hv,h,show bY 0 (U ae).length=true by rw[ov];omega,yo most hm h8];rfl
 ·have h1:¬1<=z7:=of_decide_eq_false h1;rw[hv,show bY 0 (U ae).length=false by
   cases hb:bY 0 (U ae).length with
   |false=>rfl
   |true=>rw[ov]at hb;omega];simp
theorem als {k:UInt8} {inn:UInt8->Bool} {most:Nat} {s l:aq} (hp:(ji k s).1=l) {i:Nat} (hi:i<l.length) (hf:inn (l.getD i 0)=false):od k inn most s=false:=by
 unfold od;rw[hp,LF inn l i hi hf];simp
theorem an7:R7 SB (aW SB [.bool] 207):=by
 intro z0 a0 a1 ae b0 b1 z2 bA c1 z3 d0 d1 lD;have lD:(U ae,U z2,z3)=ji 64 (U z0):=lD;have hp:(ji 64 (U z0)).1=U ae:=by rw[<-lD]
 have Ij:(ji 64 (U z0)).2.2=z3:=by rw[<-lD]
 have bW:=uw b1;have aU:∀b:Bool,mW (U z0)=b->aW SB [.bool] 207 [[z0]] [[aN b]]:=λb h=>lL (by show aN b=aN (mW (U z0));rw[h]);refine⟨λbl=>∃i:Nat,bl=[[(i:Int)]]/\i<=(U ae).length/\((U ae).take i).all rn=true,vq (U ae).length,⟨0,rfl,iF _,rfl⟩,?_⟩
 rintro z5 e0 e1 ⟨i,e,hi,hall⟩ z6 f0 f1 h6
 obtain rfl:z5=i:=by simpa using e
 simp only[aw]at h6;refine⟨λhlt=>?_,λfI=>?_⟩
 ·have hlt:(i:Int)<z6:=by simpa using hlt
  refine⟨⟨e0,by omega⟩,λz7 g0 g1 h7 z8 i0 i1 h8=>?_⟩;simp only[aw,eW]at h7;have h8:z8=aN (mf (u8 z7)):=h8;have Hu:u8 z7=(U ae).getD i 0:=by rw[h7,Ca]
  rw[Hu]at h8;have on:rn ((U ae).getD i 0)=true->_:=λh=>LA (I:=λbl=>∃i:Nat,bl=[[(i:Int)]]/\i<=(U ae).length/\((U ae).take i).all rn=true) (M:=vq (U ae).length) (L:=z6) hlt f1 ⟨i+1,rfl,by omega,by rw[LG _ _ _ (by omega),hall,h];rfl⟩ (Md (by omega));have pY:∀n:Int,0<=n->n<=255->decide (z7=n)=((U ae).getD i 0==u8 n):=λn h0 h1=>by
   rw[iG,decide_eq_true_eq,h7,qq h0 h1]
  rw[fF h8,pY 46 (by decide) (by decide),pY 95 (by decide) (by decide),pY 61 (by decide) (by decide),pY 47 (by decide) (by decide),pY 43 (by decide) (by decide),pY 45 (by decide) (by decide)];have cE:rn ((U ae).getD i 0)=(mf ((U ae).getD i 0)||dM ((U ae).getD i 0)||((U ae).getD i 0==u8 46||((U ae).getD i 0==u8 95||((U ae).getD i 0==u8 61||((U ae).getD i 0==u8 47||((U ae).getD i 0==u8 43||((U ae).getD i 0==u8 45||false))))))):=rfl;refine⟨λhs z9 fS da a8=>?_,λhs=>on (by rw[cE,show mf ((U ae).getD i 0)=true by simpa using hs];rfl)⟩;have hs:mf ((U ae).getD i 0)=false:=by simpa using hs
  have a8:z9=aN (dM (u8 z7)):=a8;rw[Hu]at a8;rw[fF a8];refine⟨λhd=>?_,λhd=>on (by rw[cE,show dM ((U ae).getD i 0)=true by simpa using hd];simp)⟩;have hd:dM ((U ae).getD i 0)=false:=by simpa using hd
  rw[hs,hd]at cE;refine⟨λq1=>⟨λq2=>⟨λq3=>⟨λdb=>⟨λiQ=>⟨λlO=>aU false (als (k:=64) (inn:=rn) (most:=200) hp (i:=i) (by omega) ?_),λlO=>on ?_⟩,λiQ=>on ?_⟩,λdb=>on ?_⟩,λq3=>on ?_⟩,λq2=>on ?_⟩,λq1=>on ?_⟩
  ·simp only[fX]at q1 q2 q3 db iQ lO;rw[cE,q1,q2,q3,db,iQ,lO];rfl
  all_goals rw[cE]
  ·simp only[mw]at lO;rw[lO];simp
  ·simp only[mw]at iQ;rw[iQ];simp
  ·simp only[mw]at db;rw[db];simp
  ·simp only[mw]at q3;rw[q3];simp
  ·simp only[mw]at q2;rw[q2];simp
  ·simp only[mw]at q1;rw[q1];simp
 ·have fI:¬(i:Int)<z6:=by simpa using fI
  rw[kr (by omega)]at hall;exact alr (k:=64) (inn:=rn) (most:=200) rfl (λ_=>rfl) ⟨d0,d1⟩ hp Ij hall
end Go.bE
namespace Go.bE
open Go Go.ba
def Sg (S:zzS) (K:zzK):Prop:=
 bt λz0=>aI 0 [z0] λae=>(ak (decide (255<ae)) (K [[z0]] [[(cond (false) 1 0)]]) (aI 0 [z0] λz2=>(ak (decide (1<=z2)) (af 2 [z0,0,1]/\b8 2
 [z0,0,1] λz3=>cf 4 [z3,65] λz4=>(ak ((!(decide (z4=1)))) (K [[z0]] [[(cond (false) 1 0)]]) (aI 0 [z0] λz5=>af 2 [z0,1,z5]/\b8 2 [z0,1,z5]
 λz6=>bt λz7=>bt λz8=>bC λz9=>S 126 [[z6]] [[z7],[z8],[z9]]->(ak (decide (z9=1)) (cf 4 [z7,0] λav=>(ak ((!(decide (av=1)))) (aI
 0 [z7] λaj=>(ak (decide (aj<=200)) (bt λz12=>S 202 [[z7]] [[z12]]->cf 4 [z12,0] λaA=>(ak (decide (aA=1)) (bC λaB=>S 65
 [[z7],[29623484903295033747957742255491238963424329677582429956179748554116486405127370353604394274421496743]] [[aB]]->(ak (decide (aB=1)) (bC λau=>S
 27 [[z8]] [[au]]->K [[z0]] [[(cond (decide (au=1)) 1 0)]]) (K [[z0]] [[(cond (false) 1 0)]]))) (K [[z0]] [[(cond (false) 1 0)]]))) (K [[z0]] [[(cond
 (false) 1 0)]]))) (K [[z0]] [[(cond (false) 1 0)]]))) (K [[z0]] [[(cond (false) 1 0)]]))))) (K [[z0]] [[(cond (false) 1 0)]]))))
theorem aiq {c:UInt8} {t:aq} (h:c≠58):idx 58 (c::t)=if idx 58 t<0 then-1 else idx 58 t+1:=by
 have:¬(c.toNat:Int)=58:=λe=>h (by rw[<-Ra];show c.toNat=58;omega);show(if(c.toNat:Int)=58 then 0 else if idx 58 t<0 then-1 else idx 58 t+1)=_;rw[if_neg this]
theorem aot {k:UInt8} (hk:k≠58) {t:aq} (hl:t.length+1<=255):ji k (k::t)=cond (decide (0<=idx 58 t)&&jk (t.drop ((idx 58 t).toNat+1))) (t.take (idx 58 t).toNat,t.drop ((idx 58 t).toNat+1),1) ([],[],0):=by
 unfold ji;rw[aiq hk,show bY 0 (k::t).length=true by rw[ov];simp,show bu (k::t).length 255=true by rw[pH];simpa using hl];have hr:=yg 58 t;have hb:((k::t).getD 0 0==k)=true:=by show(k==k)=true;simp
 rw[hb];by_cases hn:idx 58 t<0
 ·rw[if_pos hn,show decide (0<=idx 58 t)=false from decide_eq_false (by omega)];simp
 ·rw[if_neg hn,show decide (0<=idx 58 t)=true from decide_eq_true (by omega),show decide (0<=idx 58 t+1)=true from decide_eq_true (by omega),show(idx 58 t+1).toNat=(idx 58 t).toNat+1 by omega];simp
theorem X8 {k:UInt8} {s:aq} (h:s.getD 0 0≠k∨s=[]):(ji k s).2.2=0:=by
 rw[yA];rcases h with h|h
 ·rw[show(s.getD 0 0==k)=false by simpa using h];simp
 ·rw[h];rfl
theorem aou {k:UInt8} {s:aq} (h:bu s.length 255=false):(ji k s).2.2=0:=by
 rw[yA];rw[h];simp
theorem I3 {k:UInt8} {inn:UInt8->Bool} {most:Nat} {s:aq} (h:(ji k s).2.2=0):od k inn most s=false:=by unfold od;rw[h];rfl
theorem am3 (inn:UInt8->Bool) (s:aq) {n:Int} (hn:∀c,(U n).contains c=inn c):(s.all λc=>(U n).contains c)=s.all inn:=by
 congr 1;funext c;exact hn c
theorem anP {k:UInt8} {Bo Mc Bv:Int} {inn:UInt8->Bool} {most tid:Nat} (hk:k≠58) (ag7:U Bo=[k]) (iM:∀c,(U Mc).contains c=inn c) (hm:Bv=(most:Int)) (ht:∀z r,SB tid [[z]] [[r]]=(U r=jl inn (U z))) {id:Nat} (hid:∀z r,SB id [[z]] [[r]]=(r=aN (od k inn most (U z)))):
(∀z0:Int,0<=z0->z0<=bp->
 ∀ae:Int,0<=ae->ae<=9223372036854775807->ae=aw 0 [z0]->
 (((decide (255<ae))=true->
  aW SB [.bool] id [[z0]] [[(cond (false) 1 0)]]
 )/\((decide (255<ae))=false->
  ∀z2:Int,0<=z2->z2<=9223372036854775807->z2=aw 0 [z0]->
  (((decide (1<=z2))=true->
   af 2 [z0,0,1]/\
   ∀z3:Int,0<=z3->z3<=bp->z3=aw 2 [z0,0,1]->
   ∀z4:Int,0<=z4->z4<=1->z4=aw 4 [z3,Bo]->
   ((((!(decide (z4=1))))=true->
    aW SB [.bool] id [[z0]] [[(cond (false) 1 0)]]
   )/\(((!(decide (z4=1))))=false->
    ∀z5:Int,0<=z5->z5<=9223372036854775807->z5=aw 0 [z0]->
    af 2 [z0,1,z5]/\
    ∀z6:Int,0<=z6->z6<=bp->z6=aw 2 [z0,1,z5]->
    ∀z7:Int,0<=z7->z7<=bp->∀z8:Int,0<=z8->z8<=bp->∀z9:Int,0<=z9->z9<=1->SB 126 [[z6]] [[z7],[z8],[z9]]->
    (((decide (z9=1))=true->
     ∀av:Int,0<=av->av<=1->av=aw 4 [z7,0]->
     ((((!(decide (av=1))))=true->
      ∀aj:Int,0<=aj->aj<=9223372036854775807->aj=aw 0 [z7]->
      (((decide (aj<=Bv))=true->
       ∀z12:Int,0<=z12->z12<=bp->SB tid [[z7]] [[z12]]->
       ∀aA:Int,0<=aA->aA<=1->aA=aw 4 [z12,0]->
       (((decide (aA=1))=true->
        ∀aB:Int,0<=aB->aB<=1->SB 65 [[z7],[Mc]] [[aB]]->
        (((decide (aB=1))=true->
         ∀au:Int,0<=au->au<=1->SB 27 [[z8]] [[au]]->
         aW SB [.bool] id [[z0]] [[(cond (decide (au=1)) 1 0)]]
        )/\((decide (aB=1))=false->
         aW SB [.bool] id [[z0]] [[(cond (false) 1 0)]]
        ))
       )/\((decide (aA=1))=false->
        aW SB [.bool] id [[z0]] [[(cond (false) 1 0)]]
       ))
      )/\((decide (aj<=Bv))=false->
       aW SB [.bool] id [[z0]] [[(cond (false) 1 0)]]
      ))
     )/\(((!(decide (av=1))))=false->
      aW SB [.bool] id [[z0]] [[(cond (false) 1 0)]]
     ))
    )/\((decide (z9=1))=false->
     aW SB [.bool] id [[z0]] [[(cond (false) 1 0)]]
    ))
   ))
  )/\((decide (1<=z2))=false->
   aW SB [.bool] id [[z0]] [[(cond (false) 1 0)]]
  ))
 ))):=by
  intro z0 a0 a1 ae b0 b1 h1;have aU:∀b:Bool,od k inn most (U z0)=b->aW SB [.bool] id [[z0]] [[aN b]]:=λb h=>lL (by rw[hid,h]);have Dv:=vS (n:=255) 255 rfl h1;refine⟨λhb=>aU false (I3 (aou (by rw[hb]at Dv;simpa using Dv.symm))),λhb z2 bA c1 h2=>?_⟩;rw[hb]at Dv;have hlen:(U z0).length<=255:=by
   have:bu (U z0).length 255=true:=by simpa using Dv.symm
   exact eh this
  simp only[aw]at h2;refine⟨λhp=>⟨⟨bB _,by decide,by have:=of_decide_eq_true hp;omega⟩,λz3 d0 d1 h3 z4 e0 e1 h4=>?_⟩,λhp=>aU false (I3 (X8 (.inr ?_)))⟩
  ·cases hs:U z0 with
   |nil=>rw[hs]at h2;have:=of_decide_eq_true hp;simp at h2;omega
   |cons c t=>
    have e3:U z3=[c]:=by rw[h3];simp only[aw,dZ,hs];rfl
    rw[iL h4,e3,ag7];refine⟨λhne=>aU false (I3 (X8 (.inl ?_))),λheq z5 f0 f1 h5=>?_⟩
    ·rw[hs];intro h;have h:c=k:=h;rw[h]at hne;simp at hne
    ·have agv:c=k:=by simpa using heq
     subst agv;have sw:t.length+1<=255:=by rw[hs]at hlen;simpa using hlen
     obtain⟨s1,s2⟩:=JV (s:=z0) (z:=1) (L:=z5) (n:=1) rfl (by rw[hs];simp) h5;refine⟨s1,λz6 g0 g1 h6 z7 i0 i1 z8 fS da z9 e7 k1 hC=>?_⟩;have lA:U z6=t:=by rw[s2 z6 h6,hs];rfl
     have hC:(U z7,U z8,z9)=mF 58 (U z6):=hC;rw[lA]at hC;have lD:=aot hk sw;unfold mF at hC;cases hi:decide (0<=idx 58 t)with
     |false=>
      rw[hi]at hC lD;simp only[cond_false,ct]at hC;obtain⟨_,_,rfl⟩:=hC;exact⟨λh=>by simp at h,λ_=>aU false (I3 (by rw[hs,lD];rfl))⟩
     |true=>
      rw[hi]at hC lD;simp only[cond_true,ct]at hC;obtain⟨Hu,pa,rfl⟩:=hC;rw[wF]at lD;have hv:od c inn most (U z0)=(jk (U z8)&&bY 0 (U z7).length&&bu (U z7).length most&&(U z7).all inn):=by
       unfold od;rw[hs,lD,<-Hu,<-pa];cases jk (U z8)<;>rfl
      refine⟨λ_ av l0 l1 dg=>?_,λh=>by simp at h⟩;have hn:=E4 dg;refine⟨λhq aj m0 fT dF=>?_,λhq=>aU false (by rw[hq]at hn;rw[hv,<-hn];simp)⟩;rw[hq]at hn;rw[yo most hm dF];refine⟨λhr z12 n0 n1 dJ aA yu o1 dK=>?_,λhr=>aU false (by rw[hv,hr];simp)⟩;rw[ht]at dJ;rw[eq_nil dK,dJ];refine⟨λhs aB p0 p1 eM=>?_,λhs=>aU false ?_⟩
      ·have eM:aB=aN ((U z7).all λc=>(U Mc).contains c):=eM;rw[am3 inn _ iM]at eM;rw[fF eM];refine⟨λha au q0 q1 eZ=>?_,λha=>aU false (by rw[hv,ha];simp)⟩;have eZ:au=aN (jk (U z8)):=eZ;rw[fF eZ];refine aU _ ?_;rw[hv,<-hn,hr,ha];simp
      ·rw[hv];cases ha:(U z7).all inn with
       |false=>simp
       |true=>rw[QJ ha]at hs;simp at hs
  ·have hp:¬1<=z2:=of_decide_eq_false hp;exact List.length_eq_zero_iff.1 (by omega)
theorem aon:Sg SB (aW SB [.bool] 200):=anP (k:=64) (inn:=rn) (most:=200) (tid:=202) (by decide) (by decide) (vh (by decide+kernel)) rfl (λ_ _=>rfl) (λ_ _=>rfl)
end Go.bE
namespace Go.bE
open Go Go.ba
def RN (S:zzS) (K:zzK):Prop:=
 ∀r0:List Int,bd [(0,bp),(0,bp),(0,bp),((-9223372036854775808),9223372036854775807)] r0->(ak (decide (0<=(aC r0 3 0))) ((ak (decide ((aC r0 3
 0)<=1099511627776)) (bC λz4=>S 16 [[(aC r0 0 0),(aC r0 1 0)]] [[z4]]->(ak (decide (z4=1)) (bC λz5=>S 200 [[(aC r0 2 0)]]
 [[z5]]->K [r0] [[(cond (decide (z5=1)) 1 0)]]) (K [r0] [[(cond (false) 1 0)]]))) (K [r0] [[(cond (false) 1 0)]]))) (K [r0] [[(cond (false) 1 0)]]))
def RM (S:zzS) (K:zzK):Prop:=
 ∀r0:List Int,bd [(0,bp),(0,bp),(0,bp),((-9223372036854775808),9223372036854775807)] r0->∀fL:List Int,bd (hW 0 bp 2) fL->cf 4 [(aC r0 0
 0),(aC fL 0 0)] λz6=>cf 4 [(aC r0 1 0),(aC fL 1 0)] λz7=>(ak (decide ([z6,z7]=[1,1])) (K [r0,fL] [[0]]) (bC λz8=>S 14
 [[(aC r0 0 0),(aC r0 1 0)],fL] [[z8]]->(ak (decide (z8=1)) (K [r0,fL] [[(-1)]]) (K [r0,fL] [[1]]))))
theorem aiy {r:List Int} (h:bd (hW 0 bp 2) r):∃x y,r=[x,y]/\(0<=x/\x<=bp)/\(0<=y/\y<=bp):=by
 match r,h with
 |[x,y],h=>exact⟨x,y,rfl,⟨h.1,h.2.1⟩,⟨h.2.2.1,h.2.2.2.1⟩⟩
theorem anh:RN SB (aW SB [.bool] 300):=by
 intro r0 hr;have aU:∀b:Bool,ig (jL r0)=b->aW SB [.bool] 300 [r0] [[aN b]]:=λb h=>lL (by show aN b=aN (ig (jL r0));rw[h]);have e0:ig (jL r0)=(decide (0<=r0.getD 3 0)&&(decide (r0.getD 3 0<=1099511627776)&&(lf (U (r0.getD 0 0)) (U (r0.getD 1 0))&&mW (U (r0.getD 2 0))))):=rfl;refine⟨λh1=>⟨λh2 z4 a0 a1 bX=>⟨λh3 z5 b0 b1 bH=>?_,λh3=>?_⟩,λh2=>?_⟩,λh1=>?_⟩
 ·have bX:z4=aN (lf (U (r0.getD 0 0)) (U (r0.getD 1 0))):=bX;have bH:z5=aN (mW (U (r0.getD 2 0))):=bH;have:=fF bX;rw[h3]at this;exact aU (decide (z5=1)) (by rw[e0,h1,h2,<-this,fF bH];rfl)
 ·have bX:z4=aN (lf (U (r0.getD 0 0)) (U (r0.getD 1 0))):=bX;have:=fF bX;rw[h3]at this;exact aU false (by rw[e0,<-this];simp)
 ·exact aU false (by rw[e0,h2];simp)
 ·exact aU false (by rw[e0,h1];simp)
theorem ang:RM SB (aW SB [.int .i64 (-1) 1] 301):=by
 intro r0 hr fL ahH z6 a0 a1 h6 z7 b0 b1 h7;obtain⟨x,y,rfl,_,_⟩:=aiy ahH;have Bo:∀c:Int,(-1<=c/\c<=1)->c=pV (ib r0) (ib [x,y])->aW SB [.int .i64 (-1) 1] 301 [r0,[x,y]] [[c]]:=λc hc h=>⟨⟨hc.1,hc.2,trivial⟩,h⟩;have h6:=iL h6;have h7:=iL h7;have heq:(ib r0==ib [x,y])=decide ([z6,z7]=[1,1]):=by
  have e:∀a b c d:aq,((a,b)==(c,d))=(decide (a=c)&&decide (b=d)):=λa b c d=>by
   rw[iG];simp
  show((U (r0.getD 0 0),U (r0.getD 1 0))==(U x,U y))=_;have aeE:decide (z6=1)=decide (U (r0.getD 0 0)=U x):=h6;have aeN:decide (z7=1)=decide (U (r0.getD 1 0)=U y):=h7;rw[e,<-aeE,<-aeN,iG];simp
 refine⟨λh=>Bo 0 (by decide) (by unfold pV;rw[heq,h];rfl),λh z8 bA c1 bX=>?_⟩;have bX:z8=aN (mQ (U (r0.getD 0 0)) (U (r0.getD 1 0)) (U x) (U y)):=bX;have hl:oc (ib r0) (ib [x,y])=decide (z8=1):=(fF bX).symm;exact⟨λh2=>Bo (-1) (by decide) (by unfold pV;rw[heq,h,hl,h2];rfl),λh2=>Bo 1 (by decide) (by unfold pV;rw[heq,h,hl,h2];rfl)⟩
end Go.bE
namespace Go.bE
open Go Go.ba
theorem IN (a b:UInt8) (x y:aq):dy (a::x) (b::y)=true↔a.toNat<b.toNat∨(a=b/\dy x y=true):=by
 simp only[dy,ow,aO,beq_iff_eq,decide_eq_true_eq,UInt8.lt_iff_toNat_lt]
theorem O5 (x:aq):dy x []=false:=by cases x<;>rfl
theorem O4:∀x y:aq,dy x y=true->dy y x=true->False
 |x,[],h,_=>by rw[O5]at h;cases h
 |[],_::_,_,h=>by cases h
 |a::x,b::y,h,h'=>by
  rw[IN]at h h';rcases h with h|⟨rfl,h⟩
  ·rcases h' with h'|⟨e,_⟩
   ·omega
   ·rw[e]at h;omega
  ·rcases h' with h'|⟨_,h'⟩
   ·omega
   ·exact O4 x y h h'
theorem Xd:∀x y:aq,dy x y=true∨dy y x=true∨x=y
 |[],[]=> .inr (.inr rfl)
 |[],_::_=> .inl rfl
 |_::_,[]=> .inr (.inl rfl)
 |a::x,b::y=>by
  rw[IN,IN];rcases auj a.toNat b.toNat with h|h|h
  ·exact .inl (.inl h)
  ·have e:a=b:=UInt8.toNat_inj.1 h;subst e;rcases Xd x y with h|h|h
   ·exact .inl (.inr ⟨rfl,h⟩)
   ·exact .inr (.inl (.inr ⟨rfl,h⟩))
   ·exact .inr (.inr (by rw[h]))
  ·exact .inr (.inl (.inl h))
theorem EV:∀x y z:aq,dy x y=true->dy y z=true->dy x z=true
 |_,[],_,h,_=>by rw[O5]at h;cases h
 |_,_::_,[],_,h=>by rw[O5]at h;cases h
 |[],_::_,_::_,_,_=>rfl
 |a::x,b::y,c::z,h,h'=>by
  rw[IN]at h h'⊢;rcases h with h|⟨rfl,h⟩
  ·rcases h' with h'|⟨rfl,_⟩
   ·exact .inl (by omega)
   ·exact .inl h
  ·rcases h' with h'|⟨rfl,h'⟩
   ·exact .inl h'
   ·exact .inr ⟨rfl,EV x y z h h'⟩
theorem ajG (a b c d:aq):mQ a b c d=true↔dy a c=true∨(a=c/\dy b d=true):=by
 unfold mQ;by_cases h:a=c
 ·subst h;simp[Bp]
 ·rw[show(a==c)=false by simpa using h];simp[h]
theorem ajF {a b c d:aq} (h:mQ a b c d=true) (h':mQ c d a b=true):False:=by
 rw[ajG]at h h';rcases h with h|⟨rfl,h⟩
 ·rcases h' with h'|⟨rfl,_⟩
  ·exact O4 _ _ h h'
  ·rw[Bp]at h;cases h
 ·rcases h' with h'|⟨_,h'⟩
  ·rw[Bp]at h';cases h'
  ·exact O4 _ _ h h'
theorem ajE (a:aq×aq):oc a a=false:=by
 cases h:oc a a with
 |false=>rfl
 |true=>exact(ajF h h).elim
theorem Tz {a b:aq×aq}:pV a b<0↔oc a b=true:=by
 unfold pV;by_cases h:a=b
 ·subst h;rw[beq_self_eq_true,ajE];simp
 ·rw[beq_false_of_ne h];cases oc a b<;>simp
theorem tD (z:Int):(bds z).length=(ab z).length:=by simp[bds]
theorem G0 {z:Int} {i:Nat} (h:i<(ab z).length):(bds z).getD i eS=jL ((ab z).getD i []):=by
 simp[bds,aC,h]
theorem apo {z0 i a b c d z:Int} {k:Nat} {w:List Int} (hi:i=(k:Int)) (ha:a=aw 21 [z0,i,0]) (hb:b=aw 21 [z0,i,1]) (hk:k<(ab z0).length) (h:SB 301 [[a,b,c,d],w] [[z]]):z=pV ((bds z0).getD k eS).1 (ib w):=by
 have h:z=pV (U a,U b) (ib w):=h;rw[h,G0 hk,ha,hb,hi];rfl
end Go.bE
namespace Go.bE
open Go Go.ba
def KA (S:zzS) (K:zzK):Prop:=
 di λz0=>cB λae=>bN (-2) aZ λz2=>aI 20 [z0] λz3=>(ak (decide (64<z3)) (K [[z0]] [[(cond (false) 1 0)]]) (∃(eQ:List
 (List Int)->Prop) (et:List (List Int)->Nat),eQ [[0]]/\(dC λz5=>eQ [[z5]]->(ak (decide (z5<z3)) (af 30 [z5,z3]/\af 21 [z0,z5]/\b8 21
 [z0,z5,0] λz6=>b8 21 [z0,z5,1] λz7=>b8 21 [z0,z5,2] λz8=>ch (-9223372036854775808) aZ 21 [z0,z5,3] λz9=>bC λav=>S
 300 [[z6,z7,z8,z9]] [[av]]->(ak ((!(decide (av=1)))) (K [[z0]] [[(cond (false) 1 0)]]) ((ak (decide (0<z5)) (af 30 [(z5+(-1)),z3]/\af 21 [z0,(z5
 +(-1))]/\b8 21 [z0,(z5+(-1)),0] λaj=>b8 21 [z0,(z5+(-1)),1] λz12=>b8 21 [z0,(z5+(-1)),2] λaA=>ch (-9223372036854775808)
 aZ 21 [z0,(z5+(-1)),3] λaB=>bN (-1) 1 λau=>S 301 [[aj,z12,aA,aB],[z6,z7]] [[au]]->(ak (decide (0<=au)) (K [[z0]] [[(cond
 (false) 1 0)]]) (bk (z5+bU) bP λaT=>af 39 [((z5+(ax*aT))+1),0,aZ]/\
 (eQ [[((z5+(ax*aT))+1)]]/\et [[((z5+(ax*aT))+1)]]<et [[z5]])))) ((eQ [[1]]/\et [[1]]<et
 [[z5]])))))) (K [[z0]] [[(cond (true) 1 0)]])))))
theorem Zi:∀l:List gA,B2 l=true↔∀j,j+1<l.length->oc (l.getD j eS).1 (l.getD (j+1) eS).1=true
 |[]=>by simp[B2]
 |[a]=>by simp[B2]
 |a::b::r=>by
  simp only[B2,aO];rw[Zi (b::r)];constructor
  ·rintro⟨h1,h2⟩ j hj
   cases j with
   |zero=>exact h1
   |succ j=>exact h2 j (by simpa using hj)
  ·intro h;exact⟨h 0 (by simp),λj hj=>h (j+1) (by simpa using hj)⟩
theorem Jz (l:List gA):hX l=true↔l.length<=64/\∀j,j<l.length->ig (l.getD j eS)=true/\(0<j->oc (l.getD (j-1) eS).1 (l.getD j eS).1=true):=by
 unfold hX;simp only[aO];rw[Zi,pI,pH];constructor
 ·rintro⟨⟨h1,h2⟩,h3⟩
  refine⟨h1,λj hj=>⟨h2 _ (by simp[aC,hj]),λh0=>?_⟩⟩;have:=h3 (j-1) (by omega)
  rwa [show j-1+1=j by omega]at this
 ·rintro⟨h1,h2⟩
  refine⟨⟨h1,λb hb=>?_⟩,λj hj=>?_⟩
  ·obtain⟨j,hj,rfl⟩:=List.mem_iff_getElem.1 hb;have:=(h2 j hj).1;simpa [aC,hj]using this
  ·have:=(h2 (j+1) hj).2 (by omega);simpa using this
theorem YC {z0 i a b c d:Int} {k:Nat} (hi:i=(k:Int)) (ha:a=aw 21 [z0,i,0]) (hb:b=aw 21 [z0,i,1]) (hc:c=aw 21 [z0,i,2]) (hd:d=aw 21 [z0,i,3]) (hk:k<(ab z0).length):jL [a,b,c,d]=(bds z0).getD k eS:=by
 rw[G0 hk,ha,hb,hc,hd,hi];rfl
theorem P6 {z0 i a b:Int} {k:Nat} (hi:i=(k:Int)) (ha:a=aw 21 [z0,i,0]) (hb:b=aw 21 [z0,i,1]) (hk:k<(ab z0).length):ib [a,b]=((bds z0).getD k eS).1:=by
 rw[G0 hk,ha,hb,hi];rfl
def SF (z0:Int) (bl:List (List Int)):Prop:=∃i:Nat,bl=[[(i:Int)]]/\i<=(bds z0).length/\∀j,j<i->ig ((bds z0).getD j eS)=true/\(0<j->oc ((bds z0).getD (j-1) eS).1 ((bds z0).getD j eS).1=true)
def SG (z0:Int) (bl:List (List Int)):Nat:=(bds z0).length-((bl.getD 0 []).getD 0 0).toNat
theorem anf:KA SB (ez SB [.d .bool] 303):=by
 delta KA ak bk bN ch cB dC aI di b8 bC bP ax aZ bU;dsimp only
 intro z0 a0 a1 ae _ z2 _ _ z3 b0 b1 h3;have h3:z3=((ab z0).length:Int):=h3;have hlen:=tD z0;have aU:∀b:Bool,hX (bds z0)=b->ez SB [.d .bool] 303 [[z0]] [[cond b 1 0]]:=λb h=>⟨by cases b<;>exact⟨by decide,by decide,trivial⟩,by show cond b (1:Int) 0=aN (hX (bds z0));rw[h];rfl⟩;have jU:(¬((bds z0).length<=64/\∀j,j<(bds z0).length->ig ((bds z0).getD j eS)=true/\(0<j->oc ((bds z0).getD (j-1) eS).1 ((bds z0).getD j eS).1=true)))->ez SB [.d .bool] 303 [[z0]] [[cond false 1 0]]:=λh=>aU false (by
  cases hr:hX (bds z0)with
  |false=>rfl
  |true=>exact absurd ((Jz _).1 hr) h)
 refine⟨λh=>jU (λh2=>by have:=of_decide_eq_true h;have:=h2.1;omega),λp3=>?_⟩;have p3:=of_decide_eq_false p3;refine⟨SF z0,SG z0,⟨0,rfl,iF _,λj h=>absurd h (RE j)⟩,?_⟩
 rintro z5 bA c1 ⟨i,e,hi,hI⟩
 obtain rfl:z5=i:=by simpa using e
 refine⟨λhlt=>?_,λfI=>aU true ((Jz _).2 ⟨by omega,λj hj=>hI j (by have:=of_decide_eq_false fI;omega)⟩)⟩;have hlt:=of_decide_eq_true hlt;have dv:i<(ab z0).length:=by omega
 refine⟨⟨by omega,by omega⟩,⟨by omega,by omega⟩,λz6 _ _ h6 z7 _ _ h7 z8 _ _ h8 z9 _ _ a8 av _ _ dg=>?_⟩;have hrow:=YC (k:=i) rfl h6 h7 h8 a8 dv;have dg:av=aN (ig (jL [z6,z7,z8,z9])):=dg;rw[hrow]at dg;have hd:=fF dg;refine⟨λhb=>jU (λh2=>?_),λhb=>?_⟩
 ·rw[hd,(h2.2 i (by omega)).1]at hb;cases hb
 have aX:ig ((bds z0).getD i eS)=true:=by
  rw[hd]at hb;cases hx:ig ((bds z0).getD i eS)with
  |true=>rfl
  |false=>rw[hx]at hb;cases hb
 refine⟨λhp=>?_,λhp=>?_⟩
 ·have hp:=of_decide_eq_true hp;have mK:(i:Int)+(-1)=((i-1:Nat):Int):=by omega
  refine⟨⟨by omega,by omega⟩,⟨by omega,by omega⟩,λaj _ _ dF z12 _ _ dJ aA _ _ dK aB _ _ eM au _ _ eZ=>?_⟩;have eZ:=apo (k:=i-1) mK dF dJ (by omega) eZ;rw[P6 (k:=i) rfl h6 h7 dv]at eZ;refine⟨λhc=>jU (λh2=>?_),λhc aT d0 d1 d2 d3=>⟨⟨by omega,by omega⟩,⟨i+1,by rw[show((i:Int)+(-18446744073709551616)*aT)+1=((i+1:Nat):Int) by omega],by omega,λj hj=>?_⟩,?_⟩⟩
  ·have h4:=(h2.2 i (by omega)).2 (by omega);have h5:=Tz.2 h4;have:=of_decide_eq_true hc;omega
  ·rcases mx j i with h|h
   ·exact hI j h
   ·obtain rfl:j=i:=by omega
    exact⟨aX,λ_=>Tz.1 (by rw[<-eZ];have:=of_decide_eq_false hc;omega)⟩
  ·show(bds z0).length-(((i:Int)+(-18446744073709551616)*aT)+1).toNat<(bds z0).length-((i:Int)).toNat;omega
 ·have hp:=of_decide_eq_false hp;obtain rfl:i=0:=by omega
  refine⟨⟨1,rfl,by omega,λj hj=>?_⟩,?_⟩
  ·obtain rfl:j=0:=by omega
   exact⟨aX,λh=>absurd h (Nat.lt_irrefl 0)⟩
  ·show(bds z0).length-(1:Int).toNat<(bds z0).length-((0:Nat):Int).toNat;omega
end Go.bE
namespace Go.bE
open Go Go.ba
def Ld (S:zzS) (K:zzK):Prop:=
 ∀r0:List Int,bd [(0,bp),(0,bp),(0,bp),((-9223372036854775808),aZ)] r0->bC λz4=>S 19 [[(aC r0 0 0),(aC r0 1 0)]] [[z4]]
 ->(ak (decide (z4=1)) (bC λz5=>S 207 [[(aC r0 2 0)]] [[z5]]->(ak (decide (z5=1)) ((ak (decide (0<=(aC r0 3 0))) (K [r0] [[(cond
 (decide ((aC r0 3 0)<=1099511627776)) 1 0)]]) (K [r0] [[(cond (false) 1 0)]]))) (K [r0] [[(cond (false) 1 0)]]))) (K [r0] [[(cond (false) 1 0)]]))
def Lc (S:zzS) (K:zzK):Prop:=
 di λz0=>cB λae=>bN (-2) aZ λz2=>aI 20 [z0] λz3=>(ak (decide (64<z3)) (K [[z0]] [[(cond (false) 1 0)]]) (∃(eQ:List
 (List Int)->Prop) (et:List (List Int)->Nat),eQ [[0]]/\(dC λz5=>eQ [[z5]]->(ak (decide (z5<z3)) (af 30 [z5,z3]/\af 21 [z0,z5]/\b8 21
 [z0,z5,0] λz6=>b8 21 [z0,z5,1] λz7=>b8 21 [z0,z5,2] λz8=>ch (-9223372036854775808) aZ 21 [z0,z5,3] λz9=>bC λav=>S
 320 [[z6,z7,z8,z9]] [[av]]->(ak ((!(decide (av=1)))) (K [[z0]] [[(cond (false) 1 0)]]) ((ak (decide (0<z5)) (af 30 [(z5+(-1)),z3]/\af 21 [z0,(z5
 +(-1))]/\b8 21 [z0,(z5+(-1)),0] λaj=>b8 21 [z0,(z5+(-1)),1] λz12=>af 30 [z5,z3]/\af 21 [z0,z5]/\b8 21 [z0,z5,0] λaA=>b8 21
 [z0,z5,1] λaB=>bC λau=>S 21 [[aj,z12],[aA,aB]] [[au]]->(ak ((!(decide (au=1)))) (K [[z0]] [[(cond (false) 1 0)]]) (bk (z5+
 bU) bP λaT=>af 39 [((z5+(ax*aT))+1),0,aZ]/\(eQ [[((z5+
 (ax*aT))+1)]]/\et [[((z5+(ax*aT))+1)]]<et [[z5]])))) ((eQ [[1]]/\et [[1]]<et [[z5]])))))) (K [[z0]]
 [[(cond (true) 1 0)]])))))
theorem aoq:Ld SB (aW SB [.bool] 320):=by
 delta Ld ak bC aZ;dsimp only
 intro r0 hr;have aU:∀b:Bool,ig (jL r0)=b->aW SB [.bool] 320 [r0] [[aN b]]:=λb h=>lL (by show aN b=aN (ig (jL r0));rw[h]);have e0:ig (jL r0)=(decide (0<=r0.getD 3 0)&&(decide (r0.getD 3 0<=1099511627776)&&(lf (U (r0.getD 0 0)) (U (r0.getD 1 0))&&mW (U (r0.getD 2 0))))):=rfl;intro z4 _ _ bX;have bX:z4=aN (lf (U (r0.getD 0 0)) (U (r0.getD 1 0))):=bX;have bX:=fF bX;refine⟨λh1 z5 _ _ bH=>?_,λh1=>aU false (by rw[e0,<-bX,h1];simp)⟩;have bH:z5=aN (mW (U (r0.getD 2 0))):=bH;have bH:=fF bH;refine⟨λh2=>⟨λh3=>aU (decide (r0.getD 3 0<=1099511627776)) (by rw[e0,<-bX,<-bH,h1,h2,h3];simp),λh3=>aU false (by rw[e0,h3];simp)⟩,λh2=>aU false (by rw[e0,<-bH,h2];simp)⟩
theorem aop:Lc SB (ez SB [.d .bool] 321):=by
 delta Lc ak bk bN ch cB dC aI di b8 bC bP ax aZ bU;dsimp only
 intro z0 a0 a1 ae _ z2 _ _ z3 b0 b1 h3;have h3:z3=((ab z0).length:Int):=h3;have hlen:=tD z0;have aU:∀b:Bool,hX (bds z0)=b->ez SB [.d .bool] 321 [[z0]] [[cond b 1 0]]:=λb h=>⟨by cases b<;>exact⟨by decide,by decide,trivial⟩,by show cond b (1:Int) 0=aN (hX (bds z0));rw[h];rfl⟩;have jU:(¬((bds z0).length<=64/\∀j,j<(bds z0).length->ig ((bds z0).getD j eS)=true/\(0<j->oc ((bds z0).getD (j-1) eS).1 ((bds z0).getD j eS).1=true)))->ez SB [.d .bool] 321 [[z0]] [[cond false 1 0]]:=λh=>aU false (by
  cases hr:hX (bds z0)with
  |false=>rfl
  |true=>exact absurd ((Jz _).1 hr) h)
 refine⟨λh=>jU (λh2=>by have:=of_decide_eq_true h;have:=h2.1;omega),λp3=>?_⟩;have p3:=of_decide_eq_false p3;refine⟨SF z0,SG z0,⟨0,rfl,iF _,λj h=>absurd h (RE j)⟩,?_⟩
 rintro z5 bA c1 ⟨i,e,hi,hI⟩
 obtain rfl:z5=i:=by simpa using e
 refine⟨λhlt=>?_,λfI=>aU true ((Jz _).2 ⟨by omega,λj hj=>hI j (by have:=of_decide_eq_false fI;omega)⟩)⟩;have hlt:=of_decide_eq_true hlt;have dv:i<(ab z0).length:=by omega
 refine⟨⟨by omega,by omega⟩,⟨by omega,by omega⟩,λz6 _ _ h6 z7 _ _ h7 z8 _ _ h8 z9 _ _ a8 av _ _ dg=>?_⟩;have hrow:=YC (k:=i) rfl h6 h7 h8 a8 dv;have dg:av=aN (ig (jL [z6,z7,z8,z9])):=dg;rw[hrow]at dg;have hd:=fF dg;refine⟨λhb=>jU (λh2=>?_),λhb=>?_⟩
 ·rw[hd,(h2.2 i (by omega)).1]at hb;cases hb
 have aX:ig ((bds z0).getD i eS)=true:=by
  rw[hd]at hb;cases hx:ig ((bds z0).getD i eS)with
  |true=>rfl
  |false=>rw[hx]at hb;cases hb
 refine⟨λhp=>?_,λhp=>?_⟩
 ·have hp:=of_decide_eq_true hp;have mK:(i:Int)+(-1)=((i-1:Nat):Int):=by omega
  refine⟨⟨by omega,by omega⟩,⟨by omega,by omega⟩,λaj _ _ dF z12 _ _ dJ=>⟨⟨by omega,by omega⟩,⟨by omega,by omega⟩,λaA _ _ dK aB _ _ eM au _ _ eZ=>?_⟩⟩;have eZ:au=aN (oc (ib [aj,z12]) (ib [aA,aB])):=eZ;rw[P6 (k:=i-1) mK dF dJ (by omega),P6 (k:=i) rfl dK eM dv]at eZ;have hd:=fF eZ;refine⟨λhc=>jU (λh2=>?_),λhc aT d0 d1 d2 d3=>⟨⟨by omega,by omega⟩,⟨i+1,by rw[show((i:Int)+(-18446744073709551616)*aT)+1=((i+1:Nat):Int) by omega],by omega,λj hj=>?_⟩,?_⟩⟩
  ·rw[hd,(h2.2 i (by omega)).2 (by omega)]at hc;cases hc
  ·rcases mx j i with h|h
   ·exact hI j h
   ·obtain rfl:j=i:=by omega
    refine⟨aX,λ_=>?_⟩;rw[hd]at hc;simpa using hc
  ·show(bds z0).length-(((i:Int)+(-18446744073709551616)*aT)+1).toNat<(bds z0).length-((i:Int)).toNat;omega
 ·have hp:=of_decide_eq_false hp;obtain rfl:i=0:=by omega
  refine⟨⟨1,rfl,by omega,λj hj=>?_⟩,?_⟩
  ·obtain rfl:j=0:=by omega
   exact⟨aX,λh=>absurd h (Nat.lt_irrefl 0)⟩
  ·show(bds z0).length-(1:Int).toNat<(bds z0).length-((0:Nat):Int).toNat;omega
end Go.bE
namespace Go.bE
open Go Go.ba
def KU (S:zzS) (K:zzK):Prop:=
 bt λz0=>aI 0 [z0] λae=>∃(fD:List (List Int)->Prop) (iT:List (List Int)->Nat),fD [[0]]/\(dC λz3=>fD [[z3]]->(ak (decide (z3<ae))
 (af 1 [z0,z3]/\bF 1 [z0,z3] λz4=>(ak (decide (z4<32)) (K [[z0]] [[(cond (false) 1 0)]]) (af 1 [z0,z3]/\bF 1 [z0,z3] λz5=>(ak (decide (126<
 z5)) (K [[z0]] [[(cond (false) 1 0)]]) (bk (z3+bU) bP λz6=>af 39 [((z3+(ax*z6))+
 1),0,aZ]/\(fD [[((z3+(ax*z6))+1)]]/\iT [[((z3+(ax*z6))+1)]]<iT [[z3]])))))) (K
 [[z0]] [[(cond (true) 1 0)]])))
theorem LQ {b:Bool} (h:(!b)=true):b=false:=by cases b<;>first|rfl|cases h
theorem Td {b:Bool} (h:(!b)=false):b=true:=by cases b<;>first|rfl|cases h
def abl (z0:Int) (bl:List (List Int)):Prop:=∃i:Nat,bl=[[(i:Int)]]/\i<=(U z0).length/\v7 ((U z0).take i)=true
def abm (z0:Int) (bl:List (List Int)):Nat:=(U z0).length-((bl.getD 0 []).getD 0 0).toNat
theorem aoF {t:aq} {i:Nat} (h:i<t.length):t.getD i 0∈t:=by simp[aC,h]
theorem anU:KU SB (aW SB [.bool] 400):=by
 delta KU ak bk dC aI bt bF bP ax aZ bU;dsimp only
 intro z0 a0 a1 ae _ c1 h1;have h1:ae=((U z0).length:Int):=h1;have aU:∀b:Bool,v7 (U z0)=b->aW SB [.bool] 400 [[z0]] [[aN b]]:=λb h=>lL (by show aN b=aN (v7 (U z0));rw[h]);have jU:∀i,i<(U z0).length->(((U z0).getD i 0).toNat<32∨126<((U z0).getD i 0).toNat)->aW SB [.bool] 400 [[z0]] [[cond false 1 0]]:=λi hi h=>aU false (by
  cases hp:v7 (U z0)with
  |false=>rfl
  |true=>
   have:=List.all_eq_true.1 hp _ (aoF hi);simp only[aO,pH]at this;omega)
 refine⟨abl z0,abm z0,⟨0,rfl,iF _,rfl⟩,?_⟩
 rintro z3 d0 d1 ⟨i,e,hi,hI⟩
 obtain rfl:z3=i:=by simpa using e
 refine⟨λhlt=>?_,λfI=>aU true ?_⟩
 ·have hlt:=of_decide_eq_true hlt;have dv:i<(U z0).length:=by omega
  have hg:∀z:Int,z=aw 1 [z0,(i:Int)]->z=(((U z0).getD i 0).toNat:Int):=λz h=>by
   rw[h];simp only[aw,eW]
  refine⟨⟨by omega,by omega⟩,λz4 _ _ h4=>⟨λhc=>jU i dv (.inl ?_),λhc=>⟨⟨by omega,by omega⟩,λz5 _ _ h5=>⟨λhd=>jU i dv (.inr ?_),λhd z6 x0 x1 x2 x3=>?_⟩⟩⟩⟩
  ·have:=hg z4 h4;have:=of_decide_eq_true hc;omega
  ·have:=hg z5 h5;have:=of_decide_eq_true hd;omega
  ·have fo:=hg z4 h4;have oM:=hg z5 h5
   have hc:=of_decide_eq_false hc;have hd:=of_decide_eq_false hd
   refine⟨⟨by omega,by omega⟩,⟨i+1,by rw[show((i:Int)+(-18446744073709551616)*z6)+1=((i+1:Nat):Int) by omega],by omega,?_⟩,?_⟩
   ·unfold v7 at hI⊢;rw[FH _ _ dv,List.all_append,hI];simp only[Kf,List.all_nil,aak,wF,aO,pH];omega
   ·show(U z0).length-(((i:Int)+(-18446744073709551616)*z6)+1).toNat<(U z0).length-((i:Int)).toNat;omega
 ·have:=of_decide_eq_false fI
  rwa [kr (by omega)]at hI
end Go.bE
namespace Go.bE
open Go Go.ba
def RQ (S:zzS) (K:zzK):Prop:=
 bt λz0=>cf 4 [33,z0] λae=>(ak (decide (ae=1)) (K [[z0]] [[(cond (true) 1 0)]]) (ql λz2=>S 73 [[z0],[32]] [[z2]]->K [[z0]] [[(cond (decide (0
 <=z2)) 1 0)]]))
theorem anm:RQ SB (aW SB [.bool] 501):=by
 intro z0 a0 a1 ae b0 b1 hz1;simp only[aw]at hz1;refine⟨λh=>⟨⟨by decide,by decide,trivial⟩,?_⟩,λh z2 bA c1 h2=>⟨⟨(oH _).1,(oH _).2,trivial⟩,?_⟩⟩
 ·have:U z0=[32]:=by
   have e:U 33=[32]:=by decide
   rw[e]at hz1;by_cases h':[32]=U z0
   ·exact h'.symm
   ·rw[if_neg h']at hz1;subst hz1;simp at h
  show(1:Int)=aN ((U z0).contains 32);rw[this];rfl
 ·have h2:z2=idx 32 (U z0):=h2;show(cond (decide (0<=z2)) 1 0:Int)=aN ((U z0).contains 32);rw[h2,Iy (by decide) (by decide)];rfl
theorem whole {z y n:Int} (hn:n=((ab z).length:Int)) (h:y=aw 22 [z,0,n]):ab y=ab z:=by
 rw[h];simp only[aw,du,hn];rw[show((0:Int)).toNat=0 by rfl,Ke,kr (by omega)]
theorem rK (z:Int):(bD z).length=(ab z).length:=by simp[bD]
theorem B9 {z:Int} {i:Nat} (h:i<(ab z).length):(bD z).getD i []=U (((ab z).getD i []).getD 0 0):=by simp[bD,aC,h]
def Ly (z0:Int) (bl:List (List Int)):Nat:=(ab z0).length-((bl.getD 0 []).getD 0 0).toNat
end Go.bE
namespace Go.bE
open Go Go.ba
def KK (S:zzS) (K:zzK):Prop:=
 ∀r0:List Int,bd [(4,4),(0,0),(0,bp),(0,0),(0,0)] r0->(af 89 [(aC r0 0 0),(aC r0 1 0),(aC r0 2 0),(aC r0 3 0),(aC r0 4
 0)]->cf 4 [(aC r0 2 0),0] λz5=>bq 27 [(aC r0 2 0)] λz6=>aI 0 [(aC r0 2 0)] λz7=>bN (-2) aZ λz8=>
 af 22 [z6,0,z7]/\bq 22 [z6,0,z7] λz9=>af 86 [z9]/\bC λav=>S 640 [[z9]] [[av]]->K [r0] [[(cond (decide (av=1)) 1 0)]])
def KJ (S:zzS) (K:zzK):Prop:=
 di λz0=>di λae=>(af 88 [z0,ae]->cB λz2=>bN (-2) aZ λz3=>aI 20 [z0] λz4=>cB λz5=>bN (-2) aZ
 λz6=>aI 20 [ae] λz7=>(ak (decide (z4=0)) ((ak ((!(decide (z4=z7)))) (K [[z0],[ae]] [[(cond (false) 1 0)]]) (∃(ei:List (List Int)->Prop) (fk:
 List (List Int)->Nat),ei [[0]]/\(dC λz9=>ei [[z9]]->(ak (decide (z9<z4)) (af 30 [z9,z4]/\af 21 [z0,z9]/\b8 21 [z0,z9,0] λav=>bq 27
 [av] λaj=>aI 0 [av] λz12=>bN (-2) aZ λaA=>af 22 [aj,0,z12]/\bq 22 [aj,0,z12] λaB=>af 86 [aB]/\bC λau
 =>S 640 [[aB]] [[au]]->(ak ((!(decide (au=1)))) (K [[z0],[ae]] [[(cond (false) 1 0)]]) ((ak (decide (0<z9)) (af 30 [(z9+(-1)),z4]/\af 21
 [z0,(z9+(-1))]/\b8 21 [z0,(z9+(-1)),0] λaT=>cf 5 [aT,av] λbz=>(ak ((!(decide (bz=1)))) (K [[z0],[ae]] [[(cond (false) 1 0)]]) (bk (z9+
 bU) bP λaF=>af 39 [((z9+(ax*aF))+1),0,aZ]/\(ei [[((z9+
 (ax*aF))+1)]]/\fk [[((z9+(ax*aF))+1)]]<fk [[z9]])))) ((ei [[1]]/\fk [[1]]<fk [[z9]])))))) (∃(jq:
 List (List Int)->Prop) (lX:List (List Int)->Nat),jq [[0]]/\(dC λaj=>jq [[aj]]->(ak (decide (aj<z7)) (af 30 [aj,z7]/\af 21 [ae,aj]
 /\ch 4 4 21 [ae,aj,0] λz12=>ch 0 0 21 [ae,aj,1] λaA=>b8 21 [ae,aj,2] λaB=>cf 4 [aB,0] λau=>bq 27 [aB] λaT=>aI 0 [aB]
 λbz=>bN (-2) aZ λaF=>af 22 [aT,0,bz]/\bq 22 [aT,0,bz] λcL=>af 86 [cL]/\bC λz20=>S 640 [[cL]] [[z20]]->
 (ak ((!(decide (z20=1)))) (K [[z0],[ae]] [[(cond (false) 1 0)]]) (bk (aj+bU) bP λz21=>af 39 [((aj+
 (ax*z21))+1),0,aZ]/\(jq [[((aj+(ax*z21))+1)]]/\lX [[((aj+(ax
 *z21))+1)]]<lX [[aj]])))) (K [[z0],[ae]] [[(cond (true) 1 0)]]))))))))) ((ak ((!(decide (z4=z7)))) (K [[z0],[ae]] [[(cond (false) 1 0)]]) (∃(ei:List
 (List Int)->Prop) (fk:List (List Int)->Nat),ei [[0]]/\(dC λz9=>ei [[z9]]->(ak (decide (z9<z4)) (af 30 [z9,z4]/\af 21 [z0,z9]/\b8 21
 [z0,z9,0] λav=>bq 27 [av] λaj=>aI 0 [av] λz12=>bN (-2) aZ λaA=>af 22 [aj,0,z12]/\bq 22 [aj,0,z12] λaB=>
 af 86 [aB]/\bC λau=>S 640 [[aB]] [[au]]->(ak ((!(decide (au=1)))) (K [[z0],[ae]] [[(cond (false) 1 0)]]) ((ak (decide (0<z9)) (af 30 [(z9+
 (-1)),z4]/\af 21 [z0,(z9+(-1))]/\b8 21 [z0,(z9+(-1)),0] λaT=>cf 5 [aT,av] λbz=>(ak ((!(decide (bz=1)))) (K [[z0],[ae]] [[(cond
 (false) 1 0)]]) (bk (z9+bU) bP λaF=>af 39 [((z9+(ax*aF))+1),0,aZ]/\
 (ei [[((z9+(ax*aF))+1)]]/\fk [[((z9+(ax*aF))+1)]]<fk [[z9]])))) ((ei [[1]]/\fk [[1]]<fk
 [[z9]])))))) (∃(jq:List (List Int)->Prop) (lX:List (List Int)->Nat),jq [[0]]/\(dC λaj=>jq [[aj]]->(ak (decide (aj<z7)) (af 30
 [aj,z7]/\af 21 [ae,aj]/\ch 4 4 21 [ae,aj,0] λz12=>ch 0 0 21 [ae,aj,1] λaA=>b8 21 [ae,aj,2] λaB=>cf 4 [aB,0] λau=>bq 27
 [aB] λaT=>aI 0 [aB] λbz=>bN (-2) aZ λaF=>af 22 [aT,0,bz]/\bq 22 [aT,0,bz] λcL=>af 86 [cL]/\bC λz20
 =>S 640 [[cL]] [[z20]]->(ak ((!(decide (z20=1)))) (K [[z0],[ae]] [[(cond (false) 1 0)]]) (bk (aj+bU) bP λz21=>
 af 39 [((aj+(ax*z21))+1),0,aZ]/\(jq [[((aj+(ax*z21))+1)]]/\lX [[((aj+
 (ax*z21))+1)]]<lX [[aj]])))) (K [[z0],[ae]] [[(cond (true) 1 0)]])))))))))))
theorem both {a p q:Prop} (h:a):(p->a)/\(q->a):=⟨λ_=>h,λ_=>h⟩
theorem GX {s x n:Int} (ha:ky s) (hx:x=aw 27 [s]) (hn:n=aw 0 [s]):(0<=(0:Int)/\0<=n/\n<=((ab x).length:Int))/\∀y,y=aw 22 [x,0,n]->af 86 [y]:=by
 have h1:ab x=(U s).map λb=>[(b.toNat:Int)]:=by rw[hx];exact du _
 have h2:n=((ab x).length:Int):=by rw[hn,h1,List.length_map];rfl
 refine⟨⟨bB _,by omega,by omega⟩,λy hy=>?_⟩;show ∀row∈ab y,row.getD 0 0<128;rw[whole h2 hy,h1];intro row hr;obtain⟨b,hb,rfl⟩:=List.mem_map.1 hr;have:=UInt8.lt_iff_toNat_lt.1 (ha b hb);show(b.toNat:Int)<128;simp at this;omega
theorem anD:KK SB (ez SB [.d .bool] 677):=by
 delta KK bN aI bq bC cf aZ;dsimp only
 intro r0 h0 ha z5 _ _ _ z6 _ _ h6 z7 _ _ h7 z8 _ _;have ha:ky (aC r0 2 0):=ha;obtain⟨g1,g2⟩:=GX ha h6 h7;refine⟨g1,λz9 _ _ a8=>⟨g2 z9 a8,λav _ _ dg=>?_⟩⟩;have dg:av=1:=dg;rw[dg];exact⟨⟨by decide,by decide,trivial⟩,rfl⟩
def Sn (z0:Int) (bl:List (List Int)):Prop:=∃i:Nat,bl=[[(i:Int)]]/\i<=(ab z0).length
theorem ad2 {a b:Int} (h:l8 a b) {i:Nat} (hi:i<(ab a).length):ky (((ab a).getD i []).getD 0 0):=by
 refine h.2.2.1 _ ?_;simp[aC,hi]
theorem ad3 {a b:Int} (h:l8 a b) {i:Nat} (hi:i<(ab b).length):ky (((ab b).getD i []).getD 2 0):=by
 refine h.2.2.2.1 _ ?_;simp[aC,hi]
theorem anC:KJ SB (ez SB [.d .bool] 642):=by
 delta KJ ak bk bN ch cB dC aI di bq b8 bC cf bP ax aZ bU;dsimp only
 intro z0 a0 a1 ae b0 b1 h z2 _ z3 _ _ z4 _ c1 h4 z5 _ z6 _ _ z7 _ d1 h7;have h:l8 z0 ae:=h;have h4:z4=((ab z0).length:Int):=h4;have h7:z7=((ab ae).length:Int):=h7;have hl:(ab z0).length=(ab ae).length:=h.1;have uu:ez SB [.d .bool] 642 [[z0],[ae]] [[cond true 1 0]]:=⟨⟨by decide,by decide,trivial⟩,rfl⟩;have VX:∀{x y:Int},SB 640 [[x]] [[y]]->y=1:=λh=>h;refine both ⟨λhe=>?_,λ_=>?_⟩
 ·have he:=of_decide_eq_false (LQ he);omega
 refine⟨Sn z0,Ly z0,⟨0,rfl,iF _⟩,?_⟩
 rintro z9 e0 e1 ⟨i,e,hi⟩
 obtain rfl:z9=i:=by simpa using e
 refine⟨λhlt=>?_,λ_=>?_⟩
 ·have hlt:=of_decide_eq_true hlt;have dv:i<(ab z0).length:=by omega
  refine⟨⟨by omega,by omega⟩,⟨by omega,by omega⟩,λav _ _ dg aj _ _ dF z12 _ _ dJ aA _ _=>?_⟩;have Ht:av=((ab z0).getD i []).getD 0 0:=by rw[dg];simp only[aw,eW];rfl
  have ha:ky av:=by rw[Ht];exact ad2 h dv
  obtain⟨g1,g2⟩:=GX ha dF dJ;refine⟨g1,λaB _ _ eM=>⟨g2 aB eM,λau _ _ eZ=>⟨λhq=>?_,λ_=>⟨λhp=>?_,λhp=>?_⟩⟩⟩⟩
  ·rw[VX eZ]at hq;cases hq
  ·have hp:=of_decide_eq_true hp;have mK:(i:Int)+(-1)=((i-1:Nat):Int):=by omega
   refine⟨⟨by omega,by omega⟩,⟨by omega,by omega⟩,λaT _ _ kC bz _ _ jM=>⟨λhq=>?_,λ_ aF x0 x1 x2 x3=>⟨⟨by omega,by omega⟩,⟨i+1,by rw[show(i:Int)+(-18446744073709551616)*aF+1=((i+1:Nat):Int) by omega],by omega⟩,?_⟩⟩⟩
   ·rw[mK]at kC;have Mo:aT=((ab z0).getD (i-1) []).getD 0 0:=by rw[kC];simp only[aw,eW];rfl
    have hr:=h.2.2.2.2 (i-1) i (by omega) dv;rw[<-Mo,<-Ht]at hr;have jM:bz=if dy (U aT) (U av)=true then 1 else 0:=jM
    rw[if_pos hr]at jM;rw[jM]at hq;cases hq
   ·show(ab z0).length-((i:Int)+(-18446744073709551616)*aF+1).toNat<(ab z0).length-((i:Int)).toNat;omega
  ·have hp:=of_decide_eq_false hp;obtain rfl:i=0:=by omega
   refine⟨⟨1,rfl,by omega⟩,?_⟩;show(ab z0).length-(1:Int).toNat<(ab z0).length-((0:Nat):Int).toNat;omega
 refine⟨Sn ae,Ly ae,⟨0,rfl,iF _⟩,?_⟩
 rintro aj e0 e1 ⟨i,e,hi⟩
 obtain rfl:aj=i:=by simpa using e
 refine⟨λhlt=>?_,λ_=>uu⟩;have hlt:=of_decide_eq_true hlt;have dv:i<(ab ae).length:=by omega
 refine⟨⟨by omega,by omega⟩,⟨by omega,by omega⟩,λz12 _ _ _ aA _ _ _ aB _ _ eM au _ _ _ aT _ _ kC bz _ _ jM aF _ _=>?_⟩;have qN:aB=((ab ae).getD i []).getD 2 0:=by rw[eM];simp only[aw,eW];rfl
 have ha:ky aB:=by rw[qN];exact ad3 h dv
 obtain⟨g1,g2⟩:=GX ha kC jM;refine⟨g1,λcL _ _ xq=>⟨g2 cL xq,λz20 _ _ Ab=>⟨λhq=>?_,λ_ z21 x0 x1 x2 x3=>⟨⟨by omega,by omega⟩,⟨i+1,by rw[show(i:Int)+(-18446744073709551616)*z21+1=((i+1:Nat):Int) by omega],by omega⟩,?_⟩⟩⟩⟩
 ·rw[VX Ab]at hq;cases hq
 ·show(ab ae).length-((i:Int)+(-18446744073709551616)*z21+1).toNat<(ab ae).length-((i:Int)).toNat;omega
end Go.bE
namespace Go.bE
open Go Go.ba
def KC (S:zzS) (K:zzK):Prop:=
 di λz0=>(af 66 [z0]->cB λae=>bN (-2) aZ λz2=>aI 20 [z0] λz3=>(af 53 [z2,z3]->(ak (decide (z2=(-1))) (K [[z0]]
 [[0]]) (af 22 [z0,0,z3]/\af 23 [0,z3]/\bq 22 [z0,0,z3] λz4=>bq 24 [0,z4] λz5=>(ak (decide (z3<=0)) (K [[z0]] [[0]]) (bN (-2)
 aZ λz6=>af 22 [z5,0,z3]/\bq 22 [z5,0,z3] λz7=>K [[z0]] [[z7]]))))))
def KD (S:zzS) (K:zzK):Prop:=
 di λz0=>(af 66 [z0]->cB λae=>bN (-2) aZ λz2=>aI 20 [z0] λz3=>(af 53 [z2,z3]->(ak (decide (z2=(-1))) (K [[z0]]
 [[0]]) (af 22 [z0,0,z3]/\af 23 [0,z3]/\bq 22 [z0,0,z3] λz4=>bq 24 [0,z4] λz5=>(ak (decide (z3<=0)) (K [[z0]] [[0]]) (bN (-2)
 aZ λz6=>af 22 [z5,0,z3]/\bq 22 [z5,0,z3] λz7=>K [[z0]] [[z7]]))))))
def KR (S:zzS) (K:zzK):Prop:=
 bt λz0=>cf 4 [z0,0] λae=>(ak ((!(decide (ae=1)))) (aI 0 [z0] λz2=>(ak (decide (z2<=64)) (bC λz3=>S 400 [[z0]] [[z3]]->(ak (decide (z3
 =1)) (bC λz4=>S 501 [[z0]] [[z4]]->K [[z0]] [[(cond ((!(decide (z4=1)))) 1 0)]]) (K [[z0]] [[(cond (false) 1 0)]]))) (K [[z0]] [[(cond (false) 1
 0)]]))) (K [[z0]] [[(cond (false) 1 0)]]))
def KM (S:zzS) (K:zzK):Prop:=
 di λz0=>bt λae=>cB λz2=>bN (-2) aZ λz3=>aI 20 [z0] λz4=>∃(dk:List (List Int)->Prop) (cT:List (List Int)->
 Nat),dk [[0],[z4]]/\(dC λz6=>dC λz7=>dk [[z6],[z7]]->(ak (decide (z6<z7)) (bk ((z6+z7)+9223372036854775808) bP λz8=>fr
 (-1) 0 (z6+(z7+(ax*z8))) bP λz9=>fr 0 aZ (z6+(z7+((ax*z8)+
 (ax*z9)))) 2 λav=>af 30 [av,z4]/\af 21 [z0,av]/\b8 21 [z0,av,0] λaj=>cf 4 [aj,aj] λz12=>(ak ((!(decide
 (z12=1)))) (cf 4 [ae,ae] λaA=>(ak (decide (aA=1)) (bk (av+bU) bP λaB=>af 39 [((av+
 (ax*aB))+1),0,aZ]/\(dk [[((av+(ax*aB))+1)],[z7]]/\cT [[((av+
 (ax*aB))+1)],[z7]]<cT [[z6],[z7]])) (cf 5 [aj,ae] λaB=>(ak (decide (aB=1)) (bk (av+bU)
 bP λau=>af 39 [((av+(ax*au))+1),0,aZ]/\(dk [[((av+(ax*au))+
 1)],[z7]]/\cT [[((av+(ax*au))+1)],[z7]]<cT [[z6],[z7]])) ((dk [[z6],[av]]/\cT [[z6],[av]]<cT [[z6],[z7]])))))) (cf 5
 [aj,ae] λaA=>(ak (decide (aA=1)) (bk (av+bU) bP λaB=>af 39 [((av+(ax*aB))+
 1),0,aZ]/\(dk [[((av+(ax*aB))+1)],[z7]]/\cT [[((av+(ax*aB))+1)],[z7]]<cT
 [[z6],[z7]])) ((dk [[z6],[av]]/\cT [[z6],[av]]<cT [[z6],[z7]])))))) ((ak (decide (z6<z4)) (af 30 [z6,z4]/\af 21 [z0,z6]/\b8 21 [z0,z6,0] λz8
 =>cf 4 [z8,ae] λz9=>(ak (decide (z9=1)) (K [[z0],[ae]] [[z6],[(cond (true) 1 0)]]) (af 30 [z6,z4]/\af 21 [z0,z6]/\b8 21 [z0,z6,0] λav=>
 cf 4 [av,av] λaj=>(ak ((!(decide (aj=1)))) (cf 4 [ae,ae] λz12=>K [[z0],[ae]] [[z6],[(cond ((!(decide (z12=1)))) 1 0)]]) (K [[z0],[ae]]
 [[z6],[(cond (false) 1 0)]]))))) (K [[z0],[ae]] [[z6],[(cond (false) 1 0)]])))))
theorem Yt {z:Int} (h:(ab z).length=0):ab z=[]:=List.eq_nil_of_length_eq_zero h
theorem anl:KC SB (ez SB [Jh] 683):=by
 delta KC ak bN cB aI di bq aZ;dsimp only
 intro z0 a0 a1 hp ae b1 z2 bA c1 z3 d0 d1 h3 hn;have h3:z3=((ab z0).length:Int):=h3;have hl:(ab z0).length<=1000000:=hp;have hn:z2<0->z3=0:=hn;have fin:∀z,0<=z->z<=cc->ab z=ab z0->ez SB [Jh] 683 [[z0]] [[z]]:=λz h1 h2 h=>⟨⟨h1,h2,trivial⟩,h⟩;have e0:z3<=0->ez SB [Jh] 683 [[z0]] [[0]]:=λh=>fin 0 (bB _) rZ (by rw[fA,Yt (z:=z0) (by omega)]);refine⟨λh=>e0 (by have h:=of_decide_eq_true h;have:=hn (by omega);omega),λh=>⟨⟨bB _,by omega,by rw[h3];exact bB _⟩,by show(ab 0).length+z3<=1073741824;rw[fA];simp only[eH];omega,λz4 f0 f1 h4 z5 g0 g1 h5=>?_⟩⟩;have h4:=whole h3 h4;have h5:ab z5=ab z0:=by
  rw[h5];show ab (rc (ab 0++ab z4))=_
  rw[du,fA,h4];rfl
 refine⟨λh=>e0 (of_decide_eq_true h),λh z6 i0 i1=>⟨⟨bB _,by omega,by rw[h3,h5];exact bB _⟩,λz7 fS da h7=>fin z7 fS da ?_⟩⟩;rw[whole (by rw[h5];exact h3) h7,h5]
theorem anp:KD SB (ez SB [Jb] 684):=by
 delta KD ak bN cB aI di bq aZ;dsimp only
 intro z0 a0 a1 hp ae b1 z2 bA c1 z3 d0 d1 h3 hn;have h3:z3=((ab z0).length:Int):=h3;have hl:(ab z0).length<=1000000:=hp;have hn:z2<0->z3=0:=hn;have fin:∀z,0<=z->z<=cc->ab z=ab z0->ez SB [Jb] 684 [[z0]] [[z]]:=λz h1 h2 h=>⟨⟨h1,h2,trivial⟩,h⟩;have e0:z3<=0->ez SB [Jb] 684 [[z0]] [[0]]:=λh=>fin 0 (bB _) rZ (by rw[fA,Yt (z:=z0) (by omega)]);refine⟨λh=>e0 (by have h:=of_decide_eq_true h;have:=hn (by omega);omega),λh=>⟨⟨bB _,by omega,by rw[h3];exact bB _⟩,by show(ab 0).length+z3<=1073741824;rw[fA];simp only[eH];omega,λz4 f0 f1 h4 z5 g0 g1 h5=>?_⟩⟩;have h4:=whole h3 h4;have h5:ab z5=ab z0:=by
  rw[h5];show ab (rc (ab 0++ab z4))=_
  rw[du,fA,h4];rfl
 refine⟨λh=>e0 (of_decide_eq_true h),λh z6 i0 i1=>⟨⟨bB _,by omega,by rw[h3,h5];exact bB _⟩,λz7 fS da h7=>fin z7 fS da ?_⟩⟩;rw[whole (by rw[h5];exact h3) h7,h5]
theorem anN:KR SB (aW SB [.bool] 670):=by
 delta KR ak aI bt bC cf;dsimp only
 intro z0 n0 n1 ae _ _ h1;have h1:=iL h1;have Il:U (0:Int)=[]:=rfl;have aU:∀b:Bool,hE (U z0)=b->aW SB [.bool] 670 [[z0]] [[cond b 1 0]]:=λb h=>⟨by cases b<;>exact⟨by decide,by decide,trivial⟩,by show cond b (1:Int) 0=aN (hE (U z0));rw[h];rfl⟩;have he:decide (ae=1)=(U z0).isEmpty:=by
  rw[h1,Il];cases hz:U z0<;>simp
 refine⟨λhq z2 _ _ h2=>?_,λhq=>aU false ?_⟩
 ·have hq:(U z0).isEmpty=false:=by rw[<-he];exact LQ hq
  have h2:z2=((U z0).length:Int):=h2;refine⟨λhl z3 _ _ h3=>?_,λhl=>aU false ?_⟩
  ·have hl:=of_decide_eq_true hl;have h3:=fF (show z3=aN (v7 (U z0)) from h3);refine⟨λhp z4 _ _ h4=>aU _ ?_,λhp=>aU false ?_⟩
   ·have h4:=fF (show z4=aN ((U z0).contains 32) from h4);unfold hE;rw[hq,<-h3,hp,h4,Nat.ble_eq_true_of_le (by omega)];rfl
   ·unfold hE;rw[<-h3,hp];simp
  ·have hl:=of_decide_eq_false hl;unfold hE;rw[show bu (U z0).length 64=false from by rw[Bool.eq_false_iff];intro h;have:=eh h;omega];simp
 ·have hq:(U z0).isEmpty=true:=by rw[<-he];exact Td hq
  unfold hE;rw[hq];rfl
def abn (z0:Int) (t:aq) (bl:List (List Int)):Prop:=∃lo hi:Nat,bl=[[(lo:Int)],[(hi:Int)]]/\lo<=hi/\hi<=(bD z0).length/\((bD z0).Pairwise (λa b=>dy a b=true)->(∀j:Nat,j<lo->dy ((bD z0).getD j []) t=true)/\∀j:Nat,hi<=j->j<(bD z0).length->dy ((bD z0).getD j []) t=false)
def abo (bl:List (List Int)):Nat:=((bl.getD 1 []).getD 0 0).toNat-((bl.getD 0 []).getD 0 0).toNat
theorem PD {l:List aq} (h:l.Pairwise (λa b=>dy a b=true)) {j k:Nat} (q7:j<k) (hk:k<l.length):dy (l.getD j []) (l.getD k [])=true:=by
 have:=List.pairwise_iff_getElem.1 h j k (by omega) hk q7;simpa [aC,show j<l.length by omega,hk]using this
theorem eq_self {z a:Int} (h:z=aw 4 [a,a]):z=1:=by
 rw[h];show(if U a=U a then(1:Int)else 0)=1
 rw[if_pos rfl]
theorem ajH {z a b:Int} (h:z=aw 5 [a,b]):decide (z=1)=dy (U a) (U b):=by
 rw[h];show decide ((if dy (U a) (U b)=true then(1:Int)else 0)=1)=_
 cases dy (U a) (U b)<;>rfl
theorem anF:KM SB (ez SB [.d (.int .i64 0 9223372036854775807),.d .bool] 671):=by
 delta KM ak bk fr bN cB dC aI di bt b8 cf bP ax aZ bU;dsimp only
 intro z0 a0 a1 ae n0 n1 z2 _ z3 _ _ z4 b0 b1 h4;have h4:z4=((ab z0).length:Int):=h4;have hlen:=rK z0;have Yw:∀{z i:Int} {k:Nat},i=(k:Int)->k<(ab z0).length->z=aw 21 [z0,i,0]->U z=(bD z0).getD k []:=λhi hk h=>by
  rw[B9 hk,h,hi];rfl
 generalize ht:U ae=t;refine⟨abn z0 t,abo,⟨0,(ab z0).length,by rw[h4];rfl,iF _,by omega,λ_=>⟨λj h=>absurd h (RE j),λj h h2=>by omega⟩⟩,?_⟩
 rintro z6 bA c1 z7 d0 d1 ⟨lo,hi,e,awK,agX,hI⟩
 obtain⟨rfl,rfl⟩:z6=lo/\z7=hi:=by simpa using e
 refine⟨λhlt z8 e0 e1 e2 e3 z9 f0 f1 f2 f3 av g0 g1 g2 g3=>?_,λfI=>?_⟩
 ·have hlt:=of_decide_eq_true hlt;have awT:z8+z9=0:=by omega
  have dF:av=(((lo+hi)/2:Nat):Int):=by omega
  generalize hk:(lo+hi)/2=k at dF;have ir:lo<=k:=by omega
  have hk2:k<hi:=by omega
  subst dF;have D8:k<(ab z0).length:=by omega
  have iu:k<(bD z0).length:=by omega
  refine⟨⟨by omega,by omega⟩,⟨by omega,by omega⟩,λaj _ _ dF z12 _ _ dJ=>?_⟩;have dJ:=eq_self dJ;refine⟨λhn=>(by rw[dJ]at hn;cases hn),λ_ aA _ _ dK=>?_⟩;have dK:=ajH dK;rw[Yw (k:=k) rfl D8 dF,ht]at dK;refine⟨λhn aF i0 i1 i2 i3=>⟨⟨by omega,by omega⟩,⟨k+1,hi,by rw[show((k:Int)+(-18446744073709551616)*aF)+1=((k+1:Nat):Int) by omega],by omega,agX,λhr=>⟨λj hj=>?_,(hI hr).2⟩⟩,?_⟩,λhn=>⟨⟨lo,k,rfl,ir,by omega,λhr=>⟨(hI hr).1,λj hj hl=>?_⟩⟩,?_⟩⟩
  ·have hb:dy ((bD z0).getD k []) t=true:=by rw[<-dK];exact hn
   rcases mx j k with h|h
   ·exact EV _ _ _ (PD hr h iu) hb
   ·rw[show j=k by omega];exact hb
  ·show((hi:Int)).toNat-(((k:Int)+(-18446744073709551616)*aF)+1).toNat<((hi:Int)).toNat-((lo:Int)).toNat;omega
  ·have hb:dy ((bD z0).getD k []) t=false:=by rw[<-dK];exact hn
   rcases mx k j with h|h
   ·cases nW:dy ((bD z0).getD j []) t with
    |false=>rfl
    |true=>rw[EV _ _ _ (PD hr h hl) nW]at hb;cases hb
   ·rw[show j=k by omega];exact hb
  ·show((k:Int)).toNat-((lo:Int)).toNat<((hi:Int)).toNat-((lo:Int)).toNat;omega
 ·have fI:=of_decide_eq_false fI;have ah:hi=lo:=by omega
  subst ah;have aU:∀f:Bool,(f=true↔hi<(bD z0).length/\(bD z0).getD hi []=t)->ez SB [.d (.int .i64 0 9223372036854775807),.d .bool] 671 [[z0],[ae]] [[(hi:Int)],[cond f 1 0]]:=λf hf=>by
   refine⟨⟨by omega,c1,by cases f<;>decide,by cases f<;>decide,trivial⟩,?_⟩;show GK (bD z0) (U ae) (hi:Int) (cond f 1 0);rw[ht];refine⟨⟨by omega,by omega⟩,λh=>?_,λhr=>⟨λj hj=>(hI hr).1 j (by omega),λj h1 h2=>(hI hr).2 j (by omega) h2,?_⟩⟩
   ·have:f=true:=by cases f with|true=>rfl|false=>cases h
    have:=(hf.1 this).1;omega
   ·rw[eW];cases f with
    |true=>exact⟨λ_=>⟨by have:=(hf.1 rfl).1;omega,(hf.1 rfl).2⟩,λ_=>rfl⟩
    |false=>exact⟨λh=>(by cases h),λh=>(by have:=hf.2 ⟨by omega,h.2⟩;cases this)⟩
  refine⟨λhl=>?_,λhl=>?_⟩
  ·have hl:=of_decide_eq_true hl;have D8:hi<(ab z0).length:=by omega
   refine⟨⟨by omega,by omega⟩,⟨by omega,by omega⟩,λz8 _ _ h8 z9 _ _ a8=>?_⟩;have a8:=iL a8;rw[Yw (k:=hi) rfl D8 h8,ht]at a8;refine⟨λhn=>aU true ⟨λ_=>⟨by omega,?_⟩,λ_=>rfl⟩,λhn=>⟨⟨by omega,by omega⟩,⟨by omega,by omega⟩,λav _ _ _ aj _ _ dF=>⟨λhq=>(by rw[eq_self dF]at hq;cases hq),λ_=>aU false ⟨λh=>(by cases h),λh=>?_⟩⟩⟩⟩
   ·rw[a8]at hn;exact of_decide_eq_true hn
   ·rw[a8]at hn;exact absurd h.2 (of_decide_eq_false hn)
  ·have hl:=of_decide_eq_false hl;exact aU false ⟨λh=>(by cases h),λh=>(by omega)⟩
end Go.bE
namespace Go.bE
open Go Go.ba
theorem QI:∀(l m:List aq) (j:Nat),(l.zip m).take j=(l.take j).zip (m.take j)
 |[],_,j=>by cases j<;>simp
 |_::_,[],j=>by cases j<;>simp
 |x::l,y::m,0=>rfl
 |x::l,y::m,j+1=>by simp[QI l m j]
theorem TW:∀(l m:List aq) (j:Nat),(l.zip m).drop j=(l.drop j).zip (m.drop j)
 |[],_,j=>by cases j<;>simp
 |_::_,[],j=>by cases j<;>simp
 |x::l,y::m,0=>rfl
 |x::l,y::m,j+1=>by simp[TW l m j]
abbrev EY:aq->aq->Prop:=λa b=>dy a b=true
def gV (t:aq):Prop:=∀b∈t,b<128
theorem aqU (z:Int):(gw z).length=(ab z).length:=by simp[gw]
theorem ME {a b:Int}:l8 a b↔(bD a).length=(gw b).length/\(bD a).length<=1000000/\(∀t∈bD a,gV t)/\(∀t∈gw b,gV t)/\(bD a).Pairwise EY:=by
 unfold l8;rw[rK,aqU];refine and_congr_right λ_=>and_congr_right λ_=>and_congr ?_ (and_congr ?_ ?_)
 ·unfold bD;constructor
  ·intro h t ht;obtain⟨row,hr,rfl⟩:=List.mem_map.1 ht;exact h row hr
  ·intro h row hr;exact h _ (List.mem_map.2 ⟨row,hr,rfl⟩)
 ·unfold gw;constructor
  ·intro h t ht;obtain⟨row,hr,rfl⟩:=List.mem_map.1 ht;exact h row hr
  ·intro h row hr;exact h _ (List.mem_map.2 ⟨row,hr,rfl⟩)
 ·rw[List.pairwise_iff_getElem];constructor
  ·intro h i j hi hj ue;have:=h i j ue (by rw[<-rK];exact hj);rw[<-B9 (by rw[<-rK];exact hi),<-B9 (by rw[<-rK];exact hj)]at this;simpa [aC,hi,hj]using this
  ·intro h i j ue hj;have hj':j<(bD a).length:=by rw[rK];exact hj
   have nn:i<(bD a).length:=by omega
   have:=h i j nn hj' ue;rw[<-B9 (by omega),<-B9 hj];simpa [aC,nn,hj']using this
theorem Ui:∀(l m:List aq) (s:aq),l.length=m.length->(l.findIdx? λx=>decide (x=s)).map (λi=>m.getD i [])=((l.zip m).find? λp=>decide (p.1=s)).map (·.2)
 |[],[],s,_=>rfl
 |x::l,y::m,s,h=>by
  have ih:=Ui l m s (by simpa using h);rw[List.findIdx?_cons,List.zip_cons_cons,zh];cases hd:decide (x=s)with
  |true=>simp
  |false=>
   simp only[Bool.false_eq_true,if_false,Option.map_map];rw[<-ih]
   congr 1
 |[],_::_,_,h=>by cases h
 |_::_,[],_,h=>by cases h
theorem HI {a b:Int} (h:(bD a).length=(gw b).length) (s:aq):nh a b s=(((bD a).zip (gw b)).find? λp=>decide (p.1=s)).map (·.2):=by
 unfold nh nt;exact Ui _ _ s h
theorem adV {l:List (aq×aq)} {i:Nat} {s t jW:aq} (h:∀p∈l.take i,p.1≠s):((l.take i++[(s,t)]++l.drop i).find? λp=>decide (p.1=jW)).map (·.2)=cond (decide (jW=s)) (some t) ((l.find? λp=>decide (p.1=jW)).map (·.2)):=by
 rw[gJ,RF,ti,jH,zh];by_cases e:jW=s
 ·subst e;have h0:((l.take i).find? λp=>decide (p.1=jW))=none:=by
   rw[aaY];intro p hp;simpa using h p hp
  rw[h0];simp
 ·have pW:¬s=jW:=λh=>e h.symm;simp only[pW,e,decide_false,cond_false];rw[<-RF,jn]
theorem adX {l:List (aq×aq)} {i:Nat} {s t o jW:aq} (hi:i<l.length) (ho:l[i]=(s,o)) (h:∀p∈l.take i,p.1≠s):((l.set i (s,t)).find? λp=>decide (p.1=jW)).map (·.2)=cond (decide (jW=s)) (some t) ((l.find? λp=>decide (p.1=jW)).map (·.2)):=by
 have e1:l.set i (s,t)=l.take i++(s,t)::l.drop (i+1):=by rw[List.set_eq_take_append_cons_drop,if_pos hi]
 have e2:l.find? (λp=>decide (p.1=jW))=(l.take i++(s,o)::l.drop (i+1)).find? (λp=>decide (p.1=jW)):=by
  congr 1
  rw[<-ho,<-Rc hi,jn]
 rw[e1,e2,RF,RF,zh,zh];by_cases e:jW=s
 ·subst e;have h0:((l.take i).find? λp=>decide (p.1=jW))=none:=by
   rw[aaY];intro p hp;simpa using h p hp
  rw[h0];simp
 ·have pW:¬s=jW:=λh=>e h.symm;simp only[pW,e,decide_false,cond_false]
theorem aoL {l:List aq} {i:Nat} {s:aq} (hl:l.Pairwise EY) (h1:∀x∈l.take i,EY x s) (h2:∀x∈l.drop i,EY s x):(l.take i++[s]++l.drop i).Pairwise EY:=by
 rw[gJ,List.pairwise_append,ti,jH,List.pairwise_cons];refine⟨hl.sublist (List.take_sublist i l),⟨h2,hl.sublist (List.drop_sublist i l)⟩,λx hx y hy=>?_⟩;rcases List.mem_cons.1 hy with rfl|hy
 ·exact h1 x hx
 ·exact EV _ _ _ (h1 x hx) (h2 y hy)
theorem ajJ {x y:aq} (h:dy x y=true):x≠y:=λe=>by rw[e,Bp]at h;cases h
theorem aoK {a b s t a' b' k n u v:Int} (h:l8 a b) (hp:vf a b s [k,n,t,u,v] a' b') (hs:ky s) (ht:ky t) (hl:(ab a).length<1000000):
 l8 a' b'/\(ab a').length<=(ab a).length+1/\∀jW,nh a' b' jW=cond (decide (jW=U s)) (some (U t)) (nh a b jW):=by
 obtain⟨g1,g2,g3,g4,g5⟩:=ME.1 h;obtain⟨i,f,⟨⟨p1,br⟩,bT,dh⟩,q1,q2⟩:=hp;obtain⟨dD,eB,oU⟩:=dh g5;obtain⟨j,rfl⟩:∃j:Nat,i=j:=⟨i.toNat,by omega⟩;rw[eW]at q1 q2 oU;have NS:j<=(bD a).length:=by omega
 have hlt:∀x∈(bD a).take j,dy x (U s)=true:=λx hx=>by
  obtain⟨m,hm,rfl⟩:=Rh hx;have ug:m<j/\m<(bD a).length:=by rw[List.length_take]at hm;omega
  have:=dD m (by omega);simpa [aC,ug.2]using this
 have hz:∀p∈((bD a).zip (gw b)).take j,p.1≠U s:=λp hp=>by
  rw[QI]at hp;exact ajJ (hlt p.1 (List.of_mem_zip hp).1)
 by_cases hf:f=1
 ·obtain⟨r1,r2⟩:=q1 hf;obtain⟨r3,fL⟩:=oU.1 hf;have hj:j<(bD a).length:=by omega
  have e1:bD a'=bD a:=by unfold bD;rw[r1]
  have e2:gw b'=(gw b).set j (U t):=by unfold gw;rw[r2,aue];rfl
  have mN:j<((bD a).zip (gw b)).length:=by rw[List.length_zip];omega
  have aii:((bD a).zip (gw b))[j]=(U s,(gw b).getD j []):=by
   rw[aaZ];have h1:(bD a)[j]=U s:=by simpa [aC,hj]using fL
   rw[h1];simp[aC,show j<(gw b).length by omega]
  have e3:(bD a').zip (gw b')=((bD a).zip (gw b)).set j (U s,U t):=by
   rw[e1,e2];refine List.ext_getElem (by simp) λm NZ Ec=>?_;rw[aaZ,au9,au9,aaZ];by_cases hm:j=m
   ·subst hm;have h1:(bD a)[j]=U s:=by simpa [aC,hj]using fL
    simp[h1]
   ·simp[hm]
  refine⟨ME.2 ⟨by rw[e1,e2,aaX];exact g1,by rw[e1];exact g2,by rw[e1];exact g3,λx hx=>?_,by rw[e1];exact g5⟩,by rw[r1];omega,λjW=>?_⟩
  ·rw[e2]at hx;rcases List.mem_or_eq_of_mem_set hx with hx|rfl
   ·exact g4 x hx
   ·exact ht
  ·rw[HI (by rw[e1,e2,aaX];exact g1),HI g1,e3];exact adX mN aii hz
 ·obtain⟨r1,r2⟩:=q2 hf;have e1:bD a'=(bD a).take j++[U s]++(bD a).drop j:=by unfold bD;rw[r1];simp[y6,y7]
  have e2:gw b'=(gw b).take j++[U t]++(gw b).drop j:=by unfold gw;rw[r2];simp[y6,y7]
  have H4:∀x∈(bD a).drop j,dy (U s) x=true:=λx hx=>by
   obtain⟨m,hm,rfl⟩:=Rh hx;rw[List.length_drop]at hm;rw[List.getElem_drop];have hj:j<(bD a).length:=by omega
   have hne:(bD a).getD j []≠U s:=λe=>hf (oU.2 ⟨by omega,e⟩);have h0:=eB j (bB _) hj;have xN:dy (U s) ((bD a).getD j [])=true:=by
    rcases Xd (U s) ((bD a).getD j [])with h|h|h
    ·exact h
    ·rw[h0]at h;cases h
    ·exact absurd h.symm hne
   rcases Nat.eq_zero_or_pos m with h|h
   ·subst h;simpa [aC,hj]using xN
   ·have:=PD g5 (show j<j+m by omega) (by omega);have:=EV _ _ _ xN this;simpa [aC,show j+m<(bD a).length by omega]using this
  have e3:(bD a').zip (gw b')=((bD a).zip (gw b)).take j++[(U s,U t)]++((bD a).zip (gw b)).drop j:=by
   rw[e1,e2,ava (by simp;omega),ava (by simp;omega),QI,TW];rfl
  have hlen:(bD a').length=(bD a).length+1:=by rw[e1];simp;omega
  have sx:(gw b').length=(gw b).length+1:=by rw[e2];simp;omega
  have xS:=rK a;have awG:=rK a';refine⟨ME.2 ⟨by rw[hlen,sx,g1],by omega,λx hx=>?_,λx hx=>?_,?_⟩,by omega,λjW=>?_⟩
  ·rw[e1]at hx;rcases List.mem_append.1 hx with hx|hx
   ·rcases List.mem_append.1 hx with hx|hx
    ·exact g3 x (j1 hx)
    ·rw[List.mem_singleton.1 hx];exact hs
   ·exact g3 x (nL hx)
  ·rw[e2]at hx;rcases List.mem_append.1 hx with hx|hx
   ·rcases List.mem_append.1 hx with hx|hx
    ·exact g4 x (j1 hx)
    ·rw[List.mem_singleton.1 hx];exact ht
   ·exact g4 x (nL hx)
  ·rw[e1];exact aoL g5 hlt H4
  ·rw[HI (by rw[hlen,sx,g1]),HI g1,e3];exact adV hz
end Go.bE
namespace Go.bE
open Go Go.ba
def KL (S:zzS) (K:zzK):Prop:=
 di λz0=>di λae=>bt λz2=>∀r3:List Int,bd [(4,4),(0,0),(0,bp),(0,0),(0,0)] r3->(af 87 [z0,ae,z2,(aC r3 0 0),(aC r3 1
 0),(aC r3 2 0),(aC r3 3 0),(aC r3 4 0)]->cB λz8=>bN (-2) aZ λz9=>aI 20 [z0] λav=>cB λaj=>bN (-2)
 aZ λz12=>aI 20 [ae] λaA=>af 22 [z0,0,av]/\bq 22 [z0,0,av] λaB=>af 22 [ae,0,aA]/\bq 22 [ae,0,aA] λau=>af
 88 [aB,au]/\bC λaT=>S 642 [[aB],[au]] [[aT]]->(ak ((!(decide (aT=1)))) (K [[z0],[ae],[z2],r3] [[0],[0],[0],[0],[0],[1]]) (af 89 [(aC
 r3 0 0),(aC r3 1 0),(aC r3 2 0),0,0]/\bC λbz=>S 677 [[(aC r3 0 0),(aC r3 1 0),(aC r3 2 0),0,0]] [[bz]]->(ak
 ((!(decide (bz=1)))) (K [[z0],[ae],[z2],r3] [[0],[0],[0],[0],[0],[1]]) (bq 27 [z2] λaF=>aI 0 [z2] λcL=>bN (-2) aZ λz20=>
 af 22 [aF,0,cL]/\bq 22 [aF,0,cL] λz21=>af 86 [z21]/\bC λaE=>S 640 [[z21]] [[aE]]->(ak ((!(decide (aE=1)))) (K [[z0],[ae],[z2],r3]
 [[0],[0],[0],[0],[0],[1]]) (af 22 [z0,0,av]/\bq 22 [z0,0,av] λcx=>af 22 [ae,0,aA]/\bq 22 [ae,0,aA] λz24=>af 87 [cx,z24,z2,(aC
 r3 0 0),(aC r3 1 0),(aC r3 2 0),0,0]/\bN 6 6 λdP=>bN 0 0 λcn=>bt λkM=>di λz28=>di λic=>S 674
 [[cx],[z24],[z2],[(aC r3 0 0),(aC r3 1 0),(aC r3 2 0),0,0]] [[dP],[cn],[kM],[z28],[ic]]->cB λkp=>bN (-2) aZ
 λz31=>aI 20 [z28] λll=>cB λnI=>bN (-2) aZ λqu=>aI 20 [ic] λuS=>af 22 [z28,0,ll]/\bq 22 [z28,0,ll] λuT
 =>af 22 [ic,0,uS]/\bq 22 [ic,0,uS] λz37=>K [[z0],[ae],[z2],r3] [[dP],[cn],[kM],[uT],[z37],[0]])))))))
def KI (S:zzS) (K:zzK):Prop:=
 bN 0 6 λz0=>bN 0 0 λae=>bt λz2=>di λz3=>di λz4=>bt λz5=>cB λz6=>bN (-2) aZ λz7=>aI 20 [z3] λz8=>cB
 λz9=>bN (-2) aZ λav=>aI 20 [z4] λaj=>(ak ((!(decide (z0=6)))) (K [[z0],[ae],[z2],[z3],[z4],[z5]] [[0,0,0,0,0],[(cond (false)
 1 0)]]) (∃(wV:List (List Int)->Prop) (Gs:List (List Int)->Nat),wV [[0]]/\(dC λaA=>wV [[aA]]->(ak (decide (aA<z8)) (af 30 [aA,z8]/\
 af 21 [z3,aA]/\b8 21 [z3,aA,0] λaB=>cf 4 [z5,aB] λau=>(ak (decide (au=1)) ((ak (decide (aj<=aA)) (K [[z0],[ae],[z2],[z3],[z4],[z5]]
 [[0,0,0,0,0],[(cond (false) 1 0)]]) (af 30 [aA,aj]/\af 21 [z4,aA]/\ch 4 4 21 [z4,aA,0] λaT=>ch 0 0 21 [z4,aA,1] λbz=>b8 21 [z4,aA,2]
 λaF=>K [[z0],[ae],[z2],[z3],[z4],[z5]] [[aT,bz,aF,0,0],[(cond (true) 1 0)]]))) (bk (aA+bU) bP λaT=>af 39
 [((aA+(ax*aT))+1),0,aZ]/\(wV [[((aA+(ax*aT))+1)]]/\Gs [[((aA+
 (ax*aT))+1)]]<Gs [[aA]])))) (K [[z0],[ae],[z2],[z3],[z4],[z5]] [[0,0,0,0,0],[(cond (false) 1 0)]])))))
theorem Uu {a b a' b':Int} (h:l8 a b) (ha:ab a'=ab a) (hb:ab b'=ab b):l8 a' b':=by
 unfold l8 at h⊢;rw[ha,hb];exact h
theorem abp {a b s:Int} {r:List Int} {a' b' c d c' d':Int} (h:vf a b s r a' b') (ha:ab a=ab c) (hb:ab b=ab d) (fp:ab c'=ab a') (hb':ab d'=ab b'):vf c d s r c' d':=by
 obtain⟨i,f,h1,h2,h3⟩:=h;refine⟨i,f,?_,λh=>?_,λh=>?_⟩
 ·have e:bD c=bD a:=by unfold bD;rw[ha]
  rw[e];exact h1
 ·rw[fp,hb',<-ha,<-hb];exact h2 h
 ·rw[fp,hb',<-ha,<-hb];exact h3 h
theorem O2 {r:List Int} (h:bd [(4,4),(0,0),(0,bp),(0,0),(0,0)] r):[r.getD 0 0,r.getD 1 0,r.getD 2 0,0,0]=r:=by
 match r,h with
 |[a,b,c,d,e],h=>
  obtain⟨_,_,_,_,_,_,h1,h2,h3,h4,_⟩:=h;have:d=0:=by omega
  have:e=0:=by omega
  subst d;subst e;rfl
theorem anE:KL SB (ez SB [.d (.int .i64 0 6),.d (.int .i64 0 0),.d .str,.rd [.str],.rd [.int .i64 4 4,.int .i64 0 0,.str,.nil,.nil],.d (.int .i64 0 21)] 675):=by
 delta KL ak bN cB aI di bq bt bC aZ;dsimp only
 intro z0 a0 a1 ae b0 b1 z2 n0 n1 r3 Ik h z8 _ z9 _ _ av _ c1 dg aj _ z12 _ _ aA _ d1 dK;obtain⟨h,hs,ht⟩:l8 z0 ae/\ky z2/\ky (r3.getD 2 0):=h;have dg:av=((ab z0).length:Int):=dg;have dK:aA=((ab ae).length:Int):=dK;have f0:∀{z:Int},z=aw 22 [z0,0,av]->ab z=ab z0:=λh=>whole dg h;have f1:∀{z:Int},z=aw 22 [ae,0,aA]->ab z=ab ae:=λh=>whole dK h;have aeW:af 89 [r3.getD 0 0,r3.getD 1 0,r3.getD 2 0,0,0]:=ht;have apM:∀{x y:Int},SB 640 [[x]] [[y]]->y=1:=λh=>h;refine⟨⟨bB _,by omega,by omega⟩,λaB _ _ eM=>⟨⟨bB _,by omega,by omega⟩,λau _ _ eZ=>⟨Uu h (f0 eM) (f1 eZ),λaT _ _ kC=>⟨λhq=>?_,λ_=>⟨aeW,λbz _ _ jM=>⟨λhq=>?_,λ_ aF _ _ xp cL _ _ xq z20 _ _=>?_⟩⟩⟩⟩⟩⟩
 ·rw[show aT=1 from kC]at hq;cases hq
 ·rw[show bz=1 from jM]at hq;cases hq
 ·obtain⟨g1,g2⟩:=GX hs xp xq;refine⟨g1,λz21 _ _ Ac=>⟨g2 z21 Ac,λaE _ _ Du=>⟨λhq=>?_,λ_=>⟨⟨bB _,by omega,by omega⟩,λcx _ _ Ad=>⟨⟨bB _,by omega,by omega⟩,λz24 _ _ sf=>⟨⟨Uu h (f0 Ad) (f1 sf),hs,ht⟩,λdP e7 k1 cn _ _ kM m0 fT z28 p0 p1 ic q0 q1 hp kp _ z31 _ _ ll _ _ xt nI _ qu _ _ uS _ _ xu=>?_⟩⟩⟩⟩⟩⟩
  ·rw[apM Du]at hq;cases hq
  ·have xt:ll=((ab z28).length:Int):=xt;have xu:uS=((ab ic).length:Int):=xu;refine⟨⟨bB _,by omega,by omega⟩,λuT u0 ia aeq=>⟨⟨bB _,by omega,by omega⟩,λz37 v0 v1 aer=>?_⟩⟩;obtain⟨e1,e2,e3,fo⟩:dP=6/\cn=0/\U kM=[]/\vf cx z24 z2 [r3.getD 0 0,r3.getD 1 0,r3.getD 2 0,0,0] z28 ic:=hp;rw[O2 Ik]at fo;refine⟨⟨by omega,by omega,by omega,by omega,m0,fT,u0,ia,v0,v1,by decide,by decide,trivial⟩,rfl,e1,e2,e3,abp fo (f0 Ad) (f1 sf) (whole xt aeq) (whole xu aer)⟩
def aba (z0:Int) (t:aq) (bl:List (List Int)):Prop:=∃i:Nat,bl=[[(i:Int)]]/\i<=(ab z0).length/\∀j:Nat,j<i->(bD z0).getD j []≠t
theorem anB:KI SB (ez SB [.d (.mix [.int .i64 0 4,.int .i64 0 0,.str,.nil,.nil]),.d .bool] 676):=by
 delta KI ak bk bN ch cB dC aI di bt b8 cf bP ax aZ bU;dsimp only
 intro z0 e7 k1 ae _ _ z2 _ _ z3 a0 a1 z4 b0 b1 z5 n0 n1 z6 _ z7 _ _ z8 _ c1 h8 z9 _ av _ _ aj _ d1 dF;have h8:z8=((ab z3).length:Int):=h8;have dF:aj=((ab z4).length:Int):=dF;have hl:=rK z3;have Il:U (0:Int)=[]:=rfl;have jU:(∀i,cond (decide (z0=6)) (nt z3 (U z5)) none=some i->¬i<(ab z4).length)->ez SB [.d (.mix [.int .i64 0 4,.int .i64 0 0,.str,.nil,.nil]),.d .bool] 676 [[z0],[ae],[z2],[z3],[z4],[z5]] [[0,0,0,0,0],[cond false 1 0]]:=λh=>by
  refine⟨⟨by decide,by decide,by decide,by decide,bB _,fZ,by decide,by decide,by decide,by decide,by decide,by decide,trivial⟩,?_⟩;show match cond (decide (z0=6)) (nt z3 (U z5)) none with
   |some i=>i<(ab z4).length->(0:Int)=((ab z4).getD i []).getD 2 0/\(0:Int)=1
   |none=>U (0:Int)=[]/\(0:Int)=0
  cases hc:cond (decide (z0=6)) (nt z3 (U z5)) none with
  |none=>exact⟨rfl,rfl⟩
  |some i=>exactλhi=>absurd hi (h i hc)
 refine⟨λhq=>jU λi hi=>?_,λhq=>?_⟩
 ·rw[LQ hq]at hi;cases hi
 have h6:decide (z0=6)=true:=Td hq;refine⟨aba z3 (U z5),Ly z3,⟨0,rfl,iF _,λj hj=>absurd hj (RE j)⟩,?_⟩
 rintro aA e0 e1 ⟨i,e,hi,hI⟩
 obtain rfl:aA=i:=by simpa using e
 refine⟨λhlt=>?_,λfI=>jU λj hj=>?_⟩
 ·have hlt:=of_decide_eq_true hlt;have dv:i<(ab z3).length:=by omega
  refine⟨⟨by omega,by omega⟩,⟨by omega,by omega⟩,λaB _ _ eM au _ _ eZ=>?_⟩;have qN:U aB=(bD z3).getD i []:=by rw[B9 dv,eM];simp only[aw,eW];rfl
  have eZ:=iL eZ;rw[qN]at eZ;have Ax:decide (au=1)=true->nt z3 (U z5)=some i:=λhq=>by
   rw[eZ]at hq;have hq:=of_decide_eq_true hq;unfold nt;rw[List.findIdx?_eq_some_iff_getElem];refine⟨by omega,?_,λj hj=>?_⟩
   ·rw[decide_eq_true_eq,hq];simp[aC,show i<(bD z3).length by omega]
   ·have:=hI j hj;simp only[aC,hP (show j<(bD z3).length by omega),qx]at this;simpa using this
  refine⟨λhq=>⟨λhz=>jU λj hj=>?_,λhz=>?_⟩,λhq aT x0 x1 x2 x3=>⟨⟨by omega,by omega⟩,⟨i+1,by rw[show(i:Int)+(-18446744073709551616)*aT+1=((i+1:Nat):Int) by omega],by omega,λj hj=>?_⟩,?_⟩⟩
  ·rw[h6,cond_true,Ax hq]at hj;cases hj;have:=of_decide_eq_true hz;omega
  ·have hz:=of_decide_eq_false hz;have gO:i<(ab z4).length:=by omega
   refine⟨⟨by omega,by omega⟩,⟨by omega,by omega⟩,λaT p0 p1 kC bz q0 q1 jM aF r0 r1 xp=>?_⟩;refine⟨⟨by omega,by omega,by omega,by omega,r0,r1,by decide,by decide,by decide,by decide,by decide,by decide,trivial⟩,?_⟩;show match cond (decide (z0=6)) (nt z3 (U z5)) none with
    |some i=>i<(ab z4).length->aF=((ab z4).getD i []).getD 2 0/\(1:Int)=1
    |none=>U aF=[]/\(1:Int)=0
   rw[h6,cond_true,Ax hq]
   refineλ_=>⟨?_,rfl⟩
   rw[xp];simp only[aw,eW];rfl
  ·rcases mx j i with h|h
   ·exact hI j h
   ·obtain rfl:j=i:=by omega
    rw[eZ]at hq
    exactλe=>of_decide_eq_false hq e.symm
  ·show(ab z3).length-((i:Int)+(-18446744073709551616)*aT+1).toNat<(ab z3).length-((i:Int)).toNat;omega
 ·have fI:=of_decide_eq_false fI;rw[h6,cond_true]at hj;unfold nt at hj;obtain⟨xM,nW,_⟩:=List.findIdx?_eq_some_iff_getElem.1 hj;have:=hI j (by omega);simp only[aC,hP xM,qx]at this;exact absurd (of_decide_eq_true nW) this
end Go.bE
namespace Go.bE
open Go Go.ba
def sB (S:zzS) (z2 au aF z20:Int) (k:Int->Int->Prop):Prop:=
 af 31 [aF,z20]/\∀dP:Int,0<=dP->dP<=cc->dP=aw 23 [0,z2]->af 51 [aF,au,dP]/\∀cn:Int,0<=cn->cn<=cc->S 672 [[aF],[au],[dP]] [[cn]]->∀kM:Int,(-2)<=kM->kM<=9223372036854775807->∀z28:Int,0<=z28->z28<=9223372036854775807->z28=aw 20 [cn]->k cn z28
def k6 (S:zzS) (K:zzK) (z0 ae z2:Int) (r3:List Int) (au aE z24 cn z28:Int):Prop:=
 af 31 [aE,z24]/\∀ic:Int,0<=ic->ic<=cc->ic=aw 23 [0,(aC r3 0 0),(aC r3 1 0),(aC r3 2 0),0,0]->af 51 [aE,au,ic]/\∀kp:Int,0<=kp->kp<=cc->S 673 [[aE],[au],[ic]] [[kp]]->∀z31:Int,(-2)<=z31->z31<=9223372036854775807->∀ll:Int,0<=ll->ll<=9223372036854775807->ll=aw 20 [kp]->af 22 [cn,0,z28]/\∀nI:Int,0<=nI->nI<=cc->nI=aw 22 [cn,0,z28]->af 22 [kp,0,ll]/\∀qu:Int,0<=qu->qu<=cc->qu=aw 22 [kp,0,ll]->K [[z0],[ae],[z2],r3] [[6],[0],[0],[nI],[qu]]
def bR (S:zzS) (K:zzK) (z0 ae z2:Int) (r3:List Int) (au aF z20 aE z24:Int):Prop:=
 sB S z2 au aF z20 λcn z28=>k6 S K z0 ae z2 r3 au aE z24 cn z28
end Go.bE
namespace Go.bE
open Go Go.ba
def KN (S:zzS) (K:zzK):Prop:=
 di λz0=>di λae=>bt λz2=>∀r3:List Int,bd [(4,4),(0,0),(0,bp),(0,0),(0,0)] r3->(af 87 [z0,ae,z2,(aC r3 0 0),(aC r3 1
 0),(aC r3 2 0),(aC r3 3 0),(aC r3 4 0)]->cB λz8=>bN (-2) aZ λz9=>aI 20 [z0] λav=>cB λaj=>bN (-2)
 aZ λz12=>aI 20 [ae] λaA=>af 22 [z0,0,av]/\bq 22 [z0,0,av] λaB=>dC λau=>bC λaT=>S 671 [[aB],[z2]]
 [[au],[aT]]->af 22 [z0,0,av]/\bq 22 [z0,0,av] λbz=>af 66 [bz]/\di λaF=>S 683 [[bz]] [[aF]]->bN (-2) aZ λcL
 =>aI 20 [aF] λz20=>af 22 [ae,0,aA]/\bq 22 [ae,0,aA] λz21=>af 66 [z21]/\di λaE=>S 684 [[z21]] [[aE]]->bN (-2) aZ
 λcx=>aI 20 [aE] λz24=>(ak (decide (aT=1)) (af 30 [au,z24]/\af 21 [aE,au]/\(af 67 [aE,au,5]->bq 42 [aE,au,0,(aC r3 0
 0),(aC r3 1 0),(aC r3 2 0),0,0] λdP=>af 22 [aF,0,z20]/\bq 22 [aF,0,z20] λcn=>af 22 [dP,0,z24]/\bq 22 [dP,0,z24] λkM
 =>K [[z0],[ae],[z2],r3] [[6],[0],[0],[cn],[kM]])) (((((((sB S z2 au aF z20 λcn z28=>((k6 S K z0 ae z2 r3 au aE z24 cn z28)/\(((k6 S K z0 ae z2
 r3 au aE z24 cn z28)/\(k6 S K z0 ae z2 r3 au aE z24 cn z28)))))/\(((((bR S K z0 ae z2 r3 au aF z20 aE z24)/\(((bR S K z0 ae z2 r3 au aF z20
 aE z24)/\(bR S K z0 ae z2 r3 au aF z20 aE z24)))))/\(((sB S z2 au aF z20 λcn z28=>((k6 S K z0 ae z2 r3 au aE z24 cn z28)/\(k6 S K z0 ae
 z2 r3 au aE z24 cn z28)))/\(((((bR S K z0 ae z2 r3 au aF z20 aE z24)/\(bR S K z0 ae z2 r3 au aF z20 aE z24)))/\(((bR S K z0 ae z2 r3 au aF
 z20 aE z24)/\(bR S K z0 ae z2 r3 au aF z20 aE z24)))))))))))/\(((((((bR S K z0 ae z2 r3 au aF z20 aE z24)/\(((bR S K z0 ae z2 r3 au aF z20 aE
 z24)/\(bR S K z0 ae z2 r3 au aF z20 aE z24)))))/\(((((bR S K z0 ae z2 r3 au aF z20 aE z24)/\(bR S K z0 ae z2 r3 au aF z20 aE z24)))/\(bR S K
 z0 ae z2 r3 au aF z20 aE z24)))))/\(((((sB S z2 au aF z20 λcn z28=>((k6 S K z0 ae z2 r3 au aE z24 cn z28)/\(k6 S K z0 ae z2 r3 au aE z24
 cn z28)))/\(((((bR S K z0 ae z2 r3 au aF z20 aE z24)/\(bR S K z0 ae z2 r3 au aF z20 aE z24)))/\(((bR S K z0 ae z2 r3 au aF z20 aE z24)/\(bR
 S K z0 ae z2 r3 au aF z20 aE z24)))))))/\(((((((bR S K z0 ae z2 r3 au aF z20 aE z24)/\(bR S K z0 ae z2 r3 au aF z20 aE z24)))/\(bR S K z0 ae z2
 r3 au aF z20 aE z24)))/\(((((bR S K z0 ae z2 r3 au aF z20 aE z24)/\(bR S K z0 ae z2 r3 au aF z20 aE z24)))/\(bR S K z0 ae z2 r3 au aF z20 aE
 z24)))))))))))/\(((((((sB S z2 au aF z20 λcn z28=>((k6 S K z0 ae z2 r3 au aE z24 cn z28)/\(((k6 S K z0 ae z2 r3 au aE z24 cn z28)/\(k6 S
 K z0 ae z2 r3 au aE z24 cn z28)))))/\(((((bR S K z0 ae z2 r3 au aF z20 aE z24)/\(((bR S K z0 ae z2 r3 au aF z20 aE z24)/\(bR S K z0 ae z2 r3
 au aF z20 aE z24)))))/\(((sB S z2 au aF z20 λcn z28=>((k6 S K z0 ae z2 r3 au aE z24 cn z28)/\(k6 S K z0 ae z2 r3 au aE z24 cn z28)))/\
 (((((bR S K z0 ae z2 r3 au aF z20 aE z24)/\(bR S K z0 ae z2 r3 au aF z20 aE z24)))/\(((bR S K z0 ae z2 r3 au aF z20 aE z24)/\(bR S K z0 ae z2
 r3 au aF z20 aE z24)))))))))))/\(((((((bR S K z0 ae z2 r3 au aF z20 aE z24)/\(((bR S K z0 ae z2 r3 au aF z20 aE z24)/\(bR S K z0 ae z2 r3 au
 aF z20 aE z24)))))/\(((((bR S K z0 ae z2 r3 au aF z20 aE z24)/\(bR S K z0 ae z2 r3 au aF z20 aE z24)))/\(bR S K z0 ae z2 r3 au aF z20 aE
 z24)))))/\(((((sB S z2 au aF z20 λcn z28=>((k6 S K z0 ae z2 r3 au aE z24 cn z28)/\(k6 S K z0 ae z2 r3 au aE z24 cn z28)))/\(((((bR S K z0
 ae z2 r3 au aF z20 aE z24)/\(bR S K z0 ae z2 r3 au aF z20 aE z24)))/\(((bR S K z0 ae z2 r3 au aF z20 aE z24)/\(bR S K z0 ae z2 r3 au aF z20
 aE z24)))))))/\(((((((bR S K z0 ae z2 r3 au aF z20 aE z24)/\(bR S K z0 ae z2 r3 au aF z20 aE z24)))/\(bR S K z0 ae z2 r3 au aF z20 aE z24)))
 /\(((((bR S K z0 ae z2 r3 au aF z20 aE z24)/\(bR S K z0 ae z2 r3 au aF z20 aE z24)))/\(bR S K z0 ae z2 r3 au aF z20 aE z24)))))))))))/\
 (((((((((bR S K z0 ae z2 r3 au aF z20 aE z24)/\(((bR S K z0 ae z2 r3 au aF z20 aE z24)/\(bR S K z0 ae z2 r3 au aF z20 aE z24)))))/\(((((bR S K
 z0 ae z2 r3 au aF z20 aE z24)/\(bR S K z0 ae z2 r3 au aF z20 aE z24)))/\(bR S K z0 ae z2 r3 au aF z20 aE z24)))))/\(((((((bR S K z0 ae z2 r3
 au aF z20 aE z24)/\(((bR S K z0 ae z2 r3 au aF z20 aE z24)/\(bR S K z0 ae z2 r3 au aF z20 aE z24)))))/\(((((bR S K z0 ae z2 r3 au aF z20 aE
 z24)/\(bR S K z0 ae z2 r3 au aF z20 aE z24)))/\(bR S K z0 ae z2 r3 au aF z20 aE z24)))))/\(((((((bR S K z0 ae z2 r3 au aF z20 aE z24)/\(bR S
 K z0 ae z2 r3 au aF z20 aE z24)))/\(bR S K z0 ae z2 r3 au aF z20 aE z24)))/\(((((((bR S K z0 ae z2 r3 au aF z20 aE z24)/\(bR S K z0 ae z2 r3
 au aF z20 aE z24)))/\(bR S K z0 ae z2 r3 au aF z20 aE z24)))/\(((bR S K z0 ae z2 r3 au aF z20 aE z24)/\(bR S K z0 ae z2 r3 au aF z20 aE
 z24)))))))))))/\(((((((sB S z2 au aF z20 λcn z28=>((k6 S K z0 ae z2 r3 au aE z24 cn z28)/\(k6 S K z0 ae z2 r3 au aE z24 cn z28)))/\
 (((((bR S K z0 ae z2 r3 au aF z20 aE z24)/\(bR S K z0 ae z2 r3 au aF z20 aE z24)))/\(((bR S K z0 ae z2 r3 au aF z20 aE z24)/\(bR S K z0 ae z2
 r3 au aF z20 aE z24)))))))/\(((((((bR S K z0 ae z2 r3 au aF z20 aE z24)/\(bR S K z0 ae z2 r3 au aF z20 aE z24)))/\(bR S K z0 ae z2 r3 au aF
 z20 aE z24)))/\(((((bR S K z0 ae z2 r3 au aF z20 aE z24)/\(bR S K z0 ae z2 r3 au aF z20 aE z24)))/\(bR S K z0 ae z2 r3 au aF z20 aE z24)))))))
 /\(((((((sB S z2 au aF z20 λcn z28=>((k6 S K z0 ae z2 r3 au aE z24 cn z28)/\(k6 S K z0 ae z2 r3 au aE z24 cn z28)))/\(((((bR S K z0 ae z2
 r3 au aF z20 aE z24)/\(bR S K z0 ae z2 r3 au aF z20 aE z24)))/\(((bR S K z0 ae z2 r3 au aF z20 aE z24)/\(bR S K z0 ae z2 r3 au aF z20 aE
 z24)))))))/\(((((((bR S K z0 ae z2 r3 au aF z20 aE z24)/\(bR S K z0 ae z2 r3 au aF z20 aE z24)))/\(bR S K z0 ae z2 r3 au aF z20 aE z24)))/\
 (((((bR S K z0 ae z2 r3 au aF z20 aE z24)/\(bR S K z0 ae z2 r3 au aF z20 aE z24)))/\(bR S K z0 ae z2 r3 au aF z20 aE z24)))))))/\(((((((((bR S
 K z0 ae z2 r3 au aF z20 aE z24)/\(bR S K z0 ae z2 r3 au aF z20 aE z24)))/\(bR S K z0 ae z2 r3 au aF z20 aE z24)))/\(((((((bR S K z0 ae z2 r3
 au aF z20 aE z24)/\(bR S K z0 ae z2 r3 au aF z20 aE z24)))/\(bR S K z0 ae z2 r3 au aF z20 aE z24)))/\(((bR S K z0 ae z2 r3 au aF z20 aE z24)
 /\(bR S K z0 ae z2 r3 au aF z20 aE z24)))))))/\(((((((bR S K z0 ae z2 r3 au aF z20 aE z24)/\(bR S K z0 ae z2 r3 au aF z20 aE z24)))/\(bR S K
 z0 ae z2 r3 au aF z20 aE z24)))/\(((((((bR S K z0 ae z2 r3 au aF z20 aE z24)/\(bR S K z0 ae z2 r3 au aF z20 aE z24)))/\(bR S K z0 ae z2 r3 au
 aF z20 aE z24)))/\(((bR S K z0 ae z2 r3 au aF z20 aE z24)/\(bR S K z0 ae z2 r3 au aF z20 aE z24)))))))))))))))))))))
theorem anG:KN SB (ez SB [.d (.int .i64 6 6),.d (.int .i64 0 0),.d .str,.rd [.str],.rd [.int .i64 4 4,.int .i64 0 0,.str,.nil,.nil]] 674):=by
 delta KN ak bN cB dC aI di bq bt bC aZ;dsimp only
 intro z0 a0 a1 ae b0 b1 z2 n0 n1 r3 Ik h z8 _ z9 _ _ av _ c1 dg aj _ z12 _ _ aA _ d1 dK;obtain⟨h,hs,ht⟩:l8 z0 ae/\ky z2/\ky (r3.getD 2 0):=h;have dg:av=((ab z0).length:Int):=dg;have dK:aA=((ab ae).length:Int):=dK;have hl:(ab z0).length=(ab ae).length:=h.1;have hm:(ab z0).length<=1000000:=h.2.1;have awn:=rK z0;refine⟨⟨bB _,by omega,by omega⟩,λaB _ _ eM au e7 k1 aT _ _ hp=>⟨⟨bB _,by omega,by omega⟩,λbz _ _ jM=>?_⟩⟩;have qN:bD aB=bD z0:=by unfold bD;rw[whole dg eM]
 have hp:GK (bD aB) (U z2) au aT:=hp;rw[qN]at hp;obtain⟨⟨p1,br⟩,bT,dh⟩:=hp;have TX:=whole dg jM;refine⟨(by show(ab bz).length<=1000000;rw[TX];exact hm),λaF _ _ xp cL _ _ z20 _ _ Ab=>⟨⟨bB _,by omega,by omega⟩,λz21 _ _ Ac=>?_⟩⟩;have xi:ab aF=ab z0:=(show ab aF=ab bz from xp).trans TX;have Ab:z20=((ab aF).length:Int):=Ab;have TY:=whole dK Ac;refine⟨(by show(ab z21).length<=1000000;rw[TY];omega),λaE _ _ Du cx _ _ z24 _ _ sf=>?_⟩;have C6:ab aE=ab ae:=(show ab aE=ab z21 from Du).trans TY;have sf:z24=((ab aE).length:Int):=sf;have axc:(ab aF).length=(ab z0).length:=by rw[xi]
 have axd:(ab aE).length=(ab ae).length:=by rw[C6]
 have fin:∀a' b':Int,0<=a'->a'<=cc->0<=b'->b'<=cc->vf z0 ae z2 r3 a' b'->ez SB [.d (.int .i64 6 6),.d (.int .i64 0 0),.d .str,.rd [.str],.rd [.int .i64 4 4,.int .i64 0 0,.str,.nil,.nil]] 674 [[z0],[ae],[z2],r3] [[6],[0],[0],[a'],[b']]:=λa' b' u0 ia v0 v1 lD=>
  ⟨⟨by decide,by decide,by decide,by decide,bB _,fZ,u0,ia,v0,v1,trivial⟩,rfl,rfl,rfl,lD⟩
 have hrow:∀{z:Int},z=aw 23 [0,r3.getD 0 0,r3.getD 1 0,r3.getD 2 0,0,0]->ab z=[r3]:=λhz=>by
  rw[hz];show ab (rc (ab 0++[[r3.getD 0 0,r3.getD 1 0,r3.getD 2 0,0,0]]))=_;rw[du,fA,O2 Ik];rfl
 refine⟨λhq=>⟨⟨by omega,by have:=bT (of_decide_eq_true hq);omega⟩,⟨by omega,by have:=bT (of_decide_eq_true hq);omega⟩,λHN dP _ _ oO=>?_⟩,λhq=>?_⟩
 ·have hq:=of_decide_eq_true hq;have oO:ab dP=(ab ae).set au.toNat r3:=by
   rw[oO];show ab (rc _)=_;rw[du];have HN:((ab aE).getD au.toNat []).length=5:=HN;show(ab aE).set au.toNat ((((ab aE).getD au.toNat []).take 0)++[r3.getD 0 0,r3.getD 1 0,r3.getD 2 0,0,0]++((ab aE).getD au.toNat []).drop 5)=_;rw[F6 (by omega),O2 Ik,C6];simp
  have axe:(ab dP).length=(ab ae).length:=by rw[oO,aaX]
  refine⟨⟨bB _,by omega,by omega⟩,λcn u0 ia p2=>⟨⟨bB _,by omega,by omega⟩,λkM v0 v1 aem=>fin _ _ u0 ia v0 v1 ⟨au,aT,⟨⟨p1,br⟩,bT,dh⟩,λ_=>?_,λhn=>absurd hq hn⟩⟩⟩;rw[whole Ab p2,whole (by omega) aem,xi,oO];exact⟨rfl,rfl⟩
 ·have hq:=of_decide_eq_false hq;have hY:∀cn z28:Int,0<=cn->cn<=cc->ab cn=(ab z0).take au.toNat++[[z2]]++(ab z0).drop au.toNat->z28=((ab cn).length:Int)->k6 SB (ez SB [.d (.int .i64 6 6),.d (.int .i64 0 0),.d .str,.rd [.str],.rd [.int .i64 4 4,.int .i64 0 0,.str,.nil,.nil]] 674) z0 ae z2 r3 au aE z24 cn z28:=λcn z28 w0 w1 C7 HL=>by
   refine⟨sf,λic _ _ Dw=>?_⟩;have T0:=hrow Dw;refine⟨⟨⟨p1,by omega⟩,by rw[T0];rfl,by omega⟩,λkp _ _ MO z31 _ _ ll _ _ xt=>?_⟩;have C8:ab kp=(ab aE).take au.toNat++ab ic++(ab aE).drop au.toNat:=MO;rw[T0,C6]at C8;have xt:ll=((ab kp).length:Int):=xt;refine⟨⟨bB _,by omega,by omega⟩,λnI u0 ia aeo=>⟨⟨bB _,by omega,by omega⟩,λqu v0 v1 aep=>fin _ _ u0 ia v0 v1 ⟨au,aT,⟨⟨p1,br⟩,bT,dh⟩,λhn=>absurd hn hq,λ_=>?_⟩⟩⟩;rw[whole HL aeo,whole xt aep];exact⟨C7,C8⟩
  have lD:∀k:Int->Int->Prop,(∀cn z28:Int,0<=cn->cn<=cc->ab cn=(ab z0).take au.toNat++[[z2]]++(ab z0).drop au.toNat->z28=((ab cn).length:Int)->k cn z28)->sB SB z2 au aF z20 k:=λk hk=>by
   refine⟨Ab,λdP _ _ oO=>?_⟩;have TZ:ab dP=[[z2]]:=by rw[oO];show ab (rc (ab 0++[[z2]]))=_;rw[du,fA];rfl
   refine⟨⟨⟨p1,by omega⟩,by rw[TZ];rfl,by omega⟩,λcn w0 w1 p2 kM _ _ z28 _ _ HL=>hk cn z28 w0 w1 ?_ HL⟩;have C7:ab cn=(ab aF).take au.toNat++ab dP++(ab aF).drop au.toNat:=p2;rw[TZ,xi]at C7;exact C7
  have bJ:=lD _ hY
  repeat' first
   |exact bJ
   |(refine lD _ λcn z28 w0 w1 C7 HL=>?_)
   |(exact hY _ _ ‹_› ‹_› ‹_› ‹_›)
   |(refine And.intro ?_ ?_)
end Go.bE
