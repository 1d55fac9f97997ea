/- The address seat: what each function says,on texts. -/
import Derived.Test.YtiljgcomigmidaaGreatDoorPac
open BitVec renaming toNat_ofInt->zR
open Bool renaming and_eq_true->aQ,not_eq_true'->iP,or_eq_true->pD,eq_iff_iff->vJ,true_and->CK,not_eq_false'->CL,and_true->adE,and_eq_false_iff->aym
open Function renaming comp->Lw
open Go renaming FuncId->cB
open Go.IntKind renaming max->cV
open Go.Op renaming bytesLess->dV
open Int renaming le_refl->bO,toNat_natCast->ek,eq_ofNat_of_zero_le->oI,emod_eq_of_lt->sx,mul_comm->vM,natCast_nonneg->zQ,toNat_zero->G2,ediv_eq_iff_of_pos->adL
open List renaming getD->ar,map_cons->ch,range->cD,length_append->c8,length_cons->dj,replicate->eh,append_assoc->eG,length_nil->fe,map_append->fl,nil_append->gv,map_congr_left->gw,getElem?_eq_getElem->gF,map_map->jf,take_append_drop->jy,length_map->jW,mem_cons->kg,mem_of_mem_take->kh,getD_eq_getElem?_getD->kH,take_of_length_le->lu,append_nil->lv,length_take->ly,getElem?_map->lV,mem_of_mem_drop->nS,all_eq_true->pC,cons_append->qx,length_drop->q9,eq_nil_of_length_eq_zero->ra,not_mem_nil->tW,getD_cons_zero->vH,take_succ_cons->vK,dropWhile_cons->zP,map_take->zS,map_drop->zT,find?_cons->z8,drop_zero->CU,drop_eq_getElem_cons->G0,map_id->G3,all_cons->G4,take_zero->Hk,drop_of_length_le->Lv,ext_getElem->LB,take_add_one->Sx,length_singleton->Sy,length_reverse->Sz,getElem_of_mem->SA,range_succ_eq_map->SW,find?_append->S1,length_replicate->S2,singleton_append->acU,map_set->acV,drop_succ_cons->ac2,mem_singleton->ac4,length_set->adG,getElem_zip->adH,getElem_set->adI,replicate_succ'->adK,reverse_append->ayg,reverse_cons->ayh,reverse_nil->ayi,drop_one->ayj,tail_cons->ayk,all_append->azd,all_nil->aze,find?_eq_none->azf,zip_append->azg,length_range->azi
open List.cons renaming injEq->gY
open Nat renaming beq->aA,ble->bp,blt->ck,le_of_ble_eq_true->et,add_zero->kG,zero_le->kW,lt_or_ge->m6,ble_eq->re,zero_add->sB,pow_succ->xG,blt_eq->CJ,div_div_eq_div_mul->LA,mod_eq_of_lt->acW,ble_eq_true_of_le->adm,reduceSub->adB,reduceAdd->adC,reducePow->adD,not_lt_zero->adF,xor_lt_two_pow->ayn
open Option renaming getD_some->qv,map_some->rf
open Option.some renaming injEq->aK
open Prod.mk renaming injEq->cN
open UInt8 renaming ofNat->jV,toNat_inj->acT,lt_iff_toNat_lt->azh
set_option linter.unusedVariables false
set_option linter.unusedSimpArgs false
namespace Go.aX
open Go Go.aW
abbrev au:=List UInt8
def u8 (z:Int):UInt8:=jV z.toNat
def bx (b:Bool):Int:=cond b 1 0
def kv (p:UInt8->Bool) (l:au):au:=l.dropWhile p
def jM (p:UInt8->Bool) (l:au):au:=(l.reverse.dropWhile p).reverse
def jP (p:UInt8->Bool) (l:au):au:=kv p (jM p l)
def dd (l:au):Bool:=(cD l.length).any λi=>l.getD i 0==46&&l.getD (i+1) 0==46
def E6 (c:UInt8):Bool:=bp 97 c.toNat&&bp c.toNat 122
def u5 (c:UInt8):Bool:=bp 65 c.toNat&&bp c.toNat 90
def j4 (c:UInt8):Bool:=bp 48 c.toNat&&bp c.toNat 57
def atS:au:=[33,35,36,37,38,39,42,43,47,61,63,94,95,96,123,124,125,126,45]
def Bo (c:UInt8):Bool:=E6 c||u5 c||j4 c||atS.contains c||c==46
def DC (c:UInt8):Bool:=c==46||c==45
def u2 (c:UInt8):Bool:=E6 c||u5 c||j4 c||DC c
def BX (inn sS:UInt8->Bool) (s:au):Bool:=(cD s.length).all λi=>inn (s.getD i 0)&&(!sS (s.getD i 0)||(ck 0 i&&ck (i+1) s.length))&& !(s.getD i 0==46&&ck 0 i&&s.getD (i-1) 0==46)
def ou (s:au):Bool:=ck 0 s.length&&bp s.length 64&&BX Bo (·==46) s
def j3 (s:au):Bool:=ck 0 s.length&&bp s.length 230&&BX u2 DC s
def zl (s:au):Bool:=ck 0 s.length&&bp s.length 5&&s.all j4
def nk (c:Int) (s:au):au×au×Int:=cond (decide (0<=idx c s)) (s.take (idx c s).toNat,s.drop ((idx c s).toNat+1),1) (s,[],0)
def mw (s:au):Bool:=j3 (nk 58 s).1&&(decide ((nk 58 s).2.2=0)||zl (nk 58 s).2.1)
def lo (c:UInt8):UInt8:=cond (u5 c) (jV (c.toNat+32)) c
def lower (s:au):au:=s.map lo
def AJ (t:au):au×Int:=cond (decide (0<=idx 64 t)&&bp t.length 254&&ou (t.take (idx 64 t).toNat)&&j3 (t.drop ((idx 64 t).toNat+1))&&(t.drop ((idx 64 t).toNat+1)).contains 46) (lower t,0) ([],2)
def oZ (s:au):au×Int:=AJ (jP (·==32) s)
def abo:au:=[32,45,46,40,41]
def ur:au->au->Bool->Option (au×Bool)
 |[],d,p=>some (d,p)
 |c::r,d,p=>cond (j4 c) (ur r (d++[c]) p) (cond (c==43&&d.isEmpty&& !p) (ur r d true) (cond (abo.contains c) (ur r d p) none))
def Ik (w:au):Option (au×au):=cond (w==[]) (some ([],[])) (cond (w==[71,66]) (some ([52,52],[48])) (cond (w==[85,83]) (some ([49],[])) (cond (w==[68,69]) (some ([52,57],[48])) (cond (w==[70,82]) (some ([51,51],[48])) (cond (w==[67,72]) (some ([52,49],[48])) none)))))
def QI (w code xx d:au) (p:Bool):au:=cond (!p&& !(w==[])) (code++cond (xx.isPrefixOf d) (d.drop xx.length) d) d
def aav (n:au):au×Int:=cond (ck n.length 6||ck 15 n.length||n.getD 0 0==48) ([],2) (n,0)
def vp (w s:au):au×Int:=match Ik w with
 |none=>([],7)
 |some (code,xx)=>match ur s [] false with
  |none=>([],2)
  |some (d,p)=>aav (QI w code xx d p)
def Qa (a b c d:au):Bool:=cond (a==c) (dV b d) (dV a c)
def AI:au:=[101,109,97,105,108]
def Kb:au:=[109,115,105,115,100,110]
def ze (m:au) (p:au×Int):au×au×Int:=cond (decide (p.2=0)) (m,p.1,0) ([],[],p.2)
def tq (m w:au):au×au×Int:=cond (m==AI) (ze m (oZ w)) (cond (m==Kb) (ze m (vp [] w)) ([],[],1))
def po (m w:au):Bool:=decide ((tq m w).2.2=0)&&(m==(tq m w).1)&&(w==(tq m w).2.1)
def E5 (c:UInt8):Bool:=E6 c||j4 c||([46,95,61,47,43,45]:au).contains c
def YN (c:UInt8):Bool:=E6 c||u5 c||j4 c
def nI (k:UInt8) (s:au):au×au×Int:=cond (ck 0 s.length&&bp s.length 255&&s.getD 0 0==k&&decide (0<=idx 58 s)&&mw (s.drop ((idx 58 s).toNat+1))) ((s.take (idx 58 s).toNat).drop 1,s.drop ((idx 58 s).toNat+1),1) ([],[],0)
def vk (k:UInt8) (inn:UInt8->Bool) (most:Nat) (s:au):Bool:=decide ((nI k s).2.2=1)&&ck 0 (nI k s).1.length&&bp (nI k s).1.length most&&(nI k s).1.all inn
def qp (s:au):Bool:=vk 64 E5 200 s
def KN (s:au):Bool:=vk 33 YN 64 s
def abC (s:au):au×au×Int:=cond (qp s||KN s) ((s.take (idx 58 s).toNat).drop 1,s.drop ((idx 58 s).toNat+1),0) ([],[],2)
def x5:au:=[65,66,67,68,69,70,71,72,73,74,75,76,77,78,79,80,81,82,83,84,85,86,87,88,89,90,97,98,99,100,101,102,103,104,105,106,107,108,109,110,111,112,113,114,115,116,117,118,119,120,121,122,48,49,50,51,52,53,54,55,56,57,45,95]
def vb (c:UInt8):Int:=idx (c.toNat:Int) x5
def fv (n:Nat):UInt8:=x5.getD n 0
def eU:au->au
 |[]=>[]
 |[a]=>[fv (a.toNat/4),fv (a.toNat% 4*16)]
 |[a,b]=>[fv (a.toNat/4),fv (a.toNat% 4*16+b.toNat/16),fv (b.toNat% 16*4)]
 |a::b::c::r=>fv (a.toNat/4)::fv (a.toNat% 4*16+b.toNat/16)::fv (b.toNat% 16*4+c.toNat/64)::fv (c.toNat% 64)::eU r
def wo (a b c d:Int):Int:=262144*a+(4096*b+(64*c+d))
def Kw:au->au->Option au
 |out,[]=>some out
 |_,[_]=>none
 |out,[a,b]=>cond (decide (0<=vb a)&&decide (0<=vb b)&&decide (wo (vb a) (vb b) 0 0% 65536=0)) (some (out++[u8 (wo (vb a) (vb b) 0 0/65536)])) none
 |out,[a,b,c]=>cond (decide (0<=vb a)&&decide (0<=vb b)&&decide (0<=vb c)&&decide (wo (vb a) (vb b) (vb c) 0% 256=0)) (some (out++[u8 (wo (vb a) (vb b) (vb c) 0/65536)]++[u8 (wo (vb a) (vb b) (vb c) 0/256% 256)])) none
 |out,a::b::c::d::r=>cond (decide (0<=vb a)&&decide (0<=vb b)&&decide (0<=vb c)&&decide (0<=vb d)) (Kw (out++[u8 (wo (vb a) (vb b) (vb c) (vb d)/65536)]++[u8 (wo (vb a) (vb b) (vb c) (vb d)/256% 256)]++[u8 (wo (vb a) (vb b) (vb c) (vb d)% 256)]) r) none
def cK (r:Int):au:=(ab r).map λrow=>jV (row.getD 0 0).toNat
def VT (s:au):Bool:=decide (s.length=44)&&s.getD 0 0==36&&(Kw [] (s.drop 1)).isSome
abbrev iQ:=(au×au)×au×Int
def ng:iQ:=(([],[]),[],0)
def kE (r:List Int):au×au:=(aa (r.getD 0 0),aa (r.getD 1 0))
def k5 (r:List Int):iQ:=(kE r,aa (r.getD 2 0),r.getD 3 0)
def bds (z:Int):List iQ:=(ab z).map k5
def Lj (z:Int):List (au×au):=(ab z).map kE
def pO (b:iQ):Bool:=decide (0<=b.2.2)&&(decide (b.2.2<=1099511627776)&&(po b.1.1 b.1.2&&qp b.2.1))
def JU (a b:au×au):Bool:=Qa a.1 a.2 b.1 b.2
def Ih (a b:au×au):Int:=cond (a==b) 0 (cond (JU a b) (-1) 1)
def abB:List iQ->Bool
 |[]=>true
 |[_]=>true
 |a::b::r=>JU a.1 b.1&&abB (b::r)
def mv (l:List iQ):Bool:=bp l.length 64&&l.all pO&&abB l
def VX (l:List iQ) (w:au×au):Option iQ:=cond (mv l) (l.find? (λb=>b.1==w)) none
def Z1 (l:List iQ) (x:au):List (au×au):=cond (mv l) ((l.filter (·.2.1==x)).map (·.1)) []
def UL (l:List iQ) (w:iQ):List iQ×Int:=cond (pO w&&mv l) (cond (l.any (·.1==w.1)) (l.map (λb=>cond (b.1==w.1) w b),0) (cond (decide (l.length=64)) (l,10) (l.filter (λb=>JU b.1 w.1)++w::l.filter (λb=>JU w.1 b.1),0))) (l,1)
def ab2 (l:List iQ) (w:iQ):List iQ×Int:=cond (mv l) (match l.find? (·.1==w.1)with|none=>(l,7)|some b=>cond (b.2.1==w.2.1) (l.filter (λb=> !(b.1==w.1)),0) (l,14)) (l,1)
def aec (l:List iQ) (w:au×au) (i f:Int):Prop:=(0<=i/\i<=l.length)/\(f=1->i<l.length)/\(mv l=true->(∀j:Nat,(j:Int)<i->Ih (l.getD j ng).1 w<0)/\(∀j:Nat,i<=j->j<l.length->0<=Ih (l.getD j ng).1 w)/\(f=1↔i<l.length/\Ih (l.getD i.toNat ng).1 w=0))
structure fS where
 id:Int
 sec:au
 pw:au×au
 tok:au
 x9:Int
 since:Int
 CB:Int
 shown:Int
 RE:Int
deriving DecidableEq
def sk:fS:=⟨0,[],([],[]),[],0,0,0,0,0⟩
def nJ (r:List Int):fS:=⟨r.getD 0 0,aa (r.getD 1 0),(aa (r.getD 2 0),aa (r.getD 3 0)),aa (r.getD 4 0),r.getD 5 0,r.getD 6 0,r.getD 7 0,r.getD 8 0,r.getD 9 0⟩
def iu (z:Int):List fS:=(ab z).map nJ
def tA (t:au):Bool:=t.all λc=>bp 32 c.toNat&&bp c.toNat 126
def e5 (t:au):Bool:= !t.isEmpty&&(bp t.length 64&&(tA t&& !t.contains 32))
def GA (n:Int):Bool:=decide (0<=n)&&decide (n<=1099511627776)
def KX (s:fS):Bool:=(decide (1<=s.id)&&decide (s.id<=1099511627776))&&(GA s.since&&GA s.RE)&&(decide (1<=s.x9)&&decide (s.x9<=1000)&&(decide (0<=s.CB)&&decide (s.CB<=3)))&&(decide (s.shown=1)||decide (s.RE=0))&&(e5 s.sec&&(e5 s.tok&&po s.pw.1 s.pw.2))
def Uv (a b:fS):Bool:=decide (a.sec=b.sec)&&decide (a.pw=b.pw)
def af6 (x s:fS):Bool:=Uv x s||(decide (x.tok=s.tok)||decide (s.id<=x.id))
def xp (l:List fS):Bool:=bp l.length 16&&(cD l.length).all λi=>KX (l.getD i sk)&&(l.take i).all λx=> !af6 x (l.getD i sk)
def axR (x:Int):Int:=(x+0x8000000000000000)% 0x10000000000000000-0x8000000000000000
def Kj (s:fS) (now:Int):Bool:=decide (86400<axR (now-s.since))
def zm (l:List fS) (now:Int):List fS:=l.filter λs=> !Kj s now
def VZ (l:List fS) (id:Int):Option fS:=cond (xp l) (l.find? λs=>decide (s.id=id)) none
def tx (l:List fS) (now:Int) (w:fS):Nat×Int:=cond (GA now&&xp l) (match l.findIdx? (λs=>decide (s.id=w.id))with
 |some i=>cond (decide ((l.getD i sk).sec=w.sec)&& !Kj (l.getD i sk) now) (i,0) (0,11)
 |none=>(0,11)) (0,1)
def abr (l:List fS) (now:Int) (w:fS):(au×au)×Int:=cond (decide ((tx l now w).2=0)) (cond (decide ((l.getD (tx l now w).1 sk).shown=1)) ((l.getD (tx l now w).1 sk).pw,0) (([],[]),14)) (([],[]),(tx l now w).2)
def auu (l:List fS) (now:Int) (w:fS) (i:Nat) (s:fS):List fS×Int:=cond (decide (s.CB=3)) (l,16) (cond (decide (s.tok=w.tok)) (cond (decide (s.shown=1)) (l,0) (l.set i {s with shown:=1,RE:=now},0)) (l.set i {s with CB:=s.CB+1},12))
def abJ (l:List fS) (now:Int) (w:fS):List fS×Int:=cond (decide ((tx l now w).2=0)) (auu l now w (tx l now w).1 (l.getD (tx l now w).1 sk)) (l,(tx l now w).2)
def asM (live:List fS) (w:fS) (i:Nat) (s:fS):List fS×Int×Int×Int:=(live.set i {s with x9:=max s.x9 w.x9},s.id,bx (decide (s.x9<w.x9)),0)
def asN (l live:List fS) (w:fS):List fS×Int×Int×Int:=cond (live.any (λs=>decide (s.id=w.id))||live.any (λs=>decide (s.tok=w.tok))) (l,0,0,6) (cond (decide (live.length=16)) (l,0,0,10) (live.filter (λs=>decide (s.id<w.id))++w::live.filter (λs=>decide (w.id<s.id)),w.id,1,0))
def aaH (l:List fS) (w:fS):List fS×Int×Int×Int:=cond (KX w&&(decide (w.CB<=0)&&(!decide (w.shown=1)&&xp l))) (match(zm l w.since).findIdx? (λs=>Uv s w)with
 |some i=>asM (zm l w.since) w i ((zm l w.since).getD i sk)
 |none=>asN l (zm l w.since) w) (l,0,0,1)
def aea (l:List fS) (n i f:Int):Prop:=(0<=i/\i<=l.length)/\(f=1->i<l.length)/\(xp l=true->(∀j:Nat,(j:Int)<i->(l.getD j sk).id<n)/\(∀j:Nat,i<=j->j<l.length->n<=(l.getD j sk).id)/\(f=1↔i<l.length/\(l.getD i.toNat sk).id=n))
def ae7:List Int:=[5,116,477315081741,437051401625,117,1,100,0,0,0]
structure nV where
 tok:au
 fF:au
 rA:List au
deriving DecidableEq
def vy:nV:=⟨[],[],[]⟩
def bA (z:Int):List au:=(ab z).map λr=>aa (r.getD 0 0)
def awI (r:List Int):nV:=⟨aa (r.getD 0 0),aa (r.getD 1 0),bA (r.getD 2 0)⟩
def jd (z:Int):List nV:=(ab z).map awI
def auN (l:List nV):Nat:=l.length+(l.map λu=>u.rA.length).sum
def KM (l:List au):Bool:=(cD l.length).all λi=>e5 (l.getD i [])&&(decide (i=0)||dV (l.getD (i-1) []) (l.getD i []))
def KL (l:List nV):Bool:=bp l.length 16&&(l.all (λu=>qp u.fF&&(bp u.rA.length 4&&KM u.rA))&&KM (l.map (·.tok)))
def aed (l:List nV) (t:au) (i f:Int):Prop:=(0<=i/\i<=l.length)/\(f=1->i<l.length)/\(KM (l.map (·.tok))=true->(∀j:Nat,(j:Int)<i->dV (l.getD j vy).tok t=true)/\(∀j:Nat,i<=j->j<l.length->dV (l.getD j vy).tok t=false)/\(f=1↔i<l.length/\(l.getD i.toNat vy).tok=t))
def mo (l:List nV) (t:au):Int×Int:=cond (KL l) (match l.findIdx? (λu=>decide (u.tok=t))with|some k=>((k:Int),0)|none=>(0,14)) (0,1)
def acf (l:List nV) (t:au):au×Int:=cond (decide ((mo l t).2=0)) ((l.getD (mo l t).1.toNat vy).fF,0) ([],(mo l t).2)
def Us (l:List nV) (t:au) (d:List au):Int:=cond (decide ((mo l t).2=0)) (cond (d.all λs=>(l.getD (mo l t).1.toNat vy).rA.contains s) 0 13) (mo l t).2
def Zx (l:List nV) (t:au):List nV×Int:=cond (decide ((mo l t).2=0)) (l.take (mo l t).1.toNat++l.drop ((mo l t).1.toNat+1),0) (l,(mo l t).2)
def aaD (l:List nV) (t m:au):List nV×Int:=cond (KL l&&(e5 t&&qp m)) (cond (l.findIdx? (λu=>decide (u.tok=t))).isSome (l,6) (cond (decide (l.length=16)) (l,10) (l.takeWhile (λu=>dV u.tok t)++⟨t,m,[]⟩::l.dropWhile (λu=>dV u.tok t),0))) (l,1)
def r6 (s:au):List au->List au
 |[]=>[s]
 |x::r=>cond (decide (x=s)) (x::r) (cond (dV s x) (s::x::r) (x::r6 s r))
def ab3 (a d:List au):List au:=d.foldl (λl s=>r6 s l) a
def Ur (l:List nV) (t:au) (d:List au):List nV×Int:=cond (decide ((mo l t).2=0)) (cond (d.all e5) (cond (bp (ab3 (l.getD (mo l t).1.toNat vy).rA d).length 4) (l.set (mo l t).1.toNat ⟨(l.getD (mo l t).1.toNat vy).tok,(l.getD (mo l t).1.toNat vy).fF,ab3 (l.getD (mo l t).1.toNat vy).rA d⟩,0) (l,10)) (l,1)) (l,(mo l t).2)
structure nd where
 tok:au
 pw:au×au
 room:au
 atJ:au
 atG:au
 As:au
deriving DecidableEq
def FM:nd:=⟨[],([],[]),[],[],[],[]⟩
def zk (r:List Int):nd:=⟨aa (r.getD 0 0),(aa (r.getD 1 0),aa (r.getD 2 0)),aa (r.getD 3 0),aa (r.getD 4 0),aa (r.getD 5 0),aa (r.getD 6 0)⟩
def mU (z:Int):List nd:=(ab z).map zk
def Ky (p:nd):Bool:=e5 p.tok&&(e5 p.atG&&(po p.pw.1 p.pw.2&&(KN p.room&&(qp p.atJ&&(p.As.isEmpty||qp p.As)))))
def aaR (l:List nd):Bool:=(cD l.length).all λi=>decide (i=0)||dV (l.getD (i-1) FM).tok (l.getD i FM).tok
def Gk (l:List nd):Bool:=bp l.length 32&&(l.all Ky&&aaR l)
def aeb (l:List nd) (t:au) (i f:Int):Prop:=(0<=i/\i<=l.length)/\(f=1->i<l.length)/\(aaR l=true->(∀j:Nat,(j:Int)<i->dV (l.getD j FM).tok t=true)/\(∀j:Nat,i<=j->j<l.length->dV (l.getD j FM).tok t=false)/\(f=1↔i<l.length/\(l.getD i.toNat FM).tok=t))
def VY (l:List nd) (t:au):Option nd:=cond (Gk l) (l.find? λp=>decide (p.tok=t)) none
def abE (l:List nd) (w:nd):List nd×Int:=cond (Ky w&&(w.As.isEmpty&&Gk l)) (cond (l.any λp=>decide (p.tok=w.tok)) (l,6) (cond (decide (l.length=32)) (l,10) (l.filter (λp=>dV p.tok w.tok)++w::l.filter (λp=>dV w.tok p.tok),0))) (l,1)
def acd (pw:au×au) (p:nd):Bool:=decide (p.pw=pw)&&p.As.isEmpty
def abq (l:List nd) (pw:au×au) (fF:au):List nd×List nd×Int:=cond (qp fF&&Gk l) (l.map (λp=>cond (acd pw p) {p with As:=fF} p),(l.filter (acd pw)).map (λp=>{p with As:=fF}),0) (l,[],1)
def aeS:au:=[65,66,67,68,69,70,71,72,73,74,75,76,77,78,79,80,81,82,83,84,85,86,87,88,89,90,97,98,99,100,101,102,103,104,105,106,107,108,109,110,111,112,113,114,115,116,117,118,119,120,121,122,48,49,50,51,52,53,54,55,56,57,43,47]
def vh (n:Nat):UInt8:=aeS.getD n 0
def aas:au->au
 |[]=>[]
 |[a]=>[vh (a.toNat/4),vh (a.toNat% 4*16)]
 |[a,b]=>[vh (a.toNat/4),vh (a.toNat% 4*16+b.toNat/16),vh (b.toNat% 16*4)]
 |a::b::c::r=>vh (a.toNat/4)::vh (a.toNat% 4*16+b.toNat/16)::vh (b.toNat% 16*4+c.toNat/64)::vh (c.toNat% 64)::aas r
def Kl:List Int:=[117,477315081741,437051401625,1786258745,1786259033,1721197221,0]
def gO (z:Int):List au:=(ab z).map λr=>aa (r.getD 2 0)
def Ag (l:List au) (t:au) (i f:Int):Prop:=(0<=i/\i<=l.length)/\(f=1->i<l.length)/\(l.Pairwise (λa b=>dV a b=true)->(∀j:Nat,(j:Int)<i->dV (l.getD j []) t=true)/\(∀j:Nat,i<=j->j<l.length->dV (l.getD j []) t=false)/\(f=1↔i<l.length/\l.getD i.toNat []=t))
def vZ (a b s:Int) (r:List Int) (a' b':Int):Prop:=∃i f:Int,Ag (bA a) (aa s) i f/\(f=1->ab a'=ab a/\ab b'=(ab b).set i.toNat r)/\(f≠1->ab a'=(ab a).take i.toNat++[[s]]++(ab a).drop i.toNat/\ab b'=(ab b).take i.toNat++[r]++(ab b).drop i.toNat)
def ot (a:Int) (s:au):Option Nat:=(bA a).findIdx? λx=>decide (x=s)
def pY (a b:Int) (s:au):Option au:=(ot a s).map λi=>(gO b).getD i []
def ju (w:au×au):au:=w.2++[32]++w.1
def q7 (nm:au×au->au) (l:List iQ) (s:au):Option au:=(l.reverse.find? λb=>decide (nm b.1=s)).map (·.2.1)
def pc (l:List iQ) (p q:au) (d:List au):Int:=cond (e5 p&&mv l) (cond (decide (q=p)) (cond (bp d.length 32) 0 16) 15) 1
def C3 (nm:au×au->au) (l:List iQ) (p q:au) (d:List au) (k n t a b e:Int):Prop:=e=pc l p q d/\n=0/\aa t=[]/\(e≠0->k=0/\ab a=[]/\ab b=[])/\(e=0->k=6/\mc a b/\∀s,pY a b s=cond (d.contains s) (q7 nm l s) none)
def mY (t:au):List Int:=t.map λb=>(b.toNat:Int)
def qJ (p:au) (w:au×au):au:=eU ((j9 aT (mY (ju w)++([32]++mY p))).map λz=>jV z.toNat)
def dt (c n i j:Int) (C:Int->Prop):Prop:=ah 30 [i,n]/\ah 21 [c,j]/\∀z:Int,0<=z->z<=127->z=aB 21 [c,j,0]->C z
theorem dx {c n i j:Int} {C:Int->Prop} (h:(0<=i/\i<n)/\(0<=j/\j<(ab c).length)) (hC:∀z,C z):dt c n i j C:=⟨h.1,h.2,λz _ _ _=>hC z⟩
def aeA:Nat->List (List Int)->List (List Int)->Prop
 |472,[[a],[b],[c]],rs=>rs=[j9 aT (ba a++(ba b++ba c))]
 |640,_,[[r]]=>r=1
 |642,_,[[r]]=>r=1
 |646,_,[[r]]=>r=1
 |677,_,[[r]]=>r=1
 |670,[[z]],[[r]]=>r=bx (e5 (aa z))
 |671,[[z],[t]],[[i],[f]]=>Ag (bA z) (aa t) i f
 |672,[[c],[i],[r]],[[y]]=>ab y=(ab c).take i.toNat++ab r++(ab c).drop i.toNat
 |673,[[c],[i],[r]],[[y]]=>ab y=(ab c).take i.toNat++ab r++(ab c).drop i.toNat
 |674,[[a],[b],[s],r],[[k],[n],[t],[a'],[b']]=>k=6/\n=0/\aa t=[]/\vZ a b s r a' b'
 |675,[[a],[b],[s],r],[[k],[n],[t],[a'],[b'],[e]]=>e=0/\k=6/\n=0/\aa t=[]/\vZ a b s r a' b'
 |676,[[k],[n],[t],[a],[b],[s]],[r,[f]]=>match cond (decide (k=6)) (ot a (aa s)) none with
  |some i=>i<(ab b).length->r.getD 2 0=((ab b).getD i []).getD 2 0/\f=1
  |none=>aa (r.getD 2 0)=[]/\f=0
 |678,[[z],[p],[q],[d]],[[k],[n],[t],[a],[b],[e]]=>C3 ju (bds z) (aa p) (aa q) (bA d) k n t a b e
 |679,[[p],w],[[r]]=>aa r=qJ (aa p) (kE w)
 |771,[[p],w],[[r]]=>aa r=qJ (aa p) (kE w)
 |680,[],[[r]]=>r=1
 |681,_,_=>True
 |683,[[z]],[[r]]=>ab r=ab z
 |685,[[z],[p],[q],[d]],[[k],[n],[t],[a],[b],[e]]=>C3 (qJ (aa p)) (bds z) (aa p) (aa q) (bA d) k n t a b e
 |686,[_,_,_],[[r]]=>r=1
 |684,[[z]],[[r]]=>ab r=ab z
 |682,[_,_,_],[[r]]=>r=1
 |689,[_,_],[[r]]=>r=1
 |774,_,[[r]]=>r=1
 |775,_,[[r]]=>r=1
 |776,_,[[r]]=>r=1
 |777,_,[[r]]=>r=0
 |n,a,b=>aez n a b
def aeB:Nat->List (List Int)->List (List Int)->Prop
 |600,[[z]],[[r]]=>r=bx (e5 (aa z))
 |601,[r],[[z]]=>z=bx (Ky (zk r))
 |602,[[z]],[[r]]=>r=bx (Gk (mU z))
 |603,[[z],[t]],[[i],[f]]=>aeb (mU z) (aa t) i f
 |604,[[z],[t]],[r,[f]]=>match VY (mU z) (aa t)with
  |some b=>zk r=b/\f=1
  |none=>r=[0,0,0,0,0,0,0]/\f=0
 |605,[[c],[i],[r]],[[y]]=>ab y=(ab c).take i.toNat++ab r++(ab c).drop i.toNat
 |606,[[z],r],[[y],[e]]=>(mU y,e)=abE (mU z) (zk r)
 |607,[[z],a,[m]],[[y],[d],[e]]=>(mU y,mU d,e)=abq (mU z) (kE a) (aa m)
 |608,[],[r]=>r=Kl
 |612,[r],[[z]]=>z=bx (Ky (zk r))
 |613,[[z]],[[r]]=>r=bx (Gk (mU z))
 |614,[[z],[t]],[r,[f]]=>match VY (mU z) (aa t)with
  |some b=>zk r=b/\f=1
  |none=>r=[0,0,0,0,0,0,0]/\f=0
 |615,[[z],r],[[y],[e]]=>(mU y,e)=abE (mU z) (zk r)
 |616,[[z],a,[m]],[[y],[d],[e]]=>(mU y,mU d,e)=abq (mU z) (kE a) (aa m)
 |617,[[a],[b]],[[r]]=>r=bx (decide (mU a=mU b))
 |618,[[r]],[[z]]=>aa z=aas (cK r)
 |619,[[z]],[[r]]=>ab r=ab z
 |n,a,b=>aeA n a b
def aeC:Nat->List (List Int)->List (List Int)->Prop
 |500,[[z]],[[r]]=>r=bx (decide (200<auN (jd z)))
 |501,[[z]],[[r]]=>r=bx ((aa z).contains 32)
 |502,[[z]],[[r]]=>r=bx (e5 (aa z))
 |503,[[z]],[[r]]=>r=bx (KM (bA z))
 |504,[[z]],[[r]]=>r=bx (KL (jd z))
 |505,[[z],[t]],[[i],[f]]=>aed (jd z) (aa t) i f
 |506,[[z],[t]],[[i],[e]]=>(i,e)=mo (jd z) (aa t)
 |507,[[z],[t]],[[s],[e]]=>(aa s,e)=acf (jd z) (aa t)
 |508,[[z],[t]],[[y],[e]]=>(jd y,e)=Zx (jd z) (aa t)
 |509,[[z],[t],[m]],[[y],[e]]=>(jd y,e)=aaD (jd z) (aa t) (aa m)
 |511,[[z],[t],[d]],[[e]]=>e=Us (jd z) (aa t) (bA d)
 |513,[[z],[t],[d]],[[y],[e]]=>(jd y,e)=Ur (jd z) (aa t) (bA d)
 |530,[[z]],[[r]]=>r=bx (KL (jd z))
 |531,[[z],[t]],[[i]]=>i=match(jd z).findIdx? (λu=>decide (u.tok=aa t))with|some k=>(k:Int)|none=>-1
 |532,[[z],[t],[m]],[[y],[e]]=>(jd y,e)=aaD (jd z) (aa t) (aa m)
 |533,[[z],[t]],[[y],[e]]=>(jd y,e)=Zx (jd z) (aa t)
 |534,[[z],[t]],[[s],[e]]=>(aa s,e)=acf (jd z) (aa t)
 |535,[[z],[s]],[[y]]=>(bA z).Pairwise (λa b=>dV a b=true)->bA y=r6 (aa s) (bA z)
 |536,[[z],[t],[d]],[[y],[e]]=>(jd y,e)=Ur (jd z) (aa t) (bA d)
 |537,[[z],[t],[d]],[[e]]=>e=Us (jd z) (aa t) (bA d)
 |538,[[a],[b]],[[r]]=>r=bx (decide (jd a=jd b))
 |539,[[z]],[[y]]=>jd y=jd z
 |540,[_,_,_],[[r]]=>r=1
 |541,[_,_,_],[[r]]=>r=1
 |520,[],[[r]]=>r=1
 |521,[_,_],[[r]]=>r=1
 |522,[_,_,_],[[r]]=>r=1
 |512,[[z],[t]],[[r]]=>r=bx ((bA z).contains (aa t))
 |510,[[a],[b]],[[r]]=>r=cond (dV (aa a) (aa b)) (-1) (cond (decide (aa a=aa b)) 0 1)
 |n,a,b=>aeB n a b
def aey:Nat->List (List Int)->List (List Int)->Prop
 |400,[[z]],[[r]]=>r=bx (tA (aa z))
 |401,[[z]],[[r]]=>r=bx (e5 (aa z))
 |402,[r],[[z]]=>z=bx (KX (nJ r))
 |403,[[z]],[[r]]=>r=bx (xp (iu z))
 |404,[[z],[n]],[[i],[f]]=>aea (iu z) n i f
 |417,[r,[n]],[[z]]=>z=bx (Kj (nJ r) n)
 |405,[[z],[n]],[r,[f]]=>match VZ (iu z) n with
  |some b=>nJ r=b/\f=1
  |none=>r=[0,0,0,0,0,0,0,0,0,0]/\f=0
 |406,[[z],[n],r],[[i],[e]]=>(i,e)=(((tx (iu z) n (nJ r)).1:Int),(tx (iu z) n (nJ r)).2)
 |407,[[z],[n],r],[a,[e]]=>(kE a,e)=abr (iu z) n (nJ r)
 |408,[[z],[n],r],[[y],[e]]=>(iu y,e)=abJ (iu z) n (nJ r)
 |409,[[z],[n]],[[y]]=>iu y=zm (iu z) n
 |410,[[z],[n]],[[y]]=>iu y=cond (GA n&&xp (iu z)) (zm (iu z) n) []
 |411,[[c],[i],[r]],[[y]]=>ab y=(ab c).take i.toNat++ab r++(ab c).drop i.toNat
 |412,[[z],r],[[y],[i],[s],[e]]=>(iu y,i,s,e)=aaH (iu z) (nJ r)
 |416,[[a],[b]],[[r]]=>r=bx (decide (iu a=iu b))
 |418,[],[r]=>r=ae7
 |413,[],[[r]]=>r=1
 |414,[_],[[r]]=>r=1
 |415,[_,_],[[r]]=>r=1
 |420,[[z]],[[r]]=>r=bx (e5 (aa z))
 |422,[r],[[z]]=>z=bx (KX (nJ r))
 |423,[[z]],[[r]]=>r=bx (xp (iu z))
 |424,[[z],[n]],[[y]]=>iu y=cond (GA n&&xp (iu z)) (zm (iu z) n) []
 |425,[[z],[n]],[r,[f]]=>match VZ (iu z) n with
  |some b=>nJ r=b/\f=1
  |none=>r=[0,0,0,0,0,0,0,0,0,0]/\f=0
 |426,[[z],[n],r],[[i]]=>i=match(iu z).findIdx? (λs=>decide (s.id=(nJ r).id)&&(decide (s.sec=(nJ r).sec)&& !Kj s n))with
  |some k=>(k:Int)
  |none=>-1
 |427,[[z],[n],r],[[y],[e]]=>(iu y,e)=abJ (iu z) n (nJ r)
 |428,[[z],[n],r],[a,[e]]=>(kE a,e)=abr (iu z) n (nJ r)
 |429,[[z],r],[[y],[i],[s],[e]]=>(iu y,i,s,e)=aaH (iu z) (nJ r)
 |430,[_,_],[[r]]=>r=1
 |431,[_,_,_],[[r]]=>r=1
 |n,a,b=>aeC n a b
def aex:Nat->List (List Int)->List (List Int)->Prop
 |300,[r],[[z]]=>z=bx (pO (k5 r))
 |301,[r,a],[[z]]=>z=Ih (kE r) (kE a)
 |302,[[z],a],[[i],[f]]=>aec (bds z) (kE a) i f
 |303,[[z]],[[r]]=>r=bx (mv (bds z))
 |304,[[z],a],[r,[f]]=>match VX (bds z) (kE a)with
  |some b=>k5 r=b/\f=1
  |none=>k5 r=ng/\f=0
 |305,[[z],[x]],[[y]]=>Lj y=Z1 (bds z) (aa x)
 |306,[[c],[i],[r]],[[y]]=>ab y=(ab c).take i.toNat++ab r++(ab c).drop i.toNat
 |307,[[c],[i],[j]],[[y]]=>ab y=(ab c).take i.toNat++(ab c).drop j.toNat
 |308,[[z],r],[[y],[e]]=>(bds y,e)=UL (bds z) (k5 r)
 |309,[[z],r],[[y],[e]]=>(bds y,e)=ab2 (bds z) (k5 r)
 |310,[],[[r]]=>r=1
 |311,[_,_],[[r]]=>r=1
 |312,[_],[[r]]=>r=1
 |320,[r],[[z]]=>z=bx (pO (k5 r))
 |321,[[z]],[[r]]=>r=bx (mv (bds z))
 |322,[[z],a],[r,[f]]=>match VX (bds z) (kE a)with
  |some b=>k5 r=b/\f=1
  |none=>k5 r=ng/\f=0
 |323,[[z],a],[[y]]=>bds y=(bds z).filter (λb=> !(b.1==kE a))
 |324,[[z],r],[[y],[e]]=>(bds y,e)=UL (bds z) (k5 r)
 |325,[[z],r],[[y],[e]]=>(bds y,e)=ab2 (bds z) (k5 r)
 |326,[[z],[x]],[[y]]=>Lj y=Z1 (bds z) (aa x)
 |327,[[a],[b]],[[r]]=>r=bx (decide (bds a=bds b))
 |328,[[a],[b]],[[r]]=>r=bx (decide (Lj a=Lj b))
 |329,[_,_,_],[[r]]=>r=1
 |n,a,b=>aey n a b
def SB:Nat->List (List Int)->List (List Int)->Prop
 |73,[[z],[b]],[[r]]=>r=idx b (aa z)
 |36,[[z],[b]],[[r]]=>aa r=kv (·==u8 b) (aa z)
 |37,[[z],[b]],[[r]]=>aa r=jM (·==u8 b) (aa z)
 |120,[[z]],[[r]]=>aa r=jP (·==32) (aa z)
 |121,[[z]],[[r]]=>aa r=jP (·==46) (aa z)
 |122,[[z]],[[r]]=>aa r=jP DC (aa z)
 |123,[[z]],[[r]]=>aa r=jP u2 (aa z)
 |124,[[z]],[[r]]=>aa r=jP j4 (aa z)
 |125,[[z]],[[a],[b],[c]]=>(aa a,aa b,c)=nk 64 (aa z)
 |126,[[z]],[[a],[b],[c]]=>(aa a,aa b,c)=nk 58 (aa z)
 |127,[[z]],[[r]]=>r=bx ((aa z).contains 46)
 |128,[[z]],[[r]]=>r=bx (dd (aa z))
 |44,[[s],[b]],[[r]]=>r=bx ((aa s).all λc=>(aa b).contains c)
 |65,[[s],[b]],[[r]]=>r=bx ((aa s).all λc=>(aa b).contains c)
 |28,[[z]],[[r]]=>aa r=lower (aa z)
 |17,[[z]],[[r]]=>aa r=lower (aa z)
 |31,[[z],[c]],[[r]]=>r=bx ((aa z).contains (u8 c))
 |47,[[z]],[[r]]=>r=bx (j3 (aa z))
 |30,[[z]],[[r]]=>r=bx (j3 (aa z))
 |27,[[z]],[[r]]=>r=bx (mw (aa z))
 |24,[[z]],[[r]]=>r=bx (ou (aa z))
 |29,[[z]],[[r]]=>r=bx (ou (aa z))
 |50,[[c]],[[r]]=>r=bx (E6 (u8 c))
 |51,[[c]],[[r]]=>r=bx (u5 (u8 c))
 |52,[[c]],[[r]]=>r=bx (j4 (u8 c))
 |10,[[z]],[[a],[e]]=>(aa a,e)=oZ (aa z)
 |11,[[z]],[[a],[e]]=>(aa a,e)=oZ (aa z)
 |35,[[w]],[[c],[t],[o]]=>match Ik (aa w)with
  |some (code,xx)=>aa c=code/\t=bx (!xx.isEmpty)/\o=1
  |none=>aa c=[]/\t=0/\o=0
 |32,[[w]],[[c,t],[o]]=>match Ik (aa w)with
  |some (code,xx)=>aa c=code/\aa t=xx/\o=1
  |none=>o=0/\aa c=[]/\aa t=[]
 |33,[[s]],[[d],[p],[o]]=>match ur (aa s) [] false with
  |some (d',p')=>aa d=d'/\p=bx p'/\o=1
  |none=>aa d=[]/\p=0/\o=0
 |34,[[s],[t]],[[r]]=>aa r=cond ((aa t).isPrefixOf (aa s)) ((aa s).drop (aa t).length) (aa s)
 |12,[[w],[s]],[[a],[e]]=>(aa a,e)=vp (aa w) (aa s)
 |13,[[w],[s]],[[a],[e]]=>(aa a,e)=vp (aa w) (aa s)
 |14,[[a,b],[c,d]],[[r]]=>r=bx (Qa (aa a) (aa b) (aa c) (aa d))
 |21,[[a,b],[c,d]],[[r]]=>r=bx (Qa (aa a) (aa b) (aa c) (aa d))
 |15,[[m],[w]],[[a,b],[e]]=>(aa a,aa b,e)=tq (aa m) (aa w)
 |18,[[m],[w]],[[a,b],[e]]=>(aa a,aa b,e)=tq (aa m) (aa w)
 |16,[[m,w]],[[r]]=>r=bx (po (aa m) (aa w))
 |19,[[m,w]],[[r]]=>r=bx (po (aa m) (aa w))
 |20,[[m,w]],[[r]]=>aa r=aa m++[32]++aa w
 |202,[[z]],[[r]]=>aa r=jP E5 (aa z)
 |203,[[z]],[[r]]=>aa r=jP YN (aa z)
 |200,[[z]],[[r]]=>r=bx (qp (aa z))
 |207,[[z]],[[r]]=>r=bx (qp (aa z))
 |201,[[z]],[[r]]=>r=bx (KN (aa z))
 |208,[[z]],[[r]]=>r=bx (KN (aa z))
 |204,[[z]],[[r]]=>r=idx 58 (aa z)
 |205,[[z]],[[r]]=>r=bx (mw (aa z))
 |206,[[z],[k]],[[a],[b],[c]]=>(aa a,aa b,c)=nI (u8 k) (aa z)
 |211,[[z],[k]],[[a],[b],[c]]=>(aa a,aa b,c)=nI (u8 k) (aa z)
 |209,[[z]],[[a],[b],[e]]=>(aa a,aa b,e)=abC (aa z)
 |210,[[z]],[[a],[b],[e]]=>(aa a,aa b,e)=abC (aa z)
 |220,[[z]],[[r],[e]]=>match Kw [] (aa z)with
  |some l=>cK r=l/\e=0
  |none=>cK r=[]/\e=2
 |221,[[z]],[[r],[e]]=>match Kw [] (aa z)with
  |some l=>cK r=l/\e=0
  |none=>cK r=[]/\e=2
 |222,[[r]],[[z]]=>aa z=eU (cK r)
 |225,[[r]],[[z]]=>aa z=eU (cK r)
 |223,[[z]],[[r]]=>r=bx (VT (aa z))
 |224,[[z]],[[r]]=>r=bx (VT (aa z))
 |230,[[c]],[[r]]=>r=idx c x5
 |226,[],[[r]]=>r=1
 |227,[_],[[r]]=>r=1
 |228,[_],[[r]]=>r=1
 |229,[_,_],[[r]]=>r=1
 |9,[],[[r]]=>r=1
 |3,[_],[[r]]=>r=1
 |4,[_,_],[[r]]=>r=1
 |5,[_],[[r]]=>r=1
 |6,[_,_,_],[[r]]=>r=1
 |7,[_,_],[[r]]=>r=1
 |8,[_,_],[[r]]=>r=1
 |n,a,b=>aex n a b
theorem Sa (b:UInt8):u8 (b.toNat:Int)=b:=by simp[u8]
theorem R9 {b:UInt8} {z:Int} (h0:0<=z) (h1:z<=255):((b.toNat:Int)=z)↔(b==u8 z)=true:=by
 rw[beq_iff_eq,<-acT];unfold u8;simp;omega
theorem PF {c:Int} (h0:0<=c) (h1:c<=255):∀l:au,(idx c l=-1/\u8 c∉l)∨(0<=idx c l/\(idx c l).toNat<l.length/\l.getD (idx c l).toNat 0=u8 c/\u8 c∈l/\∀j,j<(idx c l).toNat->l.getD j 0≠u8 c)
 |[]=> .inl ⟨rfl,by simp⟩
 |b::r=>by
  have hb:=R9 (b:=b) h0 h1;have ih:=PF h0 h1 r;by_cases he:(b.toNat:Int)=c
  ·have hb':b=u8 c:=by simpa using hb.1 he
   right
   have:idx c (b::r)=0:=by simp[idx,he]
   rw[this];refine⟨bO _,by simp,by simp[hb'],by simp[hb'],λj hj=>by simp at hj⟩
  ·have hb':¬b=u8 c:=λe=>he (hb.2 (by simpa using e));rcases ih with⟨h2,h3⟩|⟨h2,h3,h4,h5,h6⟩
   ·left
    exact⟨by simp[idx,he,h2],by simp[h3];exactλe=>hb' e.symm⟩
   ·right
    have e:idx c (b::r)=idx c r+1:=by
     show(if(b.toNat:Int)=c then 0 else if idx c r<0 then-1 else idx c r+1)=_;rw[if_neg he,if_neg (by omega)]
    have pS:(idx c (b::r)).toNat=(idx c r).toNat+1:=by omega
    rw[pS];refine⟨by omega,by simp;omega,by simpa using h4,by simp[h5],λj hj=>?_⟩;cases j with
    |zero=>simpa using hb'
    |succ j=>simpa using h6 j (by omega)
theorem JE {c:Int} (h0:0<=c) (h1:c<=255) (l:au):decide (0<=idx c l)=l.contains (u8 c):=by
 rcases PF h0 h1 l with⟨h2,h3⟩|⟨h2,_,_,h3,_⟩
 ·rw[h2];simp[h3]
 ·simp[h2,h3]
theorem sM (b:Bool):0<=bx b/\bx b<=1:=by cases b<;>decide
theorem Dg (b:Bool):decide (bx b=1)=b:=by cases b<;>rfl
theorem avo {z:Int} (h0:0<=z) (h1:z<=255):((u8 z).toNat:Int)=z:=by unfold u8;simp;omega
theorem Gz (l:au) (i:Nat) (h:i<l.length):l.take (i+1)=l.take i++[l.getD i 0]:=by
 rw[Sx];simp[ar,h]
theorem sQ (l:au) (i:Nat) (h:i<l.length):l.drop i=l.getD i 0::l.drop (i+1):=by
 rw[G0 h];simp[ar,h]
theorem ane {z:Int} (h:z<=b8):((aa z).length:Int)<=0x7fffffffffffffff:=by
 have:=vV h;unfold dP at this;omega
theorem Cj (p:UInt8->Bool) (l:au) (x:UInt8):jM p (l++[x])=cond (p x) (jM p l) (l++[x]):=by
 unfold jM;simp only[ayg,ayh,ayi,gv,acU,zP];cases p x<;>simp
end Go.aX
namespace Go.aX
open Go Go.aW
def Aj:D:= .mix [.str,.str]
def No:D:= .int .u8 0 255
def agz:D:= .int .i64 (-1) 0x7fffffffffffffff
def Dx:D:= .int .i64 0 21
def Y9:D:= .ka [32]
def Y1:D:= .ka [46]
def amC:D:= .ka [46,46]
def amE:D:= .ka [46,45]
def amz:D:= .ka [64]
def amB:D:= .ka [58]
def amG:D:= .ka [97,98,99,100,101,102,103,104,105,106,107,108,109,110,111,112,113,114,115,116,117,118,119,120,121,122,65,66,67,68,69,70,71,72,73,74,75,76,77,78,79,80,81,82,83,84,85,86,87,88,89,90,48,49,50,51,52,53,54,55,56,57,46,45]
def amD:D:= .ka [48,49,50,51,52,53,54,55,56,57]
def amV:D:= .ka [97,98,99,100,101,102,103,104,105,106,107,108,109,110,111,112,113,114,115,116,117,118,119,120,121,122,48,49,50,51,52,53,54,55,56,57,46,95,61,47,43,45]
def Y7:D:= .ka [65,66,67,68,69,70,71,72,73,74,75,76,77,78,79,80,81,82,83,84,85,86,87,88,89,90,97,98,99,100,101,102,103,104,105,106,107,108,109,110,111,112,113,114,115,116,117,118,119,120,121,122,48,49,50,51,52,53,54,55,56,57,45,95]
def zg:bG:= .jL [.int .u8 0 255] 5
def uu:D:= .mix [.str,.str,.str,.int .i64 (-0x8000000000000000) 0x7fffffffffffffff]
def Zh:bG:= .rd [.str,.str,.str,.int .i64 (-0x8000000000000000) 0x7fffffffffffffff]
def ago:D:= .int .i64 (-1) 1
def Nn:D:= .int .i64 0 0x7fffffffffffffff
def nn:D:= .int .i64 (-0x8000000000000000) 0x7fffffffffffffff
def agy:D:= .int .i64 0 79
def aor:bG:= .rd [.int .u32 0 4294967295]
def Ks:bG:= .jL [.int .u32 0 4294967295] 78
def lK:D:= .nD .i64 32
def oV:D:= .int .u32 0 4294967295
def dN:D:= .int .u64 0 0xffffffffffffffff
def HK:D:= .agg .u8 32 0 255
def amH:D:= .ka [110,111,110,101]
def Kr:bG:= .jL [.str] 9
def Kk:bG:= .jL [.int .i64 4 4,.int .i64 0 0,.str,.nil,.nil] 30
def d66:D:= .int .i64 6 6
def Im:D:= .int .i64 0 0
def Nk:D:= .int .i64 0 6
def anb:D:= .mix [.int .i64 0 4,.int .i64 0 0,.str,.nil,.nil]
def Ze:bG:= .rd [.int .u8 0 127]
def sa:bG:= .rd [.int .i64 4 4,.int .i64 0 0,.str,.nil,.nil]
def leaf:D:= .mix [.int .i64 4 4,.int .i64 0 0,.str,.nil,.nil]
def mm:D:= .nD .i64 5
def mR:D:= .nD .i64 6
def iG:D:= .nD .i64 0
def Fw:D:= .ka []
def qe:bG:= .rd [.str]
def pd:bG:= .rd [.int .u8 0 255]
def amT:D:= .int .i64 6 6
def amU:D:= .int .i64 7 7
def amN:D:= .int .i64 18 18
def amO:D:= .int .i64 19 19
def amP:D:= .int .i64 2 2
def amS:D:= .int .i64 3 3
def amJ:D:= .int .i64 10 10
def amK:D:= .int .i64 11 11
def amL:D:= .int .i64 13 13
def amM:D:= .int .i64 17 17
def amQ:D:= .int .i64 22 22
def amR:D:= .int .i64 25 25
def aoL:D:= .mix [.int .i64 2 2,.int .i64 13 13,.int .i64 22 22]
def aoM:D:= .mix [.int .i64 6 6,.int .i64 11 11,.int .i64 25 25]
def aoN:D:= .mix [.int .i64 7 7,.int .i64 18 18,.int .i64 3 3]
def aoO:D:= .mix [.int .i64 17 17,.int .i64 19 19,.int .i64 10 10]
end Go.aX
set_option maxRecDepth 100000
namespace Go.aX
open Go Go.aW
def dB:cB->Nat->Option dc:=λ_ _=>none
def dC:Nat->List Nat:=λ_=>[]
def nH:b9:=⟨137,73,[.str,No],[agz]⟩
def wZ:b9:=⟨154,36,[.str,No],[.str]⟩
def anA:cB->Nat->Option dc:=λf r=>match f,r with
 |154,1=>some ⟨[1],[(0,0,0)],[],[],[],[],[]⟩
 |_,_=>none
def aoj:Nat->List Nat:=λn=>[1]
def w5:b9:=⟨155,37,[.str,No],[.str]⟩
def anB:cB->Nat->Option dc:=λf r=>match f,r with
 |155,1=>some ⟨[1],[(0,0,0)],[],[],[],[],[]⟩
 |_,_=>none
def aok:Nat->List Nat:=λn=>[1]
def BM:b9:=⟨140,120,[.str,Y9],[.str]⟩
def BK:b9:=⟨140,121,[.str,Y1],[.str]⟩
def Bq:b9:=⟨33,127,[.str,Y1],[.bool]⟩
def BJ:b9:=⟨140,122,[.str,amE],[.str]⟩
def anx:cB->Nat->Option dc:=λf r=>match f,r with
 |157,1=>some ⟨[1],[(0,0,0)],[],[],[],[],[]⟩
 |158,1=>some ⟨[1],[(0,0,0)],[],[],[],[],[]⟩
 |_,_=>none
def aoh:Nat->List Nat:=λn=>[1]
def Bt:b9:=⟨122,125,[.str,amz],[.str,.str,.bool]⟩
def wV:b9:=⟨122,126,[.str,amB],[.str,.str,.bool]⟩
def BA:b9:=⟨161,44,[.str,.str],[.bool]⟩
def anr:cB->Nat->Option dc:=λf r=>match f,r with
 |161,2=>some ⟨[0,1,7],[(8,0,0x7fffffffffffffff)],[],[],[],[],[]⟩
 |_,_=>none
def aob:Nat->List Nat:=λn=>[1]
def tj:b9:=⟨149,65,[.str,.str],[.bool]⟩
def ank:cB->Nat->Option dc:=λf r=>match f,r with
 |149,2=>some ⟨[0,1,7],[(8,0,0x7fffffffffffffff)],[],[],[],[],[]⟩
 |_,_=>none
def an4:Nat->List Nat:=λn=>[1]
def Bz:b9:=⟨143,28,[.str],[.str]⟩
def anq:cB->Nat->Option dc:=λf r=>match f,r with
 |143,3=>some ⟨[3,8,9],[(10,0,0x7fffffffffffffff)],[(0,0,0,0)],[],[],[],[]⟩
 |_,_=>none
def aoa:Nat->List Nat:=λn=>[1,1]
def amx:b9:=⟨33,128,[.str,amC],[.bool]⟩
def B8:eO:=⟨amx,41⟩
def BL:b9:=⟨140,123,[.str,amG],[.str]⟩
def anz:cB->Nat->Option dc:=λf r=>match f,r with
 |157,1=>some ⟨[1],[(0,0,0)],[],[],[],[],[]⟩
 |158,1=>some ⟨[1],[(0,0,0)],[],[],[],[],[]⟩
 |_,_=>none
def aoi:Nat->List Nat:=λn=>[1]
def BI:b9:=⟨140,124,[.str,amD],[.str]⟩
def anw:cB->Nat->Option dc:=λf r=>match f,r with
 |157,1=>some ⟨[1],[(0,0,0)],[],[],[],[],[]⟩
 |158,1=>some ⟨[1],[(0,0,0)],[],[],[],[],[]⟩
 |_,_=>none
def aog:Nat->List Nat:=λn=>[1]
def Bw:b9:=⟨150,47,[.str],[.bool]⟩
def wY:b9:=⟨125,27,[.str],[.bool]⟩
def By:b9:=⟨141,24,[.str],[.bool]⟩
def Bv:b9:=⟨119,10,[.str],[.str,Dx]⟩
def BN:b9:=⟨140,202,[.str,amV],[.str]⟩
def anC:cB->Nat->Option dc:=λf r=>match f,r with
 |157,1=>some ⟨[1],[(0,0,0)],[],[],[],[],[]⟩
 |158,1=>some ⟨[1],[(0,0,0)],[],[],[],[],[]⟩
 |_,_=>none
def aol:Nat->List Nat:=λn=>[1]
def BO:b9:=⟨65,200,[.str],[.bool]⟩
def BB:b9:=⟨32,400,[.str],[.bool]⟩
def ans:cB->Nat->Option dc:=λf r=>match f,r with
 |32,2=>some ⟨[0,5],[(6,0,0x7fffffffffffffff)],[],[],[],[],[]⟩
 |_,_=>none
def aoc:Nat->List Nat:=λn=>[1]
def Bs:b9:=⟨33,501,[.str,Y9],[.bool]⟩
def r9:b9:=⟨14,670,[.str],[.bool]⟩
def pb:cY:=⟨68,640,[Ze],[.d .bool],0⟩
def anD:cB->Nat->Option dc:=λf r=>match f,r with
 |68,2=>some ⟨[2],[],[],[],[],[],[(0,[.int .u8 0 127])]⟩
 |68,10=>some ⟨[2],[],[],[],[],[],[(0,[.int .u8 0 127])]⟩
 |_,_=>none
def aom:Nat->List Nat:=λn=>[1,1,1]
def PT:cY:=⟨41,642,[.d mR,.d iG,.d Fw,qe,sa],[.d .bool],88⟩
def IH:eD:=⟨PT,[5],[0]⟩
def ann:cB->Nat->Option dc:=λf r=>match f,r with
 |95,4=>some ⟨[0,1,2,13,14],[(15,0,0x7fffffffffffffff)],[],[],[],[],[]⟩
 |126,2=>some ⟨[0,1,7],[(8,0,0x7fffffffffffffff)],[],[],[],[],[]⟩
 |_,_=>none
def an7:Nat->List Nat:=λn=>[1]
def Fa:cY:=⟨41,677,[.d leaf],[.d .bool],89⟩
def sX:eD:=⟨Fa,[0],[0]⟩
def qV:cY:=⟨70,671,[qe,.d .str],[.d Nn,.d .bool],0⟩
def anp:cB->Nat->Option dc:=λf r=>match f,r with
 |70,3=>some ⟨[0,1,6],[(7,0,0x7fffffffffffffff),(8,0,0x7fffffffffffffff)],[],[],[],[],[]⟩
 |_,_=>none
def an9:Nat->List Nat:=λn=>[1,1]
def BH:jX:=⟨73,672,[.str],9,[.d Nn,qe],51⟩
def Bx:jX:=⟨74,673,[.int .i64 4 4,.int .i64 0 0,.str,.nil,.nil],30,[.d Nn,sa],51⟩
def Br:cY:=⟨71,683,[qe],[Kr],66⟩
def Bu:cY:=⟨72,684,[sa],[Kk],66⟩
def PV:cY:=⟨44,674,[.d mR,.d iG,.d Fw,qe,sa,.d .str,.d leaf],[.d d66,.d Im,.d .str,qe,sa],87⟩
def II:eD:=⟨PV,[5,0,0],[5]⟩
def PU:cY:=⟨24,675,[.d mR,.d iG,.d Fw,qe,sa,.d .str,.d leaf],[.d Nk,.d Im,.d .str,qe,sa,.d Dx],87⟩
def NW:eD:=⟨PU,[5,0,0],[5,0]⟩
def PS:cY:=⟨12,676,[.d Nk,.d Im,.d .str,qe,sa,.d .str],[.d anb,.d .bool],0⟩
def IG:eD:=⟨PS,[5,0],[0,0]⟩
def anm:cB->Nat->Option dc:=λf r=>match f,r with
 |29,2=>some ⟨[0,1,7],[(8,0,0x7fffffffffffffff)],[],[],[],[],[]⟩
 |_,_=>none
def an6:Nat->List Nat:=λn=>[1]
def BG:b9:=⟨86,440,[nn,nn],[nn]⟩
def u6:b9:=⟨53,444,[oV],[oV]⟩
def u7:b9:=⟨55,445,[oV],[oV]⟩
def u9:b9:=⟨56,446,[oV],[oV]⟩
def vd:b9:=⟨57,447,[oV],[oV]⟩
def za:cY:=⟨59,442,[pd,.d lK],[zg],71⟩
def anv:cB->Nat->Option dc:=λf r=>match f,r with
 |59,6=>some ⟨[0,1,5],[(6,0,0xffffffffffffffff),(7,-1,0x7fffffffffffffff)],[(1,0,0,0)],[],[],[],[]⟩
 |_,_=>none
def aof:Nat->List Nat:=λn=>[1,1,1]
def ve:b9:=⟨52,466,[agy],[oV]⟩
def y9:cY:=⟨116,462,[aor],[Ks],66⟩
def JL:cY:=⟨58,464,[pd],[zg],72⟩
def zt:lB:=⟨JL,[.int .u32 1779033703,.int .u32 3144134277,.int .u32 1013904242,.int .u32 2773480762,.int .u32 1359893119,.int .u32 2600822924,.int .u32 528734635,.int .u32 1541459225,.int .i64 64,.fn 52,.fn 53,.fn 55,.fn 56,.fn 57],87,[.int .i64 4]⟩
def JV:cB->Nat->Option dc:=λf r=>match f,r with
 |85,3=>some ⟨[0],[(5,16,0x7fffffffffffffff)],[],[],[(4,[.int .u32 0 4294967295],78)],[],[]⟩
 |85,8=>some ⟨[0,106,107],[(108,0,0x7fffffffffffffff),(6,0,4294967295),(7,0,4294967295),(8,0,4294967295),(9,0,4294967295),(10,0,4294967295),(11,0,4294967295),(12,0,4294967295),(13,0,4294967295)],[],[],[],[],[]⟩
 |58,15=>some ⟨[3,5,13,47,48],[(14,-1,3)],[],[],[(11,[.int .u8 0 255],5)],[],[]⟩
 |_,_=>none
def ZA:Nat->List Nat:=λn=>cond (aA n 4) [8,1] (cond (aA n 102) [8,1] [1,1,1,1])
def JO:cY:=⟨60,469,[pd,pd,pd],[pd],75⟩
def zj:jZ:=⟨JO,63,true⟩
def JP:cY:=⟨34,472,[pd,pd,pd],[.d HK],75⟩
def B2:jZ:=⟨JP,63,false⟩
def JM:cY:=⟨61,225,[.d Y7,pd],[.d .str],48⟩
def tk:cY:=⟨15,679,[.d .str,.d Aj],[.d .str],90⟩
def amy:b9:=⟨120,12,[.str,.str],[.str,Dx]⟩
def KE:eO:=⟨amy,94⟩
def Fb:b9:=⟨93,15,[.str,.str],[Aj,Dx]⟩
def FT:eO:=⟨Fb,95⟩
def Fc:b9:=⟨64,16,[Aj],[.bool]⟩
def FU:eO:=⟨Fc,95⟩
def E8:b9:=⟨39,300,[uu],[.bool]⟩
def FR:eO:=⟨E8,95⟩
def amw:b9:=⟨40,301,[uu,Aj],[ago]⟩
def KD:eO:=⟨amw,94⟩
def Bp:cY:=⟨22,303,[Zh],[.d .bool],93⟩
def anj:cB->Nat->Option dc:=λf r=>match f,r with
 |22,4=>some ⟨[0,8,9],[(10,0,0x7fffffffffffffff)],[],[],[],[],[]⟩
 |_,_=>none
def an3:Nat->List Nat:=λn=>[1]
def JN:cY:=⟨9,678,[Zh,.d .str,.d amH,.d .str,qe],[.d Nk,.d Im,.d .str,qe,sa,.d Dx],93⟩
def DO:eD:=⟨JN,[0,0,3],[5,0]⟩
def wW:cY:=⟨7,680,[],[.d .bool],0⟩
def BD:cY:=⟨63,222,[pd,.d Y7],[.d .str],48⟩
def ant:cB->Nat->Option dc:=λf r=>match f,r with
 |63,4=>some ⟨[0,1],[(5,0,0),(6,0,63),(7,0,5),(8,0,0x7fffffffffffffff)],[],[],[],[],[]⟩
 |_,_=>none
def aod:Nat->List Nat:=λn=>[1,1,1,1]
def tn:b9:=⟨19,420,[.str],[.bool]⟩
def anE:cB->Nat->Option dc:=λf r=>match f,r with
 |19,2=>some ⟨[0],[(3,0,0x7fffffffffffffff)],[],[],[],[],[]⟩
 |_,_=>none
def aon:Nat->List Nat:=λn=>[1]
def fg:b9:=⟨91,483,[dN,lK],[dN]⟩
def Fp:b9:=⟨118,802,[dN,amP,lK],[dN]⟩
def F6:eO:=⟨Fp,82⟩
def Ft:b9:=⟨118,803,[dN,amS,lK],[dN]⟩
def F9:eO:=⟨Ft,82⟩
def Fu:b9:=⟨118,806,[dN,amT,lK],[dN]⟩
def Ga:eO:=⟨Fu,82⟩
def Fv:b9:=⟨118,807,[dN,amU,lK],[dN]⟩
def Gb:eO:=⟨Fv,82⟩
def Fi:b9:=⟨118,810,[dN,amJ,lK],[dN]⟩
def FZ:eO:=⟨Fi,82⟩
def Fj:b9:=⟨118,811,[dN,amK,lK],[dN]⟩
def F1:eO:=⟨Fj,82⟩
def Fk:b9:=⟨118,813,[dN,amL,lK],[dN]⟩
def F2:eO:=⟨Fk,82⟩
def Fl:b9:=⟨118,817,[dN,amM,lK],[dN]⟩
def F3:eO:=⟨Fl,82⟩
def Fm:b9:=⟨118,818,[dN,amN,lK],[dN]⟩
def F4:eO:=⟨Fm,82⟩
def Fo:b9:=⟨118,819,[dN,amO,lK],[dN]⟩
def F5:eO:=⟨Fo,82⟩
def Fq:b9:=⟨118,822,[dN,amQ,lK],[dN]⟩
def F7:eO:=⟨Fq,82⟩
def Fs:b9:=⟨118,825,[dN,amR,lK],[dN]⟩
def F8:eO:=⟨Fs,82⟩
def Fe:b9:=⟨92,484,[dN,aoL,.bool,lK],[dN]⟩
def FV:eO:=⟨Fe,82⟩
def Ff:b9:=⟨92,485,[dN,aoM,.bool,lK],[dN]⟩
def FW:eO:=⟨Ff,82⟩
def Fg:b9:=⟨92,486,[dN,aoN,.bool,lK],[dN]⟩
def FX:eO:=⟨Fg,82⟩
def Fh:b9:=⟨92,487,[dN,aoO,.bool,lK],[dN]⟩
def FY:eO:=⟨Fh,82⟩
def BE:b9:=⟨90,441,[nn,nn],[nn]⟩
def BF:cY:=⟨62,488,[pd,.d lK],[zg],71⟩
def anu:cB->Nat->Option dc:=λf r=>match f,r with
 |62,7=>some ⟨[0,1,5,6],[],[],[],[(7,[.int .u8 0 255],5)],[],[]⟩
 |62,21=>some ⟨[0,1,5,6,7,8,10,12],[(13,0,0x7fffffffffffffff)],[(1010,0,0,0xffffffffffffffff),(1010,1,0,0xffffffffffffffff),(1010,2,0,0xffffffffffffffff),(1010,3,0,0xffffffffffffffff),(1010,4,0,0xffffffffffffffff),(1010,5,0,0xffffffffffffffff),(1010,6,0,0xffffffffffffffff),(1010,7,0,0xffffffffffffffff)],[],[],[],[]⟩
 |62,25=>some ⟨[0,1,5,6,7,8,10,12,13,14],[(15,0,64)],[(1014,0,0,0)],[],[],[(1014,[.int .u64 0 0xffffffffffffffff],80)],[]⟩
 |62,29=>some ⟨[0,1,5,6,7,8,10,12,13,14],[(16,16,64)],[(1014,0,0,0)],[],[],[],[]⟩
 |62,34=>some ⟨[0,1,5,6,7,8,10,12,13,14,17],[(18,0,64)],[(1017,0,0,0xffffffffffffffff),(1017,1,0,0xffffffffffffffff),(1017,2,0,0xffffffffffffffff),(1017,3,0,0xffffffffffffffff),(1017,4,0,0xffffffffffffffff),(1017,5,0,0xffffffffffffffff),(1017,6,0,0xffffffffffffffff),(1017,7,0,0xffffffffffffffff)],[],[],[],[]⟩
 |62,45=>some ⟨[0,1,5,6,7,8,10,12],[(23,0,8)],[],[],[(22,[.int .u8 0 255],5)],[(1010,[.int .u64 0 0xffffffffffffffff],8)],[]⟩
 |62,48=>some ⟨[0,1,5,6,7,8,10,12,23],[(24,-8,24)],[],[],[(22,[.int .u8 0 255],5)],[],[]⟩
 |_,_=>none
def aoe:Nat->List Nat:=λn=>cond (aA n 45||aA n 46||aA n 141||aA n 142) [1,8] (cond (aA n 8||aA n 9) [1,1,1] (cond (aA n 135||aA n 136||aA n 138||aA n 139) [1,1] [1,1,1,1]))
def BC:cY:=⟨37,489,[pd],[.d HK],71⟩
def wX:cY:=⟨18,771,[.d .str,.d Aj],[.d .str],90⟩
def tl:cY:=⟨42,774,[Ze],[.d .bool],0⟩
def E9:cY:=⟨41,775,[.d mm,.d iG,.d Fw,qe,sa],[.d .bool],92⟩
def wx:eD:=⟨E9,[5],[0]⟩
def ano:cB->Nat->Option dc:=λf r=>match f,r with
 |126,2=>some ⟨[0,1,7],[(8,0,0x7fffffffffffffff)],[],[],[],[],[]⟩
 |_,_=>none
def an8:Nat->List Nat:=λn=>[1]
def PQ:cY:=⟨43,776,[.d mm,.d iG,.d Fw,qe,sa],[.d nn],0⟩
def wu:eD:=⟨PQ,[5],[0]⟩
def anl:cB->Nat->Option dc:=λf r=>match f,r with
 |69,5=>some ⟨[1,21,22],[(23,0,0x7fffffffffffffff),(5,0,0)],[],[],[],[],[]⟩
 |_,_=>none
def an5:Nat->List Nat:=λn=>[1,1]
def PR:cY:=⟨43,777,[.d leaf],[.d nn],0⟩
def wv:eD:=⟨PR,[0],[0]⟩
def YZ:cY:=⟨6,689,[.d .str,.d Aj],[.d .bool],0⟩
def sh:Nat->List Nat×List Nat
 |73=>([1,1],[1])
 |36=>([1,1],[1])
 |37=>([1,1],[1])
 |120=>([1],[1])
 |121=>([1],[1])
 |127=>([1],[1])
 |122=>([1],[1])
 |125=>([1],[1,1,1])
 |126=>([1],[1,1,1])
 |44=>([1,1],[1])
 |65=>([1,1],[1])
 |28=>([1],[1])
 |128=>([1],[1])
 |123=>([1],[1])
 |124=>([1],[1])
 |47=>([1],[1])
 |27=>([1],[1])
 |24=>([1],[1])
 |10=>([1],[1,1])
 |202=>([1],[1])
 |200=>([1],[1])
 |400=>([1],[1])
 |501=>([1],[1])
 |670=>([1],[1])
 |640=>([1],[1])
 |642=>([1,1],[1])
 |677=>([5],[1])
 |671=>([1,1],[1,1])
 |672=>([1,1,1],[1])
 |673=>([1,1,1],[1])
 |683=>([1],[1])
 |684=>([1],[1])
 |674=>([1,1,1,5],[1,1,1,1,1])
 |675=>([1,1,1,5],[1,1,1,1,1,1])
 |676=>([1,1,1,1,1,1],[5,1])
 |440=>([1,1],[1])
 |444=>([1],[1])
 |445=>([1],[1])
 |446=>([1],[1])
 |447=>([1],[1])
 |442=>([1],[1])
 |466=>([1],[1])
 |462=>([1],[1])
 |464=>([1],[1])
 |469=>([1,1,1],[1])
 |472=>([1,1,1],[32])
 |225=>([1],[1])
 |679=>([1,2],[1])
 |12=>([1,1],[1,1])
 |15=>([1,1],[2,1])
 |16=>([2],[1])
 |300=>([4],[1])
 |301=>([4,2],[1])
 |303=>([1],[1])
 |678=>([1,1,1,1],[1,1,1,1,1,1])
 |680=>([],[1])
 |222=>([1],[1])
 |420=>([1],[1])
 |483=>([1],[1])
 |802=>([1,1],[1])
 |803=>([1,1],[1])
 |806=>([1,1],[1])
 |807=>([1,1],[1])
 |810=>([1,1],[1])
 |811=>([1,1],[1])
 |813=>([1,1],[1])
 |817=>([1,1],[1])
 |818=>([1,1],[1])
 |819=>([1,1],[1])
 |822=>([1,1],[1])
 |825=>([1,1],[1])
 |484=>([1,3,1],[1])
 |485=>([1,3,1],[1])
 |486=>([1,3,1],[1])
 |487=>([1,3,1],[1])
 |441=>([1,1],[1])
 |488=>([1],[1])
 |489=>([1],[32])
 |771=>([1,2],[1])
 |774=>([1],[1])
 |775=>([1,1],[1])
 |776=>([1,1],[1])
 |777=>([5],[1])
 |689=>([1,2],[1])
 |_=>([],[])
abbrev gH (P:Program) (gl:dA) (c:b9) (cal:ed) (li:cB->Nat->Option dc) (lsh:Nat->List Nat) (lens:List Nat) (B:(Nat->List (List Int)->List (List Int)->Prop)->(List (List Int)->List (List Int)->Prop)->Prop):Prop:=∀S K,iR sh lsh S K lens (cE c.args) c.res (c.tree P gl cal li 600 6)=B S K
end Go.aX
namespace Go.aX
open Go Go.aW
def TO (S:zzS) (K:zzK):Prop:=cl λz0=>KC λaf=>∃(gI:List (List Int)->Prop) (ki:List (List Int)->Nat),gI [[z0]]/\(cl λz3=>gI [[z3]]->bj 0 [z3] λz4=>(aE (decide (0<z4)) (ah 1 [z3,0]/\df 1 [z3,0] λz5=>(aE (decide (z5=af)) (bj 0 [z3] λaq=>ah 2 [z3,1,aq]/\cP 2 [z3,1,aq] λz7=>(gI [[z7]]/\ki [[z7]]<ki [[z3]])) (K [[z0],[af]] [[z3]]))) (K [[z0],[af]] [[z3]])))
def TP (S:zzS) (K:zzK):Prop:=cl λz0=>KC λaf=>∃(gI:List (List Int)->Prop) (ki:List (List Int)->Nat),gI [[z0]]/\(cl λz3=>gI [[z3]]->bj 0 [z3] λz4=>(aE (decide (0<z4)) (bj 0 [z3] λz5=>ah 1 [z3,(z5+(-1))]/\df 1 [z3,(z5+(-1))] λaq=>(aE (decide (aq=af)) (bj 0 [z3] λz7=>ah 2 [z3,0,(z7+(-1))]/\cP 2 [z3,0,(z7+(-1))] λak=>(gI [[ak]]/\ki [[ak]]<ki [[z3]])) (K [[z0],[af]] [[z3]]))) (K [[z0],[af]] [[z3]])))
def TQ (S:zzS) (K:zzK):Prop:=cl λz0=>dh 4 [z0,0] λaf=>(aE (decide (af=1)) (K [[z0]] [[z0]]) (cl λz2=>S 37 [[z0],[32]] [[z2]]->cl λz3=>S 36 [[z2],[32]] [[z3]]->K [[z0]] [[z3]]))
def TM (S:zzS) (K:zzK):Prop:=cl λz0=>dh 4 [z0,0] λaf=>(aE (decide (af=1)) (K [[z0]] [[z0]]) (cl λz2=>S 37 [[z0],[46]] [[z2]]->cl λz3=>S 36 [[z2],[46]] [[z3]]->K [[z0]] [[z3]]))
def S8 (S:zzS) (K:zzK):Prop:=cl λz0=>dh 4 [47,z0] λaf=>(aE (decide (af=1)) (K [[z0]] [[(cond (true) 1 0)]]) (tE λz2=>S 73 [[z0],[46]] [[z2]]->K [[z0]] [[(cond (decide (0<=z2)) 1 0)]]))
theorem arU:TO SB (bS SB [.str] 36):=by
 intro z0 a0 a1 af b0 b1;refine⟨λbl=>∃z,bl=[[z]]/\kv (·==u8 af) (aa z)=kv (·==u8 af) (aa z0),λbl=>(aa ((bl.getD 0 []).getD 0 0)).length,⟨z0,rfl,rfl⟩,?_⟩
 rintro z3 bW c1 ⟨z,e,hz⟩
 obtain rfl:z3=z:=by simpa using e
 intro z4 d0 d1 gn;simp only[aB]at gn;cases hl:aa z3 with
 |nil=>
  rw[hl]at gn hz;simp only[fe]at gn;subst gn;refine⟨λhp=>by simp at hp,λ_=>⟨⟨bW,c1,trivial⟩,?_⟩⟩;show aa z3=_
  try dsimp only
  rw[hl,<-hz];rfl
 |cons x r=>
  rw[hl]at gn hz;simp only[dj]at gn;refine⟨λ_=>⟨⟨bO _,by rw[hl];simp only[dj];omega⟩,?_⟩,λhp=>by simp at hp;omega⟩;intro z5 e0 e1 pa;simp only[aB,hl,G2,vH]at pa;have hx:=R9 (b:=x) b0 b1;rw[<-pa]at hx;refine⟨λhe=>?_,λhe=>⟨⟨bW,c1,trivial⟩,?_⟩⟩
  ·have yD:=hx.1 (by simpa using he);intro aq f0 f1 oo;simp only[aB,hl,dj]at oo;refine⟨⟨by omega,by omega,by rw[hl];simp only[dj];omega⟩,?_⟩;intro z7 g0 g1 uZ;have hr:aa z7=r:=by
    try dsimp only
    rw[uZ];simp only[aB,fj,hl]
    try dsimp only
    rw[show(1:Int).toNat=1 from rfl,ayj,ayk];exact lu (by omega)
   refine⟨⟨z7,rfl,?_⟩,?_⟩
   ·try dsimp only
    rw[hr,<-hz];simp only[kv,zP,yD,if_true]
   ·show(aa z7).length<(aa z3).length
    try dsimp only
    rw[hr,hl];simp
  ·show aa z3=_;have yD:¬(x==u8 af)=true:=λh=>by have:=hx.2 h;simp[this]at he
   try dsimp only
   rw[hl,<-hz];simp only[kv,zP,yD,if_false];rfl
theorem K5 {l:au} (h:l≠[]):∃r x,l=r++[x]:=⟨_,_,(List.dropLast_concat_getLast h).symm⟩
theorem arV:TP SB (bS SB [.str] 37):=by
 intro z0 a0 a1 af b0 b1;refine⟨λbl=>∃z,bl=[[z]]/\jM (·==u8 af) (aa z)=jM (·==u8 af) (aa z0),λbl=>(aa ((bl.getD 0 []).getD 0 0)).length,⟨z0,rfl,rfl⟩,?_⟩
 rintro z3 bW c1 ⟨z,e,hz⟩
 obtain rfl:z3=z:=by simpa using e
 intro z4 d0 d1 gn;simp only[aB]at gn;by_cases hl:aa z3=[]
 ·rw[hl]at gn hz;simp only[fe]at gn;subst gn;refine⟨λhp=>by simp at hp,λ_=>⟨⟨bW,c1,trivial⟩,?_⟩⟩;show aa z3=_
  try dsimp only
  rw[hl,<-hz];rfl
 ·obtain⟨r,x,hl⟩:=K5 hl;rw[hl]at gn hz;simp only[c8,dj,fe]at gn;refine⟨λ_=>?_,λhp=>by simp at hp;omega⟩;intro z5 e0 e1 pa;simp only[aB,hl,c8,dj,fe]at pa;refine⟨⟨by omega,by rw[hl];simp only[c8,dj,fe];omega⟩,?_⟩;intro aq f0 f1 oo;have ht:(z5+-1).toNat=r.length:=by omega
  simp only[aB,hl,ht]at oo;have hx:=R9 (b:=x) b0 b1;rw[show((r++[x]).getD r.length 0)=x by simp[ar]]at oo;rw[<-oo]at hx;refine⟨λhe=>?_,λhe=>⟨⟨bW,c1,trivial⟩,?_⟩⟩
  ·have yD:=hx.1 (by simpa using he);intro z7 f0 f1 uZ;simp only[aB,hl,c8,dj,fe]at uZ;have Pp:(z7+-1).toNat=r.length:=by omega
   refine⟨⟨by omega,by omega,by rw[hl];simp only[c8,dj,fe];omega⟩,?_⟩;intro ak g0 g1 PA;have hr:aa ak=r:=by
    try dsimp only
    rw[PA];simp only[aB,fj,hl,Pp];simp
   refine⟨⟨ak,rfl,?_⟩,?_⟩
   ·try dsimp only
    rw[hr,<-hz,Cj,yD,cond_true]
   ·show(aa ak).length<(aa z3).length
    try dsimp only
    rw[hr,hl];simp
  ·show aa z3=_;have yD:(x==u8 af)=false:=by
    cases h:(x==u8 af)with
    |false=>rfl
    |true=>have:=hx.2 h;simp[this]at he
   try dsimp only
   rw[hl,<-hz,Cj,yD,cond_false]
theorem atA:aa 0=[]:=rfl
theorem eq_nil {z af:Int} (h:af=aB 4 [z,0]):decide (af=1)=(aa z==[]):=by
 try dsimp only
 rw[h];simp only[aB,atA];cases hz:aa z with
 |nil=>rfl
 |cons x r=>simp
theorem aan {c:Int} {p:UInt8->Bool} (hc:p=(·==u8 c)) {id:Nat} (hid:∀z r,SB id [[z]] [[r]]=(aa r=jP p (aa z))):
 (∀z0:Int,0<=z0->z0<=b8->
 ∀af:Int,0<=af->af<=1->af=aB 4 [z0,0]->
 (((decide (af=1))=true->
  bS SB [.str] id [[z0]] [[z0]]
 )/\((decide (af=1))=false->
  ∀z2:Int,0<=z2->z2<=b8->SB 37 [[z0],[c]] [[z2]]->
  ∀z3:Int,0<=z3->z3<=b8->SB 36 [[z2],[c]] [[z3]]->
  bS SB [.str] id [[z0]] [[z3]]
 ))):=by
  intro z0 a0 a1 af b0 b1 hz1
  try dsimp only
  rw[eq_nil hz1];refine⟨λh=>⟨⟨a0,a1,trivial⟩,?_⟩,λh z2 bW c1 h2 z3 d0 d1 h3=>⟨⟨d0,d1,trivial⟩,?_⟩⟩
  ·try dsimp only
   rw[hid];have:aa z0=[]:=by simpa using h
   try dsimp only
   rw[this];rfl
  ·try dsimp only
   rw[hid];have h2:aa z2=jM (·==u8 c) (aa z0):=h2;have h3:aa z3=kv (·==u8 c) (aa z2):=h3
   try dsimp only
   rw[h3,h2,hc];rfl
theorem arW:TQ SB (bS SB [.str] 120):=aan (c:=32) (p:=(·==32)) rfl λ_ _=>rfl
theorem arS:TM SB (bS SB [.str] 121):=aan (c:=46) (p:=(·==46)) rfl λ_ _=>rfl
theorem aqN:S8 SB (bS SB [.bool] 127):=by
 intro z0 a0 a1 af b0 b1 hz1;simp only[aB]at hz1;refine⟨λh=>⟨⟨by decide,by decide,trivial⟩,?_⟩,λh z2 bW c1 h2=>⟨⟨(sM _).1,(sM _).2,trivial⟩,?_⟩⟩
 ·have:aa z0=[46]:=by
   have e:aa 47=[46]:=by decide
   rw[e]at hz1;by_cases h':[46]=aa z0
   ·exact h'.symm
   ·rw[if_neg h']at hz1;subst hz1;simp at h
  show(1:Int)=bx ((aa z0).contains 46)
  try dsimp only
  rw[this];rfl
 ·have h2:z2=idx 46 (aa z0):=h2;show(cond (decide (0<=z2)) 1 0:Int)=bx ((aa z0).contains 46)
  try dsimp only
  rw[h2,JE (by decide) (by decide)];rfl
def Ta (S:zzS) (K:zzK):Prop:=cl λz0=>dh 4 [65,z0] λaf=>(aE (decide (af=1)) (ah 2 [z0,0,0]/\cP 2 [z0,0,0] λz2=>bj 0 [z0] λz3=>ah 2 [z0,1,z3]/\cP 2 [z0,1,z3] λz4=>K [[z0]] [[z2],[z4],[(cond (true) 1 0)]]) (tE λz2=>S 73 [[z0],[64]] [[z2]]->(aE (decide (0<=z2)) (ah 2 [z0,0,z2]/\cP 2 [z0,0,z2] λz3=>cz (z2+0x8000000000000001) 0x10000000000000000 λz4=>bj 0 [z0] λz5=>ah 2 [z0,((z2+((-0x10000000000000000)*z4))+1),z5]/\cP 2 [z0,((z2+((-0x10000000000000000)*z4))+1),z5] λaq=>K [[z0]] [[z3],[aq],[(cond (true) 1 0)]]) (K [[z0]] [[z0],[0],[(cond (false) 1 0)]]))))
def Tb (S:zzS) (K:zzK):Prop:=cl λz0=>dh 4 [59,z0] λaf=>(aE (decide (af=1)) (ah 2 [z0,0,0]/\cP 2 [z0,0,0] λz2=>bj 0 [z0] λz3=>ah 2 [z0,1,z3]/\cP 2 [z0,1,z3] λz4=>K [[z0]] [[z2],[z4],[(cond (true) 1 0)]]) (tE λz2=>S 73 [[z0],[58]] [[z2]]->(aE (decide (0<=z2)) (ah 2 [z0,0,z2]/\cP 2 [z0,0,z2] λz3=>cz (z2+0x8000000000000001) 0x10000000000000000 λz4=>bj 0 [z0] λz5=>ah 2 [z0,((z2+((-0x10000000000000000)*z4))+1),z5]/\cP 2 [z0,((z2+((-0x10000000000000000)*z4))+1),z5] λaq=>K [[z0]] [[z3],[aq],[(cond (true) 1 0)]]) (K [[z0]] [[z0],[0],[(cond (false) 1 0)]]))))
def Tp (S:zzS) (K:zzK):Prop:=cl λz0=>cl λaf=>bj 0 [z0] λz2=>∃(rr:List (List Int)->Prop) (xM:List (List Int)->Nat),rr [[0]]/\(fa λz4=>rr [[z4]]->(aE (decide (z4<z2)) (ah 1 [z0,z4]/\df 1 [z0,z4] λz5=>tE λaq=>S 73 [[af],[z5]] [[aq]]->(aE (decide (aq<0)) (K [[z0],[af]] [[(cond (false) 1 0)]]) (cz (z4+0x8000000000000001) 0x10000000000000000 λz7=>ah 39 [((z4+((-0x10000000000000000)*z7))+1),0,0x7fffffffffffffff]/\(rr [[((z4+((-0x10000000000000000)*z7))+1)]]/\xM [[((z4+((-0x10000000000000000)*z7))+1)]]<xM [[z4]])))) (K [[z0],[af]] [[(cond (true) 1 0)]])))
def Th (S:zzS) (K:zzK):Prop:=cl λz0=>cl λaf=>bj 0 [z0] λz2=>∃(rr:List (List Int)->Prop) (xM:List (List Int)->Nat),rr [[0]]/\(fa λz4=>rr [[z4]]->(aE (decide (z4<z2)) (ah 1 [z0,z4]/\df 1 [z0,z4] λz5=>tE λaq=>S 73 [[af],[z5]] [[aq]]->(aE (decide (aq<0)) (K [[z0],[af]] [[(cond (false) 1 0)]]) (cz (z4+0x8000000000000001) 0x10000000000000000 λz7=>ah 39 [((z4+((-0x10000000000000000)*z7))+1),0,0x7fffffffffffffff]/\(rr [[((z4+((-0x10000000000000000)*z7))+1)]]/\xM [[((z4+((-0x10000000000000000)*z7))+1)]]<xM [[z4]])))) (K [[z0],[af]] [[(cond (true) 1 0)]])))
theorem aal {c n:Int} (h0:0<=c) (h1:c<=255) (hn:aa n=[u8 c]) {id:Nat} (hid:∀z a b r,SB id [[z]] [[a],[b],[r]]=((aa a,aa b,r)=nk c (aa z))):
 (∀z0:Int,0<=z0->z0<=b8->
 ∀af:Int,0<=af->af<=1->af=aB 4 [n,z0]->
 (((decide (af=1))=true->
  ah 2 [z0,0,0]/\
  ∀z2:Int,0<=z2->z2<=b8->z2=aB 2 [z0,0,0]->
  ∀z3:Int,0<=z3->z3<=0x7fffffffffffffff->z3=aB 0 [z0]->
  ah 2 [z0,1,z3]/\
  ∀z4:Int,0<=z4->z4<=b8->z4=aB 2 [z0,1,z3]->
  bS SB [.str,.str,.bool] id [[z0]] [[z2],[z4],[(cond (true) 1 0)]]
 )/\((decide (af=1))=false->
  ∀z2:Int,(-1)<=z2->z2<=0x7fffffffffffffff->SB 73 [[z0],[c]] [[z2]]->
  (((decide (0<=z2))=true->
   ah 2 [z0,0,z2]/\
   ∀z3:Int,0<=z3->z3<=b8->z3=aB 2 [z0,0,z2]->
   ∀z4:Int,0<=z4->z4<=1->0<=(z2+0x8000000000000001)-0x10000000000000000*z4->(z2+0x8000000000000001)-0x10000000000000000*z4<0x10000000000000000->
   ∀z5:Int,0<=z5->z5<=0x7fffffffffffffff->z5=aB 0 [z0]->
   ah 2 [z0,((z2+((-0x10000000000000000)*z4))+1),z5]/\
   ∀aq:Int,0<=aq->aq<=b8->aq=aB 2 [z0,((z2+((-0x10000000000000000)*z4))+1),z5]->
   bS SB [.str,.str,.bool] id [[z0]] [[z3],[aq],[(cond (true) 1 0)]]
  )/\((decide (0<=z2))=false->
   bS SB [.str,.str,.bool] id [[z0]] [[z0],[0],[(cond (false) 1 0)]]
  ))
 ))):=by
  intro z0 a0 a1 af b0 b1 hz1;simp only[aB,hn]at hz1;refine⟨λh=>?_,λh z2 bW c1 h2=>?_⟩
  ·have hs:aa z0=[u8 c]:=by
    by_cases h':[u8 c]=aa z0
    ·exact h'.symm
    ·rw[if_neg h']at hz1;subst hz1;simp at h
   refine⟨⟨by omega,by omega,by omega⟩,λz2 bW c1 h2 z3 d0 d1 h3=>?_⟩;simp only[aB,hs,Sy]at h3;refine⟨⟨by omega,by omega,by rw[hs];simp only[Sy];omega⟩,λz4 e0 e1 h4=>⟨⟨bW,c1,e0,e1,by decide,by decide,trivial⟩,?_⟩⟩
   try dsimp only
   rw[hid];have e2:aa z2=[]:=by rw[h2];simp[aB,fj]
   have e4:aa z4=[]:=by rw[h4];simp[aB,fj,hs]
   have Ny:idx c [u8 c]=0:=by simp[idx,avo h0 h1]
   try dsimp only
   rw[e2,e4,hs];simp[nk,Ny]
  ·have h2:z2=idx c (aa z0):=h2;refine⟨λhp=>?_,λhp=>⟨⟨a0,a1,bO _,pH,by decide,by decide,trivial⟩,?_⟩⟩
   ·have hp:0<=z2:=by simpa using hp
    have hr:=E3 c (aa z0);have hL:=ane a1;refine⟨⟨by omega,by omega,by omega⟩,λz3 d0 d1 h3 z4 e0 e1 e2 e3 z5 f0 f1 h5=>?_⟩;simp only[aB]at h5;have ag8:z2+-0x10000000000000000*z4+1=z2+1:=by omega
    try dsimp only
    rw[ag8];refine⟨⟨by omega,by omega,by omega⟩,λaq g0 g1 h6=>⟨⟨d0,d1,g0,g1,by decide,by decide,trivial⟩,?_⟩⟩
    try dsimp only
    rw[hid];have e3:aa z3=(aa z0).take z2.toNat:=by rw[h3];simp[aB,fj]
    have gh:aa aq=(aa z0).drop (z2.toNat+1):=by
     try dsimp only
     rw[h6];simp only[aB,fj]
     try dsimp only
     rw[show(z2+1).toNat=z2.toNat+1 by omega];exact lu (by simp;omega)
    try dsimp only
    rw[e3,gh];unfold nk
    try dsimp only
    rw[<-h2,show decide (0<=z2)=true by simpa using hp];rfl
   ·try dsimp only
    rw[hid];unfold nk
    try dsimp only
    rw[<-h2,hp];rfl
theorem aqR:Ta SB (bS SB [.str,.str,.bool] 125):=aal (c:=64) (n:=65) (by decide) (by decide) (by decide) λ_ _ _ _=>rfl
theorem aqS:Tb SB (bS SB [.str,.str,.bool] 126):=aal (c:=58) (n:=59) (by decide) (by decide) (by decide) λ_ _ _ _=>rfl
theorem aeZ (p:UInt8->Bool) (l:au) (i:Nat) (h:i<l.length):(l.take (i+1)).all p=((l.take i).all p&&p (l.getD i 0)):=by
 try dsimp only
 rw[Gz l i h];simp
theorem aeW (p:UInt8->Bool) (l:au) (i:Nat) (h:i<l.length) (hp:p (l.getD i 0)=false):l.all p=false:=by
 try dsimp only
 rw[List.all_eq_false];refine⟨l.getD i 0,?_,λe=>by rw[hp]at e;cases e⟩;simp[ar,h]
theorem CA {z q L:Int} (h:z<L) (hL:L<=0x7fffffffffffffff) (h0:0<=z) (q0:0<=q) (e2:0<=(z+0x8000000000000001)-0x10000000000000000*q):z+-0x10000000000000000*q+1=z+1:=by omega
theorem aam {id:Nat} (hid:∀s b r,SB id [[s],[b]] [[r]]=(r=bx ((aa s).all λc=>(aa b).contains c))):
 (∀z0:Int,0<=z0->z0<=b8->∀af:Int,0<=af->af<=b8->
 ∀z2:Int,0<=z2->z2<=0x7fffffffffffffff->z2=aB 0 [z0]->
 ∃(rr:List (List Int)->Prop) (xM:List (List Int)->Nat),rr [[0]]/\(∀z4:Int,0<=z4->z4<=0x7fffffffffffffff->rr [[z4]]->
  (((decide (z4<z2))=true->
   ah 1 [z0,z4]/\
   ∀z5:Int,0<=z5->z5<=255->z5=aB 1 [z0,z4]->
   ∀aq:Int,(-1)<=aq->aq<=0x7fffffffffffffff->SB 73 [[af],[z5]] [[aq]]->
   (((decide (aq<0))=true->
    bS SB [.bool] id [[z0],[af]] [[(cond (false) 1 0)]]
   )/\((decide (aq<0))=false->
    ∀z7:Int,0<=z7->z7<=1->0<=(z4+0x8000000000000001)-0x10000000000000000*z7->(z4+0x8000000000000001)-0x10000000000000000*z7<0x10000000000000000->
    ah 39 [((z4+((-0x10000000000000000)*z7))+1),0,0x7fffffffffffffff]/\
    (rr [[((z4+((-0x10000000000000000)*z7))+1)]]/\xM [[((z4+((-0x10000000000000000)*z7))+1)]]<xM [[z4]])
   ))
  )/\((decide (z4<z2))=false->
   bS SB [.bool] id [[z0],[af]] [[(cond (true) 1 0)]]
  ))
 )):=by
  intro z0 a0 a1 af b0 b1 z2 bW c1 h2;simp only[aB]at h2;refine⟨λbl=>∃i:Nat,bl=[[(i:Int)]]/\i<=(aa z0).length/\((aa z0).take i).all (λc=>(aa af).contains c)=true,λbl=>(aa z0).length-((bl.getD 0 []).getD 0 0).toNat,⟨0,rfl,kW _,rfl⟩,?_⟩
  rintro z4 d0 d1 ⟨i,e,hi,hall⟩
  obtain rfl:z4=i:=by simpa using e
  refine⟨λhp=>?_,λhp=>⟨⟨by decide,by decide,trivial⟩,?_⟩⟩
  ·have hp:(i:Int)<z2:=by simpa using hp
   refine⟨⟨d0,by omega⟩,λz5 e0 e1 h5 aq f0 f1 h6=>?_⟩;have h6:aq=idx z5 (aa af):=h6;simp only[aB,ek]at h5;have hu:u8 z5=(aa z0).getD i 0:=by rw[h5,Sa]
   have hm:=JE e0 e1 (aa af);rw[hu,<-h6]at hm;refine⟨λhq=>⟨⟨by decide,by decide,trivial⟩,?_⟩,λhq z7 g0 g1 g2 g3=>?_⟩
   ·try dsimp only
    rw[hid,aeW _ _ i (by omega) (by rw[<-hm];simpa using hq)];rfl
   ·have hq:0<=aq:=by simpa using hq
    try dsimp only
    rw[CA (L:=z2) hp c1 d0 g0 g2];refine⟨⟨by omega,by omega⟩,⟨i+1,by simp,by omega,?_⟩,?_⟩
    ·try dsimp only
     rw[aeZ _ _ _ (by omega),hall,<-hm];simpa using hq
    ·show(aa z0).length-((i:Int)+1).toNat<(aa z0).length-(i:Int).toNat;omega
  ·have hp:¬(i:Int)<z2:=by simpa using hp
   rw[lu (by omega)]at hall
   try dsimp only
   rw[hid,hall];rfl
theorem ark:Tp SB (bS SB [.bool] 44):=aam λ_ _ _=>rfl
theorem aq1:Th SB (bS SB [.bool] 65):=aam λ_ _ _=>rfl
def TL (S:zzS) (K:zzK):Prop:=cl λz0=>dh 4 [z0,0] λaf=>(aE (decide (af=1)) (K [[z0]] [[z0]]) (∃(gI:List (List Int)->Prop) (ki:List (List Int)->Nat),gI [[z0]]/\(cl λ z3=>gI [[z3]]->bj 0 [z3] λz4=>(aE (decide (0<z4)) (bj 0 [z3] λz5=>ah 1 [z3,(z5+(-1))]/\df 1 [z3,(z5+(-1))] λaq=>dh 43 [12125,aq] λz7=>(aE ((!(decide (z7=1)))) (∃(eu:List (List Int)->Prop) (fI:List (List Int)->Nat),eu [[z3]]/\(cl λz9=>eu [[z9]]->bj 0 [z9] λaC=>(aE (decide (0<aC)) (ah 1 [z9,0]/\df 1 [z9,0] λaD=>dh 43 [12125,aD] λz12=>(aE ((!(decide (z12=1)))) (K [[z0]] [[z9]]) (bj 0 [z9] λ aU=>ah 2 [z9,1,aU]/\cP 2 [z9,1,aU] λaP=>(eu [[aP]]/\fI [[aP]]<fI [[z9]])))) (K [[z0]] [[z9]])))) (bj 0 [z3] λak=>ah 2 [z3,0,(ak+(-1))]/\cP 2 [z3,0,(ak+(-1))] λz9=>(gI [[z9]]/\ki [[z9]]<ki [[z3]])))) (∃(ix:List (List Int)->Prop) (jA:List (List Int)->Nat),ix [[z3]]/\(cl λaq=>ix [[aq]]->bj 0 [aq] λz7=>(aE (decide (0<z7)) (ah 1 [aq,0]/\df 1 [aq,0] λak=>dh 43 [12125,ak] λz9=>(aE ((!(decide (z9=1)))) (K [[z0]] [[aq]]) (bj 0 [aq] λaC=>ah 2 [aq,1,aC]/\cP 2 [aq,1,aC] λaD=>(ix [[aD]]/\jA [[aD]]<jA [[aq]])))) (K [[z0]] [[aq]]))))))))
def TN (S:zzS) (K:zzK):Prop:=cl λz0=>dh 4 [z0,0] λaf=>(aE (decide (af=1)) (K [[z0]] [[z0]]) (∃(gI:List (List Int)->Prop) (ki:List (List Int)->Nat),gI [[z0]]/\(cl λ z3=>gI [[z3]]->bj 0 [z3] λz4=>(aE (decide (0<z4)) (bj 0 [z3] λz5=>ah 1 [z3,(z5+(-1))]/\df 1 [z3,(z5+(-1))] λaq=>dh 43 [0x9dda6c4f475936ab949d0bbcd06e7258244c3846156e3f62c3d96ec89a5b0ed2a8e7e0baca8d547b43817c2620067b345a5b23c2bf08ff6c8a8270cf34a7aca6,aq] λz7=>(aE ((!(decide (z7=1)))) (∃(eu:List (List Int)->Prop) (fI:List (List Int)->Nat),eu [[z3]]/\(cl λz9=>eu [[z9]]->bj 0 [z9] λaC=>(aE (decide (0<aC)) (ah 1 [z9,0]/\df 1 [z9,0] λaD=>dh 43 [0x9dda6c4f475936ab949d0bbcd06e7258244c3846156e3f62c3d96ec89a5b0ed2a8e7e0baca8d547b43817c2620067b345a5b23c2bf08ff6c8a8270cf34a7aca6,aD] λz12=>(aE ((!(decide (z12=1)))) (K [[z0]] [[z9]]) (bj 0 [z9] λaU=>ah 2 [z9,1,aU]/\cP 2 [z9,1,aU] λaP=>(eu [[aP]]/\fI [[aP]]<fI [[z9]])))) (K [[z0]] [[z9]])))) (bj 0 [z3] λak=>ah 2 [z3,0,(ak+(-1))]/\cP 2 [z3,0,(ak+(-1))] λz9=>(gI [[z9]]/\ki [[z9]]<ki [[z3]])))) (∃(ix:List (List Int)->Prop) (jA:List (List Int)->Nat),ix [[z3]]/\(cl λaq=>ix [[aq]]->bj 0 [aq] λz7=>(aE (decide (0<z7)) (ah 1 [aq,0]/\df 1 [aq,0] λak=>dh 43 [0x9dda6c4f475936ab949d0bbcd06e7258244c3846156e3f62c3d96ec89a5b0ed2a8e7e0baca8d547b43817c2620067b345a5b23c2bf08ff6c8a8270cf34a7aca6,ak] λz9=>(aE ((!(decide (z9=1)))) (K [[z0]] [[aq]]) (bj 0 [aq] λaC=>ah 2 [aq,1,aC]/\cP 2 [aq,1,aC] λaD=>(ix [[aD]]/\jA [[aD]]<jA [[aq]])))) (K [[z0]] [[aq]]))))))))
def TK (S:zzS) (K:zzK):Prop:=cl λz0=>dh 4 [z0,0] λaf=>(aE (decide (af=1)) (K [[z0]] [[z0]]) (∃(gI:List (List Int)->Prop) (ki:List (List Int)->Nat),gI [[z0]]/\(cl λ z3=>gI [[z3]]->bj 0 [z3] λz4=>(aE (decide (0<z4)) (bj 0 [z3] λz5=>ah 1 [z3,(z5+(-1))]/\df 1 [z3,(z5+(-1))] λaq=>dh 43 [0x3c4d43325474b267bc17,aq] λz7=>(aE ((!(decide (z7=1)))) (∃(eu:List (List Int)->Prop) (fI:List (List Int)->Nat),eu [[z3]]/\(cl λz9=>eu [[z9]]->bj 0 [z9] λaC=>(aE (decide (0<aC)) (ah 1 [z9,0]/\df 1 [z9,0] λaD=>dh 43 [0x3c4d43325474b267bc17,aD] λz12=>(aE ((!(decide (z12=1)))) (K [[z0]] [[z9]]) (bj 0 [z9] λaU=>ah 2 [z9,1,aU]/\cP 2 [z9,1,aU] λaP=>(eu [[aP]]/\fI [[aP]]<fI [[z9]])))) (K [[z0]] [[z9]])))) (bj 0 [z3] λak=>ah 2 [z3,0,(ak+(-1))]/\cP 2 [z3,0,(ak+(-1))] λz9=>(gI [[z9]]/\ki [[z9]]<ki [[z3]])))) (∃(ix:List (List Int)->Prop) (jA:List (List Int)->Nat),ix [[z3]]/\(cl λaq=>ix [[aq]]->bj 0 [aq] λz7=>(aE (decide (0<z7)) (ah 1 [aq,0]/\df 1 [aq,0] λak=>dh 43 [0x3c4d43325474b267bc17,ak] λz9=>(aE ((!(decide (z9=1)))) (K [[z0]] [[aq]]) (bj 0 [aq] λaC=>ah 2 [aq,1,aC]/\cP 2 [aq,1,aC] λ aD=>(ix [[aD]]/\jA [[aD]]<jA [[aq]])))) (K [[z0]] [[aq]]))))))))
theorem We {n z q:Int} {p:UInt8->Bool} (hn:∀c,(aa n).contains c=p c) (h:q=aB 43 [n,z]):decide (q=1)=p (u8 z):=by
 try dsimp only
 rw[h];simp only[aB];have:=hn (u8 z);unfold u8 at this⊢
 try dsimp only
 rw[<-this];by_cases hm:jV z.toNat∈aa n
 ·simp[hm]
 ·simp[hm]
theorem Kt {n:Int} {p:UInt8->Bool} (hn:∀c,(aa n).contains c=p c) {id:Nat} (hid:∀z r,SB id [[z]] [[r]]=(aa r=jP p (aa z))):
 (∀z0:Int,0<=z0->z0<=b8->
 ∀af:Int,0<=af->af<=1->af=aB 4 [z0,0]->
 (((decide (af=1))=true->
   bS SB [.str] id [[z0]] [[z0]]
 )/\((decide (af=1))=false->
  ∃(gI:List (List Int)->Prop) (ki:List (List Int)->Nat),gI [[z0]]/\(∀z3:Int,0<=z3->z3<=b8->gI [[z3]]->
   ∀z4:Int,0<=z4->z4<=0x7fffffffffffffff->z4=aB 0 [z3]->
   (((decide (0<z4))=true->
    ∀z5:Int,0<=z5->z5<=0x7fffffffffffffff->z5=aB 0 [z3]->
    ah 1 [z3,(z5+(-1))]/\
    ∀aq:Int,0<=aq->aq<=255->aq=aB 1 [z3,(z5+(-1))]->
    ∀z7:Int,0<=z7->z7<=1->z7=aB 43 [n,aq]->
    ((((!(decide (z7=1))))=true->
     ∃(eu:List (List Int)->Prop) (fI:List (List Int)->Nat),eu [[z3]]/\(∀z9:Int,0<=z9->z9<=b8->eu [[z9]]->
      ∀aC:Int,0<=aC->aC<=0x7fffffffffffffff->aC=aB 0 [z9]->
      (((decide (0<aC))=true->
       ah 1 [z9,0]/\
       ∀aD:Int,0<=aD->aD<=255->aD=aB 1 [z9,0]->
       ∀z12:Int,0<=z12->z12<=1->z12=aB 43 [n,aD]->
       ((((!(decide (z12=1))))=true->
         bS SB [.str] id [[z0]] [[z9]]
       )/\(((!(decide (z12=1))))=false->
        ∀aU:Int,0<=aU->aU<=0x7fffffffffffffff->aU=aB 0 [z9]->
        ah 2 [z9,1,aU]/\
        ∀aP:Int,0<=aP->aP<=b8->aP=aB 2 [z9,1,aU]->
        (eu [[aP]]/\fI [[aP]]<fI [[z9]])
       ))
      )/\((decide (0<aC))=false->
       bS SB [.str] id [[z0]] [[z9]]
      ))
     )
    )/\(((!(decide (z7=1))))=false->
     ∀ak:Int,0<=ak->ak<=0x7fffffffffffffff->ak=aB 0 [z3]->
     ah 2 [z3,0,(ak+(-1))]/\
     ∀z9:Int,0<=z9->z9<=b8->z9=aB 2 [z3,0,(ak+(-1))]->
     (gI [[z9]]/\ki [[z9]]<ki [[z3]])
    ))
   )/\((decide (0<z4))=false->
    ∃(ix:List (List Int)->Prop) (jA:List (List Int)->Nat),ix [[z3]]/\(∀aq:Int,0<=aq->aq<=b8->ix [[aq]]->
     ∀z7:Int,0<=z7->z7<=0x7fffffffffffffff->z7=aB 0 [aq]->
     (((decide (0<z7))=true->
      ah 1 [aq,0]/\
      ∀ak:Int,0<=ak->ak<=255->ak=aB 1 [aq,0]->
      ∀z9:Int,0<=z9->z9<=1->z9=aB 43 [n,ak]->
      ((((!(decide (z9=1))))=true->
        bS SB [.str] id [[z0]] [[aq]]
      )/\(((!(decide (z9=1))))=false->
       ∀aC:Int,0<=aC->aC<=0x7fffffffffffffff->aC=aB 0 [aq]->
       ah 2 [aq,1,aC]/\
       ∀aD:Int,0<=aD->aD<=b8->aD=aB 2 [aq,1,aC]->
       (ix [[aD]]/\jA [[aD]]<jA [[aq]])
      ))
     )/\((decide (0<z7))=false->
      bS SB [.str] id [[z0]] [[aq]]
     ))
    )
   ))
  )
 ))):=by
  intro z0 a0 a1 af b0 b1 hz1
  try dsimp only
  rw[eq_nil hz1];have inner:∀z3:Int,0<=z3->z3<=b8->aa z3=jM p (aa z0)->∃(eu:List (List Int)->Prop) (fI:List (List Int)->Nat),eu [[z3]]/\(∀z9:Int,0<=z9->z9<=b8->eu [[z9]]->
   ∀aC:Int,0<=aC->aC<=0x7fffffffffffffff->aC=aB 0 [z9]->
   (((decide (0<aC))=true->
    ah 1 [z9,0]/\
    ∀aD:Int,0<=aD->aD<=255->aD=aB 1 [z9,0]->
    ∀z12:Int,0<=z12->z12<=1->z12=aB 43 [n,aD]->
    ((((!(decide (z12=1))))=true->
     bS SB [.str] id [[z0]] [[z9]]
    )/\(((!(decide (z12=1))))=false->
     ∀aU:Int,0<=aU->aU<=0x7fffffffffffffff->aU=aB 0 [z9]->
     ah 2 [z9,1,aU]/\
     ∀aP:Int,0<=aP->aP<=b8->aP=aB 2 [z9,1,aU]->
     (eu [[aP]]/\fI [[aP]]<fI [[z9]])
    ))
   )/\((decide (0<aC))=false->
    bS SB [.str] id [[z0]] [[z9]]
   ))):=by
   intro z3 a0 a1 h3;refine⟨λbl=>∃z,bl=[[z]]/\kv p (aa z)=kv p (jM p (aa z0)),λbl=>(aa ((bl.getD 0 []).getD 0 0)).length,⟨z3,rfl,by rw[h3]⟩,?_⟩
   rintro z9 bW c1 ⟨z,e,hz⟩
   obtain rfl:z9=z:=by simpa using e
   intro z4 d0 d1 gn;simp only[aB]at gn;cases hl:aa z9 with
   |nil=>
    rw[hl]at gn hz;simp only[fe]at gn;subst gn;refine⟨λhp=>by simp at hp,λ_=>⟨⟨bW,c1,trivial⟩,?_⟩⟩
    try dsimp only
    rw[hid,hl];exact hz
   |cons x r=>
    rw[hl]at gn hz;simp only[dj]at gn;refine⟨λ_=>⟨⟨bO _,by rw[hl];simp only[dj];omega⟩,?_⟩,λhp=>by simp at hp;omega⟩;intro z5 e0 e1 pa;simp only[aB,hl,G2,vH]at pa;intro aq f0 f1 oo
    try dsimp only
    rw[We hn oo,pa,Sa];refine⟨λhe=>⟨⟨bW,c1,trivial⟩,?_⟩,λhe=>?_⟩
    ·try dsimp only
     rw[hid,hl];have he:p x=false:=by simpa using he
     show x::r=kv p (jM p (aa z0))
     try dsimp only
     rw[<-hz];simp[kv,zP,he]
    ·have he:p x=true:=by simpa using he
     intro aU f0 f1 oo;simp only[aB,hl,dj]at oo;refine⟨⟨by omega,by omega,by rw[hl];simp only[dj];omega⟩,?_⟩;intro z7 g0 g1 uZ;have hr:aa z7=r:=by
      try dsimp only
      rw[uZ];simp only[aB,fj,hl]
      try dsimp only
      rw[show(1:Int).toNat=1 from rfl,ayj,ayk];exact lu (by omega)
     refine⟨⟨z7,rfl,?_⟩,?_⟩
     ·try dsimp only
      rw[hr,<-hz];simp only[kv,zP,he,if_true]
     ·show(aa z7).length<(aa z9).length
      try dsimp only
      rw[hr,hl];simp
  refine⟨λh=>⟨⟨a0,a1,trivial⟩,?_⟩,λh=>?_⟩
  ·try dsimp only
   rw[hid];have:aa z0=[]:=by simpa using h
   try dsimp only
   rw[this];rfl
  ·refine⟨λbl=>∃z,bl=[[z]]/\jM p (aa z)=jM p (aa z0),λbl=>(aa ((bl.getD 0 []).getD 0 0)).length,⟨z0,rfl,rfl⟩,?_⟩
   rintro z3 bW c1 ⟨z,e,hz⟩
   obtain rfl:z3=z:=by simpa using e
   intro z4 d0 d1 gn;simp only[aB]at gn;by_cases hl:aa z3=[]
   ·have aA0:=gn;rw[hl]at gn;simp only[fe]at gn;subst gn;refine⟨λhp=>by simp at hp,λ_=>inner z3 bW c1 ?_⟩;rw[hl]at hz⊢;exact hz
   ·obtain⟨r,x,hl⟩:=K5 hl;rw[hl]at gn hz;simp only[c8,dj,fe]at gn;refine⟨λ_=>?_,λhp=>by simp at hp;omega⟩;intro z5 d0 d1 pa;simp only[aB,hl,c8,dj,fe]at pa;refine⟨⟨by omega,by rw[hl];simp only[c8,dj,fe];omega⟩,?_⟩;intro aq f0 f1 oo;have ht:(z5+-1).toNat=r.length:=by omega
    simp only[aB,hl,ht]at oo;rw[show((r++[x]).getD r.length 0)=x by simp[ar]]at oo;intro z7 g0 g1 uZ
    try dsimp only
    rw[We hn uZ,oo,Sa];refine⟨λhe=>inner z3 bW c1 ?_,λhe=>?_⟩
    ·have he:p x=false:=by simpa using he
     try dsimp only
     rw[hl,<-hz,Cj,he,cond_false]
    ·have he:p x=true:=by simpa using he
     intro z7 f0 f1 uZ;simp only[aB,hl,c8,dj,fe]at uZ;have Pp:(z7+-1).toNat=r.length:=by omega
     refine⟨⟨by omega,by omega,by rw[hl];simp only[c8,dj,fe];omega⟩,?_⟩;intro ak g0 g1 PA;have hr:aa ak=r:=by
      try dsimp only
      rw[PA];simp only[aB,fj,hl,Pp];simp
     refine⟨⟨ak,rfl,?_⟩,?_⟩
     ·try dsimp only
      rw[hr,<-hz,Cj,he,cond_true]
     ·show(aa ak).length<(aa z3).length
      try dsimp only
      rw[hr,hl];simp
theorem v7 {q p:UInt8->Bool} (h:((cD 256).all λi=>q (jV i)==p (jV i))=true) (c:UInt8):q c=p c:=by
 have:=List.all_eq_true.1 h c.toNat (List.mem_range.2 c.toNat_lt);simpa using this
theorem arR:TL SB (bS SB [.str] 122):=Kt (n:=12125) (p:=DC) (v7 (by decide+kernel)) λ_ _=>rfl
theorem arT:TN SB (bS SB [.str] 123):=Kt (n:=0x9dda6c4f475936ab949d0bbcd06e7258244c3846156e3f62c3d96ec89a5b0ed2a8e7e0baca8d547b43817c2620067b345a5b23c2bf08ff6c8a8270cf34a7aca6) (p:=u2) (v7 (by decide+kernel)) λ_ _=>rfl
theorem arQ:TK SB (bS SB [.str] 124):=Kt (n:=0x3c4d43325474b267bc17) (p:=j4) (v7 (by decide+kernel)) λ_ _=>rfl
def Tn (S:zzS) (K:zzK):Prop:=cl λz0=>a8 27 [z0] λaf=>bj 0 [z0] λz2=>bm (-2) 0x7fffffffffffffff λz3=>∃(lz:List (List Int)->Prop) (lY:List (List Int)->Nat),lz [[0],[af]]/\(fa λz5=>cQ λaq=>lz [[z5],[aq]]->(aE (decide (z5<z2)) (ah 30 [z5,z2]/\ah 21 [aq,z5]/\df 21 [aq,z5,0] λz7=>(aE (decide (65<=z7)) ((aE (decide (z7<=90)) (bC λak=>ak<=cV .u8->ak=aZ .or .u8 z7 32->ah 30 [z5,z2]/\ah 21 [aq,z5]/\(ah 67 [aq,z5,1]->a8 42 [aq,z5,0,ak] λz9=>cz (z5+0x8000000000000001) 0x10000000000000000 λaC=>ah 39 [((z5+((-0x10000000000000000)*aC))+1),0,0x7fffffffffffffff]/\(lz [[((z5+((-0x10000000000000000)*aC))+1)],[z9]]/\lY [[((z5+((-0x10000000000000000)*aC))+1)],[z9]]<lY [[z5],[aq]]))) (cz (z5+0x8000000000000001) 0x10000000000000000 λak=>ah 39 [((z5+((-0x10000000000000000)*ak))+1),0,0x7fffffffffffffff]/\(lz [[((z5+((-0x10000000000000000)*ak))+1)],[aq]]/\lY [[((z5+((-0x10000000000000000)*ak))+1)],[aq]]<lY [[z5],[aq]])))) (cz (z5+0x8000000000000001) 0x10000000000000000 λak=>ah 39 [((z5+((-0x10000000000000000)*ak))+1),0,0x7fffffffffffffff]/\(lz [[((z5+((-0x10000000000000000)*ak))+1)],[aq]]/\lY [[((z5+((-0x10000000000000000)*ak))+1)],[aq]]<lY [[z5],[aq]])))) (ah 35 [aq,0,z2]/\cP 34 [aq,0,z2] λz7=>K [[z0]] [[z7]])))
def mW (l:au):List (List Int):=l.map λb=>[(b.toNat:Int)]
theorem Rg (l:au):(mW l).length=l.length:=by simp[mW]
theorem aa1 (l:au) (i:Nat) (h:i<l.length):(mW l).getD i []=[((l.getD i 0).toNat:Int)]:=by
 simp[mW,ar,h]
theorem as7 (l:au) (i:Nat) (c:UInt8):(mW l).set i [(c.toNat:Int)]=mW (l.set i c):=by
 simp[mW,acV]
theorem as6 (l:au):(mW l).map (λrow=>jV (row.getD 0 0).toNat)=l:=by
 unfold mW
 try dsimp only
 rw[jf]
 conv=>rhs;rw[<-G3 l]
 exact gw λb _=>by simp
def lL (s:au) (i:Nat):au:=(s.take i).map lo++s.drop i
theorem Qo (s:au) (i:Nat) (h:i<=s.length):(lL s i).length=s.length:=by
 simp[lL];omega
theorem aoC (s:au) (i:Nat) (h:i<s.length):(lL s i).getD i 0=s.getD i 0:=by
 unfold lL
 try dsimp only
 rw[sQ s i h];simp only[ar]
 try dsimp only
 rw[List.getElem?_append_right (by simp;omega)];simp[show min i s.length=i by omega]
theorem aoE (s:au) (i:Nat) (h:i<s.length):lL s (i+1)=(lL s i).set i (lo (s.getD i 0)):=by
 unfold lL
 try dsimp only
 rw[Gz s i h,sQ s i h,fl];have:((s.take i).map lo).length=i:=by simp;omega
 try dsimp only
 rw[List.set_append_right _ _ (by omega),this];simp
theorem aoD (s:au) (i:Nat) (h:i<s.length) (hl:u5 (s.getD i 0)=false):lL s (i+1)=lL s i:=by
 unfold lL;have e:lo (s.getD i 0)=s.getD i 0:=by unfold lo;rw[hl];rfl
 try dsimp only
 rw[Gz s i h,sQ s i h,fl,List.map_singleton,e];simp
theorem aoB (s:au) (i:Nat) (h:s.length<=i):lL s i=lower s:=by
 unfold lL lower
 try dsimp only
 rw[lu h,Lv h,lv]
theorem YU {z:Int} {c:UInt8} (h:z=(c.toNat:Int)):u5 c=(decide (65<=z)&&decide (z<=90)):=by
 try dsimp only
 rw[h];unfold u5
 try dsimp only
 rw[vJ];simp[re];omega
theorem anM {z:Int} {c:UInt8} (h:z=(c.toNat:Int)) (h1:65<=z) (h2:z<=90):z+32=((lo c).toNat:Int):=by
 have:=YU h;unfold lo
 try dsimp only
 rw[this,show decide (65<=z)=true by simpa using h1,show decide (z<=90)=true by simpa using h2];simp;omega
theorem aqB {z:Int} (h1:65<=z) (h2:z<=90):aZ .or .u8 z 32=z+32:=by
 have h:∀i:Fin 26,aZ .or .u8 (65+(i.val:Int)) 32=65+(i.val:Int)+32:=by decide+kernel
 have:=h ⟨(z-65).toNat,by omega⟩;simp only at this;rw[show(65+((z-65).toNat:Int))=z by omega]at this;exact this
def nT (z0 af:Int) (bl:List (List Int)):Prop:=∃(i:Nat) (r:Int),bl=[[(i:Int)],[r]]/\i<=(aa z0).length/\ab r=mW (lL (aa z0) i)
theorem nT.start {z0 af:Int} (h:af=aB 27 [z0]):nT z0 af [[0],[af]]:=by
 refine⟨0,af,rfl,kW _,?_⟩
 try dsimp only
 rw[h];simp only[aB,di];simp[lL,mW]
theorem nT.get {z0 z2 r z7:Int} {i:Nat} (h2:z2=aB 0 [z0]) (hr:ab r=mW (lL (aa z0) i)) (hi:i<=(aa z0).length) (hp:(i:Int)<z2):ah 30 [(i:Int),z2]/\ah 21 [r,(i:Int)]/\(z7=aB 21 [r,(i:Int),0]->z7=(((aa z0).getD i 0).toNat:Int)):=by
 simp only[aB]at h2;refine⟨⟨zQ _,hp⟩,⟨zQ _,?_⟩,λh=>?_⟩
 ·try dsimp only
  rw[hr,Rg,Qo _ _ hi];omega
 ·try dsimp only
  rw[h];simp only[aB]
  try dsimp only
  rw[hr,ek,aa1 _ _ (by rw[Qo _ _ hi];omega),aoC _ _ (by omega)];rfl
theorem nT.set {z0 af z2 r z9 v:Int} {i:Nat} (h2:z2=aB 0 [z0]) (hr:ab r=mW (lL (aa z0) i)) (hi:i<=(aa z0).length) (hp:(i:Int)<z2) (hv:v=((lo ((aa z0).getD i 0)).toNat:Int)) (h:z9=aB 42 [r,(i:Int),0,v]):nT z0 af [[(i:Int)+1],[z9]]:=by
 simp only[aB]at h2;refine⟨i+1,z9,by simp,by omega,?_⟩
 try dsimp only
 rw[h];simp only[aB,di];have hl:i<(lL (aa z0) i).length:=by rw[Qo _ _ hi];omega
 try dsimp only
 rw[hr,ek,aa1 _ _ hl,aoE _ _ (by omega),<-as7,hv];rfl
theorem nT.same {z0 af z2 r:Int} {i:Nat} (h2:z2=aB 0 [z0]) (hr:ab r=mW (lL (aa z0) i)) (hi:i<=(aa z0).length) (hp:(i:Int)<z2) (hg:u5 ((aa z0).getD i 0)=false):nT z0 af [[(i:Int)+1],[r]]:=by
 simp only[aB]at h2;refine⟨i+1,r,by simp,by omega,?_⟩
 try dsimp only
 rw[aoD _ _ (by omega) hg,hr]
theorem nT.done {z0 z2 r:Int} {i:Nat} (h2:z2=aB 0 [z0]) (hL:z0<=b8) (hr:ab r=mW (lL (aa z0) i)) (hi:i<=(aa z0).length) (hp:¬(i:Int)<z2):ah 35 [r,0,z2]/\∀z7,z7=aB 34 [r,0,z2]->aa z7=lower (aa z0):=by
 have nw:=vV hL;unfold dP at nw;simp only[aB]at h2;have hm:=aoB (aa z0) i (by omega);rw[hm]at hr;have hlen:(lower (aa z0)).length=(aa z0).length:=by simp[lower]
 refine⟨⟨⟨by omega,by omega,by rw[hr,Rg,hlen];omega⟩,by omega⟩,λz7 h=>?_⟩
 try dsimp only
 rw[h];simp only[aB,fj]
 try dsimp only
 rw[hr,show((mW (lower (aa z0))).drop (0:Int).toNat)=mW (lower (aa z0)) from rfl,lu (by rw[Rg,hlen];omega),as6]
def Qj (z0:Int) (bl:List (List Int)):Nat:=(aa z0).length-((bl.getD 0 []).getD 0 0).toNat
theorem Qk {z0 z2 r r':Int} {i:Nat} (h2:z2=aB 0 [z0]) (hp:(i:Int)<z2):Qj z0 [[(i:Int)+1],[r]]<Qj z0 [[(i:Int)],[r']]:=by
 simp only[aB]at h2;show(aa z0).length-((i:Int)+1).toNat<(aa z0).length-(i:Int).toNat;omega
theorem arf:Tn SB (bS SB [.str] 28):=by
 intro z0 a0 a1 af b0 b1 h1 z2 bW c1 h2 z3 d0 d1;refine⟨nT z0 af,Qj z0,nT.start h1,?_⟩
 rintro z5 e0 e1 aq f0 f1 ⟨i,r,e,hi,hr⟩
 obtain⟨rfl,rfl⟩:z5=i/\aq=r:=by simpa using e
 refine⟨λhp=>?_,λhp=>?_⟩
 ·have hp:(i:Int)<z2:=by simpa using hp
  have hg:=λz7=>nT.get (z7:=z7) h2 hr hi hp;refine⟨(hg 0).1,(hg 0).2.1,λz7 g0 g1 h7=>?_⟩;have h7:=(hg z7).2.2 h7;have hG:=YU h7;refine⟨λhA=>⟨λhB ak iG k1 h8=>?_,λhB ak iG k1 k2 k3=>?_⟩,λhA ak iG k1 k2 k3=>?_⟩
  ·have Wz:65<=z7:=by simpa using hA
   have WB:z7<=90:=by simpa using hB
   refine⟨(hg 0).1,(hg 0).2.1,λ_ z9 l0 l1 bE aC m0 dE m2 m3=>?_⟩
   try dsimp only
   rw[CA (L:=z2) hp c1 e0 m0 m2];refine⟨⟨by omega,by omega⟩,nT.set h2 hr hi hp ?_ bE,Qk h2 hp⟩
   try dsimp only
   rw[h8,aqB Wz WB,anM h7 Wz WB]
  ·try dsimp only
   rw[CA (L:=z2) hp c1 e0 iG k2];refine⟨⟨by omega,by omega⟩,nT.same h2 hr hi hp ?_,Qk h2 hp⟩
   try dsimp only
   rw[hG,hB];simp
  ·try dsimp only
   rw[CA (L:=z2) hp c1 e0 iG k2];refine⟨⟨by omega,by omega⟩,nT.same h2 hr hi hp ?_,Qk h2 hp⟩
   try dsimp only
   rw[hG,hA];simp
 ·have hp:¬(i:Int)<z2:=by simpa using hp
  have hd:=nT.done h2 a1 hr hi hp;exact⟨hd.1,λz7 g0 g1 h7=>⟨⟨g0,g1,trivial⟩,hd.2 z7 h7⟩⟩
end Go.aX
namespace Go.aX
open Go Go.aW
def LZ (S:zzS) (K:zzK):Prop:=cl λz0=>dh 4 [z0,0] λaf=>(aE ((!(decide (af=1)))) (bj 0 [z0] λz2=>(aE (decide (z2<=230)) (cl λz3=>S 123 [[z0]] [[z3]]->dh 4 [z3,0] λz4=>(aE (decide (z4=1)) (dT λz5=>S 65 [[z0],[0x3b0aa77b918a4de1620a06782ef0e70053168fb86cb67478f6b9bef64bf0a05c8a365585ea0baaa1fd3df7503d8f8c7657871c68a0b7e15fd1ed1c4b7021d7a6]] [[z5]]->(aE (decide (z5=1)) (cl λaq=>S 122 [[z0]] [[aq]]->dh 4 [aq,z0] λz7=>(aE (decide (z7=1)) (ah 41 [z0]/\dT λak=>S 128 [[z0]] [[ak]]->K [[z0]] [[(cond ((!(decide (ak=1)))) 1 0)]]) (K [[z0]] [[(cond (false) 1 0)]]))) (K [[z0]] [[(cond (false) 1 0)]]))) (K [[z0]] [[(cond (false) 1 0)]]))) (K [[z0]] [[(cond (false) 1 0)]]))) (K [[z0]] [[(cond (false) 1 0)]]))
def L7 (S:zzS) (K:zzK):Prop:=cl λz0=>dh 4 [z0,0] λaf=>(aE (decide (af=1)) (K [[z0]] [[(cond (false) 1 0)]]) (bj 0 [z0] λz2=>(aE (decide (64<z2)) (K [[z0]] [[(cond (false) 1 0)]]) (dT λz3=>S 44 [[z0],[0x3fc3144d5f7c516f0cb0aced7022f3f0f27d5a22bed2780a850497734763b5973db7881f62628ce4a351a51e8d8b26073d662eea5762027555e0c645556a89135e8b4025883f1783f921f3000dd77c2071a1]] [[z3]]->(aE ((!(decide (z3=1)))) (K [[z0]] [[(cond (false) 1 0)]]) (cl λz4=>S 121 [[z0]] [[z4]]->dh 4 [z4,z0] λz5=>(aE (decide (z5=1)) (ah 41 [z0]/\dT λaq=>S 128 [[z0]] [[aq]]->K [[z0]] [[(cond ((!(decide (aq=1)))) 1 0)]]) (K [[z0]] [[(cond (false) 1 0)]]))))))))
theorem J2 (p:UInt8->Bool) (l:au):(kv p l).length<=l.length:=(List.dropWhile_sublist p).length_le
theorem atd (p:UInt8->Bool) (l:au):(jM p l).length<=l.length:=by
 unfold jM;rw[Sz];have:=J2 p l.reverse
 rwa [Sz]at this
theorem aoq {p:UInt8->Bool} {l:au} (h:l.length<=(kv p l).length):kv p l=l:=(List.dropWhile_suffix p).eq_of_length (Nat.le_antisymm (J2 p l) h)
theorem atc {p:UInt8->Bool} {l:au} (h:l.length<=(jM p l).length):jM p l=l:=by
 have:kv p l.reverse=l.reverse:=aoq (by unfold jM at h;rw[Sz]at h;rw[Sz];exact h);unfold jM;unfold kv at this;rw[this,List.reverse_reverse]
theorem Wp (r:au) (x:UInt8):(r++[x]).getD r.length 0=x:=by simp[ar]
theorem auO (p:UInt8->Bool) (s:au):jP p s=s↔∀i,i<s.length->p (s.getD i 0)=true->0<i/\i+1<s.length:=by
 by_cases hs:s=[]
 ·subst hs;exact⟨λ_ i h=>by simp at h,λ_=>rfl⟩
 ·constructor
  ·intro h i hi hp;have hl:s.length<=(jP p s).length:=by rw[h];exact Nat.le_refl _
   have h1:=J2 p (jM p s);have hr:jM p s=s:=atc (Nat.le_trans hl h1);have ht:kv p s=s:=by unfold jP at h;rwa [hr]at h
   refine⟨Nat.pos_of_ne_zero λh0=>?_,Nat.lt_of_le_of_ne hi λh0=>?_⟩
   ·subst h0;cases s with
    |nil=>exact hs rfl
    |cons x r=>
     have hp:p x=true:=hp;have h2:kv p (x::r)=kv p r:=by simp[kv,zP,hp]
     have:=J2 p r;rw[h2]at ht;rw[ht]at this;simp at this;omega
   ·obtain⟨r,x,rfl⟩:=K5 hs;have:i=r.length:=by simp at h0;omega
    subst this;rw[Wp]at hp;rw[Cj,hp,cond_true]at hr;have:=atd p r;rw[hr]at this;simp at this;omega
  ·intro h;have hr:jM p s=s:=by
    obtain⟨r,x,rfl⟩:=K5 hs;rw[Cj];cases hx:p x with
    |false=>rfl
    |true=>have:=(h r.length (by simp) (by rw[Wp];exact hx)).2;simp at this
   unfold jP;rw[hr];cases s with
   |nil=>rfl
   |cons x r=>
    cases hx:p x with
    |false=>simp[kv,zP,hx]
    |true=>have:=(h 0 (by simp) hx).1;omega
theorem aeX (p:UInt8->Bool) (s:au):s.all p=true↔∀i,i<s.length->p (s.getD i 0)=true:=by
 rw[pC];constructor
 ·intro h i hi;refine h _ ?_;simp[ar,hi]
 ·intro h x hx;obtain⟨i,hi,rfl⟩:=SA hx;have:=h i hi;simpa [ar,hi]using this
theorem agt (s:au):dd s=false↔∀i,i<s.length->¬(s.getD i 0=46/\s.getD (i+1) 0=46):=by
 unfold dd;rw[List.any_eq_false];constructor
 ·intro h i hi ag;exact h i (List.mem_range.2 hi) (by rw[ag.1,ag.2];rfl)
 ·intro h i hi ag;rw[aQ,beq_iff_eq,beq_iff_eq]at ag;exact h i (List.mem_range.1 hi) ag
theorem ao2 (inn sS:UInt8->Bool) (s:au):BX inn sS s=true↔∀i,i<s.length->inn (s.getD i 0)=true/\(sS (s.getD i 0)=true->0<i/\i+1<s.length)/\¬(s.getD i 0=46/\0<i/\s.getD (i-1) 0=46):=by
 unfold BX;rw[pC];constructor
 ·intro h i hi;have:=h i (List.mem_range.2 hi);simp only[aQ,pD,iP,CJ,aym,beq_eq_false_iff_ne]at this;refine⟨this.1.1,λhe=>?_,λag=>?_⟩
  ·rcases this.1.2 with h1|h1
   ·rw[h1]at he;cases he
   ·exact h1
  ·have h3:ck 0 i=true:=by rw[CJ];exact ag.2.1
   rcases this.2 with(h1|h1)|h1
   ·exact h1 ag.1
   ·rw[h3]at h1;cases h1
   ·exact h1 ag.2.2
 ·intro h i hi;obtain⟨h1,h2,h3⟩:=h i (List.mem_range.1 hi);simp only[aQ,pD,iP,CJ,aym,beq_eq_false_iff_ne];refine⟨⟨h1,?_⟩,?_⟩
  ·cases he:sS (s.getD i 0)with
   |false=>exact .inl rfl
   |true=>exact .inr (h2 he)
  ·by_cases e1:s.getD i 0=46
   ·by_cases e2:s.getD (i-1) 0=46
    ·left;right
     cases hb:ck 0 i with
     |false=>rfl
     |true=>rw[CJ]at hb;exact absurd ⟨e1,hb,e2⟩ h3
    ·exact .inr e2
   ·exact .inl (.inl e1)
theorem xh (inn sS:UInt8->Bool) (s:au):BX inn sS s=(s.all inn&&decide (jP sS s=s)&& !dd s):=by
 rw[vJ,ao2,aQ,aQ,aeX,decide_eq_true_eq,auO,iP,agt];constructor
 ·intro h;refine⟨⟨λi hi=>(h i hi).1,λi hi=>(h i hi).2.1⟩,λi hi ag=>?_⟩;by_cases hj:i+1<s.length
  ·exact(h (i+1) hj).2.2 ⟨ag.2,by omega,by simpa using ag.1⟩
  ·have:s.getD (i+1) 0=0:=by simp[ar,show s.length<=i+1 by omega]
   rw[this]at ag;exact absurd ag.2 (by decide)
 ·rintro⟨⟨h1,h2⟩,h3⟩ i hi
  refine⟨h1 i hi,h2 i hi,λag=>?_⟩;exact h3 (i-1) (by omega) ⟨ag.2.2,by rw[show i-1+1=i by omega];exact ag.1⟩
theorem Vz {p:UInt8->Bool}:∀{l:au},l.all p=true->l.dropWhile p=[]
 |[],_=>rfl
 |x::r,h=>by
  simp only[G4,aQ]at h;rw[zP,if_pos h.1];exact Vz h.2
theorem R3 {p:UInt8->Bool} {s:au} (h:s.all p=true):jP p s=[]:=by
 have:jM p s=[]:=by
  unfold jM;have:s.reverse.all p=true:=by rw[List.all_reverse];exact h
  rw[Vz this];rfl
 unfold jP;rw[this];rfl
theorem sT {z a b:Int} (h:z=aB 4 [a,b]):decide (z=1)=decide (aa a=aa b):=by
 rw[h];simp only[aB];by_cases e:aa a=aa b<;>simp[e]
theorem FH {z a:Int} (h:z=aB 4 [a,0]):(!decide (z=1))=ck 0 (aa a).length:=by
 rw[eq_nil h];cases aa a with
 |nil=>rfl
 |cons x r=>simp
theorem Fy {z a n:Int} (m:Nat) (hm:n=(m:Int)) (h:z=aB 0 [a]):decide (z<=n)=bp (aa a).length m:=by
 rw[h,hm];simp only[aB];rw[vJ,decide_eq_true_eq,re];omega
theorem Fz {z a n:Int} (m:Nat) (hm:n=(m:Int)) (h:z=aB 0 [a]):decide (n<z)= !bp (aa a).length m:=by
 rw[h,hm];simp only[aB];rw[vJ,decide_eq_true_eq,iP,<-Bool.not_eq_true,re];omega
theorem nf {z:Int} {b:Bool} (h:z=bx b):decide (z=1)=b:=by rw[h,Dg]
theorem w6 {id:Nat} {zs:List (List Int)} {b:Bool} (h:SB id zs [[bx b]]):bS SB [.bool] id zs [[bx b]]:=⟨⟨(sM b).1,(sM b).2,trivial⟩,h⟩
theorem aqx (s:au) {n:Int} (hn:∀c,(aa n).contains c=u2 c):(s.all λc=>(aa n).contains c)=s.all u2:=by
 congr 1;funext c;exact hn c
theorem aq0:LZ SB (bS SB [.bool] 47):=by
 delta LZ aE bj cl dT dh;dsimp only
 intro z0 a0 a1 af b0 b1 h1;have cf:∀b:Bool,j3 (aa z0)=b->bS SB [.bool] 47 [[z0]] [[bx b]]:=λb h=>w6 (by show bx b=bx (j3 (aa z0));rw[h]);refine⟨λhp z2 bW c1 h2=>⟨λhq z3 d0 d1 h3 z4 e0 e1 h4=>⟨λhr z5 f0 f1 h5=>?_,λhr=>cf false ?_⟩,λhq=>cf false ?_⟩,λhp=>cf false ?_⟩
 ·rw[FH h1]at hp;rw[Fy (n:=230) 230 rfl h2]at hq;have h5:z5=bx ((aa z0).all λc=>(aa _).contains c):=h5;rw[aqx (aa z0) (v7 (by decide+kernel))]at h5;rw[nf h5];refine⟨λhs aq g0 g1 h6 z7 i0 i1 h7=>?_,λhs=>cf false ?_⟩
  ·have h6:aa aq=jP DC (aa z0):=h6;rw[sT h7,h6];refine⟨λht=>⟨?_,λak e9 cm h8=>?_⟩,λht=>cf false ?_⟩
   ·show(aa z0).length<=4294967280;rw[re]at hq;omega
   ·have h8:ak=bx (dd (aa z0)):=h8;rw[nf h8];refine cf _ ?_;unfold j3;rw[hp,hq,xh,hs,ht];rfl
   ·unfold j3;rw[xh,ht];simp
  ·unfold j3;rw[xh,hs];simp
 ·have h3:aa z3=jP u2 (aa z0):=h3;rw[eq_nil h4,h3]at hr;unfold j3;rw[xh];cases ha:(aa z0).all u2 with
  |false=>simp
  |true=>rw[R3 ha]at hr;simp at hr
 ·rw[Fy (n:=230) 230 rfl h2]at hq;unfold j3;rw[hq];simp
 ·rw[FH h1]at hp;unfold j3;rw[hp];rfl
theorem ard:L7 SB (bS SB [.bool] 24):=by
 delta L7 aE bj cl dT dh;dsimp only
 intro z0 a0 a1 af b0 b1 h1;have cf:∀b:Bool,ou (aa z0)=b->bS SB [.bool] 24 [[z0]] [[bx b]]:=λb h=>w6 (by show bx b=bx (ou (aa z0));rw[h]);have hn:=FH h1;refine⟨λhp=>cf false ?_,λhp z2 bW c1 h2=>⟨λhq=>cf false ?_,λhq z3 d0 d1 h3=>?_⟩⟩
 ·rw[hp]at hn;unfold ou;rw[<-hn];rfl
 ·rw[Fz (n:=64) 64 rfl h2,iP]at hq;unfold ou;rw[hq];simp
 ·rw[Fz (n:=64) 64 rfl h2,CL]at hq;rw[hp]at hn;have h3:z3=bx ((aa z0).all λc=>(aa _).contains c):=h3;have e:((aa z0).all λc=>(aa 0x3fc3144d5f7c516f0cb0aced7022f3f0f27d5a22bed2780a850497734763b5973db7881f62628ce4a351a51e8d8b26073d662eea5762027555e0c645556a89135e8b4025883f1783f921f3000dd77c2071a1).contains c)=(aa z0).all Bo:=congrArg (List.all (aa z0)) (funext (v7 (p:=Bo) (by decide+kernel)));rw[e]at h3;rw[nf h3];refine⟨λhs=>cf false ?_,λhs z4 e0 e1 h4 z5 f0 f1 h5=>?_⟩
  ·have hs:(aa z0).all Bo=false:=by simpa using hs
   unfold ou;rw[xh,hs];simp
  ·have hs:(aa z0).all Bo=true:=by simpa using hs
   have h4:aa z4=jP (·==46) (aa z0):=h4;rw[sT h5,h4];refine⟨λht=>⟨?_,λak e9 cm h8=>?_⟩,λht=>cf false ?_⟩
   ·show(aa z0).length<=4294967280;rw[re]at hq;omega
   ·have h8:ak=bx (dd (aa z0)):=h8;rw[nf h8];refine cf _ ?_;unfold ou;rw[<-hn,hq,xh,hs,ht];rfl
   ·unfold ou;rw[xh,ht];simp
def Md (S:zzS) (K:zzK):Prop:=cl λz0=>cl λaf=>cl λz2=>dT λz3=>S 126 [[z0]] [[af],[z2],[z3]]->dT λz4=>S 47 [[af]] [[z4]]->(aE (decide (z4=1)) ((aE ((!(decide (z3=1)))) (K [[z0]] [[(cond (true) 1 0)]]) (dh 4 [z2,0] λz5=>(aE ((!(decide (z5=1)))) (bj 0 [z2] λaq=>(aE (decide (aq<=5)) (cl λz7=>S 124 [[z2]] [[z7]]->dh 4 [z7,0] λak=>(aE (decide (ak=1)) (dT λz9=>S 65 [[z2],[0x3c4d43325474b267bc17]] [[z9]]->K [[z0]] [[(cond (decide (z9=1)) 1 0)]]) (K [[z0]] [[(cond (false) 1 0)]]))) (K [[z0]] [[(cond (false) 1 0)]]))) (K [[z0]] [[(cond (false) 1 0)]]))))) (K [[z0]] [[(cond (false) 1 0)]]))
def LY (S:zzS) (K:zzK):Prop:=cl λz0=>cl λaf=>S 120 [[z0]] [[af]]->cl λz2=>cl λz3=>dT λz4=>S 125 [[af]] [[z2],[z3],[z4]]->(aE ((!(decide (z4=1)))) (K [[z0]] [[0],[2]]) (bj 0 [af] λz5=>(aE (decide (254<z5)) (K [[z0]] [[0],[2]]) (dT λaq=>S 24 [[z2]] [[aq]]->(aE ((!(decide (aq=1)))) (K [[z0]] [[0],[2]]) (tE λz7=>S 73 [[z3],[58]] [[z7]]->(aE (decide (0<=z7)) (K [[z0]] [[0],[2]]) (dT λak=>S 127 [[z3]] [[ak]]->(aE ((!(decide (ak=1)))) (K [[z0]] [[0],[2]]) (dT λz9=>S 27 [[z3]] [[z9]]->(aE ((!(decide (z9=1)))) (K [[z0]] [[0],[2]]) (cl λaC=>S 28 [[af]] [[aC]]->K [[z0]] [[aC],[0]]))))))))))))
theorem aoy:u2 58=false:=by decide
theorem akR {s:au} (h:j3 s=true):¬(58:UInt8)∈s:=λhm=>by
 unfold j3 at h;rw[xh]at h;simp only[aQ]at h;have:=List.all_eq_true.1 h.2.1.1 58 hm;rw[aoy]at this;cases this
theorem atL {s:au} (h:idx 58 s<0):mw s=j3 s:=by
 have:decide (0<=idx 58 s)=false:=by simpa using h
 unfold mw nk;rw[this];simp
theorem arL:Md SB (bS SB [.bool] 27):=by
 delta Md aE bj cl dT dh;dsimp only
 intro z0 a0 a1 af b0 b1 z2 bW c1 z3 d0 d1 hS z4 e0 e1 h4;have hS:(aa af,aa z2,z3)=nk 58 (aa z0):=hS;have h4:z4=bx (j3 (aa af)):=h4;have hv:mw (aa z0)=(j3 (aa af)&&(decide (z3=0)||zl (aa z2))):=by unfold mw;rw[<-hS]
 have cf:∀b:Bool,mw (aa z0)=b->bS SB [.bool] 27 [[z0]] [[bx b]]:=λb h=>w6 (by show bx b=bx (mw (aa z0));rw[h]);have h3:(!decide (z3=1))=decide (z3=0):=by
  rcases(show z3=0∨z3=1 by omega)with rfl|rfl<;>rfl
 rw[nf h4,h3];refine⟨λhp=>⟨λhq=>cf true ?_,λhq z5 f0 f1 h5=>?_⟩,λhp=>cf false ?_⟩
 ·rw[hv,hp,hq];rfl
 ·have hn:=FH h5;refine⟨λhr aq g0 g1 h6=>⟨λhs z7 i0 i1 h7 ak e9 cm h8=>?_,λhs=>cf false ?_⟩,λhr=>cf false ?_⟩
  ·rw[hr]at hn;rw[Fy (n:=5) 5 rfl h6]at hs;have h7:aa z7=jP j4 (aa z2):=h7;rw[eq_nil h8,h7];refine⟨λht z9 iG k1 bE=>?_,λht=>cf false ?_⟩
   ·have bE:z9=bx ((aa z2).all λc=>(aa 0x3c4d43325474b267bc17).contains c):=bE;have e:((aa z2).all λc=>(aa 0x3c4d43325474b267bc17).contains c)=(aa z2).all j4:=congrArg (List.all (aa z2)) (funext (v7 (p:=j4) (by decide+kernel)));rw[e]at bE;rw[nf bE];refine cf _ ?_;rw[hv,hp,hq];unfold zl;rw[<-hn,hs];simp
   ·rw[hv,hp,hq];unfold zl;cases ha:(aa z2).all j4 with
    |false=>simp
    |true=>rw[R3 ha]at ht;simp at ht
  ·rw[Fy (n:=5) 5 rfl h6]at hs;rw[hv,hp,hq];unfold zl;rw[hs];simp
  ·rw[hr]at hn;rw[hv,hp,hq];unfold zl;rw[<-hn];rfl
 ·rw[hv,hp];rfl
theorem Y8 {id:Nat} {zs:List (List Int)} {a e:Int} (h0:0<=a) (h1:a<=b8) (e0:0<=e) (e1:e<=21) (h:SB id zs [[a],[e]]):bS SB [.str,.int .i64 0 21] id zs [[a],[e]]:=⟨⟨h0,h1,e0,e1,trivial⟩,h⟩
theorem AK {t:au} (h:(decide (0<=idx 64 t)&&bp t.length 254&&ou (t.take (idx 64 t).toNat)&&j3 (t.drop ((idx 64 t).toNat+1))&&(t.drop ((idx 64 t).toNat+1)).contains 46)=false):AJ t=([],2):=by unfold AJ;rw[h];rfl
theorem aqU:LY SB (bS SB [.str,.int .i64 0 21] 10):=by
 delta LY aE bj cl dT tE;dsimp only
 intro z0 a0 a1 af b0 b1 h1 z2 bW c1 z3 d0 d1 z4 e0 e1 hS;have h1:aa af=jP (·==32) (aa z0):=h1;have hS:(aa z2,aa z3,z4)=nk 64 (aa af):=hS;have cf:AJ (aa af)=([],2)->bS SB [.str,.int .i64 0 21] 10 [[z0]] [[0],[2]]:=λh=>Y8 (bO _) pH (by decide) (by decide) (by
  show(aa 0,(2:Int))=oZ (aa z0);unfold oZ;rw[<-h1,h];rfl)
 unfold nk at hS;cases hi:decide (0<=idx 64 (aa af))with
 |false=>
  rw[hi]at hS;simp only[cond_false,cN]at hS;obtain⟨_,_,rfl⟩:=hS;exact⟨λ_=>cf (AK (by rw[hi];rfl)),λh=>by simp at h⟩
 |true=>
  rw[hi]at hS;simp only[cond_true,cN]at hS;obtain⟨h2,h3,rfl⟩:=hS;refine⟨λh=>by simp at h,λ_ z5 f0 f1 h5=>⟨λhq=>cf (AK ?_),λhq aq g0 g1 h6=>?_⟩⟩
  ·rw[Fz (n:=254) 254 rfl h5,iP]at hq;rw[hq];simp
  ·rw[Fz (n:=254) 254 rfl h5,CL]at hq;have h6:aq=bx (ou (aa z2)):=h6;rw[nf h6,h2];refine⟨λhl=>cf (AK ?_),λhl z7 i0 i1 h7=>?_⟩
   ·rw[iP]at hl;rw[hl];simp
   ·rw[CL]at hl;have h7:z7=idx 58 (aa z3):=h7;refine⟨λhc=>cf (AK ?_),λhc ak e9 cm h8=>?_⟩
    ·have wL:u8 58∈aa z3:=by
      have:=JE (c:=58) (by decide) (by decide) (aa z3);rw[<-h7,hc]at this;simpa using this.symm
     have:j3 (aa z3)=false:=by
      cases ag:j3 (aa z3)with
      |false=>rfl
      |true=>exact absurd wL (akR ag)
     rw[<-h3,this];simp
    ·have hlt:idx 58 (aa z3)<0:=by rw[<-h7];simpa using hc
     have h8:ak=bx ((aa z3).contains 46):=h8;rw[nf h8];refine⟨λhd=>cf (AK ?_),λhd z9 iG k1 bE=>?_⟩
     ·rw[iP]at hd;rw[<-h3,hd];simp
     ·rw[CL]at hd;have bE:z9=bx (mw (aa z3)):=bE;rw[nf bE,atL hlt];refine⟨λag=>cf (AK ?_),λag aC l0 l1 cW=>?_⟩
      ·rw[iP]at ag;rw[<-h3,ag];simp
      ·rw[CL]at ag;have cW:aa aC=lower (aa af):=cW;refine Y8 l0 l1 (by decide) (by decide) ?_;show(aa aC,(0:Int))=oZ (aa z0);unfold oZ AJ;rw[<-h1,hi,hq,hl,<-h3,ag,hd,cW];rfl
theorem abY {r:List Int} (h:bd (jb 0 b8 2) r):∃a b,r=[a,b]/\0<=a/\a<=b8/\0<=b/\b<=b8:=by
 match r,h with
 |[a,b],h=>exact⟨a,b,rfl,h.1,h.2.1,h.2.2.1,h.2.2.2.1⟩
theorem Zo:∀l:au,dV l l=false
 |[]=>rfl
 |x::r=>by
  have:=Zo r;simp[dV,this]
end Go.aX
namespace Go.aX
open Go Go.aW
theorem amu:aa 477315081741=AI:=by decide+kernel
theorem Y5 {id:Nat} {zs:List (List Int)} {a b e:Int} (a0:0<=a) (a1:a<=b8) (b0:0<=b) (b1:b<=b8) (e0:0<=e) (e1:e<=21) (h:SB id zs [[a,b],[e]]):bS SB [.mix [.str,.str],.int .i64 0 21] id zs [[a,b],[e]]:=⟨⟨a0,a1,b0,b1,e0,e1,trivial⟩,h⟩
def To (S:zzS) (K:zzK):Prop:=cl λz0=>cl λaf=>(ah 95 [z0,af]->dh 4 [z0,477315081741] λz2=>(aE (decide (z2=1)) (cl λz3=>bm 0 21 λz4=>S 10 [[af]] [[z3],[z4]]->(aE ((!(decide (z4=0)))) (K [[z0],[af]] [[0,0],[z4]]) (K [[z0],[af]] [[z0,z3],[0]]))) (dh 4 [z0,0x719666806594] λz3=>(aE (decide (z3=1)) (ah 94 [0,af]/\cl λz4=>bm 0 21 λz5=>S 12 [[0],[af]] [[z4],[z5]]->(aE ((!(decide (z5=0)))) (K [[z0],[af]] [[0,0],[z5]]) (K [[z0],[af]] [[z0,z4],[0]]))) (K [[z0],[af]] [[0,0],[1]])))))
def Ts (S:zzS) (K:zzK):Prop:=∀r0:List Int,bd (jb 0 b8 2) r0->(ah 95 [(ar r0 0 0),(ar r0 1 0)]->ah 95 [(ar r0 0 0),(ar r0 1 0)]/\∀r2:List Int,bd (jb 0 b8 2) r2->bm 0 21 λz4=>S 15 [[(ar r0 0 0)],[(ar r0 1 0)]] [r2,[z4]]->(aE (decide (z4=0)) (dh 4 [(ar r0 0 0),(ar r2 0 0)] λz5=>dh 4 [(ar r0 1 0),(ar r2 1 0)] λaq=>K [r0] [[(cond (decide ([z5,aq]=[1,1])) 1 0)]]) (K [r0] [[(cond (false) 1 0)]])))
theorem ari:To SB (bS SB [.mix [.str,.str],.int .i64 0 21] 15):=by
 intro z0 a0 a1 af b0 b1 hp z2 bW c1 h2;have hp:aa z0=aa 477315081741:=hp;have wI:aa z0=AI:=hp.trans amu;rw[sT h2,decide_eq_true hp];refine⟨λ_ z3 d0 d1 z4 e0 e1 h=>?_,λh=>by cases h⟩;have h:(aa z3,z4)=oZ (aa af):=h;have hM:tq (aa z0) (aa af)=ze (aa z0) (aa z3,z4):=by rw[h,wI];rfl
 refine⟨λhz=>Y5 (bO _) pH (bO _) pH e0 e1 ?_,λhz=>Y5 a0 a1 d0 d1 (by decide) (by decide) ?_⟩
 ·show(aa 0,aa 0,z4)=tq (aa z0) (aa af);rw[hM];unfold ze;rw[show decide (z4=0)=false by simpa using hz];rfl
 ·show(aa z0,aa z3,0)=tq (aa z0) (aa af);rw[hM];unfold ze;rw[show decide (z4=0)=true by simpa using hz];rfl
theorem arq:Ts SB (bS SB [.bool] 16):=by
 intro r0 h0 hp;obtain⟨a,b,rfl,_⟩:=abY h0;have cf:∀x:Bool,po (aa a) (aa b)=x->bS SB [.bool] 16 [[a,b]] [[bx x]]:=λx h=>w6 (by show bx x=bx (po (aa a) (aa b));rw[h]);refine⟨hp,λr2 h2 z4 bW c1 hM=>?_⟩;obtain⟨c,d,rfl,_⟩:=abY h2;have hM:(aa c,aa d,z4)=tq (aa a) (aa b):=hM;have hR:po (aa a) (aa b)=(decide (z4=0)&&(aa a==aa c)&&(aa b==aa d)):=by unfold po;rw[<-hM]
 refine⟨λhz z5 d0 d1 h5 aq e0 e1 h6=>?_,λhz=>cf false (by rw[hR,hz];rfl)⟩;have h5:z5=aB 4 [a,c]:=h5;have h6:aq=aB 4 [b,d]:=h6;have gR:=sT h5;have gh:=sT h6;refine cf _ ?_;rw[hR,hz,CK,vJ];have Nu:z5=1↔aa a=aa c:=by rw[<-decide_eq_true_eq (p:=z5=1),gR,decide_eq_true_eq]
 have Nv:aq=1↔aa b=aa d:=by rw[<-decide_eq_true_eq (p:=aq=1),gh,decide_eq_true_eq]
 simp only[aQ,beq_iff_eq,decide_eq_true_eq,gY,and_true,Nu,Nv]
end Go.aX
namespace Go.aX
open Go Go.aW
def TR (S:zzS) (K:zzK):Prop:=cl λz0=>dh 4 [z0,0] λaf=>(aE (decide (af=1)) (K [[z0]] [[z0]]) (∃(gI:List (List Int)->Prop) (ki:List (List Int)->Nat),gI [[z0]]/\(cl λ z3=>gI [[z3]]->bj 0 [z3] λz4=>(aE (decide (0<z4)) (bj 0 [z3] λz5=>ah 1 [z3,(z5+(-1))]/\df 1 [z3,(z5+(-1))] λaq=>dh 43 [0x90e0e5b31189a9b88f8252a198b11926df09fe6b0937be45ad0606717c65e7cfca67a5a41cd1bcd4d3a7,aq] λz7=>(aE ((!(decide (z7=1)))) (∃(eu:List (List Int)->Prop) (fI:List (List Int)->Nat),eu [[z3]]/\(cl λz9=>eu [[z9]]->bj 0 [z9] λaC=>(aE (decide (0<aC)) (ah 1 [z9,0]/\df 1 [z9,0] λaD=>dh 43 [0x90e0e5b31189a9b88f8252a198b11926df09fe6b0937be45ad0606717c65e7cfca67a5a41cd1bcd4d3a7,aD] λz12=>(aE ((!(decide (z12=1)))) (K [[z0]] [[z9]]) (bj 0 [z9] λaU=>ah 2 [z9,1,aU]/\cP 2 [z9,1,aU] λaP=>(eu [[aP]]/\fI [[aP]]<fI [[z9]])))) (K [[z0]] [[z9]])))) (bj 0 [z3] λak=>ah 2 [z3,0,(ak+(-1))]/\cP 2 [z3,0,(ak+(-1))] λz9=>(gI [[z9]]/\ki [[z9]]<ki [[z3]])))) (∃(ix:List (List Int)->Prop) (jA:List (List Int)->Nat),ix [[z3]]/\(cl λaq=>ix [[aq]]->bj 0 [aq] λz7=>(aE (decide (0<z7)) (ah 1 [aq,0]/\df 1 [aq,0] λak=>dh 43 [0x90e0e5b31189a9b88f8252a198b11926df09fe6b0937be45ad0606717c65e7cfca67a5a41cd1bcd4d3a7,ak] λz9=>(aE ((!(decide (z9=1)))) (K [[z0]] [[aq]]) (bj 0 [aq] λaC=>ah 2 [aq,1,aC]/\cP 2 [aq,1,aC] λaD=>(ix [[aD]]/\jA [[aD]]<jA [[aq]])))) (K [[z0]] [[aq]]))))))))
theorem arX:TR SB (bS SB [.str] 202):=Kt (n:=0x90e0e5b31189a9b88f8252a198b11926df09fe6b0937be45ad0606717c65e7cfca67a5a41cd1bcd4d3a7) (p:=E5) (v7 (by decide+kernel)) λ_ _=>rfl
theorem aut {s z L:Int} {n:Nat} (hz:z=(n:Int)) (h:n<=(aa s).length) (hL:L=aB 0 [s]):(0<=z/\z<=L/\L<=((aa s).length:Int))/\∀y,y=aB 2 [s,z,L]->aa y=(aa s).drop n:=by
 subst hz;simp only[aB]at hL;refine⟨⟨by omega,by omega,by omega⟩,λy hy=>?_⟩;rw[hy];simp only[aB,fj];rw[show((n:Int)).toNat=n by omega];exact lu (by simp;omega)
theorem PZ {id:Nat} {zs:List (List Int)} {a b:Int} {c:Bool} (a0:0<=a) (a1:a<=b8) (b0:0<=b) (b1:b<=b8) (h:SB id zs [[a],[b],[bx c]]):bS SB [.str,.str,.bool] id zs [[a],[b],[bx c]]:=⟨⟨a0,a1,b0,b1,(sM c).1,(sM c).2,trivial⟩,h⟩
theorem aaq {k:UInt8} {s:au} (h:(ck 0 s.length&&bp s.length 255&&s.getD 0 0==k&&decide (0<=idx 58 s)&&mw (s.drop ((idx 58 s).toNat+1)))=false):nI k s=([],[],0):=by unfold nI;rw[h];rfl
end Go.aX
namespace Go.aX
open Go Go.aW
def TT (S:zzS) (K:zzK):Prop:=cl λz0=>bj 0 [z0] λaf=>(aE (decide (255<af)) (K [[z0]] [[(cond (false) 1 0)]]) (bj 0 [z0] λz2=>(aE (decide (1<=z2)) (ah 2 [z0,0,1]/\cP 2 [z0,0,1] λz3=>dh 4 [z3,65] λz4=>(aE ((!(decide (z4=1)))) (K [[z0]] [[(cond (false) 1 0)]]) (bj 0 [z0] λz5=>ah 2 [z0,1,z5]/\cP 2 [z0,1,z5] λaq=>cl λz7=>cl λak=>dT λz9=>S 126 [[aq]] [[z7],[ak],[z9]]->(aE (decide (z9=1)) (dh 4 [z7,0] λaC=>(aE ((!(decide (aC=1)))) (bj 0 [z7] λaD=>(aE (decide (aD<=200)) (cl λz12=>S 202 [[z7]] [[z12]]->dh 4 [z12,0] λaU=>(aE (decide (aU=1)) (dT λaP=>S 65 [[z7],[0x362cc1c2fcfa78f773ca65fffe0db0d3d8f100d813c33bf3e6079dc0c455713afa99d1cbab34ea505ba7]] [[aP]]->(aE (decide (aP=1)) (dT λaw=>S 27 [[ak]] [[aw]]->K [[z0]] [[(cond (decide (aw=1)) 1 0)]]) (K [[z0]] [[(cond (false) 1 0)]]))) (K [[z0]] [[(cond (false) 1 0)]]))) (K [[z0]] [[(cond (false) 1 0)]]))) (K [[z0]] [[(cond (false) 1 0)]]))) (K [[z0]] [[(cond (false) 1 0)]]))))) (K [[z0]] [[(cond (false) 1 0)]]))))
theorem alT {c:UInt8} {t:au} (h:c≠58):idx 58 (c::t)=if idx 58 t<0 then-1 else idx 58 t+1:=by
 have:¬(c.toNat:Int)=58:=λe=>h (by rw[<-acT];show c.toNat=58;omega);show(if(c.toNat:Int)=58 then 0 else if idx 58 t<0 then-1 else idx 58 t+1)=_;rw[if_neg this]
theorem ar3 {k:UInt8} (hk:k≠58) {t:au} (hl:t.length+1<=255):nI k (k::t)=cond (decide (0<=idx 58 t)&&mw (t.drop ((idx 58 t).toNat+1))) (t.take (idx 58 t).toNat,t.drop ((idx 58 t).toNat+1),1) ([],[],0):=by
 unfold nI;rw[alT hk,show ck 0 (k::t).length=true by rw[CJ];simp,show bp (k::t).length 255=true by rw[re];simpa using hl];have hr:=E3 58 t;have hb:((k::t).getD 0 0==k)=true:=by show(k==k)=true;simp
 rw[hb];by_cases hn:idx 58 t<0
 ·rw[if_pos hn,show decide (0<=idx 58 t)=false from decide_eq_false (by omega)];simp
 ·rw[if_neg hn,show decide (0<=idx 58 t)=true from decide_eq_true (by omega),show decide (0<=idx 58 t+1)=true from decide_eq_true (by omega),show(idx 58 t+1).toNat=(idx 58 t).toNat+1 by omega];simp
theorem aap {k:UInt8} {s:au} (h:s.getD 0 0≠k∨s=[]):(nI k s).2.2=0:=by
 rw[aaq];rcases h with h|h
 ·rw[show(s.getD 0 0==k)=false by simpa using h];simp
 ·rw[h];rfl
theorem ar4 {k:UInt8} {s:au} (h:bp s.length 255=false):(nI k s).2.2=0:=by
 rw[aaq];rw[h];simp
theorem Kc {k:UInt8} {inn:UInt8->Bool} {most:Nat} {s:au} (h:(nI k s).2.2=0):vk k inn most s=false:=by unfold vk;rw[h];rfl
theorem aqy (inn:UInt8->Bool) (s:au) {n:Int} (hn:∀c,(aa n).contains c=inn c):(s.all λc=>(aa n).contains c)=s.all inn:=by
 congr 1;funext c;exact hn c
theorem arj {k:UInt8} {Y0 mJ Qr:Int} {inn:UInt8->Bool} {most tid:Nat} (hk:k≠58) (akp:aa Y0=[k]) (iX:∀c,(aa mJ).contains c=inn c) (hm:Qr=(most:Int)) (ht:∀z r,SB tid [[z]] [[r]]=(aa r=jP inn (aa z))) {id:Nat} (hid:∀z r,SB id [[z]] [[r]]=(r=bx (vk k inn most (aa z)))):
(∀z0:Int,0<=z0->z0<=b8->
 ∀af:Int,0<=af->af<=0x7fffffffffffffff->af=aB 0 [z0]->
 (((decide (255<af))=true->
  bS SB [.bool] id [[z0]] [[(cond (false) 1 0)]]
 )/\((decide (255<af))=false->
  ∀z2:Int,0<=z2->z2<=0x7fffffffffffffff->z2=aB 0 [z0]->
  (((decide (1<=z2))=true->
   ah 2 [z0,0,1]/\
   ∀z3:Int,0<=z3->z3<=b8->z3=aB 2 [z0,0,1]->
   ∀z4:Int,0<=z4->z4<=1->z4=aB 4 [z3,Y0]->
   ((((!(decide (z4=1))))=true->
    bS SB [.bool] id [[z0]] [[(cond (false) 1 0)]]
   )/\(((!(decide (z4=1))))=false->
    ∀z5:Int,0<=z5->z5<=0x7fffffffffffffff->z5=aB 0 [z0]->
    ah 2 [z0,1,z5]/\
    ∀aq:Int,0<=aq->aq<=b8->aq=aB 2 [z0,1,z5]->
    ∀z7:Int,0<=z7->z7<=b8->∀ak:Int,0<=ak->ak<=b8->∀z9:Int,0<=z9->z9<=1->SB 126 [[aq]] [[z7],[ak],[z9]]->
    (((decide (z9=1))=true->
     ∀aC:Int,0<=aC->aC<=1->aC=aB 4 [z7,0]->
     ((((!(decide (aC=1))))=true->
      ∀aD:Int,0<=aD->aD<=0x7fffffffffffffff->aD=aB 0 [z7]->
      (((decide (aD<=Qr))=true->
       ∀z12:Int,0<=z12->z12<=b8->SB tid [[z7]] [[z12]]->
       ∀aU:Int,0<=aU->aU<=1->aU=aB 4 [z12,0]->
       (((decide (aU=1))=true->
        ∀aP:Int,0<=aP->aP<=1->SB 65 [[z7],[mJ]] [[aP]]->
        (((decide (aP=1))=true->
         ∀aw:Int,0<=aw->aw<=1->SB 27 [[ak]] [[aw]]->
         bS SB [.bool] id [[z0]] [[(cond (decide (aw=1)) 1 0)]]
        )/\((decide (aP=1))=false->
         bS SB [.bool] id [[z0]] [[(cond (false) 1 0)]]
        ))
       )/\((decide (aU=1))=false->
        bS SB [.bool] id [[z0]] [[(cond (false) 1 0)]]
       ))
      )/\((decide (aD<=Qr))=false->
       bS SB [.bool] id [[z0]] [[(cond (false) 1 0)]]
      ))
     )/\(((!(decide (aC=1))))=false->
      bS SB [.bool] id [[z0]] [[(cond (false) 1 0)]]
     ))
    )/\((decide (z9=1))=false->
     bS SB [.bool] id [[z0]] [[(cond (false) 1 0)]]
    ))
   ))
  )/\((decide (1<=z2))=false->
   bS SB [.bool] id [[z0]] [[(cond (false) 1 0)]]
  ))
 ))):=by
  intro z0 a0 a1 af b0 b1 h1;have cf:∀b:Bool,vk k inn most (aa z0)=b->bS SB [.bool] id [[z0]] [[bx b]]:=λb h=>w6 (by rw[hid,h]);have DS:=Fz (n:=255) 255 rfl h1;refine⟨λhb=>cf false (Kc (ar4 (by rw[hb]at DS;simpa using DS.symm))),λhb z2 bW c1 h2=>?_⟩;rw[hb]at DS;have hlen:(aa z0).length<=255:=by
   have:bp (aa z0).length 255=true:=by simpa using DS.symm
   exact et this
  simp only[aB]at h2;refine⟨λhp=>⟨⟨bO _,by decide,by have:=of_decide_eq_true hp;omega⟩,λz3 d0 d1 h3 z4 e0 e1 h4=>?_⟩,λhp=>cf false (Kc (aap (.inr ?_)))⟩
  ·cases hs:aa z0 with
   |nil=>rw[hs]at h2;have:=of_decide_eq_true hp;simp at h2;omega
   |cons c t=>
    have e3:aa z3=[c]:=by rw[h3];simp only[aB,fj,hs];rfl
    rw[sT h4,e3,akp];refine⟨λhne=>cf false (Kc (aap (.inl ?_))),λheq z5 f0 f1 h5=>?_⟩
    ·rw[hs];intro h;have h:c=k:=h;rw[h]at hne;simp at hne
    ·have ajT:c=k:=by simpa using heq
     subst ajT;have te:t.length+1<=255:=by rw[hs]at hlen;simpa using hlen
     obtain⟨s1,s2⟩:=aut (s:=z0) (z:=1) (L:=z5) (n:=1) rfl (by rw[hs];simp) h5;refine⟨s1,λaq g0 g1 h6 z7 i0 i1 ak e9 cm z9 iG k1 hC=>?_⟩;have gh:aa aq=t:=by rw[s2 aq h6,hs];rfl
     have hC:(aa z7,aa ak,z9)=nk 58 (aa aq):=hC;rw[gh]at hC;have iC:=ar3 hk te;unfold nk at hC;cases hi:decide (0<=idx 58 t)with
     |false=>
      rw[hi]at hC iC;simp only[cond_false,cN]at hC;obtain⟨_,_,rfl⟩:=hC;exact⟨λh=>by simp at h,λ_=>cf false (Kc (by rw[hs,iC];rfl))⟩
     |true=>
      rw[hi]at hC iC;simp only[cond_true,cN]at hC;obtain⟨oW,yk,rfl⟩:=hC;rw[CK]at iC;have hv:vk c inn most (aa z0)=(mw (aa ak)&&ck 0 (aa z7).length&&bp (aa z7).length most&&(aa z7).all inn):=by
       unfold vk;rw[hs,iC,<-oW,<-yk];cases mw (aa ak)<;>rfl
      refine⟨λ_ aC l0 l1 cW=>?_,λh=>by simp at h⟩;have hn:=FH cW;refine⟨λhq aD m0 dE h11=>?_,λhq=>cf false (by rw[hq]at hn;rw[hv,<-hn];simp)⟩;rw[hq]at hn;rw[Fy most hm h11];refine⟨λhr z12 n0 n1 fr aU xe xf ga=>?_,λhr=>cf false (by rw[hv,hr];simp)⟩;rw[ht]at fr;rw[eq_nil ga,fr];refine⟨λhs aP p0 p1 hE=>?_,λhs=>cf false ?_⟩
      ·have hE:aP=bx ((aa z7).all λc=>(aa mJ).contains c):=hE;rw[aqy inn _ iX]at hE;rw[nf hE];refine⟨λha aw q0 q1 jj=>?_,λha=>cf false (by rw[hv,ha];simp)⟩;have jj:aw=bx (mw (aa ak)):=jj;rw[nf jj];refine cf _ ?_;rw[hv,<-hn,hr,ha];simp
      ·rw[hv];cases ha:(aa z7).all inn with
       |false=>simp
       |true=>rw[R3 ha]at hs;simp at hs
  ·have hp:¬1<=z2:=of_decide_eq_false hp;exact List.length_eq_zero_iff.1 (by omega)
theorem arZ:TT SB (bS SB [.bool] 200):=arj (k:=64) (inn:=E5) (most:=200) (tid:=202) (by decide) (by decide) (v7 (by decide+kernel)) rfl (λ_ _=>rfl) (λ_ _=>rfl)
end Go.aX
namespace Go.aX
open Go Go.aW
def LU (S:zzS) (K:zzK):Prop:=∀r0:List Int,bd [(0,b8),(0,b8),(0,b8),((-0x8000000000000000),bT)] r0->(ah 95 [(ar r0 0 0),(ar r0 1 0),(ar r0 2 0),(ar r0 3 0)]->(aE (decide (0<=(ar r0 3 0))) ((aE (decide ((ar r0 3 0)<=1099511627776)) (ah 95 [(ar r0 0 0),(ar r0 1 0)]/\dT λz4=>S 16 [[(ar r0 0 0),(ar r0 1 0)]] [[z4]]->(aE (decide (z4=1)) (dT λz5=>S 200 [[(ar r0 2 0)]] [[z5]]->K [r0] [[(cond (decide (z5=1)) 1 0)]]) (K [r0] [[(cond (false) 1 0)]]))) (K [r0] [[(cond (false) 1 0)]]))) (K [r0] [[(cond (false) 1 0)]])))
def LS (S:zzS) (K:zzK):Prop:=cQ λz0=>(ah 93 [z0]->bC λaf=>bm (-2) bT λz2=>bj 20 [z0] λz3=>(aE (decide (64<z3)) (K [[z0]] [[(cond (false) 1 0)]]) (∃(lz:List (List Int)->Prop) (lY:List (List Int)->Nat),lz [[0]]/\(fa λz5=>lz [[z5]]->(aE (decide (z5<z3)) (ah 30 [z5,z3]/\ah 21 [z0,z5]/\cP 21 [z0,z5,0] λaq=>cP 21 [z0,z5,1] λz7=>cP 21 [z0,z5,2] λak=>fw (-0x8000000000000000) bT 21 [z0,z5,3] λz9=>ah 95 [aq,z7,ak,z9]/\dT λaC=>S 300 [[aq,z7,ak,z9]] [[aC]]->(aE ((!(decide (aC=1)))) (K [[z0]] [[(cond (false) 1 0)]]) ((aE (decide (0<z5)) (ah 30 [(z5+(-1)),z3]/\ah 21 [z0,(z5+(-1))]/\cP 21 [z0,(z5+(-1)),0] λaD=>cP 21 [z0,(z5+(-1)),1] λz12=>cP 21 [z0,(z5+(-1)),2] λaU=>fw (-0x8000000000000000) bT 21 [z0,(z5+(-1)),3] λaP=>ah 94 [aD,z12,aU,aP,aq,z7]/\bm (-1) 1 λaw=>S 301 [[aD,z12,aU,aP],[aq,z7]] [[aw]]->(aE (decide (0<=aw)) (K [[z0]] [[(cond (false) 1 0)]]) (cz (z5+eI) dF λbF=>ah 39 [((z5+(aM*bF))+1),0,bT]/\(lz [[((z5+(aM*bF))+1)]]/\lY [[((z5+(aM*bF))+1)]]<lY [[z5]])))) ((lz [[1]]/\lY [[1]]<lY [[z5]])))))) (K [[z0]] [[(cond (true) 1 0)]]))))))
theorem aqM:LU SB (bS SB [.bool] 300):=by
 delta LU aE dT bT;dsimp only
 intro r0 hr hp;have cf:∀b:Bool,pO (k5 r0)=b->bS SB [.bool] 300 [r0] [[bx b]]:=λb h=>w6 (by show bx b=bx (pO (k5 r0));rw[h]);have e0:pO (k5 r0)=(decide (0<=r0.getD 3 0)&&(decide (r0.getD 3 0<=1099511627776)&&(po (aa (r0.getD 0 0)) (aa (r0.getD 1 0))&&qp (aa (r0.getD 2 0))))):=rfl;refine⟨λh1=>⟨λh2=>⟨hp,λz4 a0 a1 hS=>⟨λh3 z5 b0 b1 bH=>?_,λh3=>?_⟩⟩,λh2=>?_⟩,λh1=>?_⟩
 ·have hS:z4=bx (po (aa (r0.getD 0 0)) (aa (r0.getD 1 0))):=hS;have bH:z5=bx (qp (aa (r0.getD 2 0))):=bH;have:=nf hS;rw[h3]at this;exact cf (decide (z5=1)) (by rw[e0,h1,h2,<-this,nf bH];rfl)
 ·have hS:z4=bx (po (aa (r0.getD 0 0)) (aa (r0.getD 1 0))):=hS;have:=nf hS;rw[h3]at this;exact cf false (by rw[e0,<-this];simp)
 ·exact cf false (by rw[e0,h2];simp)
 ·exact cf false (by rw[e0,h1];simp)
theorem aqL:LS SB (dS SB [.d .bool] 303):=by
 delta LS aE cz bm fw bC fa bj cQ cP dT dF aM bT eI;dsimp only
 intro z0 a0 a1 hp af _ z2 _ _ z3 b0 b1 h3;have hp:ab z0=[[477315081741,437051401625,1786254407,0]]:=hp;have h3:z3=((ab z0).length:Int):=h3;rw[hp]at h3;obtain rfl:z3=1:=h3;have oY:bds z0=[k5 [477315081741,437051401625,1786254407,0]]:=by unfold bds;rw[hp];rfl
 have bg:pO (k5 [477315081741,437051401625,1786254407,0])=true:=by decide+kernel
 refine⟨λh=>(by cases h),λ_=>⟨λbl=>bl=[[0]]∨bl=[[1]],λbl=>1-((bl.getD 0 []).getD 0 0).toNat,.inl rfl,?_⟩⟩;intro z5 bW c1 hI;refine⟨λh5=>?_,λh5=>?_⟩
 ·obtain rfl:z5=0:=by have:=of_decide_eq_true h5;omega
  refine⟨⟨bO _,by decide⟩,⟨bO _,by rw[hp];decide⟩,λaq _ _ h6 z7 _ _ h7 ak _ _ h8 z9 _ _ bE=>?_⟩;have h6:aq=477315081741:=by rw[h6];show((ab z0).getD 0 []).getD 0 0=_;rw[hp];rfl
  have h7:z7=437051401625:=by rw[h7];show((ab z0).getD 0 []).getD 1 0=_;rw[hp];rfl
  have h8:ak=1786254407:=by rw[h8];show((ab z0).getD 0 []).getD 2 0=_;rw[hp];rfl
  have bE:z9=0:=by rw[bE];show((ab z0).getD 0 []).getD 3 0=_;rw[hp];rfl
  subst h6 h7 h8 bE;refine⟨rfl,λaC _ _ hS=>?_⟩;have hS:aC=bx (pO (k5 [477315081741,437051401625,1786254407,0])):=hS;rw[bg]at hS;subst hS;exact⟨λh=>(by cases h),λ_=>⟨λh=>(by cases h),λ_=>⟨.inr rfl,by decide⟩⟩⟩
 ·refine⟨⟨by decide,by decide,trivial⟩,?_⟩;show(1:Int)=bx (mv (bds z0));rw[oY];have:mv [k5 [477315081741,437051401625,1786254407,0]]=true:=by decide+kernel
  rw[this];rfl
end Go.aX
namespace Go.aX
open Go Go.aW
theorem Qb (a b:UInt8) (x y:au):dV (a::x) (b::y)=true↔a.toNat<b.toNat∨(a=b/\dV x y=true):=by
 simp only[dV,pD,aQ,beq_iff_eq,decide_eq_true_eq,azh]
theorem Zp (x:au):dV x []=false:=by cases x<;>rfl
theorem Zq:∀x y:au,dV x y=true∨dV y x=true∨x=y
 |[],[]=> .inr (.inr rfl)
 |[],_::_=> .inl rfl
 |_::_,[]=> .inr (.inl rfl)
 |a::x,b::y=>by
  rw[Qb,Qb];rcases Nat.lt_trichotomy a.toNat b.toNat with h|h|h
  ·exact .inl (.inl h)
  ·have e:a=b:=UInt8.toNat_inj.1 h;subst e;rcases Zq x y with h|h|h
   ·exact .inl (.inr ⟨rfl,h⟩)
   ·exact .inr (.inl (.inr ⟨rfl,h⟩))
   ·exact .inr (.inr (by rw[h]))
  ·exact .inr (.inl (.inl h))
theorem FA:∀x y z:au,dV x y=true->dV y z=true->dV x z=true
 |_,[],_,h,_=>by rw[Zp]at h;cases h
 |_,_::_,[],_,h=>by rw[Zp]at h;cases h
 |[],_::_,_::_,_,_=>rfl
 |a::x,b::y,c::z,h,h'=>by
  rw[Qb]at h h'⊢;rcases h with h|⟨rfl,h⟩
  ·rcases h' with h'|⟨rfl,_⟩
   ·exact .inl (by omega)
   ·exact .inl h
  ·rcases h' with h'|⟨rfl,h'⟩
   ·exact .inl h'
   ·exact .inr ⟨rfl,FA x y z h h'⟩
end Go.aX
namespace Go.aX
open Go Go.aW
end Go.aX
namespace Go.aX
open Go Go.aW
end Go.aX
namespace Go.aX
open Go Go.aW
def L9 (S:zzS) (K:zzK):Prop:=cl λz0=>bj 0 [z0] λaf=>∃(gI:List (List Int)->Prop) (ki:List (List Int)->Nat),gI [[0]]/\(fa λz3=>gI [[z3]]->(aE (decide (z3<af)) (ah 1 [z0,z3]/\df 1 [z0,z3] λz4=>(aE (decide (z4<32)) (K [[z0]] [[(cond (false) 1 0)]]) (ah 1 [z0,z3]/\df 1 [z0,z3] λz5=>(aE (decide (126<z5)) (K [[z0]] [[(cond (false) 1 0)]]) (cz (z3+eI) dF λaq=>ah 39 [((z3+(aM*aq))+1),0,bT]/\(gI [[((z3+(aM*aq))+1)]]/\ki [[((z3+(aM*aq))+1)]]<ki [[z3]])))))) (K [[z0]] [[(cond (true) 1 0)]])))
theorem MT {b:Bool} (h:(!b)=true):b=false:=by cases b<;>first|rfl|cases h
theorem UR {b:Bool} (h:(!b)=false):b=true:=by cases b<;>first|rfl|cases h
def aee (z0:Int) (bl:List (List Int)):Prop:=∃i:Nat,bl=[[(i:Int)]]/\i<=(aa z0).length/\tA ((aa z0).take i)=true
def Ue (z0:Int) (bl:List (List Int)):Nat:=(aa z0).length-((bl.getD 0 []).getD 0 0).toNat
theorem aax {t:au} {i:Nat} (h:i<t.length):t.getD i 0∈t:=by simp[ar,h]
theorem arl:L9 SB (bS SB [.bool] 400):=by
 delta L9 aE cz fa bj cl df dF aM bT eI;dsimp only
 intro z0 a0 a1 af _ c1 h1;have h1:af=((aa z0).length:Int):=h1;have cf:∀b:Bool,tA (aa z0)=b->bS SB [.bool] 400 [[z0]] [[bx b]]:=λb h=>w6 (by show bx b=bx (tA (aa z0));rw[h]);have vf:∀i,i<(aa z0).length->(((aa z0).getD i 0).toNat<32∨126<((aa z0).getD i 0).toNat)->bS SB [.bool] 400 [[z0]] [[cond false 1 0]]:=λi hi h=>cf false (by
  cases hp:tA (aa z0)with
  |false=>rfl
  |true=>
   have:=List.all_eq_true.1 hp _ (aax hi);simp only[aQ,re]at this;omega)
 refine⟨aee z0,Ue z0,⟨0,rfl,kW _,rfl⟩,?_⟩
 rintro z3 d0 d1 ⟨i,e,hi,hI⟩
 obtain rfl:z3=i:=by simpa using e
 refine⟨λhlt=>?_,λe8=>cf true ?_⟩
 ·have hlt:=of_decide_eq_true hlt;have dv:i<(aa z0).length:=by omega
  have hg:∀z:Int,z=aB 1 [z0,(i:Int)]->z=(((aa z0).getD i 0).toNat:Int):=λz h=>by
   rw[h];simp only[aB,ek]
  refine⟨⟨by omega,by omega⟩,λz4 _ _ h4=>⟨λhc=>vf i dv (.inl ?_),λhc=>⟨⟨by omega,by omega⟩,λz5 _ _ h5=>⟨λhd=>vf i dv (.inr ?_),λhd aq x0 x1 x2 x3=>?_⟩⟩⟩⟩
  ·have:=hg z4 h4;have:=of_decide_eq_true hc;omega
  ·have:=hg z5 h5;have:=of_decide_eq_true hd;omega
  ·have e4:=hg z4 h4;have gR:=hg z5 h5
   have hc:=of_decide_eq_false hc;have hd:=of_decide_eq_false hd
   refine⟨⟨by omega,by omega⟩,⟨i+1,by rw[show((i:Int)+(-0x10000000000000000)*aq)+1=((i+1:Nat):Int) by omega],by omega,?_⟩,?_⟩
   ·unfold tA at hI⊢;rw[Gz _ _ dv,azd,hI];simp only[G4,aze,adE,CK,aQ,re];omega
   ·show(aa z0).length-(((i:Int)+(-0x10000000000000000)*aq)+1).toNat<(aa z0).length-((i:Int)).toNat;omega
 ·have:=of_decide_eq_false e8
  rwa [lu (by omega)]at hI
end Go.aX
namespace Go.aX
open Go Go.aW
def Mj (S:zzS) (K:zzK):Prop:=cl λz0=>∃(Mt:List (List Int)->Prop) (adM:List (List Int)->Nat),Mt [[0]]/\(fa λz2=>Mt [[z2]]->bj 0 [z0] λz3=>(aE (decide (z2<z3)) (ah 1 [z0,z2]/\df 1 [z0,z2] λz4=>(aE (decide (z4<33)) (K [[z0]] [[(cond (false) 1 0)]]) (ah 1 [z0,z2]/\df 1 [z0,z2] λz5=>(aE (decide (126<z5)) (K [[z0]] [[(cond (false) 1 0)]]) (cz (z2+eI) dF λaq=>ah 39 [((z2+(aM*aq))+1),0,bT]/\(Mt [[((z2+(aM*aq))+1)]]/\adM [[((z2+(aM*aq))+1)]]<adM [[z2]])))))) (bj 0 [z0] λz4=>(aE (decide (1<=z4)) (bj 0 [z0] λz5=>K [[z0]] [[(cond (decide (z5<=64)) 1 0)]]) (K [[z0]] [[(cond (false) 1 0)]])))))
theorem abm (t:au):e5 t=((decide (1<=t.length)&&decide (t.length<=64))&&t.all λc=>bp 33 c.toNat&&bp c.toNat 126):=by
 unfold e5 tA;have h1:(!t.isEmpty)=decide (1<=t.length):=by cases t<;>simp
 have h2:bp t.length 64=decide (t.length<=64):=by rw[vJ,re,decide_eq_true_eq]
 have h3:((t.all λc=>bp 32 c.toNat&&bp c.toNat 126)&& !t.contains 32)=t.all λc=>bp 33 c.toNat&&bp c.toNat 126:=by
  rw[vJ];simp only[aQ,pC,re,iP,List.contains_eq_mem,decide_eq_false_iff_not];constructor
  ·rintro⟨h,hn⟩ c hc
   have h4:=h c hc;refine⟨?_,h4.2⟩;have:c.toNat≠32:=λe=>hn (by rw[show(32:UInt8)=c from(UInt8.toNat_inj.1 e).symm];exact hc);omega
  ·intro h;exact⟨λc hc=>⟨by have:=(h c hc).1;omega,(h c hc).2⟩,λhm=>by have:=(h 32 hm).1;revert this;decide⟩
 rw[h1,h2,h3,Bool.and_assoc]
def aeM (z0:Int) (bl:List (List Int)):Prop:=∃i:Nat,bl=[[(i:Int)]]/\i<=(aa z0).length/\((aa z0).take i).all (λc=>bp 33 c.toNat&&bp c.toNat 126)=true
theorem ar1:Mj SB (bS SB [.bool] 420):=by
 delta Mj aE cz fa bj cl df dF aM bT eI;dsimp only
 intro z0 a0 a1;have cf:∀b:Bool,e5 (aa z0)=b->bS SB [.bool] 420 [[z0]] [[bx b]]:=λb h=>w6 (by show bx b=bx (e5 (aa z0));rw[h]);have vf:∀i,i<(aa z0).length->(((aa z0).getD i 0).toNat<33∨126<((aa z0).getD i 0).toNat)->bS SB [.bool] 420 [[z0]] [[cond false 1 0]]:=λi hi h=>cf false (by
  cases hp:e5 (aa z0)with
  |false=>rfl
  |true=>
   rw[abm]at hp;simp only[aQ,pC,re]at hp;have:=hp.2 _ (aax hi);omega)
 refine⟨aeM z0,Ue z0,⟨0,rfl,kW _,rfl⟩,?_⟩
 rintro z2 d0 d1 ⟨i,e,hi,hI⟩ z3 _ _ h3
 obtain rfl:z2=i:=by simpa using e
 have h3:z3=((aa z0).length:Int):=h3;refine⟨λhlt=>?_,λe8 z4 _ _ h4=>?_⟩
 ·have hlt:=of_decide_eq_true hlt;have dv:i<(aa z0).length:=by omega
  have hg:∀z:Int,z=aB 1 [z0,(i:Int)]->z=(((aa z0).getD i 0).toNat:Int):=λz h=>by
   rw[h];simp only[aB,ek]
  refine⟨⟨by omega,by omega⟩,λz4 _ _ h4=>⟨λhc=>vf i dv (.inl ?_),λhc=>⟨⟨by omega,by omega⟩,λz5 _ _ h5=>⟨λhd=>vf i dv (.inr ?_),λhd aq x0 x1 x2 x3=>?_⟩⟩⟩⟩
  ·have:=hg z4 h4;have:=of_decide_eq_true hc;omega
  ·have:=hg z5 h5;have:=of_decide_eq_true hd;omega
  ·have e4:=hg z4 h4;have gR:=hg z5 h5
   have hc:=of_decide_eq_false hc;have hd:=of_decide_eq_false hd
   refine⟨⟨by omega,by omega⟩,⟨i+1,by rw[show((i:Int)+(-0x10000000000000000)*aq)+1=((i+1:Nat):Int) by omega],by omega,?_⟩,?_⟩
   ·rw[Gz _ _ dv,azd,hI];simp only[G4,aze,adE,CK,aQ,re];omega
   ·show(aa z0).length-(((i:Int)+(-0x10000000000000000)*aq)+1).toNat<(aa z0).length-((i:Int)).toNat;omega
 ·have:=of_decide_eq_false e8;rw[lu (by omega)]at hI;have h4:z4=((aa z0).length:Int):=h4;have e0:e5 (aa z0)=(decide (1<=(aa z0).length)&&decide ((aa z0).length<=64)):=by rw[abm,hI,adE]
  refine⟨λh1 z5 _ _ h5=>cf _ ?_,λh1=>cf false ?_⟩
  ·have h5:z5=((aa z0).length:Int):=h5;rw[e0,decide_eq_true (by have:=of_decide_eq_true h1;omega),CK,vJ];simp only[decide_eq_true_eq];omega
  ·rw[e0,decide_eq_false (by have:=of_decide_eq_false h1;omega)];rfl
end Go.aX
namespace Go.aX
open Go Go.aW
def S9 (S:zzS) (K:zzK):Prop:=cl λz0=>dh 4 [33,z0] λaf=>(aE (decide (af=1)) (K [[z0]] [[(cond (true) 1 0)]]) (tE λz2=>S 73 [[z0],[32]] [[z2]]->K [[z0]] [[(cond (decide (0<=z2)) 1 0)]]))
theorem aqQ:S9 SB (bS SB [.bool] 501):=by
 intro z0 a0 a1 af b0 b1 hz1;simp only[aB]at hz1;refine⟨λh=>⟨⟨by decide,by decide,trivial⟩,?_⟩,λh z2 bW c1 h2=>⟨⟨(sM _).1,(sM _).2,trivial⟩,?_⟩⟩
 ·have:aa z0=[32]:=by
   have e:aa 33=[32]:=by decide
   rw[e]at hz1;by_cases h':[32]=aa z0
   ·exact h'.symm
   ·rw[if_neg h']at hz1;subst hz1;simp at h
  show(1:Int)=bx ((aa z0).contains 32);rw[this];rfl
 ·have h2:z2=idx 32 (aa z0):=h2;show(cond (decide (0<=z2)) 1 0:Int)=bx ((aa z0).contains 32);rw[h2,JE (by decide) (by decide)];rfl
theorem whole {z y n:Int} (hn:n=((ab z).length:Int)) (h:y=aB 22 [z,0,n]):ab y=ab z:=by
 rw[h];simp only[aB,di,hn];rw[show((0:Int)).toNat=0 by rfl,CU,lu (by omega)]
theorem sq (z:Int):(bA z).length=(ab z).length:=by simp[bA]
theorem Cy {z:Int} {i:Nat} (h:i<(ab z).length):(bA z).getD i []=aa (((ab z).getD i []).getD 0 0):=by simp[bA,ar,h]
def HG (z0:Int) (bl:List (List Int)):Nat:=(ab z0).length-((bl.getD 0 []).getD 0 0).toNat
end Go.aX
namespace Go.aX
open Go Go.aW
def L3 (S:zzS) (K:zzK):Prop:=∀r0:List Int,bd [(4,4),(0,0),(0,b8),(0,0),(0,0)] r0->(ah 89 [(ar r0 0 0),(ar r0 1 0),(ar r0 2 0),(ar r0 3 0),(ar r0 4 0)]->dh 4 [(ar r0 2 0),0] λz5=>a8 27 [(ar r0 2 0)] λaq=>bj 0 [(ar r0 2 0)] λz7=>bm (-2) bT λak=>ah 22 [aq,0,z7]/\a8 22 [aq,0,z7] λz9=>ah 86 [z9]/\dT λaC=>S 640 [[z9]] [[aC]]->K [r0] [[(cond (decide (aC=1)) 1 0)]])
def L1 (S:zzS) (K:zzK):Prop:=cQ λz0=>cQ λaf=>(ah 88 [z0,af]->bC λz2=>bm (-2) bT λz3=>bj 20 [z0] λz4=>bC λz5=>bm (-2) bT λaq=>bj 20 [af] λz7=>(aE (decide (z4=0)) ((aE ((!(decide (z4=z7)))) (K [[z0],[af]] [[(cond (false) 1 0)]]) (∃(eu:List (List Int)->Prop) (fI:List (List Int)->Nat),eu [[0]]/\(fa λz9=>eu [[z9]]->(aE (decide (z9<z4)) (ah 30 [z9,z4]/\ah 21 [z0,z9]/\cP 21 [z0,z9,0] λaC=>a8 27 [aC] λaD=>bj 0 [aC] λz12=>bm (-2) bT λaU=>ah 22 [aD,0,z12]/\a8 22 [aD,0,z12] λaP=>ah 86 [aP]/\dT λaw=>S 640 [[aP]] [[aw]]->(aE ((!(decide (aw=1)))) (K [[z0],[af]] [[(cond (false) 1 0)]]) ((aE (decide (0<z9)) (ah 30 [(z9+(-1)),z4]/\ah 21 [z0,(z9+(-1))]/\cP 21 [z0,(z9+(-1)),0] λbF=>dh 5 [bF,aC] λbY=>(aE ((!(decide (bY=1)))) (K [[z0],[af]] [[(cond (false) 1 0)]]) (cz (z9+eI) dF λaF=>ah 39 [((z9+(aM*aF))+1),0,bT]/\(eu [[((z9+(aM*aF))+1)]]/\fI [[((z9+(aM*aF))+1)]]<fI [[z9]])))) ((eu [[1]]/\fI [[1]]<fI [[z9]])))))) (∃(xT:List (List Int)->Prop) (Ho:List (List Int)->Nat),xT [[0]]/\(fa λaD=>xT [[aD]]->(aE (decide (aD<z7)) (ah 30 [aD,z7]/\ah 21 [af,aD]/\fw 4 4 21 [af,aD,0] λz12=>fw 0 0 21 [af,aD,1] λaU=>cP 21 [af,aD,2] λaP=>dh 4 [aP,0] λaw=>a8 27 [aP] λbF=>bj 0 [aP] λbY=>bm (-2) bT λaF=>ah 22 [bF,0,bY]/\a8 22 [bF,0,bY] λdH=>ah 86 [dH]/\dT λz20=>S 640 [[dH]] [[z20]]->(aE ((!(decide (z20=1)))) (K [[z0],[af]] [[(cond (false) 1 0)]]) (cz (aD+eI) dF λz21=>ah 39 [((aD+(aM*z21))+1),0,bT]/\(xT [[((aD+(aM*z21))+1)]]/\Ho [[((aD+(aM*z21))+1)]]<Ho [[aD]])))) (K [[z0],[af]] [[(cond (true) 1 0)]]))))))))) ((aE ((!(decide (z4=z7)))) (K [[z0],[af]] [[(cond (false) 1 0)]]) (∃(eu:List (List Int)->Prop) (fI:List (List Int)->Nat),eu [[0]]/\(fa λz9=>eu [[z9]]->(aE (decide (z9<z4)) (ah 30 [z9,z4]/\ah 21 [z0,z9]/\cP 21 [z0,z9,0] λaC=>a8 27 [aC] λaD=>bj 0 [aC] λz12=>bm (-2) bT λaU=>ah 22 [aD,0,z12]/\a8 22 [aD,0,z12] λaP=>ah 86 [aP]/\dT λaw=>S 640 [[aP]] [[aw]]->(aE ((!(decide (aw=1)))) (K [[z0],[af]] [[(cond (false) 1 0)]]) ((aE (decide (0<z9)) (ah 30 [(z9+(-1)),z4]/\ah 21 [z0,(z9+(-1))]/\cP 21 [z0,(z9+(-1)),0] λbF=>dh 5 [bF,aC] λbY=>(aE ((!(decide (bY=1)))) (K [[z0],[af]] [[(cond (false) 1 0)]]) (cz (z9+eI) dF λaF=>ah 39 [((z9+(aM*aF))+1),0,bT]/\(eu [[((z9+(aM*aF))+1)]]/\fI [[((z9+(aM*aF))+1)]]<fI [[z9]])))) ((eu [[1]]/\fI [[1]]<fI [[z9]])))))) (∃(xT:List (List Int)->Prop) (Ho:List (List Int)->Nat),xT [[0]]/\(fa λaD=>xT [[aD]]->(aE (decide (aD<z7)) (ah 30 [aD,z7]/\ah 21 [af,aD]/\fw 4 4 21 [af,aD,0] λz12=>fw 0 0 21 [af,aD,1] λaU=>cP 21 [af,aD,2] λaP=>dh 4 [aP,0] λaw=>a8 27 [aP] λbF=>bj 0 [aP] λbY=>bm (-2) bT λaF=>ah 22 [bF,0,bY]/\a8 22 [bF,0,bY] λdH=>ah 86 [dH]/\dT λz20=>S 640 [[dH]] [[z20]]->(aE ((!(decide (z20=1)))) (K [[z0],[af]] [[(cond (false) 1 0)]]) (cz (aD+eI) dF λz21=>ah 39 [((aD+(aM*z21))+1),0,bT]/\(xT [[((aD+(aM*z21))+1)]]/\Ho [[((aD+(aM*z21))+1)]]<Ho [[aD]])))) (K [[z0],[af]] [[(cond (true) 1 0)]])))))))))))
theorem both {a p q:Prop} (h:a):(p->a)/\(q->a):=⟨λ_=>h,λ_=>h⟩
theorem De {s x n:Int} (ha:iA s) (hx:x=aB 27 [s]) (hn:n=aB 0 [s]):(0<=(0:Int)/\0<=n/\n<=((ab x).length:Int))/\∀y,y=aB 22 [x,0,n]->ah 86 [y]:=by
 have h1:ab x=(aa s).map λb=>[(b.toNat:Int)]:=by rw[hx];exact di _
 have h2:n=((ab x).length:Int):=by rw[hn,h1,jW];rfl
 refine⟨⟨bO _,by omega,by omega⟩,λy hy=>?_⟩;show ∀row∈ab y,row.getD 0 0<128;rw[whole h2 hy,h1];intro row hr;obtain⟨b,hb,rfl⟩:=List.mem_map.1 hr;have:=UInt8.lt_iff_toNat_lt.1 (ha b hb);show(b.toNat:Int)<128;simp at this;omega
theorem aq7:L3 SB (dS SB [.d .bool] 677):=by
 delta L3 bm bj a8 dT dh bT;dsimp only
 intro r0 h0 ha z5 _ _ _ aq _ _ h6 z7 _ _ h7 ak _ _;have ha:iA (ar r0 2 0):=ha;obtain⟨g1,g2⟩:=De ha h6 h7;refine⟨g1,λz9 _ _ bE=>⟨g2 z9 bE,λaC _ _ cW=>?_⟩⟩;have cW:aC=1:=cW;rw[cW];exact⟨⟨by decide,by decide,trivial⟩,rfl⟩
def My (z0:Int) (bl:List (List Int)):Prop:=∃i:Nat,bl=[[(i:Int)]]/\i<=(ab z0).length
theorem ahj {a b:Int} (h:mc a b) {i:Nat} (hi:i<(ab a).length):iA (((ab a).getD i []).getD 0 0):=by
 refine h.2.2.1 _ ?_;simp[ar,hi]
theorem ahk {a b:Int} (h:mc a b) {i:Nat} (hi:i<(ab b).length):iA (((ab b).getD i []).getD 2 0):=by
 refine h.2.2.2.1 _ ?_;simp[ar,hi]
theorem aq5:L1 SB (dS SB [.d .bool] 642):=by
 delta L1 aE cz bm fw bC fa bj cQ a8 cP dT dh dF aM bT eI;dsimp only
 intro z0 a0 a1 af b0 b1 h z2 _ z3 _ _ z4 _ c1 h4 z5 _ aq _ _ z7 _ d1 h7;have h:mc z0 af:=h;have h4:z4=((ab z0).length:Int):=h4;have h7:z7=((ab af).length:Int):=h7;have hl:(ab z0).length=(ab af).length:=h.1;have P0:dS SB [.d .bool] 642 [[z0],[af]] [[cond true 1 0]]:=⟨⟨by decide,by decide,trivial⟩,rfl⟩;have X5:∀{x y:Int},SB 640 [[x]] [[y]]->y=1:=λh=>h;refine both ⟨λhe=>?_,λ_=>?_⟩
 ·have he:=of_decide_eq_false (MT he);omega
 refine⟨My z0,HG z0,⟨0,rfl,kW _⟩,?_⟩
 rintro z9 e0 e1 ⟨i,e,hi⟩
 obtain rfl:z9=i:=by simpa using e
 refine⟨λhlt=>?_,λ_=>?_⟩
 ·have hlt:=of_decide_eq_true hlt;have dv:i<(ab z0).length:=by omega
  refine⟨⟨by omega,by omega⟩,⟨by omega,by omega⟩,λaC _ _ cW aD _ _ h11 z12 _ _ fr aU _ _=>?_⟩;have Dz:aC=((ab z0).getD i []).getD 0 0:=by rw[cW];simp only[aB,ek];rfl
  have ha:iA aC:=by rw[Dz];exact ahj h dv
  obtain⟨g1,g2⟩:=De ha h11 fr;refine⟨g1,λaP _ _ hE=>⟨g2 aP hE,λaw _ _ jj=>⟨λhq=>?_,λ_=>⟨λhp=>?_,λhp=>?_⟩⟩⟩⟩
  ·rw[X5 jj]at hq;cases hq
  ·have hp:=of_decide_eq_true hp;have p9:(i:Int)+(-1)=((i-1:Nat):Int):=by omega
   refine⟨⟨by omega,by omega⟩,⟨by omega,by omega⟩,λbF _ _ kQ bY _ _ iU=>⟨λhq=>?_,λ_ aF x0 x1 x2 x3=>⟨⟨by omega,by omega⟩,⟨i+1,by rw[show(i:Int)+(-0x10000000000000000)*aF+1=((i+1:Nat):Int) by omega],by omega⟩,?_⟩⟩⟩
   ·rw[p9]at kQ;have Nq:bF=((ab z0).getD (i-1) []).getD 0 0:=by rw[kQ];simp only[aB,ek];rfl
    have hr:=h.2.2.2.2 (i-1) i (by omega) dv;rw[<-Nq,<-Dz]at hr;have iU:bY=if dV (aa bF) (aa aC)=true then 1 else 0:=iU
    rw[if_pos hr]at iU;rw[iU]at hq;cases hq
   ·show(ab z0).length-((i:Int)+(-0x10000000000000000)*aF+1).toNat<(ab z0).length-((i:Int)).toNat;omega
  ·have hp:=of_decide_eq_false hp;obtain rfl:i=0:=by omega
   refine⟨⟨1,rfl,by omega⟩,?_⟩;show(ab z0).length-(1:Int).toNat<(ab z0).length-((0:Nat):Int).toNat;omega
 refine⟨My af,HG af,⟨0,rfl,kW _⟩,?_⟩
 rintro aD e0 e1 ⟨i,e,hi⟩
 obtain rfl:aD=i:=by simpa using e
 refine⟨λhlt=>?_,λ_=>P0⟩;have hlt:=of_decide_eq_true hlt;have dv:i<(ab af).length:=by omega
 refine⟨⟨by omega,by omega⟩,⟨by omega,by omega⟩,λz12 _ _ _ aU _ _ _ aP _ _ hE aw _ _ _ bF _ _ kQ bY _ _ iU aF _ _=>?_⟩;have AG:aP=((ab af).getD i []).getD 2 0:=by rw[hE];simp only[aB,ek];rfl
 have ha:iA aP:=by rw[AG];exact ahk h dv
 obtain⟨g1,g2⟩:=De ha kQ iU;refine⟨g1,λdH _ _ DR=>⟨g2 dH DR,λz20 _ _ AT=>⟨λhq=>?_,λ_ z21 x0 x1 x2 x3=>⟨⟨by omega,by omega⟩,⟨i+1,by rw[show(i:Int)+(-0x10000000000000000)*z21+1=((i+1:Nat):Int) by omega],by omega⟩,?_⟩⟩⟩⟩
 ·rw[X5 AT]at hq;cases hq
 ·show(ab af).length-((i:Int)+(-0x10000000000000000)*z21+1).toNat<(ab af).length-((i:Int)).toNat;omega
end Go.aX
namespace Go.aX
open Go Go.aW
def LW (S:zzS) (K:zzK):Prop:=cQ λz0=>(ah 66 [z0]->bC λaf=>bm (-2) bT λz2=>bj 20 [z0] λz3=>(ah 53 [z2,z3]->(aE (decide (z2=(-1))) (K [[z0]] [[0]]) (ah 22 [z0,0,z3]/\ah 23 [0,z3]/\a8 22 [z0,0,z3] λz4=>a8 24 [0,z4] λz5=>(aE (decide (z3<=0)) (K [[z0]] [[0]]) (bm (-2) bT λaq=>ah 22 [z5,0,z3]/\a8 22 [z5,0,z3] λz7=>K [[z0]] [[z7]]))))))
def LX (S:zzS) (K:zzK):Prop:=cQ λz0=>(ah 66 [z0]->bC λaf=>bm (-2) bT λz2=>bj 20 [z0] λz3=>(ah 53 [z2,z3]->(aE (decide (z2=(-1))) (K [[z0]] [[0]]) (ah 22 [z0,0,z3]/\ah 23 [0,z3]/\a8 22 [z0,0,z3] λz4=>a8 24 [0,z4] λz5=>(aE (decide (z3<=0)) (K [[z0]] [[0]]) (bm (-2) bT λaq=>ah 22 [z5,0,z3]/\a8 22 [z5,0,z3] λz7=>K [[z0]] [[z7]]))))))
def L8 (S:zzS) (K:zzK):Prop:=cl λz0=>dh 4 [z0,0] λaf=>(aE ((!(decide (af=1)))) (bj 0 [z0] λz2=>(aE (decide (z2<=64)) (dT λz3=>S 400 [[z0]] [[z3]]->(aE (decide (z3=1)) (dT λz4=>S 501 [[z0]] [[z4]]->K [[z0]] [[(cond ((!(decide (z4=1)))) 1 0)]]) (K [[z0]] [[(cond (false) 1 0)]]))) (K [[z0]] [[(cond (false) 1 0)]]))) (K [[z0]] [[(cond (false) 1 0)]]))
def L5 (S:zzS) (K:zzK):Prop:=cQ λz0=>cl λaf=>bC λz2=>bm (-2) bT λz3=>bj 20 [z0] λz4=>∃(ix:List (List Int)->Prop) (jA:List (List Int)->Nat),ix [[0],[z4]]/\(fa λaq=>fa λz7=>ix [[aq],[z7]]->(aE (decide (aq<z7)) (cz ((aq+z7)+0x8000000000000000) dF λak=>bQ (-1) 0 (aq+(z7+(aM*ak))) dF λz9=>bQ 0 bT (aq+(z7+((aM*ak)+(aM*z9)))) 2 λaC=>ah 30 [aC,z4]/\ah 21 [z0,aC]/\cP 21 [z0,aC,0] λaD=>dh 4 [aD,aD] λz12=>(aE ((!(decide (z12=1)))) (dh 4 [af,af] λaU=>(aE (decide (aU=1)) (cz (aC+eI) dF λaP=>ah 39 [((aC+(aM*aP))+1),0,bT]/\(ix [[((aC+(aM*aP))+1)],[z7]]/\jA [[((aC+(aM*aP))+1)],[z7]]<jA [[aq],[z7]])) (dh 5 [aD,af] λaP=>(aE (decide (aP=1)) (cz (aC+eI) dF λaw=>ah 39 [((aC+(aM*aw))+1),0,bT]/\(ix [[((aC+(aM*aw))+1)],[z7]]/\jA [[((aC+(aM*aw))+1)],[z7]]<jA [[aq],[z7]])) ((ix [[aq],[aC]]/\jA [[aq],[aC]]<jA [[aq],[z7]])))))) (dh 5 [aD,af] λaU=>(aE (decide (aU=1)) (cz (aC+eI) dF λaP=>ah 39 [((aC+(aM*aP))+1),0,bT]/\(ix [[((aC+(aM*aP))+1)],[z7]]/\jA [[((aC+(aM*aP))+1)],[z7]]<jA [[aq],[z7]])) ((ix [[aq],[aC]]/\jA [[aq],[aC]]<jA [[aq],[z7]])))))) ((aE (decide (aq<z4)) (ah 30 [aq,z4]/\ah 21 [z0,aq]/\cP 21 [z0,aq,0] λak=>dh 4 [ak,af] λz9=>(aE (decide (z9=1)) (K [[z0],[af]] [[aq],[(cond (true) 1 0)]]) (ah 30 [aq,z4]/\ah 21 [z0,aq]/\cP 21 [z0,aq,0] λaC=>dh 4 [aC,aC] λaD=>(aE ((!(decide (aD=1)))) (dh 4 [af,af] λz12=>K [[z0],[af]] [[aq],[(cond ((!(decide (z12=1)))) 1 0)]]) (K [[z0],[af]] [[aq],[(cond (false) 1 0)]]))))) (K [[z0],[af]] [[aq],[(cond (false) 1 0)]])))))
theorem aaS {z:Int} (h:(ab z).length=0):ab z=[]:=ra h
theorem aqP:LW SB (dS SB [Kr] 683):=by
 delta LW aE bm bC bj cQ a8 bT;dsimp only
 intro z0 a0 a1 hp af b1 z2 bW c1 z3 d0 d1 h3 hn;have h3:z3=((ab z0).length:Int):=h3;have hl:(ab z0).length<=1000000:=hp;have hn:z2<0->z3=0:=hn;have fin:∀z,0<=z->z<=bV->ab z=ab z0->dS SB [Kr] 683 [[z0]] [[z]]:=λz h1 h2 h=>⟨⟨h1,h2,trivial⟩,h⟩;have e0:z3<=0->dS SB [Kr] 683 [[z0]] [[0]]:=λh=>fin 0 (bO _) sG (by rw[eV,aaS (z:=z0) (by omega)]);refine⟨λh=>e0 (by have h:=of_decide_eq_true h;have:=hn (by omega);omega),λh=>⟨⟨bO _,by omega,by rw[h3];exact bO _⟩,by show(ab 0).length+z3<=1073741824;rw[eV];simp only[fe];omega,λz4 f0 f1 h4 z5 g0 g1 h5=>?_⟩⟩;have h4:=whole h3 h4;have h5:ab z5=ab z0:=by
  rw[h5];show ab (rc (ab 0++ab z4))=_
  rw[di,eV,h4];rfl
 refine⟨λh=>e0 (of_decide_eq_true h),λh aq i0 i1=>⟨⟨bO _,by omega,by rw[h3,h5];exact bO _⟩,λz7 e9 cm h7=>fin z7 e9 cm ?_⟩⟩;rw[whole (by rw[h5];exact h3) h7,h5]
theorem aqT:LX SB (dS SB [Kk] 684):=by
 delta LX aE bm bC bj cQ a8 bT;dsimp only
 intro z0 a0 a1 hp af b1 z2 bW c1 z3 d0 d1 h3 hn;have h3:z3=((ab z0).length:Int):=h3;have hl:(ab z0).length<=1000000:=hp;have hn:z2<0->z3=0:=hn;have fin:∀z,0<=z->z<=bV->ab z=ab z0->dS SB [Kk] 684 [[z0]] [[z]]:=λz h1 h2 h=>⟨⟨h1,h2,trivial⟩,h⟩;have e0:z3<=0->dS SB [Kk] 684 [[z0]] [[0]]:=λh=>fin 0 (bO _) sG (by rw[eV,aaS (z:=z0) (by omega)]);refine⟨λh=>e0 (by have h:=of_decide_eq_true h;have:=hn (by omega);omega),λh=>⟨⟨bO _,by omega,by rw[h3];exact bO _⟩,by show(ab 0).length+z3<=1073741824;rw[eV];simp only[fe];omega,λz4 f0 f1 h4 z5 g0 g1 h5=>?_⟩⟩;have h4:=whole h3 h4;have h5:ab z5=ab z0:=by
  rw[h5];show ab (rc (ab 0++ab z4))=_
  rw[di,eV,h4];rfl
 refine⟨λh=>e0 (of_decide_eq_true h),λh aq i0 i1=>⟨⟨bO _,by omega,by rw[h3,h5];exact bO _⟩,λz7 e9 cm h7=>fin z7 e9 cm ?_⟩⟩;rw[whole (by rw[h5];exact h3) h7,h5]
theorem arh:L8 SB (bS SB [.bool] 670):=by
 delta L8 aE bj cl dT dh;dsimp only
 intro z0 n0 n1 af _ _ h1;have h1:=sT h1;have Jn:aa (0:Int)=[]:=rfl;have cf:∀b:Bool,e5 (aa z0)=b->bS SB [.bool] 670 [[z0]] [[cond b 1 0]]:=λb h=>⟨by cases b<;>exact⟨by decide,by decide,trivial⟩,by show cond b (1:Int) 0=bx (e5 (aa z0));rw[h];rfl⟩;have he:decide (af=1)=(aa z0).isEmpty:=by
  rw[h1,Jn];cases hz:aa z0<;>simp
 refine⟨λhq z2 _ _ h2=>?_,λhq=>cf false ?_⟩
 ·have hq:(aa z0).isEmpty=false:=by rw[<-he];exact MT hq
  have h2:z2=((aa z0).length:Int):=h2;refine⟨λhl z3 _ _ h3=>?_,λhl=>cf false ?_⟩
  ·have hl:=of_decide_eq_true hl;have h3:=nf (show z3=bx (tA (aa z0)) from h3);refine⟨λhp z4 _ _ h4=>cf _ ?_,λhp=>cf false ?_⟩
   ·have h4:=nf (show z4=bx ((aa z0).contains 32) from h4);unfold e5;rw[hq,<-h3,hp,h4,adm (by omega)];rfl
   ·unfold e5;rw[<-h3,hp];simp
  ·have hl:=of_decide_eq_false hl;unfold e5;rw[show bp (aa z0).length 64=false from by rw[Bool.eq_false_iff];intro h;have:=et h;omega];simp
 ·have hq:(aa z0).isEmpty=true:=by rw[<-he];exact UR hq
  unfold e5;rw[hq];rfl
def aef (z0:Int) (t:au) (bl:List (List Int)):Prop:=∃lo hi:Nat,bl=[[(lo:Int)],[(hi:Int)]]/\lo<=hi/\hi<=(bA z0).length/\((bA z0).Pairwise (λa b=>dV a b=true)->(∀j:Nat,j<lo->dV ((bA z0).getD j []) t=true)/\∀j:Nat,hi<=j->j<(bA z0).length->dV ((bA z0).getD j []) t=false)
def aeg (bl:List (List Int)):Nat:=((bl.getD 1 []).getD 0 0).toNat-((bl.getD 0 []).getD 0 0).toNat
theorem QN {l:List au} (h:l.Pairwise (λa b=>dV a b=true)) {j k:Nat} (hjk:j<k) (hk:k<l.length):dV (l.getD j []) (l.getD k [])=true:=by
 have:=List.pairwise_iff_getElem.1 h j k (by omega) hk hjk;simpa [ar,show j<l.length by omega,hk]using this
theorem eq_self {z a:Int} (h:z=aB 4 [a,a]):z=1:=by
 rw[h];show(if aa a=aa a then(1:Int)else 0)=1
 rw[if_pos rfl]
theorem anf {z a b:Int} (h:z=aB 5 [a,b]):decide (z=1)=dV (aa a) (aa b):=by
 rw[h];show decide ((if dV (aa a) (aa b)=true then(1:Int)else 0)=1)=_
 cases dV (aa a) (aa b)<;>rfl
theorem aq9:L5 SB (dS SB [.d (.int .i64 0 0x7fffffffffffffff),.d .bool] 671):=by
 delta L5 aE cz bQ bm bC fa bj cQ cl cP dh dF aM bT eI;dsimp only
 intro z0 a0 a1 af n0 n1 z2 _ z3 _ _ z4 b0 b1 h4;have h4:z4=((ab z0).length:Int):=h4;have hlen:=sq z0;have aaU:∀{z i:Int} {k:Nat},i=(k:Int)->k<(ab z0).length->z=aB 21 [z0,i,0]->aa z=(bA z0).getD k []:=λhi hk h=>by
  rw[Cy hk,h,hi];rfl
 generalize ht:aa af=t;refine⟨aef z0 t,aeg,⟨0,(ab z0).length,by rw[h4];rfl,kW _,by omega,λ_=>⟨λj h=>absurd h (adF j),λj h h2=>by omega⟩⟩,?_⟩
 rintro aq bW c1 z7 d0 d1 ⟨lo,hi,e,aAT,akj,hI⟩
 obtain⟨rfl,rfl⟩:aq=lo/\z7=hi:=by simpa using e
 refine⟨λhlt ak e0 e1 e2 e3 z9 f0 f1 f2 f3 aC g0 g1 g2 g3=>?_,λe8=>?_⟩
 ·have hlt:=of_decide_eq_true hlt;have Yx:ak+z9=0:=by omega
  have h11:aC=(((lo+hi)/2:Nat):Int):=by omega
  generalize hk:(lo+hi)/2=k at h11;have iE:lo<=k:=by omega
  have hk2:k<hi:=by omega
  subst h11;have Eu:k<(ab z0).length:=by omega
  have gK:k<(bA z0).length:=by omega
  refine⟨⟨by omega,by omega⟩,⟨by omega,by omega⟩,λaD _ _ h11 z12 _ _ fr=>?_⟩;have fr:=eq_self fr;refine⟨λhn=>(by rw[fr]at hn;cases hn),λ_ aU _ _ ga=>?_⟩;have ga:=anf ga;rw[aaU (k:=k) rfl Eu h11,ht]at ga;refine⟨λhn aF i0 i1 i2 i3=>⟨⟨by omega,by omega⟩,⟨k+1,hi,by rw[show((k:Int)+(-0x10000000000000000)*aF)+1=((k+1:Nat):Int) by omega],by omega,akj,λhr=>⟨λj hj=>?_,(hI hr).2⟩⟩,?_⟩,λhn=>⟨⟨lo,k,rfl,iE,by omega,λhr=>⟨(hI hr).1,λj hj hl=>?_⟩⟩,?_⟩⟩
  ·have hb:dV ((bA z0).getD k []) t=true:=by rw[<-ga];exact hn
   rcases m6 j k with h|h
   ·exact FA _ _ _ (QN hr h gK) hb
   ·rw[show j=k by omega];exact hb
  ·show((hi:Int)).toNat-(((k:Int)+(-0x10000000000000000)*aF)+1).toNat<((hi:Int)).toNat-((lo:Int)).toNat;omega
  ·have hb:dV ((bA z0).getD k []) t=false:=by rw[<-ga];exact hn
   rcases m6 k j with h|h
   ·cases n7:dV ((bA z0).getD j []) t with
    |false=>rfl
    |true=>rw[FA _ _ _ (QN hr h hl) n7]at hb;cases hb
   ·rw[show j=k by omega];exact hb
  ·show((k:Int)).toNat-((lo:Int)).toNat<((hi:Int)).toNat-((lo:Int)).toNat;omega
 ·have e8:=of_decide_eq_false e8;have ag:hi=lo:=by omega
  subst ag;have cf:∀f:Bool,(f=true↔hi<(bA z0).length/\(bA z0).getD hi []=t)->dS SB [.d (.int .i64 0 0x7fffffffffffffff),.d .bool] 671 [[z0],[af]] [[(hi:Int)],[cond f 1 0]]:=λf hf=>by
   refine⟨⟨by omega,c1,by cases f<;>decide,by cases f<;>decide,trivial⟩,?_⟩;show Ag (bA z0) (aa af) (hi:Int) (cond f 1 0);rw[ht];refine⟨⟨by omega,by omega⟩,λh=>?_,λhr=>⟨λj hj=>(hI hr).1 j (by omega),λj h1 h2=>(hI hr).2 j (by omega) h2,?_⟩⟩
   ·have:f=true:=by cases f with|true=>rfl|false=>cases h
    have:=(hf.1 this).1;omega
   ·rw[ek];cases f with
    |true=>exact⟨λ_=>⟨by have:=(hf.1 rfl).1;omega,(hf.1 rfl).2⟩,λ_=>rfl⟩
    |false=>exact⟨λh=>(by cases h),λh=>(by have:=hf.2 ⟨by omega,h.2⟩;cases this)⟩
  refine⟨λhl=>?_,λhl=>?_⟩
  ·have hl:=of_decide_eq_true hl;have Eu:hi<(ab z0).length:=by omega
   refine⟨⟨by omega,by omega⟩,⟨by omega,by omega⟩,λak _ _ h8 z9 _ _ bE=>?_⟩;have bE:=sT bE;rw[aaU (k:=hi) rfl Eu h8,ht]at bE;refine⟨λhn=>cf true ⟨λ_=>⟨by omega,?_⟩,λ_=>rfl⟩,λhn=>⟨⟨by omega,by omega⟩,⟨by omega,by omega⟩,λaC _ _ _ aD _ _ h11=>⟨λhq=>(by rw[eq_self h11]at hq;cases hq),λ_=>cf false ⟨λh=>(by cases h),λh=>?_⟩⟩⟩⟩
   ·rw[bE]at hn;exact of_decide_eq_true hn
   ·rw[bE]at hn;exact absurd h.2 (of_decide_eq_false hn)
  ·have hl:=of_decide_eq_false hl;exact cf false ⟨λh=>(by cases h),λh=>(by omega)⟩
end Go.aX
namespace Go.aX
open Go Go.aW
theorem RZ:∀(l m:List au) (j:Nat),(l.zip m).take j=(l.take j).zip (m.take j)
 |[],_,j=>by cases j<;>simp
 |_::_,[],j=>by cases j<;>simp
 |x::l,y::m,0=>rfl
 |x::l,y::m,j+1=>by simp[RZ l m j]
theorem VA:∀(l m:List au) (j:Nat),(l.zip m).drop j=(l.drop j).zip (m.drop j)
 |[],_,j=>by cases j<;>simp
 |_::_,[],j=>by cases j<;>simp
 |x::l,y::m,0=>rfl
 |x::l,y::m,j+1=>by simp[VA l m j]
abbrev FC:au->au->Prop:=λa b=>dV a b=true
def iS (t:au):Prop:=∀b∈t,b<128
theorem auX (z:Int):(gO z).length=(ab z).length:=by simp[gO]
theorem NU {a b:Int}:mc a b↔(bA a).length=(gO b).length/\(bA a).length<=1000000/\(∀t∈bA a,iS t)/\(∀t∈gO b,iS t)/\(bA a).Pairwise FC:=by
 unfold mc;rw[sq,auX];refine and_congr_right λ_=>and_congr_right λ_=>and_congr ?_ (and_congr ?_ ?_)
 ·unfold bA;constructor
  ·intro h t ht;obtain⟨row,hr,rfl⟩:=List.mem_map.1 ht;exact h row hr
  ·intro h row hr;exact h _ (List.mem_map.2 ⟨row,hr,rfl⟩)
 ·unfold gO;constructor
  ·intro h t ht;obtain⟨row,hr,rfl⟩:=List.mem_map.1 ht;exact h row hr
  ·intro h row hr;exact h _ (List.mem_map.2 ⟨row,hr,rfl⟩)
 ·rw[List.pairwise_iff_getElem];constructor
  ·intro h i j hi hj uQ;have:=h i j uQ (by rw[<-sq];exact hj);rw[<-Cy (by rw[<-sq];exact hi),<-Cy (by rw[<-sq];exact hj)]at this;simpa [ar,hi,hj]using this
  ·intro h i j uQ hj;have hj':j<(bA a).length:=by rw[sq];exact hj
   have nv:i<(bA a).length:=by omega
   have:=h i j nv hj' uQ;rw[<-Cy (by omega),<-Cy hj];simpa [ar,nv,hj']using this
theorem V0:∀(l m:List au) (s:au),l.length=m.length->(l.findIdx? λx=>decide (x=s)).map (λi=>m.getD i [])=((l.zip m).find? λp=>decide (p.1=s)).map (·.2)
 |[],[],s,_=>rfl
 |x::l,y::m,s,h=>by
  have ih:=V0 l m s (by simpa using h);rw[List.findIdx?_cons,List.zip_cons_cons,z8];cases hd:decide (x=s)with
  |true=>simp
  |false=>
   simp only[Bool.false_eq_true,if_false,Option.map_map];rw[<-ih]
   congr 1
 |[],_::_,_,h=>by cases h
 |_::_,[],_,h=>by cases h
theorem IK {a b:Int} (h:(bA a).length=(gO b).length) (s:au):pY a b s=(((bA a).zip (gO b)).find? λp=>decide (p.1=s)).map (·.2):=by
 unfold pY ot;exact V0 _ _ s h
theorem ahc {l:List (au×au)} {i:Nat} {s t j8:au} (h:∀p∈l.take i,p.1≠s):((l.take i++[(s,t)]++l.drop i).find? λp=>decide (p.1=j8)).map (·.2)=cond (decide (j8=s)) (some t) ((l.find? λp=>decide (p.1=j8)).map (·.2)):=by
 rw[eG,S1,qx,gv,z8];by_cases e:j8=s
 ·subst e;have h0:((l.take i).find? λp=>decide (p.1=j8))=none:=by
   rw[azf];intro p hp;simpa using h p hp
  rw[h0];simp
 ·have pQ:¬s=j8:=λh=>e h.symm;simp only[pQ,e,decide_false,cond_false];rw[<-S1,jy]
theorem ahe {l:List (au×au)} {i:Nat} {s t o j8:au} (hi:i<l.length) (ho:l[i]=(s,o)) (h:∀p∈l.take i,p.1≠s):((l.set i (s,t)).find? λp=>decide (p.1=j8)).map (·.2)=cond (decide (j8=s)) (some t) ((l.find? λp=>decide (p.1=j8)).map (·.2)):=by
 have e1:l.set i (s,t)=l.take i++(s,t)::l.drop (i+1):=by rw[List.set_eq_take_append_cons_drop,if_pos hi]
 have e2:l.find? (λp=>decide (p.1=j8))=(l.take i++(s,o)::l.drop (i+1)).find? (λp=>decide (p.1=j8)):=by
  congr 1
  rw[<-ho,<-G0 hi,jy]
 rw[e1,e2,S1,S1,z8,z8];by_cases e:j8=s
 ·subst e;have h0:((l.take i).find? λp=>decide (p.1=j8))=none:=by
   rw[azf];intro p hp;simpa using h p hp
  rw[h0];simp
 ·have pQ:¬s=j8:=λh=>e h.symm;simp only[pQ,e,decide_false,cond_false]
theorem asl {l:List au} {i:Nat} {s:au} (hl:l.Pairwise FC) (h1:∀x∈l.take i,FC x s) (h2:∀x∈l.drop i,FC s x):(l.take i++[s]++l.drop i).Pairwise FC:=by
 rw[eG,List.pairwise_append,qx,gv,List.pairwise_cons];refine⟨hl.sublist (List.take_sublist i l),⟨h2,hl.sublist (List.drop_sublist i l)⟩,λx hx y hy=>?_⟩;rcases List.mem_cons.1 hy with rfl|hy
 ·exact h1 x hx
 ·exact FA _ _ _ (h1 x hx) (h2 y hy)
theorem ang {x y:au} (h:dV x y=true):x≠y:=λe=>by rw[e,Zo]at h;cases h
theorem asj {a b s t a' b' k n u v:Int} (h:mc a b) (hp:vZ a b s [k,n,t,u,v] a' b') (hs:iA s) (ht:iA t) (hl:(ab a).length<1000000):
 mc a' b'/\(ab a').length<=(ab a).length+1/\∀j8,pY a' b' j8=cond (decide (j8=aa s)) (some (aa t)) (pY a b j8):=by
 obtain⟨g1,g2,g3,g4,g5⟩:=NU.1 h;obtain⟨i,f,⟨⟨p1,aJ⟩,bb,b7⟩,q1,q2⟩:=hp;obtain⟨dD,eo,pn⟩:=b7 g5;obtain⟨j,rfl⟩:∃j:Nat,i=j:=⟨i.toNat,by omega⟩;rw[ek]at q1 q2 pn;have OW:j<=(bA a).length:=by omega
 have hlt:∀x∈(bA a).take j,dV x (aa s)=true:=λx hx=>by
  obtain⟨m,hm,rfl⟩:=SA hx;have uS:m<j/\m<(bA a).length:=by rw[ly]at hm;omega
  have:=dD m (by omega);simpa [ar,uS.2]using this
 have hz:∀p∈((bA a).zip (gO b)).take j,p.1≠aa s:=λp hp=>by
  rw[RZ]at hp;exact ang (hlt p.1 (List.of_mem_zip hp).1)
 by_cases hf:f=1
 ·obtain⟨r1,r2⟩:=q1 hf;obtain⟨r3,fN⟩:=pn.1 hf;have hj:j<(bA a).length:=by omega
  have e1:bA a'=bA a:=by unfold bA;rw[r1]
  have e2:gO b'=(gO b).set j (aa t):=by unfold gO;rw[r2,acV];rfl
  have mO:j<((bA a).zip (gO b)).length:=by rw[List.length_zip];omega
  have alK:((bA a).zip (gO b))[j]=(aa s,(gO b).getD j []):=by
   rw[adH];have h1:(bA a)[j]=aa s:=by simpa [ar,hj]using fN
   rw[h1];simp[ar,show j<(gO b).length by omega]
  have e3:(bA a').zip (gO b')=((bA a).zip (gO b)).set j (aa s,aa t):=by
   rw[e1,e2];refine LB (by simp) λm O3 rU=>?_;rw[adH,adI,adI,adH];by_cases hm:j=m
   ·subst hm;have h1:(bA a)[j]=aa s:=by simpa [ar,hj]using fN
    simp[h1]
   ·simp[hm]
  refine⟨NU.2 ⟨by rw[e1,e2,adG];exact g1,by rw[e1];exact g2,by rw[e1];exact g3,λx hx=>?_,by rw[e1];exact g5⟩,by rw[r1];omega,λj8=>?_⟩
  ·rw[e2]at hx;rcases List.mem_or_eq_of_mem_set hx with hx|rfl
   ·exact g4 x hx
   ·exact ht
  ·rw[IK (by rw[e1,e2,adG];exact g1),IK g1,e3];exact ahe mO alK hz
 ·obtain⟨r1,r2⟩:=q2 hf;have e1:bA a'=(bA a).take j++[aa s]++(bA a).drop j:=by unfold bA;rw[r1];simp[zS,zT]
  have e2:gO b'=(gO b).take j++[aa t]++(gO b).drop j:=by unfold gO;rw[r2];simp[zS,zT]
  have I8:∀x∈(bA a).drop j,dV (aa s) x=true:=λx hx=>by
   obtain⟨m,hm,rfl⟩:=SA hx;rw[q9]at hm;rw[List.getElem_drop];have hj:j<(bA a).length:=by omega
   have hne:(bA a).getD j []≠aa s:=λe=>hf (pn.2 ⟨by omega,e⟩);have h0:=eo j (bO _) hj;have yJ:dV (aa s) ((bA a).getD j [])=true:=by
    rcases Zq (aa s) ((bA a).getD j [])with h|h|h
    ·exact h
    ·rw[h0]at h;cases h
    ·exact absurd h.symm hne
   rcases Nat.eq_zero_or_pos m with h|h
   ·subst h;simpa [ar,hj]using yJ
   ·have:=QN g5 (show j<j+m by omega) (by omega);have:=FA _ _ _ yJ this;simpa [ar,show j+m<(bA a).length by omega]using this
  have e3:(bA a').zip (gO b')=((bA a).zip (gO b)).take j++[(aa s,aa t)]++((bA a).zip (gO b)).drop j:=by
   rw[e1,e2,azg (by simp;omega),azg (by simp;omega),RZ,VA];rfl
  have hlen:(bA a').length=(bA a).length+1:=by rw[e1];simp;omega
  have wP:(gO b').length=(gO b).length+1:=by rw[e2];simp;omega
  have yO:=sq a;have aAQ:=sq a';refine⟨NU.2 ⟨by rw[hlen,wP,g1],by omega,λx hx=>?_,λx hx=>?_,?_⟩,by omega,λj8=>?_⟩
  ·rw[e1]at hx;rcases List.mem_append.1 hx with hx|hx
   ·rcases List.mem_append.1 hx with hx|hx
    ·exact g3 x (kh hx)
    ·rw[List.mem_singleton.1 hx];exact hs
   ·exact g3 x (nS hx)
  ·rw[e2]at hx;rcases List.mem_append.1 hx with hx|hx
   ·rcases List.mem_append.1 hx with hx|hx
    ·exact g4 x (kh hx)
    ·rw[List.mem_singleton.1 hx];exact ht
   ·exact g4 x (nS hx)
  ·rw[e1];exact asl g5 hlt I8
  ·rw[IK (by rw[hlen,wP,g1]),IK g1,e3];exact ahc hz
end Go.aX
namespace Go.aX
open Go Go.aW
def L4 (S:zzS) (K:zzK):Prop:=cQ λz0=>cQ λaf=>cl λz2=>∀r3:List Int,bd [(4,4),(0,0),(0,b8),(0,0),(0,0)] r3->(ah 87 [z0,af,z2,(ar r3 0 0),(ar r3 1 0),(ar r3 2 0),(ar r3 3 0),(ar r3 4 0)]->bC λak=>bm (-2) bT λz9=>bj 20 [z0] λaC=>bC λaD=>bm (-2) bT λz12=>bj 20 [af] λaU=>ah 22 [z0,0,aC]/\a8 22 [z0,0,aC] λaP=>ah 22 [af,0,aU]/\a8 22 [af,0,aU] λaw=>ah 88 [aP,aw]/\dT λbF=>S 642 [[aP],[aw]] [[bF]]->(aE ((!(decide (bF=1)))) (K [[z0],[af],[z2],r3] [[0],[0],[0],[0],[0],[1]]) (ah 89 [(ar r3 0 0),(ar r3 1 0),(ar r3 2 0),0,0]/\dT λbY=>S 677 [[(ar r3 0 0),(ar r3 1 0),(ar r3 2 0),0,0]] [[bY]]->(aE ((!(decide (bY=1)))) (K [[z0],[af],[z2],r3] [[0],[0],[0],[0],[0],[1]]) (a8 27 [z2] λaF=>bj 0 [z2] λdH=>bm (-2) bT λz20=>ah 22 [aF,0,dH]/\a8 22 [aF,0,dH] λz21=>ah 86 [z21]/\dT λaI=>S 640 [[z21]] [[aI]]->(aE ((!(decide (aI=1)))) (K [[z0],[af],[z2],r3] [[0],[0],[0],[0],[0],[1]]) (ah 22 [z0,0,aC]/\a8 22 [z0,0,aC] λeB=>ah 22 [af,0,aU]/\a8 22 [af,0,aU] λz24=>ah 87 [eB,z24,z2,(ar r3 0 0),(ar r3 1 0),(ar r3 2 0),0,0]/\bm 6 6 λfB=>bm 0 0 λcq=>cl λjT=>cQ λz28=>cQ λiw=>S 674 [[eB],[z24],[z2],[(ar r3 0 0),(ar r3 1 0),(ar r3 2 0),0,0]] [[fB],[cq],[jT],[z28],[iw]]->bC λlr=>bm (-2) bT λz31=>bj 20 [z28] λjU=>bC λkV=>bm (-2) bT λpz=>bj 20 [iw] λpA=>ah 22 [z28,0,jU]/\a8 22 [z28,0,jU] λqs=>ah 22 [iw,0,pA]/\a8 22 [iw,0,pA] λz37=>K [[z0],[af],[z2],r3] [[fB],[cq],[jT],[qs],[z37],[0]])))))))
def L0 (S:zzS) (K:zzK):Prop:=bm 0 6 λz0=>bm 0 0 λaf=>cl λz2=>cQ λz3=>cQ λz4=>cl λz5=>bC λaq=>bm (-2) bT λz7=>bj 20 [z3] λak=>bC λz9=>bm (-2) bT λaC=>bj 20 [z4] λaD=>(aE ((!(decide (z0=6)))) (K [[z0],[af],[z2],[z3],[z4],[z5]] [[0,0,0,0,0],[(cond (false) 1 0)]]) (∃(xU:List (List Int)->Prop) (Hp:List (List Int)->Nat),xU [[0]]/\(fa λaU=>xU [[aU]]->(aE (decide (aU<ak)) (ah 30 [aU,ak]/\ah 21 [z3,aU]/\cP 21 [z3,aU,0] λaP=>dh 4 [z5,aP] λaw=>(aE (decide (aw=1)) ((aE (decide (aD<=aU)) (K [[z0],[af],[z2],[z3],[z4],[z5]] [[0,0,0,0,0],[(cond (false) 1 0)]]) (ah 30 [aU,aD]/\ah 21 [z4,aU]/\fw 4 4 21 [z4,aU,0] λbF=>fw 0 0 21 [z4,aU,1] λbY=>cP 21 [z4,aU,2] λaF=>K [[z0],[af],[z2],[z3],[z4],[z5]] [[bF,bY,aF,0,0],[(cond (true) 1 0)]]))) (cz (aU+eI) dF λbF=>ah 39 [((aU+(aM*bF))+1),0,bT]/\(xU [[((aU+(aM*bF))+1)]]/\Hp [[((aU+(aM*bF))+1)]]<Hp [[aU]])))) (K [[z0],[af],[z2],[z3],[z4],[z5]] [[0,0,0,0,0],[(cond (false) 1 0)]])))))
theorem Wc {a b a' b':Int} (h:mc a b) (ha:ab a'=ab a) (hb:ab b'=ab b):mc a' b':=by
 unfold mc at h⊢;rw[ha,hb];exact h
theorem aeh {a b s:Int} {r:List Int} {a' b' c d c' d':Int} (h:vZ a b s r a' b') (ha:ab a=ab c) (hb:ab b=ab d) (fs:ab c'=ab a') (hb':ab d'=ab b'):vZ c d s r c' d':=by
 obtain⟨i,f,h1,h2,h3⟩:=h;refine⟨i,f,?_,λh=>?_,λh=>?_⟩
 ·have e:bA c=bA a:=by unfold bA;rw[ha]
  rw[e];exact h1
 ·rw[fs,hb',<-ha,<-hb];exact h2 h
 ·rw[fs,hb',<-ha,<-hb];exact h3 h
theorem P8 {r:List Int} (h:bd [(4,4),(0,0),(0,b8),(0,0),(0,0)] r):[r.getD 0 0,r.getD 1 0,r.getD 2 0,0,0]=r:=by
 match r,h with
 |[a,b,c,d,e],h=>
  obtain⟨_,_,_,_,_,_,h1,h2,h3,h4,_⟩:=h;have:d=0:=by omega
  have:e=0:=by omega
  subst d;subst e;rfl
theorem aq8:L4 SB (dS SB [.d (.int .i64 0 6),.d (.int .i64 0 0),.d .str,.rd [.str],.rd [.int .i64 4 4,.int .i64 0 0,.str,.nil,.nil],.d (.int .i64 0 21)] 675):=by
 delta L4 aE bm bC bj cQ a8 cl dT bT;dsimp only
 intro z0 a0 a1 af b0 b1 z2 n0 n1 r3 Jm h ak _ z9 _ _ aC _ c1 cW aD _ z12 _ _ aU _ d1 ga;obtain⟨h,hs,ht⟩:mc z0 af/\iA z2/\iA (r3.getD 2 0):=h;have cW:aC=((ab z0).length:Int):=cW;have ga:aU=((ab af).length:Int):=ga;have f0:∀{z:Int},z=aB 22 [z0,0,aC]->ab z=ab z0:=λh=>whole cW h;have f1:∀{z:Int},z=aB 22 [af,0,aU]->ab z=ab af:=λh=>whole ga h;have ah5:ah 89 [r3.getD 0 0,r3.getD 1 0,r3.getD 2 0,0,0]:=ht;have atz:∀{x y:Int},SB 640 [[x]] [[y]]->y=1:=λh=>h;refine⟨⟨bO _,by omega,by omega⟩,λaP _ _ hE=>⟨⟨bO _,by omega,by omega⟩,λaw _ _ jj=>⟨Wc h (f0 hE) (f1 jj),λbF _ _ kQ=>⟨λhq=>?_,λ_=>⟨ah5,λbY _ _ iU=>⟨λhq=>?_,λ_ aF _ _ rK dH _ _ DR z20 _ _=>?_⟩⟩⟩⟩⟩⟩
 ·rw[show bF=1 from kQ]at hq;cases hq
 ·rw[show bY=1 from iU]at hq;cases hq
 ·obtain⟨g1,g2⟩:=De hs rK DR;refine⟨g1,λz21 _ _ sZ=>⟨g2 z21 sZ,λaI _ _ N2=>⟨λhq=>?_,λ_=>⟨⟨bO _,by omega,by omega⟩,λeB _ _ Ww=>⟨⟨bO _,by omega,by omega⟩,λz24 _ _ wB=>⟨⟨Wc h (f0 Ww) (f1 wB),hs,ht⟩,λfB iG k1 cq _ _ jT m0 dE z28 p0 p1 iw q0 q1 hp lr _ z31 _ _ jU _ _ yr kV _ pz _ _ pA _ _ ys=>?_⟩⟩⟩⟩⟩⟩
  ·rw[atz N2]at hq;cases hq
  ·have yr:jU=((ab z28).length:Int):=yr;have ys:pA=((ab iw).length:Int):=ys;refine⟨⟨bO _,by omega,by omega⟩,λqs u0 fO ahE=>⟨⟨bO _,by omega,by omega⟩,λz37 v0 v1 wF=>?_⟩⟩;obtain⟨e1,e2,e3,e4⟩:fB=6/\cq=0/\aa jT=[]/\vZ eB z24 z2 [r3.getD 0 0,r3.getD 1 0,r3.getD 2 0,0,0] z28 iw:=hp;rw[P8 Jm]at e4;refine⟨⟨by omega,by omega,by omega,by omega,m0,dE,u0,fO,v0,v1,by decide,by decide,trivial⟩,rfl,e1,e2,e3,aeh e4 (f0 Ww) (f1 wB) (whole yr ahE) (whole ys wF)⟩
def adY (z0:Int) (t:au) (bl:List (List Int)):Prop:=∃i:Nat,bl=[[(i:Int)]]/\i<=(ab z0).length/\∀j:Nat,j<i->(bA z0).getD j []≠t
theorem aq4:L0 SB (dS SB [.d (.mix [.int .i64 0 4,.int .i64 0 0,.str,.nil,.nil]),.d .bool] 676):=by
 delta L0 aE cz bm fw bC fa bj cQ cl cP dh dF aM bT eI;dsimp only
 intro z0 iG k1 af _ _ z2 _ _ z3 a0 a1 z4 b0 b1 z5 n0 n1 aq _ z7 _ _ ak _ c1 h8 z9 _ aC _ _ aD _ d1 h11;have h8:ak=((ab z3).length:Int):=h8;have h11:aD=((ab z4).length:Int):=h11;have hl:=sq z3;have Jn:aa (0:Int)=[]:=rfl;have vf:(∀i,cond (decide (z0=6)) (ot z3 (aa z5)) none=some i->¬i<(ab z4).length)->dS SB [.d (.mix [.int .i64 0 4,.int .i64 0 0,.str,.nil,.nil]),.d .bool] 676 [[z0],[af],[z2],[z3],[z4],[z5]] [[0,0,0,0,0],[cond false 1 0]]:=λh=>by
  refine⟨⟨by decide,by decide,by decide,by decide,bO _,pH,by decide,by decide,by decide,by decide,by decide,by decide,trivial⟩,?_⟩;show match cond (decide (z0=6)) (ot z3 (aa z5)) none with
   |some i=>i<(ab z4).length->(0:Int)=((ab z4).getD i []).getD 2 0/\(0:Int)=1
   |none=>aa (0:Int)=[]/\(0:Int)=0
  cases hc:cond (decide (z0=6)) (ot z3 (aa z5)) none with
  |none=>exact⟨rfl,rfl⟩
  |some i=>exactλhi=>absurd hi (h i hc)
 refine⟨λhq=>vf λi hi=>?_,λhq=>?_⟩
 ·rw[MT hq]at hi;cases hi
 have h6:decide (z0=6)=true:=UR hq;refine⟨adY z3 (aa z5),HG z3,⟨0,rfl,kW _,λj hj=>absurd hj (adF j)⟩,?_⟩
 rintro aU e0 e1 ⟨i,e,hi,hI⟩
 obtain rfl:aU=i:=by simpa using e
 refine⟨λhlt=>?_,λe8=>vf λj hj=>?_⟩
 ·have hlt:=of_decide_eq_true hlt;have dv:i<(ab z3).length:=by omega
  refine⟨⟨by omega,by omega⟩,⟨by omega,by omega⟩,λaP _ _ hE aw _ _ jj=>?_⟩;have AG:aa aP=(bA z3).getD i []:=by rw[Cy dv,hE];simp only[aB,ek];rfl
  have jj:=sT jj;rw[AG]at jj;have A8:decide (aw=1)=true->ot z3 (aa z5)=some i:=λhq=>by
   rw[jj]at hq;have hq:=of_decide_eq_true hq;unfold ot;rw[List.findIdx?_eq_some_iff_getElem];refine⟨by omega,?_,λj hj=>?_⟩
   ·rw[decide_eq_true_eq,hq];simp[ar,show i<(bA z3).length by omega]
   ·have:=hI j hj;simp only[ar,gF (show j<(bA z3).length by omega),qv]at this;simpa using this
  refine⟨λhq=>⟨λhz=>vf λj hj=>?_,λhz=>?_⟩,λhq bF x0 x1 x2 x3=>⟨⟨by omega,by omega⟩,⟨i+1,by rw[show(i:Int)+(-0x10000000000000000)*bF+1=((i+1:Nat):Int) by omega],by omega,λj hj=>?_⟩,?_⟩⟩
  ·rw[h6,cond_true,A8 hq]at hj;cases hj;have:=of_decide_eq_true hz;omega
  ·have hz:=of_decide_eq_false hz;have gT:i<(ab z4).length:=by omega
   refine⟨⟨by omega,by omega⟩,⟨by omega,by omega⟩,λbF p0 p1 kQ bY q0 q1 iU aF r0 r1 rK=>?_⟩;refine⟨⟨by omega,by omega,by omega,by omega,r0,r1,by decide,by decide,by decide,by decide,by decide,by decide,trivial⟩,?_⟩;show match cond (decide (z0=6)) (ot z3 (aa z5)) none with
    |some i=>i<(ab z4).length->aF=((ab z4).getD i []).getD 2 0/\(1:Int)=1
    |none=>aa aF=[]/\(1:Int)=0
   rw[h6,cond_true,A8 hq]
   refineλ_=>⟨?_,rfl⟩
   rw[rK];simp only[aB,ek];rfl
  ·rcases m6 j i with h|h
   ·exact hI j h
   ·obtain rfl:j=i:=by omega
    rw[jj]at hq
    exactλe=>of_decide_eq_false hq e.symm
  ·show(ab z3).length-((i:Int)+(-0x10000000000000000)*bF+1).toNat<(ab z3).length-((i:Int)).toNat;omega
 ·have e8:=of_decide_eq_false e8;rw[h6,cond_true]at hj;unfold ot at hj;obtain⟨yI,n7,_⟩:=List.findIdx?_eq_some_iff_getElem.1 hj;have:=hI j (by omega);simp only[ar,gF yI,qv]at this;exact absurd (of_decide_eq_true n7) this
end Go.aX
namespace Go.aX
open Go Go.aW
def ti (S:zzS) (z2 aw aF z20:Int) (k:Int->Int->Prop):Prop:=ah 31 [aF,z20]/\∀fB:Int,0<=fB->fB<=bV->fB=aB 23 [0,z2]->ah 51 [aF,aw,fB]/\∀cq:Int,0<=cq->cq<=bV->S 672 [[aF],[aw],[fB]] [[cq]]->∀jT:Int,(-2)<=jT->jT<=0x7fffffffffffffff->∀z28:Int,0<=z28->z28<=0x7fffffffffffffff->z28=aB 20 [cq]->k cq z28
def lk (S:zzS) (K:zzK) (z0 af z2:Int) (r3:List Int) (aw aI z24 cq z28:Int):Prop:=ah 31 [aI,z24]/\∀iw:Int,0<=iw->iw<=bV->iw=aB 23 [0,(ar r3 0 0),(ar r3 1 0),(ar r3 2 0),0,0]->ah 51 [aI,aw,iw]/\∀lr:Int,0<=lr->lr<=bV->S 673 [[aI],[aw],[iw]] [[lr]]->∀z31:Int,(-2)<=z31->z31<=0x7fffffffffffffff->∀jU:Int,0<=jU->jU<=0x7fffffffffffffff->jU=aB 20 [lr]->ah 22 [cq,0,z28]/\∀kV:Int,0<=kV->kV<=bV->kV=aB 22 [cq,0,z28]->ah 22 [lr,0,jU]/\∀pz:Int,0<=pz->pz<=bV->pz=aB 22 [lr,0,jU]->K [[z0],[af],[z2],r3] [[6],[0],[0],[kV],[pz]]
def bP (S:zzS) (K:zzK) (z0 af z2:Int) (r3:List Int) (aw aF z20 aI z24:Int):Prop:=ti S z2 aw aF z20 λcq z28=>lk S K z0 af z2 r3 aw aI z24 cq z28
end Go.aX
namespace Go.aX
open Go Go.aW
def L6 (S:zzS) (K:zzK):Prop:=cQ λz0=>cQ λaf=>cl λz2=>∀r3:List Int,bd [(4,4),(0,0),(0,b8),(0,0),(0,0)] r3->(ah 87 [z0,af,z2,(ar r3 0 0),(ar r3 1 0),(ar r3 2 0),(ar r3 3 0),(ar r3 4 0)]->bC λak=>bm (-2) bT λz9=>bj 20 [z0] λaC=>bC λaD=>bm (-2) bT λz12=>bj 20 [af] λaU=>ah 22 [z0,0,aC]/\a8 22 [z0,0,aC] λaP=>fa λaw=>dT λbF=>S 671 [[aP],[z2]] [[aw],[bF]]->ah 22 [z0,0,aC]/\a8 22 [z0,0,aC] λbY=>ah 66 [bY]/\cQ λaF=>S 683 [[bY]] [[aF]]->bm (-2) bT λdH=>bj 20 [aF] λz20=>ah 22 [af,0,aU]/\a8 22 [af,0,aU] λz21=>ah 66 [z21]/\cQ λaI=>S 684 [[z21]] [[aI]]->bm (-2) bT λeB=>bj 20 [aI] λz24=>(aE (decide (bF=1)) (ah 30 [aw,z24]/\ah 21 [aI,aw]/\(ah 67 [aI,aw,5]->a8 42 [aI,aw,0,(ar r3 0 0),(ar r3 1 0),(ar r3 2 0),0,0] λfB=>ah 22 [aF,0,z20]/\a8 22 [aF,0,z20] λcq=>ah 22 [fB,0,z24]/\a8 22 [fB,0,z24] λjT=>K [[z0],[af],[z2],r3] [[6],[0],[0],[cq],[jT]])) (((((((ti S z2 aw aF z20 λcq z28=>((lk S K z0 af z2 r3 aw aI z24 cq z28)/\(((lk S K z0 af z2 r3 aw aI z24 cq z28)/\(lk S K z0 af z2 r3 aw aI z24 cq z28)))))/\(((((bP S K z0 af z2 r3 aw aF z20 aI z24)/\(((bP S K z0 af z2 r3 aw aF z20 aI z24)/\(bP S K z0 af z2 r3 aw aF z20 aI z24)))))/\(((ti S z2 aw aF z20 λcq z28=>((lk S K z0 af z2 r3 aw aI z24 cq z28)/\(lk S K z0 af z2 r3 aw aI z24 cq z28)))/\(((((bP S K z0 af z2 r3 aw aF z20 aI z24)/\(bP S K z0 af z2 r3 aw aF z20 aI z24)))/\(((bP S K z0 af z2 r3 aw aF z20 aI z24)/\(bP S K z0 af z2 r3 aw aF z20 aI z24)))))))))))/\(((((((bP S K z0 af z2 r3 aw aF z20 aI z24)/\(((bP S K z0 af z2 r3 aw aF z20 aI z24)/\(bP S K z0 af z2 r3 aw aF z20 aI z24)))))/\(((((bP S K z0 af z2 r3 aw aF z20 aI z24)/\(bP S K z0 af z2 r3 aw aF z20 aI z24)))/\(bP S K z0 af z2 r3 aw aF z20 aI z24)))))/\(((((ti S z2 aw aF z20 λcq z28=>((lk S K z0 af z2 r3 aw aI z24 cq z28)/\(lk S K z0 af z2 r3 aw aI z24 cq z28)))/\(((((bP S K z0 af z2 r3 aw aF z20 aI z24)/\(bP S K z0 af z2 r3 aw aF z20 aI z24)))/\(((bP S K z0 af z2 r3 aw aF z20 aI z24)/\(bP S K z0 af z2 r3 aw aF z20 aI z24)))))))/\(((((((bP S K z0 af z2 r3 aw aF z20 aI z24)/\(bP S K z0 af z2 r3 aw aF z20 aI z24)))/\(bP S K z0 af z2 r3 aw aF z20 aI z24)))/\(((((bP S K z0 af z2 r3 aw aF z20 aI z24)/\(bP S K z0 af z2 r3 aw aF z20 aI z24)))/\(bP S K z0 af z2 r3 aw aF z20 aI z24)))))))))))/\(((((((ti S z2 aw aF z20 λcq z28=>((lk S K z0 af z2 r3 aw aI z24 cq z28)/\(((lk S K z0 af z2 r3 aw aI z24 cq z28)/\(lk S K z0 af z2 r3 aw aI z24 cq z28)))))/\(((((bP S K z0 af z2 r3 aw aF z20 aI z24)/\(((bP S K z0 af z2 r3 aw aF z20 aI z24)/\(bP S K z0 af z2 r3 aw aF z20 aI z24)))))/\(((ti S z2 aw aF z20 λcq z28=>((lk S K z0 af z2 r3 aw aI z24 cq z28)/\(lk S K z0 af z2 r3 aw aI z24 cq z28)))/\(((((bP S K z0 af z2 r3 aw aF z20 aI z24)/\(bP S K z0 af z2 r3 aw aF z20 aI z24)))/\(((bP S K z0 af z2 r3 aw aF z20 aI z24)/\(bP S K z0 af z2 r3 aw aF z20 aI z24)))))))))))/\(((((((bP S K z0 af z2 r3 aw aF z20 aI z24)/\(((bP S K z0 af z2 r3 aw aF z20 aI z24)/\(bP S K z0 af z2 r3 aw aF z20 aI z24)))))/\(((((bP S K z0 af z2 r3 aw aF z20 aI z24)/\(bP S K z0 af z2 r3 aw aF z20 aI z24)))/\(bP S K z0 af z2 r3 aw aF z20 aI z24)))))/\(((((ti S z2 aw aF z20 λcq z28=>((lk S K z0 af z2 r3 aw aI z24 cq z28)/\(lk S K z0 af z2 r3 aw aI z24 cq z28)))/\(((((bP S K z0 af z2 r3 aw aF z20 aI z24)/\(bP S K z0 af z2 r3 aw aF z20 aI z24)))/\(((bP S K z0 af z2 r3 aw aF z20 aI z24)/\(bP S K z0 af z2 r3 aw aF z20 aI z24)))))))/\(((((((bP S K z0 af z2 r3 aw aF z20 aI z24)/\(bP S K z0 af z2 r3 aw aF z20 aI z24)))/\(bP S K z0 af z2 r3 aw aF z20 aI z24)))/\(((((bP S K z0 af z2 r3 aw aF z20 aI z24)/\(bP S K z0 af z2 r3 aw aF z20 aI z24)))/\(bP S K z0 af z2 r3 aw aF z20 aI z24)))))))))))/\(((((((((bP S K z0 af z2 r3 aw aF z20 aI z24)/\(((bP S K z0 af z2 r3 aw aF z20 aI z24)/\(bP S K z0 af z2 r3 aw aF z20 aI z24)))))/\(((((bP S K z0 af z2 r3 aw aF z20 aI z24)/\(bP S K z0 af z2 r3 aw aF z20 aI z24)))/\(bP S K z0 af z2 r3 aw aF z20 aI z24)))))/\(((((((bP S K z0 af z2 r3 aw aF z20 aI z24)/\(((bP S K z0 af z2 r3 aw aF z20 aI z24)/\(bP S K z0 af z2 r3 aw aF z20 aI z24)))))/\(((((bP S K z0 af z2 r3 aw aF z20 aI z24)/\(bP S K z0 af z2 r3 aw aF z20 aI z24)))/\(bP S K z0 af z2 r3 aw aF z20 aI z24)))))/\(((((((bP S K z0 af z2 r3 aw aF z20 aI z24)/\(bP S K z0 af z2 r3 aw aF z20 aI z24)))/\(bP S K z0 af z2 r3 aw aF z20 aI z24)))/\(((((((bP S K z0 af z2 r3 aw aF z20 aI z24)/\(bP S K z0 af z2 r3 aw aF z20 aI z24)))/\(bP S K z0 af z2 r3 aw aF z20 aI z24)))/\(((bP S K z0 af z2 r3 aw aF z20 aI z24)/\(bP S K z0 af z2 r3 aw aF z20 aI z24)))))))))))/\(((((((ti S z2 aw aF z20 λcq z28=>((lk S K z0 af z2 r3 aw aI z24 cq z28)/\(lk S K z0 af z2 r3 aw aI z24 cq z28)))/\(((((bP S K z0 af z2 r3 aw aF z20 aI z24)/\(bP S K z0 af z2 r3 aw aF z20 aI z24)))/\(((bP S K z0 af z2 r3 aw aF z20 aI z24)/\(bP S K z0 af z2 r3 aw aF z20 aI z24)))))))/\(((((((bP S K z0 af z2 r3 aw aF z20 aI z24)/\(bP S K z0 af z2 r3 aw aF z20 aI z24)))/\(bP S K z0 af z2 r3 aw aF z20 aI z24)))/\(((((bP S K z0 af z2 r3 aw aF z20 aI z24)/\(bP S K z0 af z2 r3 aw aF z20 aI z24)))/\(bP S K z0 af z2 r3 aw aF z20 aI z24)))))))/\(((((((ti S z2 aw aF z20 λcq z28=>((lk S K z0 af z2 r3 aw aI z24 cq z28)/\(lk S K z0 af z2 r3 aw aI z24 cq z28)))/\(((((bP S K z0 af z2 r3 aw aF z20 aI z24)/\(bP S K z0 af z2 r3 aw aF z20 aI z24)))/\(((bP S K z0 af z2 r3 aw aF z20 aI z24)/\(bP S K z0 af z2 r3 aw aF z20 aI z24)))))))/\(((((((bP S K z0 af z2 r3 aw aF z20 aI z24)/\(bP S K z0 af z2 r3 aw aF z20 aI z24)))/\(bP S K z0 af z2 r3 aw aF z20 aI z24)))/\(((((bP S K z0 af z2 r3 aw aF z20 aI z24)/\(bP S K z0 af z2 r3 aw aF z20 aI z24)))/\(bP S K z0 af z2 r3 aw aF z20 aI z24)))))))/\(((((((((bP S K z0 af z2 r3 aw aF z20 aI z24)/\(bP S K z0 af z2 r3 aw aF z20 aI z24)))/\(bP S K z0 af z2 r3 aw aF z20 aI z24)))/\(((((((bP S K z0 af z2 r3 aw aF z20 aI z24)/\(bP S K z0 af z2 r3 aw aF z20 aI z24)))/\(bP S K z0 af z2 r3 aw aF z20 aI z24)))/\(((bP S K z0 af z2 r3 aw aF z20 aI z24)/\(bP S K z0 af z2 r3 aw aF z20 aI z24)))))))/\(((((((bP S K z0 af z2 r3 aw aF z20 aI z24)/\(bP S K z0 af z2 r3 aw aF z20 aI z24)))/\(bP S K z0 af z2 r3 aw aF z20 aI z24)))/\(((((((bP S K z0 af z2 r3 aw aF z20 aI z24)/\(bP S K z0 af z2 r3 aw aF z20 aI z24)))/\(bP S K z0 af z2 r3 aw aF z20 aI z24)))/\(((bP S K z0 af z2 r3 aw aF z20 aI z24)/\(bP S K z0 af z2 r3 aw aF z20 aI z24)))))))))))))))))))))
theorem ara:L6 SB (dS SB [.d (.int .i64 6 6),.d (.int .i64 0 0),.d .str,.rd [.str],.rd [.int .i64 4 4,.int .i64 0 0,.str,.nil,.nil]] 674):=by
 delta L6 aE bm bC fa bj cQ a8 cl dT bT;dsimp only
 intro z0 a0 a1 af b0 b1 z2 n0 n1 r3 Jm h ak _ z9 _ _ aC _ c1 cW aD _ z12 _ _ aU _ d1 ga;obtain⟨h,hs,ht⟩:mc z0 af/\iA z2/\iA (r3.getD 2 0):=h;have cW:aC=((ab z0).length:Int):=cW;have ga:aU=((ab af).length:Int):=ga;have hl:(ab z0).length=(ab af).length:=h.1;have hm:(ab z0).length<=1000000:=h.2.1;have aAw:=sq z0;refine⟨⟨bO _,by omega,by omega⟩,λaP _ _ hE aw iG k1 bF _ _ hp=>⟨⟨bO _,by omega,by omega⟩,λbY _ _ iU=>?_⟩⟩;have AG:bA aP=bA z0:=by unfold bA;rw[whole cW hE]
 have hp:Ag (bA aP) (aa z2) aw bF:=hp;rw[AG]at hp;obtain⟨⟨p1,aJ⟩,bb,b7⟩:=hp;have VC:=whole cW iU;refine⟨(by show(ab bY).length<=1000000;rw[VC];exact hm),λaF _ _ rK dH _ _ z20 _ _ AT=>⟨⟨bO _,by omega,by omega⟩,λz21 _ _ sZ=>?_⟩⟩;have DA:ab aF=ab z0:=(show ab aF=ab bY from rK).trans VC;have AT:z20=((ab aF).length:Int):=AT;have VD:=whole ga sZ;refine⟨(by show(ab z21).length<=1000000;rw[VD];omega),λaI _ _ N2 eB _ _ z24 _ _ wB=>?_⟩;have Ns:ab aI=ab af:=(show ab aI=ab z21 from N2).trans VD;have wB:z24=((ab aI).length:Int):=wB;have aBj:(ab aF).length=(ab z0).length:=by rw[DA]
 have aBk:(ab aI).length=(ab af).length:=by rw[Ns]
 have fin:∀a' b':Int,0<=a'->a'<=bV->0<=b'->b'<=bV->vZ z0 af z2 r3 a' b'->dS SB [.d (.int .i64 6 6),.d (.int .i64 0 0),.d .str,.rd [.str],.rd [.int .i64 4 4,.int .i64 0 0,.str,.nil,.nil]] 674 [[z0],[af],[z2],r3] [[6],[0],[0],[a'],[b']]:=λa' b' u0 fO v0 v1 iC=>
  ⟨⟨by decide,by decide,by decide,by decide,bO _,pH,u0,fO,v0,v1,trivial⟩,rfl,rfl,rfl,iC⟩
 have hrow:∀{z:Int},z=aB 23 [0,r3.getD 0 0,r3.getD 1 0,r3.getD 2 0,0,0]->ab z=[r3]:=λhz=>by
  rw[hz];show ab (rc (ab 0++[[r3.getD 0 0,r3.getD 1 0,r3.getD 2 0,0,0]]))=_;rw[di,eV,P8 Jm];rfl
 refine⟨λhq=>⟨⟨by omega,by have:=bb (of_decide_eq_true hq);omega⟩,⟨by omega,by have:=bb (of_decide_eq_true hq);omega⟩,λIT fB _ _ mK=>?_⟩,λhq=>?_⟩
 ·have hq:=of_decide_eq_true hq;have mK:ab fB=(ab af).set aw.toNat r3:=by
   rw[mK];show ab (rc _)=_;rw[di];have IT:((ab aI).getD aw.toNat []).length=5:=IT;show(ab aI).set aw.toNat ((((ab aI).getD aw.toNat []).take 0)++[r3.getD 0 0,r3.getD 1 0,r3.getD 2 0,0,0]++((ab aI).getD aw.toNat []).drop 5)=_;rw[Lv (by omega),P8 Jm,Ns];simp
  have aBl:(ab fB).length=(ab af).length:=by rw[mK,adG]
  refine⟨⟨bO _,by omega,by omega⟩,λcq u0 fO wC=>⟨⟨bO _,by omega,by omega⟩,λjT v0 v1 ahC=>fin _ _ u0 fO v0 v1 ⟨aw,bF,⟨⟨p1,aJ⟩,bb,b7⟩,λ_=>?_,λhn=>absurd hq hn⟩⟩⟩;rw[whole AT wC,whole (by omega) ahC,DA,mK];exact⟨rfl,rfl⟩
 ·have hq:=of_decide_eq_false hq;have hY:∀cq z28:Int,0<=cq->cq<=bV->ab cq=(ab z0).take aw.toNat++[[z2]]++(ab z0).drop aw.toNat->z28=((ab cq).length:Int)->lk SB (dS SB [.d (.int .i64 6 6),.d (.int .i64 0 0),.d .str,.rd [.str],.rd [.int .i64 4 4,.int .i64 0 0,.str,.nil,.nil]] 674) z0 af z2 r3 aw aI z24 cq z28:=λcq z28 w0 w1 DB IP=>by
   refine⟨wB,λiw _ _ wD=>?_⟩;have VF:=hrow wD;refine⟨⟨⟨p1,by omega⟩,by rw[VF];rfl,by omega⟩,λlr _ _ ahD z31 _ _ jU _ _ yr=>?_⟩;have VG:ab lr=(ab aI).take aw.toNat++ab iw++(ab aI).drop aw.toNat:=ahD;rw[VF,Ns]at VG;have yr:jU=((ab lr).length:Int):=yr;refine⟨⟨bO _,by omega,by omega⟩,λkV u0 fO wE=>⟨⟨bO _,by omega,by omega⟩,λpz v0 v1 Wx=>fin _ _ u0 fO v0 v1 ⟨aw,bF,⟨⟨p1,aJ⟩,bb,b7⟩,λhn=>absurd hn hq,λ_=>?_⟩⟩⟩;rw[whole IP wE,whole yr Wx];exact⟨DB,VG⟩
  have iC:∀k:Int->Int->Prop,(∀cq z28:Int,0<=cq->cq<=bV->ab cq=(ab z0).take aw.toNat++[[z2]]++(ab z0).drop aw.toNat->z28=((ab cq).length:Int)->k cq z28)->ti SB z2 aw aF z20 k:=λk hk=>by
   refine⟨AT,λfB _ _ mK=>?_⟩;have VE:ab fB=[[z2]]:=by rw[mK];show ab (rc (ab 0++[[z2]]))=_;rw[di,eV];rfl
   refine⟨⟨⟨p1,by omega⟩,by rw[VE];rfl,by omega⟩,λcq w0 w1 wC jT _ _ z28 _ _ IP=>hk cq z28 w0 w1 ?_ IP⟩;have DB:ab cq=(ab aF).take aw.toNat++ab fB++(ab aF).drop aw.toNat:=wC;rw[VE,DA]at DB;exact DB
  have hX:=iC _ hY
  repeat' first
   |exact hX
   |(refine iC _ λcq z28 w0 w1 DB IP=>?_)
   |(exact hY _ _ ‹_› ‹_› ‹_› ‹_›)
   |(refine And.intro ?_ ?_)
end Go.aX
namespace Go.aX
open Go Go.aW
def Mi (S:zzS) (K:zzK):Prop:=cQ λz0=>bC λaf=>bm (-2) bT λz2=>bj 20 [z0] λz3=>fw (-2) bT 62 [z2,z3] λz4=>ah 22 [z0,0,z3]/\ah 40 [z4,z2]/\a8 22 [z0,0,z3] λz5=>∃(vW:List (List Int)->Prop) (rn:List (List Int)->Nat),vW [[z5],[z3],[z4]]/\(cQ λz7=>fa λak=>bm (-2) bT λz9=>vW [[z7],[ak],[z9]]->bC λaC=>(aE (decide (0<ak)) (dt z7 ak 0 0 λaD=>ah 32 [1,ak,ak]/\(ah 68 [ak,z9]->fw 0 eI 33 [0,1,z9] λz12=>(aE (decide (8<(ak+(-1)))) (dt z7 (ak+(-1)) 0 z12 λaU=>dt z7 (ak+(-1)) 1 (z12+1) λaP=>dt z7 (ak+(-1)) 2 (z12+2) λaw=>dt z7 (ak+(-1)) 3 (z12+3) λbF=>dt z7 (ak+(-1)) 4 (z12+4) λbY=>dt z7 (ak+(-1)) 5 (z12+5) λaF=>dt z7 (ak+(-1)) 6 (z12+6) λdH=>dt z7 (ak+(-1)) 7 (z12+7) λz20=>bC λz21=>z21<=cV .u64->z21=aZ .and .u64 (aU+((256*aP)+((65536*aw)+((16777216*bF)+((4294967296*bY)+((1099511627776*aF)+((281474976710656*dH)+(72057594037927936*z20)))))))) 0x8080808080808080->(aE (decide (z21=0)) (ah 32 [8,(ak+(-1)),(ak+(-1))]/\(ah 68 [(ak+(-1)),(z9+(-1))]->fw 0 eI 33 [z12,8,(z9+(-1))] λaI=>(aE (decide (16<(ak+(-9)))) (ah 32 [8,(ak+(-9)),(ak+(-9))]/\(ah 68 [(ak+(-9)),(z9+(-9))]->fw 0 eI 33 [aI,8,(z9+(-9))] λeB=>dt z7 (ak+(-9)) 0 aI λz24=>dt z7 (ak+(-9)) 1 (aI+1) λfB=>dt z7 (ak+(-9)) 2 (aI+2) λcq=>dt z7 (ak+(-9)) 3 (aI+3) λjT=>dt z7 (ak+(-9)) 4 (aI+4) λz28=>dt z7 (ak+(-9)) 5 (aI+5) λiw=>dt z7 (ak+(-9)) 6 (aI+6) λlr=>dt z7 (ak+(-9)) 7 (aI+7) λz31=>dt z7 (ak+(-17)) 0 eB λjU=>dt z7 (ak+(-17)) 1 (eB+1) λkV=>dt z7 (ak+(-17)) 2 (eB+2) λpz=>dt z7 (ak+(-17)) 3 (eB+3) λpA=>dt z7 (ak+(-17)) 4 (eB+4) λqs=>dt z7 (ak+(-17)) 5 (eB+5) λz37=>dt z7 (ak+(-17)) 6 (eB+6) λxD=>dt z7 (ak+(-17)) 7 (eB+7) λvE=>bC λz40=>z40<=cV .u64->z40=aZ .or .u64 (z24+((256*fB)+((65536*cq)+((16777216*jT)+((4294967296*z28)+((1099511627776*iw)+((281474976710656*lr)+(72057594037927936*z31)))))))) (jU+((256*kV)+((65536*pz)+((16777216*pA)+((4294967296*qs)+((1099511627776*z37)+((281474976710656*xD)+(72057594037927936*vE))))))))->bC λqt=>qt<=cV .u64->qt=aZ .and .u64 z40 0x8080808080808080->(aE (decide (qt=0)) (ah 32 [16,(ak+(-9)),(ak+(-9))]/\(ah 68 [(ak+(-9)),(z9+(-9))]->fw 0 eI 33 [aI,16,(z9+(-9))] λnP=>ah 22 [z7,nP,((ak+nP)+(-25))]/\ah 40 [(z9+(-25)),z9]/\a8 22 [z7,nP,((ak+nP)+(-25))] λsw=>∃(Mv:List (List Int)->Prop) (adO:List (List Int)->Nat),Mv [[sw],[(ak+(-25))],[(z9+(-25))]]/\(cQ λeg=>fa λ z46=>bm (-2) bT λgX=>Mv [[eg],[z46],[gX]]->bC λxE=>(aE (decide (32<z46)) (ah 32 [8,z46,z46]/\(ah 68 [z46,gX]->fw 0 eI 33 [0,8,gX] λz49=>ah 32 [16,z46,z46]/\(ah 68 [z46,gX]->fw 0 eI 33 [0,16,gX] λpB=>ah 32 [24,z46,z46]/\(ah 68 [z46,gX]->fw 0 eI 33 [0,24,gX] λz51=>dt eg z46 0 0 λtU=>dt eg z46 1 1 λz53=>dt eg z46 2 2 λ vF=>dt eg z46 3 3 λzJ=>dt eg z46 4 4 λzK=>dt eg z46 5 5 λzL=>dt eg z46 6 6 λzM=>dt eg z46 7 7 λz59=>dt eg (z46+(-8)) 0 z49 λGN=>dt eg (z46+(-8)) 1 (z49+1) λGO=>dt eg (z46+(-8)) 2 (z49+2) λGP=>dt eg (z46+(-8)) 3 (z49+3) λGQ=>dt eg (z46+(-8)) 4 (z49+4) λGR=>dt eg (z46+(-8)) 5 (z49+5) λGS=>dt eg (z46+(-8)) 6 (z49+6) λGU=>dt eg (z46+(-8)) 7 (z49+7) λGV=>bC λzN=>zN<=cV .u64->zN=aZ .or .u64 (tU+((256*z53)+((65536*vF)+((16777216*zJ)+((4294967296*zK)+((1099511627776*zL)+((281474976710656*zM)+(72057594037927936*z59)))))))) (GN+((256*GO)+((65536*GP)+((16777216*GQ)+((4294967296*GR)+((1099511627776*GS)+((281474976710656*GU)+(72057594037927936*GV))))))))->dt eg (z46+(-16)) 0 pB λGW=>dt eg (z46+(-16)) 1 (pB+1) λz70=>dt eg (z46+(-16)) 2 (pB+2) λGX=>dt eg (z46+(-16)) 3 (pB+3) λz72=>dt eg (z46+(-16)) 4 (pB+4) λGY=>dt eg (z46+(-16)) 5 (pB+5) λ qu=>dt eg (z46+(-16)) 6 (pB+6) λz75=>dt eg (z46+(-16)) 7 (pB+7) λz76=>dt eg (z46+(-24)) 0 z51 λtV=>dt eg (z46+(-24)) 1 (z51+1) λxF=>dt eg (z46+(-24)) 2 (z51+2) λacI=>dt eg (z46+(-24)) 3 (z51+3) λacJ=>dt eg (z46+(-24)) 4 (z51+4) λacK=>dt eg (z46+(-24)) 5 (z51+5) λacL=>dt eg (z46+(-24)) 6 (z51+6) λacM=>dt eg (z46+(-24)) 7 (z51+7) λacN=>bC λz85=>z85<=cV .u64->z85=aZ .or .u64 (GW+((256*z70)+((65536*GX)+((16777216*z72)+((4294967296*GY)+((1099511627776*qu)+((281474976710656*z75)+(72057594037927936*z76)))))))) (tV+((256*xF)+((65536*acI)+((16777216*acJ)+((4294967296*acK)+((1099511627776*acL)+((281474976710656*acM)+(72057594037927936*acN))))))))->bC λLr=>Lr<=cV .u64->Lr=aZ .or .u64 zN z85->bC λz87=>z87<=cV .u64->z87=aZ .and .u64 Lr 0x8080808080808080->(aE (decide (z87=0)) (ah 32 [32,z46,z46]/\(ah 68 [z46,gX]->fw 0 eI 33 [0,32,gX] λGZ=>ah 22 [eg,GZ,((z46+GZ)+(-32))]/\ah 40 [(gX+(-32)),gX]/\a8 22 [eg,GZ,((z46+GZ)+(-32))] λLs=>(Mv [[Ls],[(z46+(-32))],[(gX+(-32))]]/\adO [[Ls],[(z46+(-32))],[(gX+(-32))]]<adO [[eg],[z46],[gX]]))) ((vW [[eg],[z46],[gX]]/\rn [[eg],[z46],[gX]]<rn [[z7],[ak],[z9]]))))))) ((vW [[eg],[z46],[gX]]/\rn [[eg],[z46],[gX]]<rn [[z7],[ak],[z9]])))))) (ah 22 [z7,aI,((ak+aI)+(-9))]/\ah 40 [(z9+(-9)),z9]/\a8 22 [z7,aI,((ak+aI)+(-9))] λnP=>(vW [[nP],[(ak+(-9))],[(z9+(-9))]]/\rn [[nP],[(ak+(-9))],[(z9+(-9))]]<rn [[z7],[ak],[z9]]))))) (ah 22 [z7,aI,((ak+aI)+(-9))]/\ah 40 [(z9+(-9)),z9]/\a8 22 [z7,aI,((ak+aI)+(-9))] λeB=>(vW [[eB],[(ak+(-9))],[(z9+(-9))]]/\rn [[eB],[(ak+(-9))],[(z9+(-9))]]<rn [[z7],[ak],[z9]]))))) (ah 22 [z7,z12,((ak+z12)+(-1))]/\ah 40 [(z9+(-1)),z9]/\a8 22 [z7,z12,((ak+z12)+(-1))] λaI=>(vW [[aI],[(ak+(-1))],[(z9+(-1))]]/\rn [[aI],[(ak+(-1))],[(z9+(-1))]]<rn [[z7],[ak],[z9]])))) (ah 22 [z7,z12,((ak+z12)+(-1))]/\ah 40 [(z9+(-1)),z9]/\a8 22 [z7,z12,((ak+z12)+(-1))] λaU=>(vW [[aU],[(ak+(-1))],[(z9+(-1))]]/\rn [[aU],[(ak+(-1))],[(z9+(-1))]]<rn [[z7],[ak],[z9]]))))) (K [[z0]] [[(cond (true) 1 0)]])))
def Ul (bl:List (List Int)):Prop:=(bl.getD 1 []).getD 0 0=((ab ((bl.getD 0 []).getD 0 0)).length:Int)
def Um (bl:List (List Int)):Nat:=((bl.getD 1 []).getD 0 0).toNat
def aeG (m:Int) (bl:List (List Int)):Prop:=Ul bl/\(bl.getD 1 []).getD 0 0<=m
theorem xy {z r a c:Int} (h:z=aB 33 [r,a,c]):(a=c->z=r)/\(a≠c->z=r+a):=by
 have h:z=if a=c then r else r+a:=h
 exact⟨λe=>by rw[h,if_pos e],λe=>by rw[h,if_neg e]⟩
theorem zE {z c a b:Int} (h:z=aB 22 [c,a,b]) (h0:0<=a) (h1:a<=b) (h2:b<=((ab c).length:Int)):((ab z).length:Int)=b-a:=by
 rw[h];show((ab (rc (((ab c).drop a.toNat).take (b.toNat-a.toNat)))).length:Int)=b-a;rw[di,ly,q9];omega
set_option maxHeartbeats 4000000 in
theorem ar0:Mi SB (dS SB [.d .bool] 640):=by
 delta Mi aE bm fw bC fa bj cQ a8 bT eI;dsimp only
 intro z0 asn aCe;intro af aso;intro z2 asp aCh;intro z3 aBT aCi JB;have JB:z3=((ab z0).length:Int):=JB;intro z4 aBU aCj gn;have gn:z4=min z2 z3:=gn;refine⟨⟨by omega,by omega,by omega⟩,?_⟩;refine⟨(λ(h:(0:Int)<=_)=>show(0:Int)<=_ by omega),?_⟩;intro z5 aB1 aCp pa;have pa:=zE pa (by omega) (by omega) (by omega);refine⟨Ul,Um,(show z3=((ab z5).length:Int) by omega),?_⟩;intro z7 aB4 aCs;intro ak aB5 aCt;intro z9 aB8 aCw;intro hI;have hI:ak=((ab z7).length:Int):=hI;intro aC aBQ;refine⟨λc1=>?_,λc1=>?_⟩
 ·have c1:=of_decide_eq_true c1;refine dx (by omega) λaD=>?_;refine⟨⟨by omega,by omega,by omega⟩,?_⟩;intro g1;have g1:ak<=z9∨ak=0:=g1;intro z12 aBR aCf Yp;have Yp:=xy Yp;refine⟨λc2=>?_,λc2=>?_⟩
  ·have c2:=of_decide_eq_true c2;refine dx (by omega) λaU=>?_;refine dx (by omega) λaP=>?_;refine dx (by omega) λaw=>?_;refine dx (by omega) λbF=>?_;refine dx (by omega) λbY=>?_;refine dx (by omega) λaF=>?_;refine dx (by omega) λdH=>?_;refine dx (by omega) λz20=>?_;intro z21 _ _ _;refine⟨λc3=>?_,λc3=>?_⟩
   ·have c3:=of_decide_eq_true c3;refine⟨⟨by omega,by omega,by omega⟩,?_⟩;intro g2;have g2:(ak+(-1))<=(z9+(-1))∨(ak+(-1))=0:=g2;intro aI asq asw EZ;have EZ:=xy EZ;refine⟨λc4=>?_,λc4=>?_⟩
    ·have c4:=of_decide_eq_true c4;refine⟨⟨by omega,by omega,by omega⟩,?_⟩;intro g3;have g3:(ak+(-9))<=(z9+(-9))∨(ak+(-9))=0:=g3;intro eB asr asx E0;have E0:=xy E0;refine dx (by omega) λz24=>?_;refine dx (by omega) λfB=>?_;refine dx (by omega) λcq=>?_;refine dx (by omega) λjT=>?_;refine dx (by omega) λz28=>?_;refine dx (by omega) λiw=>?_;refine dx (by omega) λlr=>?_;refine dx (by omega) λz31=>?_;refine dx (by omega) λjU=>?_;refine dx (by omega) λkV=>?_;refine dx (by omega) λpz=>?_;refine dx (by omega) λpA=>?_;refine dx (by omega) λqs=>?_;refine dx (by omega) λz37=>?_;refine dx (by omega) λxD=>?_;refine dx (by omega) λvE=>?_;intro z40 _ _ _;intro qt _ _ _;refine⟨λc5=>?_,λc5=>?_⟩
     ·have c5:=of_decide_eq_true c5;refine⟨⟨by omega,by omega,by omega⟩,?_⟩;intro g4;have g4:(ak+(-9))<=(z9+(-9))∨(ak+(-9))=0:=g4;intro nP ass asy E1;have E1:=xy E1;refine⟨⟨by omega,by omega,by omega⟩,?_⟩;refine⟨(λ(h:(0:Int)<=_)=>show(0:Int)<=_ by omega),?_⟩;intro sw aBV aCk Yr;have Yr:=zE Yr (by omega) (by omega) (by omega);refine⟨aeG (ak+(-25)),Um,⟨(show ak+(-25)=((ab sw).length:Int) by omega),(show ak+(-25)<=ak+(-25) by omega)⟩,?_⟩;intro eg aBW aCl;intro z46 aBX aCm;intro gX aBY aCn
      rintro⟨hJ,WK⟩
      have hJ:z46=((ab eg).length:Int):=hJ;have WK:z46<=ak+(-25):=WK;intro xE aBZ;refine⟨λc6=>?_,λc6=>?_⟩
      ·have c6:=of_decide_eq_true c6;refine⟨⟨by omega,by omega,by omega⟩,?_⟩;intro g5;have g5:z46<=gX∨z46=0:=g5;intro z49 aB0 aCo Ys;have Ys:=xy Ys;refine⟨⟨by omega,by omega,by omega⟩,?_⟩;intro g6;have g6:z46<=gX∨z46=0:=g6;intro pB aB2 aCq Yt;have Yt:=xy Yt;refine⟨⟨by omega,by omega,by omega⟩,?_⟩;intro g7;have g7:z46<=gX∨z46=0:=g7;intro z51 aB3 aCr Yu;have Yu:=xy Yu;refine dx (by omega) λtU=>?_;refine dx (by omega) λz53=>?_;refine dx (by omega) λvF=>?_;refine dx (by omega) λzJ=>?_;refine dx (by omega) λzK=>?_;refine dx (by omega) λzL=>?_;refine dx (by omega) λzM=>?_;refine dx (by omega) λz59=>?_;refine dx (by omega) λGN=>?_;refine dx (by omega) λGO=>?_;refine dx (by omega) λGP=>?_;refine dx (by omega) λGQ=>?_;refine dx (by omega) λGR=>?_;refine dx (by omega) λGS=>?_;refine dx (by omega) λGU=>?_;refine dx (by omega) λGV=>?_;intro zN _ _ _;refine dx (by omega) λGW=>?_;refine dx (by omega) λz70=>?_;refine dx (by omega) λGX=>?_;refine dx (by omega) λz72=>?_;refine dx (by omega) λGY=>?_;refine dx (by omega) λqu=>?_;refine dx (by omega) λz75=>?_;refine dx (by omega) λz76=>?_;refine dx (by omega) λtV=>?_;refine dx (by omega) λxF=>?_;refine dx (by omega) λacI=>?_;refine dx (by omega) λacJ=>?_;refine dx (by omega) λacK=>?_;refine dx (by omega) λacL=>?_;refine dx (by omega) λacM=>?_;refine dx (by omega) λacN=>?_;intro z85 _ _ _;intro Lr _ _ _;intro z87 _ _ _;refine⟨λkj=>?_,λkj=>?_⟩
       ·have kj:=of_decide_eq_true kj;refine⟨⟨by omega,by omega,by omega⟩,?_⟩;intro g8;have g8:z46<=gX∨z46=0:=g8;intro GZ aB6 aCu Yv;have Yv:=xy Yv;refine⟨⟨by omega,by omega,by omega⟩,?_⟩;refine⟨(λ(h:(0:Int)<=_)=>show(0:Int)<=_ by omega),?_⟩;intro Ls aB7 aCv Yw;have Yw:=zE Yw (by omega) (by omega) (by omega);exact⟨⟨(show(z46+(-32))=((ab Ls).length:Int) by omega),(show(z46+(-32))<=ak+(-25) by omega)⟩,(show((z46+(-32))).toNat<(z46).toNat by omega)⟩
       ·have kj:=of_decide_eq_false kj;exact⟨(show z46=((ab eg).length:Int) by omega),(show(z46).toNat<(ak).toNat by omega)⟩
      ·have c6:=of_decide_eq_false c6;exact⟨(show z46=((ab eg).length:Int) by omega),(show(z46).toNat<(ak).toNat by omega)⟩
     ·have c5:=of_decide_eq_false c5;refine⟨⟨by omega,by omega,by omega⟩,?_⟩;refine⟨(λ(h:(0:Int)<=_)=>show(0:Int)<=_ by omega),?_⟩;intro nP ass asy E1;have E1:=zE E1 (by omega) (by omega) (by omega);exact⟨(show(ak+(-9))=((ab nP).length:Int) by omega),(show((ak+(-9))).toNat<(ak).toNat by omega)⟩
    ·have c4:=of_decide_eq_false c4;refine⟨⟨by omega,by omega,by omega⟩,?_⟩;refine⟨(λ(h:(0:Int)<=_)=>show(0:Int)<=_ by omega),?_⟩;intro eB asr asx E0;have E0:=zE E0 (by omega) (by omega) (by omega);exact⟨(show(ak+(-9))=((ab eB).length:Int) by omega),(show((ak+(-9))).toNat<(ak).toNat by omega)⟩
   ·have c3:=of_decide_eq_false c3;refine⟨⟨by omega,by omega,by omega⟩,?_⟩;refine⟨(λ(h:(0:Int)<=_)=>show(0:Int)<=_ by omega),?_⟩;intro aI asq asw EZ;have EZ:=zE EZ (by omega) (by omega) (by omega);exact⟨(show(ak+(-1))=((ab aI).length:Int) by omega),(show((ak+(-1))).toNat<(ak).toNat by omega)⟩
  ·have c2:=of_decide_eq_false c2;refine⟨⟨by omega,by omega,by omega⟩,?_⟩;refine⟨(λ(h:(0:Int)<=_)=>show(0:Int)<=_ by omega),?_⟩;intro aU aBS aCg Yq;have Yq:=zE Yq (by omega) (by omega) (by omega);exact⟨(show(ak+(-1))=((ab aU).length:Int) by omega),(show((ak+(-1))).toNat<(ak).toNat by omega)⟩
 ·have c1:=of_decide_eq_false c1;exact⟨⟨by decide,by decide,trivial⟩,rfl⟩
end Go.aX
namespace Go.aX
open Go Go.aW
def TS (S:zzS) (K:zzK):Prop:=cQ λz0=>bC λaf=>bm (-2) 0x7fffffffffffffff λz2=>bj 20 [z0] λz3=>ah 22 [z0,0,z3]/\a8 22 [z0,0,z3] λz4=>dT λz5=>S 640 [[z4]] [[z5]]->K [[z0]] [[(cond (decide (z5=1)) 1 0)]]
def Tk (S:zzS) (K:zzK):Prop:=cQ λz0=>cQ λaf=>(ah 92 [z0,af]->bC λz2=>bm (-2) 0x7fffffffffffffff λz3=>bj 20 [z0] λz4=>bC λz5=>bm (-2) 0x7fffffffffffffff λaq=>bj 20 [af] λz7=>(aE (decide (z4=0)) ((aE (decide (0<z4)) (K [[z0],[af]] [[(cond (false) 1 0)]]) (∃(eu:List (List Int)->Prop) (fI:List (List Int)->Nat),eu [[0]]/\(fa λz9=>eu [[z9]]->(aE (decide (z9<z7)) (ah 30 [z9,z7]/\ah 21 [af,z9]/\fw 4 4 21 [af,z9,0] λaC=>fw 0 0 21 [af,z9,1] λaD=>cP 21 [af,z9,2] λz12=>dh 4 [z12,0] λaU=>a8 27 [z12] λaP=>bj 0 [z12] λaw=>bm (-2) 0x7fffffffffffffff λbF=>ah 22 [aP,0,aw]/\a8 22 [aP,0,aw] λbY=>ah 86 [bY]/\dT λaF=>S 640 [[bY]] [[aF]]->(aE ((!(decide (aF=1)))) (K [[z0],[af]] [[(cond (false) 1 0)]]) (cz (z9+0x8000000000000001) 0x10000000000000000 λdH=>ah 39 [((z9+((-0x10000000000000000)*dH))+1),0,0x7fffffffffffffff]/\(eu [[((z9+((-0x10000000000000000)*dH))+1)]]/\fI [[((z9+((-0x10000000000000000)*dH))+1)]]<fI [[z9]])))) (K [[z0],[af]] [[(cond (true) 1 0)]])))))) ((aE (decide (0<z4)) (K [[z0],[af]] [[(cond (false) 1 0)]]) (∃(eu:List (List Int)->Prop) (fI:List (List Int)->Nat),eu [[0]]/\(fa λz9=>eu [[z9]]->(aE (decide (z9<z7)) (ah 30 [z9,z7]/\ah 21 [af,z9]/\fw 4 4 21 [af,z9,0] λaC=>fw 0 0 21 [af,z9,1] λaD=>cP 21 [af,z9,2] λz12=>dh 4 [z12,0] λaU=>a8 27 [z12] λaP=>bj 0 [z12] λaw=>bm (-2) 0x7fffffffffffffff λbF=>ah 22 [aP,0,aw]/\a8 22 [aP,0,aw] λbY=>ah 86 [bY]/\dT λaF=>S 640 [[bY]] [[aF]]->(aE ((!(decide (aF=1)))) (K [[z0],[af]] [[(cond (false) 1 0)]]) (cz (z9+0x8000000000000001) 0x10000000000000000 λdH=>ah 39 [((z9+((-0x10000000000000000)*dH))+1),0,0x7fffffffffffffff]/\(eu [[((z9+((-0x10000000000000000)*dH))+1)]]/\fI [[((z9+((-0x10000000000000000)*dH))+1)]]<fI [[z9]])))) (K [[z0],[af]] [[(cond (true) 1 0)]]))))))))
def Tj (S:zzS) (K:zzK):Prop:=∀r0:List Int,bd [(4,4),(0,0),(0,b8),(0,0),(0,0)] r0->K [r0] [[0]]
def Ti (S:zzS) (K:zzK):Prop:=cQ λz0=>cQ λaf=>bC λz2=>bm (-2) 0x7fffffffffffffff λz3=>bj 20 [z0] λz4=>bC λz5=>bm (-2) 0x7fffffffffffffff λaq=>bj 20 [af] λz7=>∃(eu:List (List Int)->Prop) (fI:List (List Int)->Nat),eu [[0],[0]]/\(bm 0 0 λz9=>fa λaC=>eu [[z9],[aC]]->(aE (decide (aC<z7)) (ah 30 [aC,z7]/\ah 21 [af,aC]/\fw 4 4 21 [af,aC,0] λaD=>fw 0 0 21 [af,aC,1] λz12=>cP 21 [af,aC,2] λaU=>cz (aC+0x8000000000000001) 0x10000000000000000 λaP=>ah 39 [((aC+((-0x10000000000000000)*aP))+1),0,0x7fffffffffffffff]/\(eu [[z9],[((aC+((-0x10000000000000000)*aP))+1)]]/\fI [[z9],[((aC+((-0x10000000000000000)*aP))+1)]]<fI [[z9],[aC]])) (K [[z0],[af]] [[(z9+1)]])))
theorem arY:TS SB (dS SB [.d .bool] 774):=by
 intro z0 a0 a1 af _ z2 _ _ z3 b0 b1 h3;have h3:z3=((ab z0).length:Int):=h3;refine⟨⟨bO _,by omega,by omega⟩,λz4 _ _ h4 z5 bW c1 h5=>?_⟩;have h5:z5=1:=h5;rw[h5];exact⟨⟨by decide,by decide,trivial⟩,rfl⟩
theorem aq6:Tk SB (dS SB [.d .bool] 775):=by
 intro z0 a0 a1 af b0 b1 h z2 _ z3 _ _ z4 _ c1 h4 z5 _ aq _ _ z7 _ d1 h7;have h:ab z0=[]/\∀row∈ab af,iA (row.getD 2 0):=h;have h4:z4=((ab z0).length:Int):=h4;have h7:z7=((ab af).length:Int):=h7;rw[h.1]at h4;have h4:z4=0:=h4;have P0:dS SB [.d .bool] 775 [[z0],[af]] [[cond true 1 0]]:=⟨⟨by decide,by decide,trivial⟩,rfl⟩;refine⟨λ_=>⟨λhp=>absurd (of_decide_eq_true hp) (by omega),λ_=>?_⟩,λhp=>absurd (of_decide_eq_false hp) (by omega)⟩;refine⟨My af,HG af,⟨0,rfl,kW _⟩,?_⟩
 rintro z9 e0 e1 ⟨i,e,hi⟩
 obtain rfl:z9=i:=by simpa using e
 refine⟨λhlt=>?_,λ_=>P0⟩;have hlt:=of_decide_eq_true hlt;have dv:i<(ab af).length:=by omega
 refine⟨⟨by omega,by omega⟩,⟨by omega,by omega⟩,λaC _ _ _ aD _ _ _ z12 _ _ fr aU _ _ _ aP _ _ hE aw _ _ jj bF _ _=>?_⟩;have agF:z12=((ab af).getD i []).getD 2 0:=by rw[fr];simp only[aB,ek];rfl
 have ha:iA z12:=by rw[agF];exact h.2 _ (by simp[ar,dv])
 obtain⟨g1,g2⟩:=De ha hE jj;refine⟨g1,λbY _ _ iU=>⟨g2 bY iU,λaF _ _ rK=>⟨λhq=>?_,λ_ dH x0 x1 x2 x3=>⟨⟨by omega,by omega⟩,⟨i+1,by rw[show(i:Int)+(-0x10000000000000000)*dH+1=((i+1:Nat):Int) by omega],by omega⟩,?_⟩⟩⟩⟩
 ·have rK:aF=1:=rK;rw[rK]at hq;cases hq
 ·show(ab af).length-((i:Int)+(-0x10000000000000000)*dH+1).toNat<(ab af).length-((i:Int)).toNat;omega
theorem aq3:Tj SB (dS SB [.d nn] 777):=λr0 _=>⟨⟨by decide,by decide,trivial⟩,rfl⟩
theorem aq2:Ti SB (dS SB [.d nn] 776):=by
 intro z0 a0 a1 af b0 b1 z2 _ z3 _ _ z4 _ c1 h4 z5 _ aq _ _ z7 _ d1 h7;have h7:z7=((ab af).length:Int):=h7;refine⟨λbl=>∃i:Nat,bl=[[0],[(i:Int)]]/\i<=(ab af).length,λbl=>(ab af).length-((bl.getD 1 []).getD 0 0).toNat,⟨0,rfl,kW _⟩,?_⟩
 rintro z9 e0 e1 aC f0 f1 ⟨i,e,hi⟩
 obtain⟨rfl,rfl⟩:z9=0/\aC=i:=by simpa using e
 refine⟨λhlt=>?_,λ_=>⟨⟨by decide,by decide,trivial⟩,rfl⟩⟩;have hlt:=of_decide_eq_true hlt;refine⟨⟨by omega,by omega⟩,⟨by omega,by omega⟩,λaD _ _ _ z12 _ _ _ aU _ _ _ aP x0 x1 x2 x3=>⟨⟨by omega,by omega⟩,⟨i+1,by rw[show(i:Int)+(-0x10000000000000000)*aP+1=((i+1:Nat):Int) by omega],by omega⟩,?_⟩⟩;show(ab af).length-((i:Int)+(-0x10000000000000000)*aP+1).toNat<(ab af).length-((i:Int)).toNat;omega
end Go.aX
namespace Go.aX
open Go Go.aW
def Tc (S:zzS) (K:zzK):Prop:=tF λz0=>bQ 0 1073741823 (1073741824*z0) 4294967296 λaf=>bQ 0 1073741823 z0 4 λz2=>bC λz3=>z3<=cV .u32->z3=aZ .xor .u32 0 ((1073741824*z0)+(((-4294967296)*af)+z2))->bQ 0 524287 (524288*z0) 4294967296 λz4=>bQ 0 524287 z0 8192 λz5=>bC λaq=>aq<=cV .u32->aq=aZ .xor .u32 z3 ((524288*z0)+(((-4294967296)*z4)+z5))->bQ 0 1023 (1024*z0) 4294967296 λz7=>bQ 0 1023 z0 4194304 λak=>bC λ z9=>z9<=cV .u32->z9=aZ .xor .u32 aq ((1024*z0)+(((-4294967296)*z7)+ak))->K [[z0]] [[z9]]
def Td (S:zzS) (K:zzK):Prop:=tF λz0=>bQ 0 67108863 (67108864*z0) 4294967296 λaf=>bQ 0 67108863 z0 64 λz2=>bC λz3=>z3<=cV .u32->z3=aZ .xor .u32 0 ((67108864*z0)+(((-4294967296)*af)+z2))->bQ 0 2097151 (2097152*z0) 4294967296 λz4=>bQ 0 2097151 z0 2048 λz5=>bC λaq=>aq<=cV .u32->aq=aZ .xor .u32 z3 ((2097152*z0)+(((-4294967296)*z4)+z5))->bQ 0 127 (128*z0) 4294967296 λz7=>bQ 0 127 z0 33554432 λak=>bC λ z9=>z9<=cV .u32->z9=aZ .xor .u32 aq ((128*z0)+(((-4294967296)*z7)+ak))->K [[z0]] [[z9]]
def Te (S:zzS) (K:zzK):Prop:=tF λz0=>bQ 0 33554431 (33554432*z0) 4294967296 λaf=>bQ 0 33554431 z0 128 λz2=>bC λz3=>z3<=cV .u32->z3=aZ .xor .u32 0 ((33554432*z0)+(((-4294967296)*af)+z2))->bQ 0 16383 (16384*z0) 4294967296 λz4=>bQ 0 16383 z0 262144 λz5=>bC λaq=>aq<=cV .u32->aq=aZ .xor .u32 z3 ((16384*z0)+(((-4294967296)*z4)+z5))->bQ 0 536870911 z0 8 λz7=>bC λak=>ak<=cV .u32->ak=aZ .xor .u32 aq z7->K [[z0]] [[ak]]
def Tf (S:zzS) (K:zzK):Prop:=tF λz0=>bQ 0 32767 (32768*z0) 4294967296 λaf=>bQ 0 32767 z0 131072 λz2=>bC λz3=>z3<=cV .u32->z3=aZ .xor .u32 0 ((32768*z0)+(((-4294967296)*af)+z2))->bQ 0 8191 (8192*z0) 4294967296 λz4=>bQ 0 8191 z0 524288 λz5=>bC λaq=>aq<=cV .u32->aq=aZ .xor .u32 z3 ((8192*z0)+(((-4294967296)*z4)+z5))->bQ 0 4194303 z0 1024 λz7=>bC λak=>ak<=cV .u32->ak=aZ .xor .u32 aq z7->K [[z0]] [[ak]]
theorem as1 (w n:Nat) (hn:n<=w) (z q r:Int) (h1:0<=2^(w-n)*z-2^w*q) (h2:2^(w-n)*z-2^w*q<2^w) (h3:0<=z-2^n*r) (h4:z-2^n*r<2^n):(2^(w-n)*z-2^w*q)+r=dU w n z:=by
 have e:(2:Int)^w=2^(w-n)*2^n:=by rw[<-Int.pow_add];congr 1;omega
 have p1:(0:Int)<2^(w-n):=Int.pow_pos (by decide);have aJ:(0:Int)<2^n:=Int.pow_pos (by decide);have hD:z/2^n=r:=by
  rw[adL aJ];constructor
  ·rw[vM];omega
  ·rw[vM r];omega
 have eq:q=r:=by
  rw[e]at h1 h2;have f1:2^(w-n)*z-2^(w-n)*2^n*q=2^(w-n)*(z-2^n*q):=by rw[Int.mul_sub,Int.mul_assoc]
  rw[f1]at h1 h2;have g1:0<=z-2^n*q:=by
   rcases Int.lt_or_le (z-2^n*q) 0 with h|h
   ·have:=Int.mul_neg_of_pos_of_neg p1 h;omega
   ·exact h
  have g2:z-2^n*q<2^n:=Int.lt_of_mul_lt_mul_left h2 (Int.le_of_lt p1);have:=hD;rw[adL aJ]at this;have h5:z/2^n=q:=by
   rw[adL aJ];constructor
   ·rw[vM];omega
   ·rw[vM q];omega
  rw[<-h5,hD]
 subst eq;unfold dU;rw[hD,Int.emod_def,hD,e,Int.mul_assoc,<-Int.mul_sub,vM (z-2^n*q) _];omega
theorem tH (w n:Nat) (hn:n<=w) (A B D:Int) (hA:A=2^(w-n)) (hB:B=2^w) (me:D=2^n) {z q r:Int} (h1:0<=A*z-B*q) (h2:A*z-B*q<B) (h3:0<=z-D*r) (h4:z-D*r<D):A*z+(-B*q+r)=dU w n z:=by
 subst hA;subst hB;subst me;rw[<-as1 w n hn z q r h1 h2 h3 h4,Int.neg_mul];omega
theorem aqV:Tc SB (bS SB [oV] 444):=by
 intro z0 a0 a1 af q1 KA p1 xj z2 q2 KB aJ xk z3 q3 B5 e3 z4 dr QQ b7 zh z5 kA QR dD zi aq ox QS gh z7 se QT pn FK ak mu FQ B0 QG z9 tD QU oX;have r1:=tH 32 2 (by decide) 1073741824 4294967296 4 (by decide) (by decide) (by decide) p1 xj aJ xk;have fN:=tH 32 13 (by decide) 524288 4294967296 8192 (by decide) (by decide) (by decide) b7 zh dD zi;have zr:=tH 32 22 (by decide) 1024 4294967296 4194304 (by decide) (by decide) (by decide) pn FK B0 QG;refine⟨⟨tD,QU,trivial⟩,?_⟩;show [[z9]]=[[wi aT z0]];rw[oX,gh,e3,r1,fN,zr];rfl
theorem aqW:Td SB (bS SB [oV] 445):=by
 intro z0 a0 a1 af q1 KA p1 xj z2 q2 KB aJ xk z3 q3 B5 e3 z4 dr QQ b7 zh z5 kA QR dD zi aq ox QS gh z7 se QT pn FK ak mu FQ B0 QG z9 tD QU oX;have r1:=tH 32 6 (by decide) 67108864 4294967296 64 (by decide) (by decide) (by decide) p1 xj aJ xk;have fN:=tH 32 11 (by decide) 2097152 4294967296 2048 (by decide) (by decide) (by decide) b7 zh dD zi;have zr:=tH 32 25 (by decide) 128 4294967296 33554432 (by decide) (by decide) (by decide) pn FK B0 QG;refine⟨⟨tD,QU,trivial⟩,?_⟩;show [[z9]]=[[wj aT z0]];rw[oX,gh,e3,r1,fN,zr];rfl
theorem aqX:Te SB (bS SB [oV] 446):=by
 intro z0 a0 a1 af q1 KA p1 xj z2 q2 KB aJ xk z3 q3 B5 e3 z4 dr QQ b7 zh z5 kA QR dD zi aq ox QS gh z7 se QT pn FK ak mu FQ yk;have r1:=tH 32 7 (by decide) 33554432 4294967296 128 (by decide) (by decide) (by decide) p1 xj aJ xk;have fN:=tH 32 18 (by decide) 16384 4294967296 262144 (by decide) (by decide) (by decide) b7 zh dD zi;have zr:z7=z0/2^3:=by rw[show(2:Int)^3=8 by decide];omega
 refine⟨⟨mu,FQ,trivial⟩,?_⟩;show [[ak]]=[[Cu aT z0]];rw[yk,gh,e3,r1,fN,zr];rfl
theorem aqY:Tf SB (bS SB [oV] 447):=by
 intro z0 a0 a1 af q1 KA p1 xj z2 q2 KB aJ xk z3 q3 B5 e3 z4 dr QQ b7 zh z5 kA QR dD zi aq ox QS gh z7 se QT pn FK ak mu FQ yk;have r1:=tH 32 17 (by decide) 32768 4294967296 131072 (by decide) (by decide) (by decide) p1 xj aJ xk;have fN:=tH 32 19 (by decide) 8192 4294967296 524288 (by decide) (by decide) (by decide) b7 zh dD zi;have zr:z7=z0/2^10:=by rw[show(2:Int)^10=1024 by decide];omega
 refine⟨⟨mu,FQ,trivial⟩,?_⟩;show [[ak]]=[[Cv aT z0]];rw[yk,gh,e3,r1,fN,zr];rfl
end Go.aX
namespace Go.aX
open Go Go.aW
def LV (S:zzS) (K:zzK):Prop:=cQ λz0=>(ah 66 [z0]->bC λaf=>bm (-2) bT λz2=>bj 20 [z0] λz3=>(ah 53 [z2,z3]->(aE (decide (z2=(-1))) (K [[z0]] [[0]]) (ah 22 [z0,0,z3]/\ah 23 [0,z3]/\a8 22 [z0,0,z3] λz4=>a8 24 [0,z4] λz5=>(aE (decide (z3<=0)) (K [[z0]] [[0]]) (bm (-2) bT λaq=>ah 22 [z5,0,z3]/\a8 22 [z5,0,z3] λz7=>K [[z0]] [[z7]]))))))
def Mf (S:zzS) (K:zzK):Prop:=bm (-0x8000000000000000) bT λz0=>bm (-0x8000000000000000) bT λaf=>(aE (decide (z0<0)) (K [[z0],[af]] [[0]]) ((aE (decide (1099511627776<z0)) (K [[z0],[af]] [[0]]) ((aE ((!(decide (af=32)))) ((aE ((!(decide (af=64)))) (K [[z0],[af]] [[0]]) (bQ (-1) 1 ((2*af)+0x8000000000000000) dF λz2=>ah 77 [af]/\bQ 0 0x1fffffffffffffff af 4 λz3=>ah 36 [((2*af)+(aM*z2))]/\fw 0 0x2000010000000000 38 [((z0+z3)+1),((2*af)+(aM*z2))] λz4=>bQ (-1) 0 (((2*af)+((aM*z2)+((-1)*z4)))+0x8000000000000000) dF λz5=>ah 77 [((2*af)+((aM*z2)+(((-1)*z4)+(aM*z5))))]/\ah 36 [((2*af)+(aM*z2))]/\fw 0 0x7ffffffffffffffe 38 [((2*af)+((aM*z2)+(((-1)*z4)+(aM*z5)))),((2*af)+(aM*z2))] λaq=>cz ((z0+(z3+aq))+eI) dF λz7=>K [[z0],[af]] [[((z0+(z3+(aq+(aM*z7))))+1)]]))) (bQ (-1) 1 ((2*af)+0x8000000000000000) dF λz2=>ah 77 [af]/\bQ 0 0x1fffffffffffffff af 4 λz3=>ah 36 [((2*af)+(aM*z2))]/\fw 0 0x2000010000000000 38 [((z0+z3)+1),((2*af)+(aM*z2))] λz4=>bQ (-1) 0 (((2*af)+((aM*z2)+((-1)*z4)))+0x8000000000000000) dF λz5=>ah 77 [((2*af)+((aM*z2)+(((-1)*z4)+(aM*z5))))]/\ah 36 [((2*af)+(aM*z2))]/\fw 0 0x7ffffffffffffffe 38 [((2*af)+((aM*z2)+(((-1)*z4)+(aM*z5)))),((2*af)+(aM*z2))] λaq=>cz ((z0+(z3+aq))+eI) dF λz7=>K [[z0],[af]] [[((z0+(z3+(aq+(aM*z7))))+1)]]))))))
theorem oB {c l z:Int} (h:z=aB 22 [c,0,l]) (hl:l=((ab c).length:Int)):ab z=ab c:=by
 rw[h];show ab (rc (((ab c).drop (0:Int).toNat).take (l.toNat-(0:Int).toNat)))=_
 rw[di,hl];simp
theorem aoS {c:Int} (h:((ab c).length:Int)=0):ab c=[]:=ra (by omega)
theorem aqO:LV SB (dS SB [Ks] 462):=by
 delta LV aE bm bC bj cQ a8 bT;dsimp only
 intro z0 a0 a1 hp af b1 z2 bW c1 z3 d0 d1 h3 hn;have h3:z3=((ab z0).length:Int):=h3;have hl:(ab z0).length<=1000000:=hp;have hn:z2<0->z3=0:=hn;have fin:∀z,0<=z->z<=bV->ab z=ab z0->dS SB [Ks] 462 [[z0]] [[z]]:=λz h1 h2 h=>⟨⟨h1,h2,trivial⟩,h⟩;have e0:z3<=0->dS SB [Ks] 462 [[z0]] [[0]]:=λh=>fin 0 (bO _) sG (by rw[eV,aoS (c:=z0) (by omega)]);refine⟨λh=>e0 (by have h:=of_decide_eq_true h;have:=hn (by omega);omega),λh=>⟨⟨bO _,by omega,by rw[h3];exact bO _⟩,by show(ab 0).length+z3<=1073741824;rw[eV];simp only[fe];omega,λz4 f0 f1 h4 z5 g0 g1 h5=>?_⟩⟩;have h4:=oB h4 h3;have h5:ab z5=ab z0:=by
  rw[h5];show ab (rc (ab 0++ab z4))=_
  rw[di,eV,h4];rfl
 refine⟨λh=>e0 (of_decide_eq_true h),λh aq i0 i1=>⟨⟨bO _,by omega,by rw[h3,h5];exact bO _⟩,λz7 e9 cm h7=>fin z7 e9 cm ?_⟩⟩;rw[oB h7 (by rw[h3,h5]),h5]
theorem arN:Mf SB (bS SB [nn] 440):=by
 delta Mf aE cz bQ bm fw dF aM bT eI;dsimp only
 intro z0 a0 a1 af b0 b1;have fin:∀z:Int,-0x8000000000000000<=z->z<=0x7fffffffffffffff->z=mr z0 af->bS SB [nn] 440 [[z0],[af]] [[z]]:=λz h1 h2 h=>⟨⟨h1,h2,trivial⟩,by show [[z]]=[[mr z0 af]];rw[h]⟩;have bad:(z0<0∨1099511627776<z0∨(af≠32/\af≠64))->bS SB [nn] 440 [[z0],[af]] [[0]]:=λh=>fin 0 (by omega) (by omega) (by unfold mr;rw[if_pos h]);refine⟨λh=>bad (.inl (of_decide_eq_true h)),λh=>⟨λh'=>bad (.inr (.inl (of_decide_eq_true h'))),λh'=>?_⟩⟩;have n0:0<=z0:=by have:=of_decide_eq_false h;omega
 have n1:z0<=1099511627776:=by have:=of_decide_eq_false h';omega
 obtain⟨N,rfl⟩:∃N:Nat,(N:Int)=z0:=⟨z0.toNat,by omega⟩;refine⟨λg=>⟨λg'=>bad (.inr (.inr ⟨by simpa using g,by simpa using g'⟩)),λg'=>?_⟩,λg=>?_⟩
 ·have hz:af=64:=by simpa using g'
  subst hz;intro z2 bW c1 c2 c3;have:z2=0:=by omega
  subst this;refine⟨by show(0:Int)<=64;decide,λz3 d0 d1 d2 d3=>?_⟩;have:z3=16:=by omega
  subst this;refine⟨by show(0:Int)<2*64+-0x10000000000000000*0;decide,λz4 e0 e1 h4 z5 f0 f1 f2 f3=>?_⟩;have h4:z4=((N:Int)+16+1)% (2*64+-0x10000000000000000*0):=h4;rw[show(2*64+-0x10000000000000000*0:Int)=128 by decide]at h4;have:z5=0:=by omega
  subst this;refine⟨by show(0:Int)<=_;omega,by show(0:Int)<2*64+-0x10000000000000000*0;decide,λaq g0 g1 h6 z7 i0 i1 i2 i3=>?_⟩;have h6:aq=(2*64+(-0x10000000000000000*0+(-1*z4+-0x10000000000000000*0)))% (2*64+-0x10000000000000000*0):=h6;rw[show(2*64+-0x10000000000000000*0:Int)=128 by decide]at h6;have:z7=0:=by omega
  subst this;refine fin _ (by omega) (by omega) ?_;unfold mr mT;rw[if_neg (by omega)];simp only[ek];rw[show(64:Int).toNat=64 from rfl];omega
 ·have hz:af=32:=by simpa using g
  subst hz;intro z2 bW c1 c2 c3;have:z2=0:=by omega
  subst this;refine⟨by show(0:Int)<=32;decide,λz3 d0 d1 d2 d3=>?_⟩;have:z3=8:=by omega
  subst this;refine⟨by show(0:Int)<2*32+-0x10000000000000000*0;decide,λz4 e0 e1 h4 z5 f0 f1 f2 f3=>?_⟩;have h4:z4=((N:Int)+8+1)% (2*32+-0x10000000000000000*0):=h4;rw[show(2*32+-0x10000000000000000*0:Int)=64 by decide]at h4;have:z5=0:=by omega
  subst this;refine⟨by show(0:Int)<=_;omega,by show(0:Int)<2*32+-0x10000000000000000*0;decide,λaq g0 g1 h6 z7 i0 i1 i2 i3=>?_⟩;have h6:aq=(2*32+(-0x10000000000000000*0+(-1*z4+-0x10000000000000000*0)))% (2*32+-0x10000000000000000*0):=h6;rw[show(2*32+-0x10000000000000000*0:Int)=64 by decide]at h6;have:z7=0:=by omega
  subst this;refine fin _ (by omega) (by omega) ?_;unfold mr mT;rw[if_neg (by omega)];simp only[ek];rw[show(32:Int).toNat=32 from rfl];omega
end Go.aX
namespace Go.aX
open Go Go.aW
def Tg (S:zzS) (K:zzK):Prop:=bm 0 79 λz0=>ah 74 [z0,80]/\bm 0x6ca6351e003826f 0xf57d4f7fee6ed178 λaf=>af=ar [0x428a2f98d728ae22,0x7137449123ef65cd,0xb5c0fbcfec4d3b2f,0xe9b5dba58189dbbc,0x3956c25bf348b538,0x59f111f1b605d019,0x923f82a4af194f9b,0xab1c5ed5da6d8118,0xd807aa98a3030242,0x12835b0145706fbe,0x243185be4ee4b28c,0x550c7dc3d5ffb4e2,0x72be5d74f27b896f,0x80deb1fe3b1696b1,0x9bdc06a725c71235,0xc19bf174cf692694,0xe49b69c19ef14ad2,0xefbe4786384f25e3,0xfc19dc68b8cd5b5,0x240ca1cc77ac9c65,0x2de92c6f592b0275,0x4a7484aa6ea6e483,0x5cb0a9dcbd41fbd4,0x76f988da831153b5,0x983e5152ee66dfab,0xa831c66d2db43210,0xb00327c898fb213f,0xbf597fc7beef0ee4,0xc6e00bf33da88fc2,0xd5a79147930aa725,0x6ca6351e003826f,0x142929670a0e6e70,0x27b70a8546d22ffc,0x2e1b21385c26c926,0x4d2c6dfc5ac42aed,0x53380d139d95b3df,0x650a73548baf63de,0x766a0abb3c77b2a8,0x81c2c92e47edaee6,0x92722c851482353b,0xa2bfe8a14cf10364,0xa81a664bbc423001,0xc24b8b70d0f89791,0xc76c51a30654be30,0xd192e819d6ef5218,0xd69906245565a910,0xf40e35855771202a,0x106aa07032bbd1b8,0x19a4c116b8d2d0c8,0x1e376c085141ab53,0x2748774cdf8eeb99,0x34b0bcb5e19b48a8,0x391c0cb3c5c95a63,0x4ed8aa4ae3418acb,0x5b9cca4f7763e373,0x682e6ff3d6b2b8a3,0x748f82ee5defb2fc,0x78a5636f43172f60,0x84c87814a1f0ab72,0x8cc702081a6439ec,0x90befffa23631e28,0xa4506cebde82bde9,0xbef9a3f7b2c67915,0xc67178f2e372532b,0xca273eceea26619c,0xd186b8c721c0c207,0xeada7dd6cde0eb1e,0xf57d4f7fee6ed178,0x6f067aa72176fba,0xa637dc5a2c898a6,0x113f9804bef90dae,0x1b710b35131c471b,0x28db77f523047d84,0x32caab7b40c72493,0x3c9ebe0a15c9bebc,0x431d67c49c100d4c,0x4cc5d4becb3e42b6,0x597f299cfc657e2a,0x5fcb6fab3ad6faec,0x6c44198c4a475817] (z0).toNat 0->bQ 113926993 4118630271 af 4294967296 λz2=>K [[z0]] [[z2]]
theorem aqZ:Tg SB (bS SB [oV] 466):=by
 intro z0 a0 a1;refine⟨⟨a0,by omega⟩,λaf b0 b1 h1 z2 bW c1 c2 c3=>⟨⟨by omega,by omega,trivial⟩,?_⟩⟩;have h1:af=si.getD z0.toNat 0:=h1;show [[z2]]=[[si.getD z0.toNat 0/2^(64-32)]];rw[<-h1,show(2:Int)^(64-32)=4294967296 by decide];have:z2=af/4294967296:=by omega
 rw[this]
theorem l9 (z:Int):(ba z).length=(ab z).length:=by simp[ba]
theorem wk {z r:Int} (h:ab r=ab z):ba r=ba z:=by unfold ba;rw[h]
theorem eQ {c i z:Int} (h:z=aB 21 [c,i,0]):z=(ba c).getD i.toNat 0:=by
 rw[h];show((ab c).getD i.toNat []).getD (0:Int).toNat 0=_;unfold ba;rw[kH (l:=(ab c).map _),lV,kH (l:=ab c)];cases(ab c)[i.toNat]?<;>rfl
theorem Wq (l:List Int) (n:Nat) (h:l.length=n):l=(cD n).map λi=>l.getD i 0:=by
 apply LB
 ·simp[h]
 ·intro i h1 h2;simp[ar,h1]
theorem auf (p:fD) (i:Nat) (x:Int) (v:List Int) (h:v.length=8):(vw p i x v).length=8:=by
 match v,h with
 |[a,b,c,d,e,f,g,k],_=>rfl
theorem Rm (p:fD):∀(m:List Int) (i:Nat) (v:List Int),v.length=8->(pq p i m v).length=8
 |[],_,_,h=>h
 |x::m,i,v,h=>Rm p m (i+1) _ (auf p i x v h)
theorem auD (p:fD) (h m:List Int) (hl:h.length=8):(tM p h m).length=8:=by
 unfold tM;rw[List.length_zipWith,Rm p _ _ _ hl,hl];rfl
theorem afl (p:fD):(mE p).length=8:=by simp[mE];rfl
theorem UO (p:fD) (b:List Int):∀i,(qE p b i (mE p)).length=8
 |0=>afl p
 |i+1=>auD p _ _ (UO p b i)
theorem QE (p:fD):∀(h:List Int),(qh p h).length=h.length*(p.w/8)
 |[]=>by simp[qh]
 |x::h=>by
  have:=QE p h;unfold qh at*;simp only[List.flatMap_cons,c8,jW,azi,this,dj];rw[Nat.succ_mul];omega
theorem C9 (p:fD) (b:List Int):(rB p b).length=8*(p.w/8):=by unfold rB;rw[QE,UO]
theorem aao (b:List Int):(sd aT b).length=mT 32 b.length/\64∣mT 32 b.length/\mT 32 b.length<=b.length+100:=by
 have e:mT 32 b.length=(b.length+1+8+63)/64*64:=rfl;refine⟨?_,⟨(b.length+1+8+63)/64,by rw[e,Nat.mul_comm]⟩,by rw[e];omega⟩;unfold sd wh;simp only[c8,dj,fe,S2,jW,azi];show _+(mT 32 _-_-9)+8=mT 32 _;rw[e];omega
theorem PH:∀(n:Nat) (l:List Int),l.length=n->(∀x∈l,0<=x/\x<=255)->bd (jb 0 255 n) l
 |0,[],_,_=>trivial
 |n+1,x::l,hl,h=>⟨(h x (by simp)).1,(h x (by simp)).2,PH n l (by simpa using hl) λy hy=>h y (List.mem_cons_of_mem _ hy)⟩
end Go.aX
namespace Go.aX
open Go Go.aW
def Mg (S:zzS) (K:zzK):Prop:=cQ λz0=>(ah 71 [z0]->bC λaf=>bm (-2) bT λz2=>bj 20 [z0] λz3=>bm (-0x8000000000000000) bT λz4=>S 440 [[z3],[32]] [[z4]]->ah 49 [z4,z4]/\a8 26 [z4,0] λz5=>bm (-2) bT λaq=>ah 80 [z5,0,z4]/\ah 22 [z0,0,z3]/\bj 62 [z3,z4] λz7=>a8 22 [z0,0,z7] λak=>a8 63 [z5,0,ak] λz9=>ah 30 [z3,z4]/\ah 21 [z9,z3]/\(ah 67 [z9,z3,1]->a8 42 [z9,z3,0,128] λaC=>bQ 0 3 (8*z3) dF λaD=>∃(xU:List (List Int)->Prop) (Hp:List (List Int)->Nat),xU [[((8*z3)+(aM*aD))],[(z4+(-1))],[aC]]/\(dg λaU=>tE λaP=>cQ λaw=>xU [[aU],[aP],[aw]]->(aE (decide (0<aU)) (bQ 0 0xffffffffffffff aU 256 λ bF=>ah 30 [aP,z4]/\ah 21 [aw,aP]/\(ah 67 [aw,aP,1]->a8 42 [aw,aP,0,(aU+((-256)*bF))] λbY=>bQ 0 0xffffffffffffff aU 256 λ aF=>ah 39 [(aP+(-1)),(-1),bT]/\(xU [[aF],[(aP+(-1))],[bY]]/\Hp [[aF],[(aP+(-1))],[bY]]<Hp [[aU],[aP],[aw]]))) (ah 22 [aw,0,z4]/\a8 22 [aw,0,z4] λbF=>K [[z0]] [[bF]])))))
def rws (l:List Int):List (List Int):=l.map λx=>[x]
theorem M1 {z:Int} {l:List Int} (h:ab z=rws l):ba z=l:=by
 unfold ba rws at*;rw[h,jf];exact(gw λx _=>rfl).trans (G3 l)
theorem vt (l:List Int):(rws l).length=l.length:=by simp[rws]
theorem abb (a b:List Int):rws (a++b)=rws a++rws b:=by simp[rws]
theorem Rr (n:Nat) (x:Int):rws (eh n x)=eh n [x]:=by simp[rws]
def pv (v:Nat) (j:Nat):List Int:=(cD j).map λq=>((v/256^(j-1-q)% 256:Nat):Int)
theorem auK (v j:Nat):(pv v j).length=j:=by simp[pv]
theorem abL (v j:Nat):pv v (j+1)=((v/256^j% 256:Nat):Int)::pv v j:=by
 unfold pv;rw[SW,ch,jf];refine congr (congrArg _ (by simp)) (gw λq hq=>?_);have:q<j:=List.mem_range.1 hq;simp only[Lw];rw[show j+1-1-(q+1)=j-1-q by omega]
theorem auJ (v:Nat):∀(d j:Nat),j+d=8->v/256^j=0->wh v=eh (8-j) 0++pv v j:=by
 have base:wh v=pv v 8:=by
  unfold wh pv;refine gw λq hq=>?_;have:q<8:=List.mem_range.1 hq;have e:(256:Nat)^(8-1-q)=2^(56-8*q):=by
   rw[show(256:Nat)=2^8 by rfl,<-Nat.pow_mul];congr 1;omega
  rw[e]
 intro d;induction d with
 |zero=>
  intro j hj _;have:j=8:=by omega
  subst this;simpa using base
 |succ d ih=>
  intro j hj h0;have h1:v/256^(j+1)=0:=by rw[xG,<-LA,h0]
  rw[ih (j+1) (by omega) h1,abL,h0,show 8-j=(8-(j+1))+1 by omega,adK];simp
theorem RD {α:Type} (a b:List α) (x y:α) (n:Nat) (h:a.length=n):(a++x::b).set n y=a++y::b:=by
 subst h;induction a with
 |nil=>rfl
 |cons z a ih=>simp[ih]
theorem Wo {α:Type} (a b:List α) (x d:α) (n:Nat) (h:a.length=n):(a++x::b).getD n d=x:=by
 subst h;simp[ar]
theorem arO:Mg SB (dS SB [zg] 442):=by
 delta Mg aE bQ bm bC bj cQ a8 dg tE dF aM bT;dsimp only
 intro z0 a0 a1 hp af b0 z2 bW c1 z3 d0 d1 h3 z4 e0 e1 h4;have hp:(ab z0).length<=1000000000:=hp;have h3:z3=((ab z0).length:Int):=h3;have h4:[[z4]]=[[mr z3 32]]:=h4;obtain⟨n,hn⟩:∃n,(ab z0).length=n:=⟨_,rfl⟩;rw[hn]at h3 hp;have OA:(ba z0).length=n:=by rw[l9,hn]
 obtain⟨P,iC⟩:∃P,mT 32 n=P:=⟨_,rfl⟩;have Of:P=(n+1+8+63)/64*64:=iC.symm;have h4:z4=(P:Int):=by
  have:z4=mr z3 32:=by simpa using h4
  rw[this];unfold mr;rw[if_neg (by omega),h3];simp only[ek];rw[show(32:Int).toNat=32 from rfl,iC]
 have g1:n+9<=P:=by omega
 have g2:P<=1000001000:=by omega
 refine⟨⟨by omega,by omega,by omega⟩,λz5 f0 f1 h5 aq i0 i1=>?_⟩;have h5:ab z5=rws (eh P 0):=by
  rw[h5];show ab (rc (eh z4.toNat [0]))=_;rw[di,Rr,h4];simp
 have w7:(ab z5).length=P:=by rw[h5,vt];simp
 refine⟨⟨bO _,by omega,by rw[w7];omega⟩,⟨bO _,by omega,by rw[hn];omega⟩,λz7 e9 cm h7 ak iG k1 h8 z9 m0 dE bE=>?_⟩;have h7:z7=(n:Int):=by
  have:z7=min z3 z4:=h7;rw[this,h3,h4];omega
 have h8:ab ak=ab z0:=oB h8 (by rw[h7,hn]);obtain⟨aFN,PB⟩:∃l:List (List Int),ab z0=l:=⟨_,rfl⟩;have bE:ab z9=ab z0++rws (0::eh (P-n-1) 0):=by
  rw[bE];show ab (rc ((ab z5).take (0:Int).toNat++ab ak++(ab z5).drop ((0:Int).toNat+(ab ak).length)))=_;rw[di,h8,h5,hn];simp only[G2,Hk,gv,sB]
  congr 1
  rw[Rr,List.drop_replicate,<-List.replicate_succ,Rr];rw[show P-n-1+1=P-n by omega]
 have JR:(ab z9).length=P:=by rw[bE,c8,hn,vt];simp;omega
 refine⟨⟨by omega,by omega⟩,⟨by omega,by rw[JR];omega⟩,λ_ aC n0 n1 cW aD xe xf mq o3=>?_⟩;have:aD=0:=by omega
 subst this;have cW:ab aC=ab z0++rws (128::eh (P-n-1) 0):=by
  rw[cW];show ab (rc ((ab z9).set z3.toNat (((ab z9).getD z3.toNat []).take (0:Int).toNat++[128]++((ab z9).getD z3.toNat []).drop ((0:Int).toNat+[(128:Int)].length))))=_;have e1:rws (0::eh (P-n-1) 0)=[0]::rws (eh (P-n-1) 0):=rfl;have e2:rws (128::eh (P-n-1) 0)=[128]::rws (eh (P-n-1) 0):=rfl;have hl:(ab z0).length=z3.toNat:=by rw[hn,h3];simp
  rw[di,bE,e1,e2,Wo _ _ _ _ _ hl];simp only[G2,Hk,gv,Sy,ac2,CU,sB,lv];exact RD _ _ _ _ _ hl
 refine⟨λl=>∃(j:Nat) (c:Int),j<=8/\l=[[((8*n/256^j:Nat):Int)],[(P:Int)-1-j],[c]]/\ab c=ab z0++rws (128::eh (P-n-1-j) 0++pv (8*n) j),λl=>((l.getD 0 []).getD 0 0).toNat,⟨0,aC,by decide,by
  rw[Nat.pow_zero,Nat.div_one,show(8*z3+-0x10000000000000000*0:Int)=((8*n:Nat):Int) by omega,show(z4+-1:Int)=(P:Int)-1-((0:Nat):Int) by omega],by rw[cW];simp[pv]⟩,?_⟩
 intro aU p0 p1 aP q0 q1 aw r0 r1 hI;obtain⟨j,c,hj,hl,hc⟩:=hI;simp only[gY,and_true]at hl;obtain⟨VB,AG,Is⟩:=hl;subst Is;have P1:(ab aw).length=P:=by
  rw[hc,c8,hn,vt];simp only[c8,dj,S2,auK];omega
 refine⟨λmi=>?_,λJj=>⟨⟨bO _,by omega,by rw[P1];omega⟩,λbF s0 s1 kQ=>⟨⟨s0,s1,trivial⟩,?_⟩⟩⟩
 ·have mi:=of_decide_eq_true mi;intro bF s0 s1 s2 ez;have aAK:j<8:=by
   rcases m6 j 8 with h|h
   ·exact h
   ·have:j=8:=by omega
    subst this;have:8*n/256^8=0:=Nat.div_eq_of_lt (by omega);omega
  refine⟨⟨by omega,by omega⟩,⟨by omega,by rw[P1];omega⟩,λ_ bY t0 t1 iU aF u0 fO lP oD=>?_⟩;have Jp:ab aw=ab z0++rws ((128::eh (P-n-1-j-1) 0)++0::pv (8*n) j):=by
   rw[hc];congr 2;rw[show P-n-1-j=(P-n-1-j-1)+1 by omega,adK];simp
  have alI:ab bY=ab z0++rws ((128::eh (P-n-1-j-1) 0)++(aU+-256*bF)::pv (8*n) j):=by
   rw[iU];show ab (rc ((ab aw).set aP.toNat (((ab aw).getD aP.toNat []).take (0:Int).toNat++[aU+-256*bF]++((ab aw).getD aP.toNat []).drop ((0:Int).toNat+[aU+-256*bF].length))))=_;have e1:∀x:Int,ab z0++rws ((128::eh (P-n-1-j-1) 0)++x::pv (8*n) j)=(ab z0++rws (128::eh (P-n-1-j-1) 0))++[x]::rws (pv (8*n) j):=λx=>by
    rw[abb,eG];rfl
   have hl:(ab z0++rws (128::eh (P-n-1-j-1) 0)).length=aP.toNat:=by
    rw[c8,hn,vt];simp only[dj,S2];omega
   rw[di,Jp,e1,e1,Wo _ _ _ _ _ hl];simp only[G2,Hk,gv,Sy,ac2,CU,sB,lv];exact RD _ _ _ _ _ hl
  have Nq:bF=aU/256:=by omega
  have DA:aF=aU/256:=by omega
  refine⟨⟨by omega,by omega⟩,⟨j+1,bY,by omega,?_,?_⟩,?_⟩
  ·rw[show aF=((8*n/256^(j+1):Nat):Int) by rw[xG,<-LA,DA,VB];simp,show(aP+-1:Int)=(P:Int)-1-((j+1:Nat):Int) by omega]
  ·rw[alI,abL]
   congr 2
   rw[show P-n-1-(j+1)=P-n-1-j-1 by omega]
   congr 2
   rw[Nq,VB];omega
  ·show aF.toNat<aU.toNat;omega
 ·have Jj:=of_decide_eq_false Jj;have h0:8*n/256^j=0:=by omega
  show ba bF=sd aT (ba z0);have kQ:=oB kQ (by rw[P1,h4]);have e0:ab aw=ab z0++rws (128::eh (P-n-9) 0++wh (8*n)):=by
   rw[hc,auJ (8*n) (8-j) j (by omega) h0]
   congr 2
   rw[show P-n-1-j=(P-n-9)+(8-j) by omega,<-List.replicate_append_replicate];simp only[qx,eG]
  unfold sd;rw[OA,show aT.w=32 from rfl,iC];unfold ba;rw[kQ,e0,fl];have:=M1 (z:=rc (rws (128::eh (P-n-9) 0++wh (8*n)))) (di _);unfold ba at this;rw[di]at this;rw[this];simp
end Go.aX
namespace Go.aX
open Go Go.aW
theorem NF (p:fD):∀(j:Nat) (m:List Int),mb p (j+1) m=mb p j m++[qY p (mb p j m)]
 |0,m=>rfl
 |j+1,m=>by
  show mb p (j+1) (m++[qY p m])=_;rw[NF p j];rfl
theorem Iv (p:fD):∀(j:Nat) (m:List Int),(mb p j m).length=m.length+j
 |0,_=>rfl
 |j+1,m=>by
  show(mb p j (m++[qY p m])).length=_;rw[Iv p j];simp;omega
theorem KT (p:fD):∀(m:List Int) (i:Nat) (x:Int) (v:List Int),pq p i (m++[x]) v=vw p (i+m.length) x (pq p i m v)
 |[],i,x,v=>rfl
 |y::m,i,x,v=>by
  show pq p (i+1) (m++[x]) _=vw p _ x (pq p (i+1) m _);rw[KT p m]
  congr 1
  simp only[dj];omega
theorem Lb (m:List Int) (i:Nat) (h:i<m.length):m.take (i+1)=m.take i++[m.getD i 0]:=by
 rw[Sx,gF h];simp[ar,h]
theorem anG {r:List Int} (h:r.length=8):r=[r.getD 0 0,r.getD 1 0,r.getD 2 0,r.getD 3 0,r.getD 4 0,r.getD 5 0,r.getD 6 0,r.getD 7 0]:=Wq r 8 h
theorem NV {c z x:Int} {l:List Int} (h:z=aB 23 [c,x]) (hc:ab c=rws l):ab z=rws (l++[x]):=by
 rw[h];show ab (rc (ab c++[[x]]))=_;rw[di,hc,abb];rfl
theorem DL {c i z:Int} {l:List Int} (h:z=aB 21 [c,i,0]) (hc:ab c=rws l):z=l.getD i.toNat 0:=by
 rw[eQ h,M1 hc]
theorem E4 {lo hi:Int}:∀(n:Nat) (l:List Int),bd (jb lo hi n) l->l.length=n/\∀x∈l,lo<=x/\x<=hi
 |0,[],_=>⟨rfl,λ_ h=>by cases h⟩
 |n+1,x::l,h=>by
  obtain⟨h1,h2⟩:=E4 n l h.2.2;refine⟨by simp[h1],λy hy=>?_⟩;rcases List.mem_cons.1 hy with rfl|hy
  ·exact⟨h.1,h.2.1⟩
  ·exact h2 y hy
 |0,_::_,h=>h.elim
 |_+1,[],h=>h.elim
theorem agD (b:List Int) (o n k:Nat) (hk:k<n):((b.drop o).take n).getD k 0=b.getD (o+k) 0:=by
 simp only[ar,List.getElem?_take,List.getElem?_drop,hk,if_true]
theorem xw {x c l k:Int} {pre:List Int} {Next:Int->Int->Int->Prop} (hc:ab c=rws pre) (hl:l=(pre.length:Int)) (hb:pre.length<=1000)
 (hn:∀c' bJ k':Int,0<=c'->c'<=bV->ab c'=rws (pre++(cD 4).map (qG aT x))->bJ=((pre.length+4:Nat):Int)->Next c' bJ k'):
 ∃(I:List (List Int)->Prop) (fo:List (List Int)->Nat),I [[3],[c],[l],[k]]/\(∀aw:Int,(-1)<=aw->aw<=3->∀bF:Int,0<=bF->bF<=bV->∀bY:Int,0<=bY->bY<=0x7fffffffffffffff->∀aF:Int,(-2)<=aF->aF<=0x7fffffffffffffff->I [[aw],[bF],[bY],[aF]]->
 (((decide (0<=aw))=true->
  ∀dH:Int,0<=dH->dH<=4294967295->dH=x/2^((8*aw)).toNat->
  ∀z20:Int,0<=z20->z20<=16777215->0<=dH-256*z20->dH-256*z20<256->
  ah 31 [bF,bY]/\
  ah 23 [bF,1]/\
  ∀z21:Int,0<=z21->z21<=bV->z21=aB 23 [bF,(dH+((-256)*z20))]->
  ∀aI:Int,(-2)<=aI->aI<=0x7fffffffffffffff->
  (I [[(aw+(-1))],[z21],[(bY+1)],[aI]]/\fo [[(aw+(-1))],[z21],[(bY+1)],[aI]]<fo [[aw],[bF],[bY],[aF]])
 )/\((decide (0<=aw))=false->Next bF bY aF))):=by
 refine⟨λl=>∃(j:Nat) (c' k':Int),j<=4/\l=[[3-(j:Int)],[c'],[((pre.length+j:Nat):Int)],[k']]/\ab c'=rws (pre++(cD j).map (qG aT x)),λl=>((l.getD 0 []).getD 0 0+1).toNat,⟨0,c,k,by decide,by rw[hl];rfl,by rw[hc];simp⟩,?_⟩;intro aw a0 a1 bF b0 b1 bY bW c1 aF d0 d1 ⟨j,c',k',hj,e,hr⟩;simp only[gY,and_true]at e;obtain⟨e1,e2,e3,e4⟩:=e;subst e2;have hlen:(ab bF).length=pre.length+j:=by rw[hr,vt];simp
 refine⟨λh dH f0 f1 f2 z20 g0 g1 g2 g3=>?_,λh=>?_⟩
 ·have h:=of_decide_eq_true h;refine⟨by show bY=((ab bF).length:Int);rw[hlen,e3],by show(ab bF).length+(1:Int)<=1073741824;rw[hlen];omega,λz21 i0 i1 i2 aI e9 cm=>⟨⟨j+1,z21,aI,by omega,?_,?_⟩,?_⟩⟩
  ·rw[show aw+-1=3-((j+1:Nat):Int) by omega,show bY+1=((pre.length+(j+1):Nat):Int) by omega]
  ·rw[NV i2 hr,eG,List.range_succ,fl]
   congr 3
   show [dH+-256*z20]=[x/2^(32-8-8*j)% 256];have:(8*aw).toNat=32-8-8*j:=by omega
   rw[<-this,<-f2]
   congr 1;omega
  ·show(aw+-1+1).toNat<(aw+1).toNat;omega
 ·have h:=of_decide_eq_false h;have:j=4:=by omega
  subst this;exact hn bF bY aF b0 b1 hr e3
end Go.aX
namespace Go.aX
open Go Go.aW
def LR (S:zzS) (K:zzK):Prop:=cQ λz0=>(ah 72 [z0]->bC λaf=>bm (-2) bT λz2=>bj 20 [z0] λz3=>ah 70 [z3,64]/\∃(lz:List (List Int)->Prop) (lY:List (List Int)->Nat),lz [[1779033703,3144134277,1013904242,2773480762,1359893119,2600822924,528734635,1541459225],[0]]/\(∀cw:List Int,bd (jb 0 4294967295 8) cw->fa λaU=>lz [cw,[aU]]->(aE (decide ((64*aU)<z3)) (ah 21 [z0,(64*aU)]/\df 21 [z0,(64*aU),0] λaP=>Nf z0 (64*aU) 63 1 [aP] λuu=>Nd uu 16 0 0 λz93=>ah 66 [z93]/\cQ λzO=>S 462 [[z93]] [[zO]]->bm (-2) bT λSt=>bj 20 [zO] λSu=>∃(Mx:List (List Int)->Prop) (adQ:List (List Int)->Nat),Mx [[16],[zO],[Su],[St]]/\(bm 16 bT λjw=>cQ λlR=>fa λpy=>bm (-2) bT λSp=>Mx [[jw],[lR],[py],[Sp]]->(aE (decide (jw<64)) (ah 30 [(jw+(-16)),py]/\ah 21 [lR,(jw+(-16))]/\B7 21 [lR,(jw+(-16)),0] λCE=>ah 30 [(jw+(-15)),py]/\ah 21 [lR,(jw+(-15))]/\B7 21 [lR,(jw+(-15)),0] λ Sq=>tF λxC=>S 446 [[Sq]] [[xC]]->cz (CE+xC) 4294967296 λz105=>ah 30 [(jw+(-7)),py]/\ah 21 [lR,(jw+(-7))]/\B7 21 [lR,(jw+(-7)),0] λGL=>cz (CE+(xC+(((-4294967296)*z105)+GL))) 4294967296 λz107=>ah 30 [(jw+(-2)),py]/\ah 21 [lR,(jw+(-2))]/\B7 21 [lR,(jw+(-2)),0] λSr=>tF λz109=>S 447 [[Sr]] [[z109]]->cz (CE+(xC+(((-4294967296)*z105)+(GL+(((-4294967296)*z107)+z109))))) 4294967296 λSs=>ah 31 [lR,py]/\ah 23 [lR,1]/\a8 23 [lR,(CE+(xC+(((-4294967296)*z105)+(GL+(((-4294967296)*z107)+(z109+((-4294967296)*Ss)))))))] λke=>bm (-2) bT λkf=>(Mx [[(jw+1)],[ke],[(py+1)],[kf]]/\adQ [[(jw+1)],[ke],[(py+1)],[kf]]<adQ [[jw],[lR],[py],[Sp]])) (∃(Mu:List (List Int)->Prop) (adN:List (List Int)->Nat),Mu [cw,[0]]/\(∀cS:List Int,bd (jb 0 4294967295 8) cS->fa λke=>Mu [cS,[ke]]->(aE (decide (ke<py)) (ah 30 [ke,py]/\ah 21 [lR,ke]/\B7 21 [lR,ke,0] λkf=>tF λkF=>S 445 [[(ar cS 4 0)]] [[kF]]->cz ((ar cS 7 0)+kF) 4294967296 λmA=>bC λvD=>vD<=cV .u32->vD=aZ .and .u32 (ar cS 4 0) (ar cS 5 0)->bC λz116=>z116<=cV .u32->z116=aZ .and .u32 (((-1)*(ar cS 4 0))+4294967295) (ar cS 6 0)->bC λz117=>z117<=cV .u32->z117=aZ .xor .u32 vD z116->cz ((ar cS 7 0)+(kF+(((-4294967296)*mA)+z117))) 4294967296 λm5=>ah 39 [ke,0,79]/\tF λz119=>S 466 [[ke]] [[z119]]->cz ((ar cS 7 0)+(kF+(((-4294967296)*mA)+(z117+(((-4294967296)*m5)+z119))))) 4294967296 λsu=>cz ((ar cS 7 0)+(kf+(kF+(((-4294967296)*mA)+(z117+(((-4294967296)*m5)+(z119+((-4294967296)*su)))))))) 4294967296 λtS=>tF λtT=>S 444 [[(ar cS 0 0)]] [[tT]]->bC λLo=>Lo<=cV .u32->Lo=aZ .and .u32 (ar cS 0 0) (ar cS 1 0)->bC λz124=>z124<=cV .u32->z124=aZ .and .u32 (ar cS 0 0) (ar cS 2 0)->bC λLp=>Lp<=cV .u32->Lp=aZ .xor .u32 Lo z124->bC λLq=>Lq<=cV .u32->Lq=aZ .and .u32 (ar cS 1 0) (ar cS 2 0)->bC λz127=>z127<=cV .u32->z127=aZ .xor .u32 Lp Lq->cz (tT+z127) 4294967296 λCF=>dT λCG=>0<=((ar cS 3 0)+((ar cS 7 0)+(kf+(kF+(((-4294967296)*mA)+(z117+(((-4294967296)*m5)+(z119+(((-4294967296)*su)+((-4294967296)*tS))))))))))-4294967296*CG->((ar cS 3 0)+((ar cS 7 0)+(kf+(kF+(((-4294967296)*mA)+(z117+(((-4294967296)*m5)+(z119+(((-4294967296)*su)+((-4294967296)*tS))))))))))-4294967296*CG<4294967296->dT λz130=>0<=((ar cS 7 0)+(kf+(kF+(((-4294967296)*mA)+(z117+(((-4294967296)*m5)+(z119+(((-4294967296)*su)+(((-4294967296)*tS)+(tT+(z127+((-4294967296)*CF))))))))))))-4294967296*z130->((ar cS 7 0)+(kf+(kF+(((-4294967296)*mA)+(z117+(((-4294967296)*m5)+(z119+(((-4294967296)*su)+(((-4294967296)*tS)+(tT+(z127+((-4294967296)*CF))))))))))))-4294967296*z130<4294967296->cz (ke+eI) dF λz131=>ah 39 [((ke+(aM*z131))+1),0,bT]/\(Mu [[((ar cS 7 0)+(kf+(kF+(((-4294967296)*mA)+(z117+(((-4294967296)*m5)+(z119+(((-4294967296)*su)+(((-4294967296)*tS)+(tT+(z127+(((-4294967296)*CF)+((-4294967296)*z130))))))))))))),(ar cS 0 0),(ar cS 1 0),(ar cS 2 0),((ar cS 3 0)+((ar cS 7 0)+(kf+(kF+(((-4294967296)*mA)+(z117+(((-4294967296)*m5)+(z119+(((-4294967296)*su)+(((-4294967296)*tS)+((-4294967296)*CG))))))))))),(ar cS 4 0),(ar cS 5 0),(ar cS 6 0)],[((ke+(aM*z131))+1)]]/\adN [[((ar cS 7 0)+(kf+(kF+(((-4294967296)*mA)+(z117+(((-4294967296)*m5)+(z119+(((-4294967296)*su)+(((-4294967296)*tS)+(tT+(z127+(((-4294967296)*CF)+((-4294967296)*z130))))))))))))),(ar cS 0 0),(ar cS 1 0),(ar cS 2 0),((ar cS 3 0)+((ar cS 7 0)+(kf+(kF+(((-4294967296)*mA)+(z117+(((-4294967296)*m5)+(z119+(((-4294967296)*su)+(((-4294967296)*tS)+((-4294967296)*CG))))))))))),(ar cS 4 0),(ar cS 5 0),(ar cS 6 0)],[((ke+(aM*z131))+1)]]<adN [cS,[ke]])) (cz ((ar cw 0 0)+(ar cS 0 0)) 4294967296 λkf=>cz ((ar cw 1 0)+(ar cS 1 0)) 4294967296 λkF=>cz ((ar cw 2 0)+(ar cS 2 0)) 4294967296 λmA=>cz ((ar cw 3 0)+(ar cS 3 0)) 4294967296 λvD=>cz ((ar cw 4 0)+(ar cS 4 0)) 4294967296 λz116=>cz ((ar cw 5 0)+(ar cS 5 0)) 4294967296 λz117=>cz ((ar cw 6 0)+(ar cS 6 0)) 4294967296 λm5=>cz ((ar cw 7 0)+(ar cS 7 0)) 4294967296 λz119=>(lz [[((ar cw 0 0)+((ar cS 0 0)+((-4294967296)*kf))),((ar cw 1 0)+((ar cS 1 0)+((-4294967296)*kF))),((ar cw 2 0)+((ar cS 2 0)+((-4294967296)*mA))),((ar cw 3 0)+((ar cS 3 0)+((-4294967296)*vD))),((ar cw 4 0)+((ar cS 4 0)+((-4294967296)*z116))),((ar cw 5 0)+((ar cS 5 0)+((-4294967296)*z117))),((ar cw 6 0)+((ar cS 6 0)+((-4294967296)*m5))),((ar cw 7 0)+((ar cS 7 0)+((-4294967296)*z119)))],[(aU+1)]]/\lY [[((ar cw 0 0)+((ar cS 0 0)+((-4294967296)*kf))),((ar cw 1 0)+((ar cS 1 0)+((-4294967296)*kF))),((ar cw 2 0)+((ar cS 2 0)+((-4294967296)*mA))),((ar cw 3 0)+((ar cS 3 0)+((-4294967296)*vD))),((ar cw 4 0)+((ar cS 4 0)+((-4294967296)*z116))),((ar cw 5 0)+((ar cS 5 0)+((-4294967296)*z117))),((ar cw 6 0)+((ar cS 6 0)+((-4294967296)*m5))),((ar cw 7 0)+((ar cS 7 0)+((-4294967296)*z119)))],[(aU+1)]]<lY [cw,[aU]])))))))) (xv (ar cw 0 0) 0 0 (-1) λbF bY aF=>xv (ar cw 1 0) bF bY aF λz21 aI eB=>xv (ar cw 2 0) z21 aI eB λcq jT z28=>xv (ar cw 3 0) cq jT z28 λz31 jU kV=>xv (ar cw 4 0) z31 jU kV λqs z37 xD=>xv (ar cw 5 0) qs z37 xD λqt nP sw=>xv (ar cw 6 0) qt nP sw λz46 gX xE=>xv (ar cw 7 0) z46 gX xE λz51 tU z53=>ah 22 [z51,0,tU]/\a8 22 [z51,0,tU] λvF=>K [[z0]] [[vF]]))))
theorem ZM {L S M k:Int} (h:L=S-M*k) (h1:0<=L) (h2:L<M):L=S% M:=by
 have e:S=L+M*k:=by omega
 rw[e,Int.add_mul_emod_self_left,sx h1 h2]
theorem acQ (f:Int->Int->Int) {r t:List Int} (h:r.length=8) (h':t.length=8):List.zipWith f r t=[f (r.getD 0 0) (t.getD 0 0),f (r.getD 1 0) (t.getD 1 0),f (r.getD 2 0) (t.getD 2 0),f (r.getD 3 0) (t.getD 3 0),f (r.getD 4 0) (t.getD 4 0),f (r.getD 5 0) (t.getD 5 0),f (r.getD 6 0) (t.getD 6 0),f (r.getD 7 0) (t.getD 7 0)]:=by
 match r,t,h,h' with
 |[_,_,_,_,_,_,_,_],[_,_,_,_,_,_,_,_],_,_=>rfl
theorem RP (i:Nat) (x:Int) {r:List Int} (hr:r.length=8):vw aT i x r=(let t:=md aT (r.getD 7 0+wj aT (r.getD 4 0)+yg aT (r.getD 4 0) (r.getD 5 0) (r.getD 6 0)+zw aT i+x);let u:=md aT (wi aT (r.getD 0 0)+BS aT (r.getD 0 0) (r.getD 1 0) (r.getD 2 0));[md aT (t+u),r.getD 0 0,r.getD 1 0,r.getD 2 0,md aT (r.getD 3 0+t),r.getD 4 0,r.getD 5 0,r.getD 6 0]):=by
 match r,hr with
 |[_,_,_,_,_,_,_,_],_=>rfl
theorem pe (x:Int):md aT x=x% 4294967296:=by
 show x% (2:Int)^32=_;rw[show(2:Int)^32=4294967296 by decide]
theorem MR:mE aT=[1779033703,3144134277,1013904242,2773480762,1359893119,2600822924,528734635,1541459225]:=by decide+kernel
theorem Vf {c b:Int} {B:Nat} {k:List Int->Prop} (hb:b=(B:Int)):∀(n i:Nat) (acc:List Int),B+i+n<=(ba c).length->(∀q:List Int,q.length=n->q=((ba c).drop (B+i)).take n->(∀x∈q,0<=x/\x<=255)->k (acc++q))->Nf c b n i acc k
 |0,i,acc,_,h=>by
  have:=h [] rfl (by simp) (by simp);show k acc;simpa using this
 |n+1,i,acc,hn,h=>⟨⟨by omega,by rw[<-l9];omega⟩,λy kU eb hy=>Vf hb n (i+1) (acc++[y]) (by omega) λq h1 h3 h4=>by
  have hl:B+i<(ba c).length:=by omega
  have e:y=(ba c)[B+i]:=by rw[eQ hy,show(b+(i:Int)).toNat=B+i by omega,kH,gF hl];rfl
  have:=h (y::q) (by simp[h1]) (by rw[G0 hl,vK,<-e,h3];rfl) (λx hx=>(List.mem_cons.1 hx).elim (λe=>e▸⟨kU,eb⟩) (h4 x));simpa using this⟩
theorem Ve {l:List Int} {k:Int->Prop}:∀(n j:Nat) (c:Int) (L:List Int),ab c=rws L->(∀z,ab z=rws (L++(cD n).map λt=>vC aT l (j+t))->k z)->Nd l n j c k
 |0,j,c,L,hc,h=>h c (by simpa using hc)
 |n+1,j,c,L,hc,h=>λy _ _ hy=>Ve n (j+1) y _ (NV hy hc) λz hz=>h z (by
  rw[hz,eG,SW,ch,jf];have e:(16777216*ar l (4*j) 0)+((65536*ar l (4*j+1) 0)+((256*ar l (4*j+2) 0)+ar l (4*j+3) 0))=vC aT l (j+0):=by
   show _=(((0*256+l.getD (j*4+0) 0)*256+l.getD (j*4+1) 0)*256+l.getD (j*4+2) 0)*256+l.getD (j*4+3) 0;rw[show j*4=4*j by omega];simp only[kG];omega
  rw[e];refine congrArg (λq=>rws (L++(vC aT l (j+0)::q))) (gw λt _=>?_);show vC aT l (j+1+t)=vC aT l (j+(t+1));rw[show j+1+t=j+(t+1) by omega])
set_option maxHeartbeats 4000000 in
theorem aqK:LR SB (dS SB [zg] 464):=by
 delta LR aE cz bm bC fa bj cQ a8 df dT tF B7 dF aM bT eI;dsimp only
 intro z0 a0 a1 hp af b0 z2 bW c1 z3 d0 d1 h3;have hp:64∣(ab z0).length/\(ab z0).length<=1000001000:=hp;have h3:z3=((ab z0).length:Int):=h3;obtain⟨⟨q,hq⟩,Bg⟩:=hp;have hbl:(ba z0).length=64*q:=by rw[l9,hq]
 have Wy:z3=64*(q:Int):=by rw[h3,hq];simp
 refine⟨⟨(q:Int),Wy⟩,λl=>∃(i:Nat),i<=q/\l=[qE aT (ba z0) i (mE aT),[(i:Int)]],λl=>((q:Int)-(l.getD 1 []).getD 0 0).toNat,⟨0,kW _,by
  show _=[mE aT,[(0:Int)]];rw[MR]⟩,?_⟩
 intro cw akZ aU e0 e1 ⟨i,hi,hI⟩;simp only[gY,and_true]at hI;obtain⟨D0,aAy⟩:=hI;obtain⟨w7,fU⟩:=E4 8 cw akZ;have Je:((ab z0).length:Int)=64*(q:Int):=by rw[<-h3,Wy]
 refine⟨λh=>?_,λh=>?_⟩
 ·have h:=of_decide_eq_true h;have XF:i<q:=by omega
  have fW:∀k:Int,0<=k->k<64->ah 21 [z0,64*aU+k]:=λk h1 h2=>⟨by omega,by rw[Je];omega⟩;have afC:ah 21 [z0,64*aU]:=⟨by omega,by rw[Je];omega⟩;refine⟨afC,?_⟩;intro aP f0 g0 t0;obtain⟨bl,uL⟩:∃l,((ba z0).drop (64*i)).take 64=l:=⟨_,rfl⟩;have az3:bl.length=64:=by rw[<-uL,ly,q9,hbl];omega
  have hz:aU=(i:Int):=by omega
  refine Vf (B:=64*i) (by rw[hz];omega) 63 1 [aP] (by rw[hbl];omega) λq1 h1 h2 _=>?_;have jl:[aP]++q1=bl:=by
   have e1:aP=(ba z0).getD (64*i) 0:=by rw[eQ t0,hz,show(64*(i:Int)).toNat=64*i by omega]
   have l1:64*i<(ba z0).length:=by rw[hbl];omega
   rw[<-uL,h2,e1,kH,gF l1,G0 l1];rfl
  rw[jl];obtain⟨ws,Bm⟩:∃l,ss aT bl=l:=⟨_,rfl⟩;refine Ve 16 0 0 [] eV λz93 hr=>?_;have hr:ab z93=rws ws:=by rw[hr,<-Bm,gv];simp[ss]
  have wl:ws.length=16:=by rw[<-Bm];simp[ss]
  refine⟨by show(ab z93).length<=1000000;rw[hr,vt,wl];decide,?_⟩;intro zO i0 i1 e9 St iG k1 Su m0 dE n0;have e9:ab zO=ab z93:=e9;rw[hr]at e9;have n0:Su=((ab zO).length:Int):=n0;rw[e9,vt,wl]at n0;refine⟨λl=>∃(j:Nat) (c k:Int),j<=48/\l=[[((16+j:Nat):Int)],[c],[((16+j:Nat):Int)],[k]]/\ab c=rws (mb aT j ws),λl=>(64-(l.getD 0 []).getD 0 0).toNat,⟨0,zO,St,kW _,by rw[n0];rfl,e9⟩,?_⟩;intro jw xe xf lR p0 p1 py q0 q1 Sp r0 r1 ⟨j,c,cf,hj,hl,hc⟩;simp only[gY,and_true]at hl;obtain⟨n9,hl2,Jb,aAN⟩:=hl;subst hl2;obtain⟨a6,lH⟩:∃l,mb aT j ws=l:=⟨_,rfl⟩;rw[lH]at hc;have Ka:a6.length=16+j:=by rw[<-lH,Iv,wl]
  have Dw:((ab lR).length:Int)=16+(j:Int):=by rw[hc,vt,Ka];omega
  refine⟨λhlt=>?_,λe8=>?_⟩
  ·have hlt:=of_decide_eq_true hlt;refine⟨⟨by omega,by omega⟩,⟨by omega,by rw[Dw];omega⟩,λCE s0 s1 s2=>⟨⟨by omega,by omega⟩,⟨by omega,by rw[Dw];omega⟩,λSq aCQ aCS auw xC aCX aCY Le z105 aCZ aC0 aC1 aC2=>⟨⟨by omega,by omega⟩,⟨by omega,by rw[Dw];omega⟩,λGL w0 w1 w2 z107 aC5 aC6 aC3 aC4=>⟨⟨by omega,by omega⟩,⟨by omega,by rw[Dw];omega⟩,λSr aC7 aC8 ax5 z109 Uo Up xZ Ss afg afh Dh az1=>⟨by show py=((ab lR).length:Int);omega,by show((ab lR).length:Int)+1<=1073741824;omega,λke afN afO M6 kf agp agq=>?_⟩⟩⟩⟩⟩;have Le:[[xC]]=[[Cu aT Sq]]:=Le;have xZ:[[z109]]=[[Cv aT Sr]]:=xZ;simp only[gY,and_true]at Le xZ;have e1:=DL s2 hc;have e2:=DL auw hc;have e3:=DL w2 hc;have e4:=DL ax5 hc;have akJ:CE+(xC+((-4294967296)*z105+(GL+((-4294967296)*z107+(z109+(-4294967296)*Ss)))))=qY aT a6:=by
    unfold qY;rw[pe,Ka,show 16+j-16=(jw+-16).toNat by omega,show 16+j-15=(jw+-15).toNat by omega,show 16+j-7=(jw+-7).toNat by omega,show 16+j-2=(jw+-2).toNat by omega,<-e1,<-e2,<-e3,<-e4,<-Le,<-xZ];omega
   have gS:=NV M6 hc;rw[akJ]at gS;refine⟨⟨j+1,ke,kf,by omega,by rw[show jw+1=((16+(j+1):Nat):Int) by omega,show py+1=((16+(j+1):Nat):Int) by omega],by rw[NF,lH];exact gS⟩,?_⟩;show(64-(jw+1)).toNat<(64-jw).toNat;omega
  ·have e8:=of_decide_eq_false e8;have akl:j=48:=by omega
   have ak9:sched aT ws=a6:=by rw[<-lH,akl];rfl
   refine⟨λl=>∃(t:Nat),t<=64/\l=[pq aT 0 (a6.take t) cw,[(t:Int)]],λl=>(64-(l.getD 1 []).getD 0 0).toNat,⟨0,kW _,rfl⟩,?_⟩;intro ja ak0 ke s0 s1 ⟨t,ht,hl⟩;simp only[gY,and_true]at hl;obtain⟨hv,aA1⟩:=hl;obtain⟨JR,sN⟩:=E4 8 ja ak0;refine⟨λhlt=>?_,λXD=>?_⟩
   ·have hlt:=of_decide_eq_true hlt;refine⟨⟨by omega,by omega⟩,⟨by omega,by rw[Dw];omega⟩,?_⟩;intro kf Uo Up xZ kF afg afh Dh mA afN afO M6 afP vD agp agq agr z116 aAm aAn agT z117 aAp aAq aha m5 aAt aAu ahw ahx;refine⟨⟨by omega,by omega⟩,?_⟩;intro z119 I9 aAG En su aA3 aA4 alY alZ tS aA6 aA7 amm amn tT aBg aBh JQ Lo aBr aBs anJ z124 aBu aBv aoH Lp aBx aBy aoT Lq aBA aBB aqz z127 aBO aBP ase CF aCa aCb aCc aCd CG aCC aCD aa6 aa7 z130 aCF aCG aub auc z131 aCR aCT aCU aCV;have Po:t<64:=by omega
    have agG:z131=0:=by omega
    have ex:=DL xZ hc;rw[show ke.toNat=t by omega]at ex;have Dh:[[kF]]=[[wj aT (ja.getD 4 0)]]:=Dh;have En:[[z119]]=[[zw aT ke.toNat]]:=En;have JQ:[[tT]]=[[wi aT (ja.getD 0 0)]]:=JQ;simp only[gY,and_true]at Dh En JQ;rw[show ke.toNat=t by omega]at En;have iV:z117=yg aT (ja.getD 4 0) (ja.getD 5 0) (ja.getD 6 0):=by
     rw[aha,agr,agT];unfold yg;rw[show(2:Int)^aT.w-1-ja.getD 4 0=-1*ja.getD 4 0+4294967295 by rw[show(2:Int)^aT.w=4294967296 by decide];omega];rfl
    have akC:z127=BS aT (ja.getD 0 0) (ja.getD 1 0) (ja.getD 2 0):=by
     rw[ase,aoT,aoH,anJ,aqz];rfl
    obtain⟨A,hA⟩:∃A,ja.getD 0 0=A:=⟨_,rfl⟩;obtain⟨D,me⟩:∃A,ja.getD 3 0=A:=⟨_,rfl⟩;obtain⟨H,DZ⟩:∃A,ja.getD 7 0=A:=⟨_,rfl⟩;rw[DZ]at M6 afP ahw ahx alY alZ amm amn aa6 aa7 aub auc⊢;rw[me]at aa6 aa7⊢;have hstep:=RP t kf JR;rw[DZ,me,<-Dh,<-iV,<-En,<-JQ,<-akC]at hstep;have bH:md aT (H+kF+z117+z119+kf)=H+(kf+(kF+((-4294967296)*mA+(z117+((-4294967296)*m5+(z119+((-4294967296)*su+(-4294967296)*tS))))))):=by
     rw[pe];omega
    have hU:md aT (tT+z127)=tT+(z127+(-4294967296)*CF):=by
     rw[pe];omega
    simp only[bH,hU]at hstep;refine⟨⟨by omega,by omega⟩,⟨t+1,by omega,?_⟩,?_⟩
    ·rw[Lb a6 t (by omega),KT,<-hv,show 0+(a6.take t).length=t by rw[ly];omega,<-ex,hstep,agG];simp only[gY,and_true];refine⟨⟨?_,trivial,trivial,trivial,?_⟩,?_⟩
     ·rw[pe];exact ZM (k:=z130) (by omega) (by omega) (by omega)
     ·rw[pe];exact ZM (k:=CG) (by omega) (by omega) (by omega)
     ·omega
    ·show(64-(ke+-0x10000000000000000*z131+1)).toNat<(64-ke).toNat;omega
   ·have XD:=of_decide_eq_false XD;intro kf Uo azz azH azQ kF Up azA azI azR mA xZ azB azJ azS vD azu azC azK azT z116 azv azD azL azU z117 azw azE azM azV m5 azx azF azN azW z119 azy azG azO azX;have Po:t=64:=by omega
    have ake:a6.take t=a6:=lu (by omega);rw[ake]at hv;have jm:tM aT cw ws=[cw.getD 0 0+(ja.getD 0 0+(-4294967296)*kf),cw.getD 1 0+(ja.getD 1 0+(-4294967296)*kF),cw.getD 2 0+(ja.getD 2 0+(-4294967296)*mA),cw.getD 3 0+(ja.getD 3 0+(-4294967296)*vD),cw.getD 4 0+(ja.getD 4 0+(-4294967296)*z116),cw.getD 5 0+(ja.getD 5 0+(-4294967296)*z117),cw.getD 6 0+(ja.getD 6 0+(-4294967296)*m5),cw.getD 7 0+(ja.getD 7 0+(-4294967296)*z119)]:=by
     unfold tM;rw[ak9,<-hv,acQ _ w7 JR];simp only[pe,gY,and_true];refine⟨by omega,by omega,by omega,by omega,by omega,by omega,by omega,by omega⟩
    refine⟨⟨i+1,by omega,?_⟩,?_⟩
    ·rw[<-jm,D0];show _=[tM aT (qE aT (ba z0) i (mE aT)) (ss aT (((ba z0).drop (64*i)).take 64)),_];rw[uL,Bm,show aU+1=((i+1:Nat):Int) by omega]
    ·show((q:Int)-(aU+1)).toNat<((q:Int)-aU).toNat;omega
 ·have h:=of_decide_eq_false h;have XF:i=q:=by omega
  have hall:rB aT (ba z0)=qh aT cw:=by
   unfold rB;rw[hbl,show 2*aT.w=64 from rfl,Nat.mul_div_cancel_left q (by decide),<-XF,<-D0]
  have iF:qh aT cw=((((((([]++(cD 4).map (qG aT (cw.getD 0 0)))++(cD 4).map (qG aT (cw.getD 1 0)))++(cD 4).map (qG aT (cw.getD 2 0)))++(cD 4).map (qG aT (cw.getD 3 0)))++(cD 4).map (qG aT (cw.getD 4 0)))++(cD 4).map (qG aT (cw.getD 5 0)))++(cD 4).map (qG aT (cw.getD 6 0)))++(cD 4).map (qG aT (cw.getD 7 0)):=by
   conv=>lhs;rw[anG w7]
   rfl
  refine xw (pre:=[]) eV rfl (by simp) λaz4 aBi aA8 p0 p1 h0 agE=>?_;refine xw h0 (by rw[agE];simp) (by simp) λaz5 Za aA9 aJ bb h1 Ir=>?_;refine xw h1 (by rw[Ir];simp) (by simp) λaz6 Zc aBa b7 dD h2 Nr=>?_;refine xw h2 (by rw[Nr];simp) (by simp) λH7 aBm aBb eo pn h3 Nt=>?_;refine xw h3 (by rw[Nt];simp) (by simp) λaz7 aBn aBc B0 aak h4 agH=>?_;refine xw h4 (by rw[agH];simp) (by simp) λaz8 aBo aBd aaj aBD h5 Nu=>?_;refine xw h5 (by rw[Nu];simp) (by simp) λaz9 aBp aBe aBE aBF h6 Nv=>?_;refine xw h6 (by rw[Nv];simp) (by simp) λU2 amY aBf aBG aBH h7 agI=>?_;have O0:ab U2=rws (qh aT cw):=by rw[h7,iF]
  have anI:amY=((ab U2).length:Int):=by rw[h7,vt,agI];simp
  refine⟨⟨bO _,by omega,by omega⟩,λaye x0 x1 x2=>⟨⟨x0,x1,trivial⟩,?_⟩⟩;have hf:=oB x2 anI;show ba aye=rB aT (ba z0);rw[hall];exact M1 (by rw[hf,O0])
end Go.aX
namespace Go.aX
open Go Go.aW
def Mb (S:zzS) (K:zzK):Prop:=bm (-0x8000000000000000) bT λz0=>bm (-0x8000000000000000) bT λaf=>(aE (decide (z0<0)) (K [[z0],[af]] [[0]]) ((aE (decide (1099511627776<z0)) (K [[z0],[af]] [[0]]) ((aE ((!(decide (af=32)))) ((aE ((!(decide (af=64)))) (K [[z0],[af]] [[0]]) (bQ (-1) 1 ((2*af)+0x8000000000000000) dF λz2=>ah 77 [af]/\bQ 0 0x1fffffffffffffff af 4 λz3=>cz ((z0+((2*af)+((aM*z2)+z3)))+eI) dF λz4=>bQ (-1) 0 ((z0+((2*af)+((aM*z2)+(z3+(aM*z4)))))+0x8000000000000000) dF λz5=>ah 77 [(z0+((2*af)+((aM*z2)+(z3+((aM*z4)+(aM*z5))))))]/\ah 36 [((2*af)+(aM*z2))]/\bj 76 [(z0+((2*af)+((aM*z2)+(z3+((aM*z4)+(aM*z5)))))),((2*af)+(aM*z2))] λaq=>ah 77 [((2*af)+(aM*z2))]/\bm 0 0x3fffffffffffffff0000000000000001 λz7=>z7=aq*((2*af)+(aM*z2))->bQ 0 0x3fffffffffffffff (z7+0x8000000000000000) dF λak=>K [[z0],[af]] [[(z7+(aM*ak))]]))) (bQ (-1) 1 ((2*af)+0x8000000000000000) dF λz2=>ah 77 [af]/\bQ 0 0x1fffffffffffffff af 4 λz3=>cz ((z0+((2*af)+((aM*z2)+z3)))+eI) dF λz4=>bQ (-1) 0 ((z0+((2*af)+((aM*z2)+(z3+(aM*z4)))))+0x8000000000000000) dF λz5=>ah 77 [(z0+((2*af)+((aM*z2)+(z3+((aM*z4)+(aM*z5))))))]/\ah 36 [((2*af)+(aM*z2))]/\bj 76 [(z0+((2*af)+((aM*z2)+(z3+((aM*z4)+(aM*z5)))))),((2*af)+(aM*z2))] λaq=>ah 77 [((2*af)+(aM*z2))]/\bm 0 0x3fffffffffffffff0000000000000001 λz7=>z7=aq*((2*af)+(aM*z2))->bQ 0 0x3fffffffffffffff (z7+0x8000000000000000) dF λak=>K [[z0],[af]] [[(z7+(aM*ak))]]))))))
theorem arx:Mb SB (bS SB [nn] 441):=by
 delta Mb aE cz bQ bm bj dF aM bT eI;dsimp only
 intro z0 a0 a1 af b0 b1;have fin:∀z:Int,-0x8000000000000000<=z->z<=0x7fffffffffffffff->z=mr z0 af->bS SB [nn] 441 [[z0],[af]] [[z]]:=λz h1 h2 h=>⟨⟨h1,h2,trivial⟩,by show [[z]]=[[mr z0 af]];rw[h]⟩;have bad:(z0<0∨1099511627776<z0∨(af≠32/\af≠64))->bS SB [nn] 441 [[z0],[af]] [[0]]:=λh=>fin 0 (by omega) (by omega) (by unfold mr;rw[if_pos h]);refine⟨λh=>bad (.inl (of_decide_eq_true h)),λh=>⟨λh'=>bad (.inr (.inl (of_decide_eq_true h'))),λh'=>?_⟩⟩;have n0:0<=z0:=by have:=of_decide_eq_false h;omega
 have n1:z0<=1099511627776:=by have:=of_decide_eq_false h';omega
 obtain⟨N,rfl⟩:∃N:Nat,(N:Int)=z0:=⟨z0.toNat,by omega⟩;refine⟨λg=>⟨λg'=>bad (.inr (.inr ⟨by simpa using g,by simpa using g'⟩)),λg'=>?_⟩,λg=>?_⟩
 ·have hz:af=64:=by simpa using g'
  subst hz;intro z2 bW c1 c2 c3;have:z2=0:=by omega
  subst this;refine⟨by show(0:Int)<=64;decide,λz3 d0 d1 d2 d3 z4 e0 e1 e2 e3=>?_⟩;have:z3=16:=by omega
  subst this;have:z4=0:=by omega
  subst this;intro z5 f0 f1 f2 f3;have:z5=0:=by omega
  subst this;rw[show(2*64+-0x10000000000000000*0:Int)=128 by decide];refine⟨by show(0:Int)<=_;omega,by show(0:Int)<128;decide,λaq g0 g1 h6=>⟨by show(0:Int)<=128;decide,λz7 i0 i1 h7 ak e9 cm eT j6=>?_⟩⟩;have h6:aq=((N:Int)+(2*64+(-0x10000000000000000*0+(16+(-0x10000000000000000*0+-0x10000000000000000*0)))))/128:=h6;have:ak=0:=by omega
  subst this;refine fin _ (by omega) (by omega) ?_;unfold mr mT;rw[if_neg (by omega)];simp only[ek];rw[show(64:Int).toNat=64 from rfl];omega
 ·have hz:af=32:=by simpa using g
  subst hz;intro z2 bW c1 c2 c3;have:z2=0:=by omega
  subst this;refine⟨by show(0:Int)<=32;decide,λz3 d0 d1 d2 d3 z4 e0 e1 e2 e3=>?_⟩;have:z3=8:=by omega
  subst this;have:z4=0:=by omega
  subst this;intro z5 f0 f1 f2 f3;have:z5=0:=by omega
  subst this;rw[show(2*32+-0x10000000000000000*0:Int)=64 by decide];refine⟨by show(0:Int)<=_;omega,by show(0:Int)<64;decide,λaq g0 g1 h6=>⟨by show(0:Int)<=64;decide,λz7 i0 i1 h7 ak e9 cm eT j6=>?_⟩⟩;have h6:aq=((N:Int)+(2*32+(-0x10000000000000000*0+(8+(-0x10000000000000000*0+-0x10000000000000000*0)))))/64:=h6;have:ak=0:=by omega
  subst this;refine fin _ (by omega) (by omega) ?_;unfold mr mT;rw[if_neg (by omega)];simp only[ek];rw[show(32:Int).toNat=32 from rfl];omega
end Go.aX
namespace Go.aX
open Go Go.aW
def Me (S:zzS) (K:zzK):Prop:=cQ λz0=>cQ λaf=>cQ λz2=>(ah 75 [z0,af,z2]->bC λz3=>bm (-2) bT λz4=>bj 20 [z0] λz5=>bC λaq=>bm (-2) bT λz7=>bj 20 [af] λak=>bC λz9=>bm (-2) bT λaC=>bj 20 [z2] λaD=>(aE (decide ((((-1)*z5)+bT)<ak)) (False) (cz ((z5+ak)+0x8000000000000000) dF λz12=>cz ((((-1)*z5)+(((-1)*ak)+(dF*z12)))+ZB) dF λaU=>(aE (decide (((((-1)*z5)+(((-1)*ak)+((dF*z12)+(aM*aU))))+bT)<aD)) (False) (cz ((z5+(ak+(aD+(aM*z12))))+0x8000000000000000) dF λaP=>ah 26 [(z5+(ak+(aD+((aM*z12)+(aM*aP)))))]/\cQ λaw=>(ah 31 [aw,(z5+(ak+(aD+((aM*z12)+(aM*aP)))))]->fa λbF=>(ah 79 [(z5+(ak+(aD+((aM*z12)+(aM*aP))))),bF]->ah 78 [0,(z5+(ak+(aD+((aM*z12)+(aM*aP))))),(z5+(ak+(aD+((aM*z12)+(aM*aP))))),bF]/\aaB 33 [0,0,(z5+(ak+(aD+((aM*z12)+(aM*aP)))))] λbY=>ah 80 [aw,bY,(z5+(ak+(aD+((aM*z12)+(aM*aP)))))]/\ah 22 [z0,0,z5]/\bj 62 [z5,(z5+(ak+(aD+((aM*z12)+(aM*aP)))))] λaF=>a8 22 [z0,0,aF] λdH=>a8 63 [aw,bY,dH] λz20=>ah 32 [aF,(z5+(ak+(aD+((aM*z12)+(aM*aP))))),(z5+(ak+(aD+((aM*z12)+(aM*aP)))))]/\(ah 68 [(z5+(ak+(aD+((aM*z12)+(aM*aP))))),(z5+(ak+(aD+((aM*z12)+(aM*aP)))))]->fw 0 eI 33 [bY,aF,(z5+(ak+(aD+((aM*z12)+(aM*aP)))))] λz21=>ah 32 [aF,(z5+(ak+(aD+((aM*z12)+(aM*aP))))),(z5+(ak+(aD+((aM*z12)+(aM*aP)))))]/\(ah 68 [(z5+(ak+(aD+((aM*z12)+(aM*aP))))),(z5+(ak+(aD+((aM*z12)+(aM*aP)))))]->fw 0 eI 33 [bY,aF,(z5+(ak+(aD+((aM*z12)+(aM*aP)))))] λaI=>ah 80 [z20,aI,(z5+(ak+(aD+((aM*z12)+((aM*aP)+((-1)*aF))))))]/\ah 22 [af,0,ak]/\bj 62 [ak,(z5+(ak+(aD+((aM*z12)+((aM*aP)+((-1)*aF))))))] λeB=>a8 22 [af,0,eB] λz24=>a8 63 [z20,aI,z24] λfB=>cz ((aF+eB)+0x8000000000000000) dF λcq=>ah 32 [(aF+(eB+(aM*cq))),(z5+(ak+(aD+((aM*z12)+(aM*aP))))),(z5+(ak+(aD+((aM*z12)+(aM*aP)))))]/\(ah 68 [(z5+(ak+(aD+((aM*z12)+(aM*aP))))),(z5+(ak+(aD+((aM*z12)+(aM*aP)))))]->fw 0 eI 33 [bY,(aF+(eB+(aM*cq))),(z5+(ak+(aD+((aM*z12)+(aM*aP)))))] λjT=>ah 32 [(aF+(eB+(aM*cq))),(z5+(ak+(aD+((aM*z12)+(aM*aP))))),(z5+(ak+(aD+((aM*z12)+(aM*aP)))))]/\(ah 68 [(z5+(ak+(aD+((aM*z12)+(aM*aP))))),(z5+(ak+(aD+((aM*z12)+(aM*aP)))))]->fw 0 eI 33 [bY,(aF+(eB+(aM*cq))),(z5+(ak+(aD+((aM*z12)+(aM*aP)))))] λz28=>ah 80 [fB,z28,(z5+(ak+(aD+((aM*z12)+((aM*aP)+(((-1)*aF)+(((-1)*eB)+(dF*cq))))))))]/\ah 22 [z2,0,aD]/\bj 62 [aD,(z5+(ak+(aD+((aM*z12)+((aM*aP)+(((-1)*aF)+(((-1)*eB)+(dF*cq))))))))] λiw=>a8 22 [z2,0,iw] λlr=>a8 63 [fB,z28,lr] λz31=>cz ((aF+(eB+((aM*cq)+iw)))+0x8000000000000000) dF λjU=>ah 22 [z31,bY,(z5+(ak+(aD+((aM*z12)+((aM*aP)+bY)))))]/\ah 40 [(z5+(ak+(aD+((aM*z12)+(aM*aP))))),bF]/\a8 22 [z31,bY,(z5+(ak+(aD+((aM*z12)+((aM*aP)+bY)))))] λkV=>K [[z0],[af],[z2]] [[kV]])))))))))))
def Mh (S:zzS) (K:zzK):Prop:=cQ λz0=>cQ λaf=>cQ λz2=>(ah 75 [z0,af,z2]->bC λz3=>bm (-2) bT λz4=>bj 20 [z0] λz5=>bC λaq=>bm (-2) bT λz7=>bj 20 [af] λak=>bC λz9=>bm (-2) bT λaC=>bj 20 [z2] λaD=>ah 22 [z0,0,z5]/\a8 22 [z0,0,z5] λz12=>ah 22 [af,0,ak]/\a8 22 [af,0,ak] λaU=>ah 22 [z2,0,aD]/\a8 22 [z2,0,aD] λaP=>ah 75 [z12,aU,aP]/\cQ λaw=>S 469 [[z12],[aU],[aP]] [[aw]]->bC λbF=>bm (-2) bT λbY=>bj 20 [aw] λaF=>ah 22 [aw,0,aF]/\a8 22 [aw,0,aF] λdH=>ah 71 [dH]/\cQ λz20=>S 442 [[dH]] [[z20]]->bm (-2) bT λz21=>bj 20 [z20] λaI=>ah 22 [z20,0,aI]/\a8 22 [z20,0,aI] λeB=>ah 72 [eB]/\cQ λz24=>S 464 [[eB]] [[z24]]->bm (-2) bT λfB=>bj 20 [z24] λcq=>ah 30 [31,cq]/\ah 21 [z24,0]/\ah 21 [z24,0]/\df 21 [z24,0,0] λjT=>ah 21 [z24,1]/\df 21 [z24,1,0] λz28=>ah 21 [z24,2]/\df 21 [z24,2,0] λiw=>ah 21 [z24,3]/\df 21 [z24,3,0] λlr=>ah 21 [z24,4]/\df 21 [z24,4,0] λz31=>ah 21 [z24,5]/\df 21 [z24,5,0] λjU=>ah 21 [z24,6]/\df 21 [z24,6,0] λkV=>ah 21 [z24,7]/\df 21 [z24,7,0] λpz=>ah 21 [z24,8]/\df 21 [z24,8,0] λpA=>ah 21 [z24,9]/\df 21 [z24,9,0] λ qs=>ah 21 [z24,10]/\df 21 [z24,10,0] λz37=>ah 21 [z24,11]/\df 21 [z24,11,0] λxD=>ah 21 [z24,12]/\df 21 [z24,12,0] λvE=>ah 21 [z24,13]/\df 21 [z24,13,0] λz40=>ah 21 [z24,14]/\df 21 [z24,14,0] λqt=>ah 21 [z24,15]/\df 21 [z24,15,0] λnP=>ah 21 [z24,16]/\df 21 [z24,16,0] λsw=>ah 21 [z24,17]/\df 21 [z24,17,0] λGM=>ah 21 [z24,18]/\df 21 [z24,18,0] λeg=>ah 21 [z24,19]/\df 21 [z24,19,0] λz46=>ah 21 [z24,20]/\df 21 [z24,20,0] λgX=>ah 21 [z24,21]/\df 21 [z24,21,0] λxE=>ah 21 [z24,22]/\df 21 [z24,22,0] λ z49=>ah 21 [z24,23]/\df 21 [z24,23,0] λpB=>ah 21 [z24,24]/\df 21 [z24,24,0] λz51=>ah 21 [z24,25]/\df 21 [z24,25,0] λtU=>ah 21 [z24,26]/\df 21 [z24,26,0] λz53=>ah 21 [z24,27]/\df 21 [z24,27,0] λvF=>ah 21 [z24,28]/\df 21 [z24,28,0] λzJ=>ah 21 [z24,29]/\df 21 [z24,29,0] λzK=>ah 21 [z24,30]/\df 21 [z24,30,0] λzL=>ah 21 [z24,31]/\df 21 [z24,31,0] λzM=>K [[z0],[af],[z2]] [[jT,z28,iw,lr,z31,jU,kV,pz,pA,qs,z37,xD,vE,z40,qt,nP,sw,GM,eg,z46,gX,xE,z49,pB,z51,tU,z53,vF,zJ,zK,zL,zM]])
theorem QM {c x s t n a b m r0 r:Int} {A B:List (List Int)} (hc:ab c=A++B) (hA:(A.length:Int)=s) (hB:(B.length:Int)=t-s) (h0:r0=0) (hr:r=aB 33 [r0,a,b]) (ha:a=s) (hb:b=t) (hn:n=((ab x).length:Int)) (hle:n<=t-s) (hm:m=t-s):
 ah 80 [c,r,m]/\ah 22 [x,0,n]/\∀q,q=aB 62 [n,m]->q=n/\∀src,src=aB 22 [x,0,q]->∀c',c'=aB 63 [c,r,src]->∃sD,ab c'=(A++ab x)++sD/\(sD.length:Int)=t-s-n:=by
 subst h0;subst ha;subst hb;subst hm;have hr:r=if a=b then 0 else 0+a:=hr
 have Ev:((ab c).length:Int)=b:=by rw[hc,c8];omega
 have mj:0<=r/\r<=a/\(a≠b->r=a):=by
  by_cases h:a=b
  ·rw[if_pos h]at hr;exact⟨by omega,by omega,λh2=>absurd h h2⟩
  ·rw[if_neg h]at hr;exact⟨by omega,by omega,λ_=>by omega⟩
 refine⟨⟨mj.1,by omega,by rw[Ev];omega⟩,⟨bO _,by omega,by rw[hn];exact bO _⟩,λq hq=>?_⟩;have hq:q=min n (b-a):=hq;have X0:q=n:=by omega
 refine⟨X0,λsrc hs c' wL=>?_⟩;have hs:ab src=ab x:=oB hs (by rw[X0,hn]);have wL:c'=rc ((ab c).take r.toNat++ab src++(ab c).drop (r.toNat+(ab src).length)):=wL;by_cases h:a=b
 ·have hx0:ab x=[]:=ra (by omega);refine⟨B,?_,by omega⟩;rw[wL,di,hs,hx0,hc];simp
 ·have aAY:=mj.2.2 h;refine⟨B.drop (ab x).length,?_,by rw[q9];omega⟩;have e:r.toNat=A.length:=by omega
  rw[wL,di,hs,hc,e,List.take_left,<-List.drop_drop,List.drop_left]
theorem arM:Me SB (dS SB [pd] 469):=by
 delta Me aE cz bm fw bC fa bj cQ a8 aaB dF aM bT eI ZB;dsimp only
 intro z0 _ _ af _ _ z2 _ _ hp;have hp:∀z∈([z0,af,z2]:List Int),(ab z).length<=100000000:=hp;have asn:=hp z0 (by simp);have aso:=hp af (by simp);have asp:=hp z2 (by simp);intro z3 _ z4 _ _ z5 w7 _ h5 aq _ z7 _ _ ak Zd _ h8 z9 _ aC _ _ aD Zb _ h11;have h5:z5=((ab z0).length:Int):=h5;have h8:ak=((ab af).length:Int):=h8;have h11:aD=((ab z2).length:Int):=h11;refine⟨λh=>?_,λ_=>?_⟩
 ·have h:=of_decide_eq_true h;omega
 intro w _ _ w2 w3;have uD:w=0:=by omega
 subst uD;clear w2 w3;intro w _ _ w2 w3;have uD:w=0:=by omega
 subst uD;clear w2 w3;refine⟨λh=>?_,λ_=>?_⟩
 ·have h:=of_decide_eq_true h;omega
 intro w _ _ w2 w3;have uD:w=0:=by omega
 subst uD;clear w2 w3;obtain⟨t,ht⟩:∃t:Int,z5+ak+aD=t:=⟨_,rfl⟩;refine⟨⟨by omega,by omega⟩,?_⟩;intro bW _ _ hc0;have hc0:_=((ab bW).length:Int):=hc0;intro ji aAe _ A1;have A1:_<=ji:=A1;refine⟨⟨by decide,by omega,by omega,by omega⟩,?_⟩;intro r0 _ _ jq;have jq:r0=if(0:Int)=_ then 0 else 0+0:=jq
 have jq:r0=0:=by rw[jq];split<;>rfl
 have i0:ab bW=([]:List (List Int))++ab bW:=rfl;obtain⟨s1,s2,ez⟩:=QM (c:=bW) (x:=z0) (s:=0) (t:=t) (n:=z5) (a:=0) (b:=t) (m:=t) (r0:=0) (r:=0) i0 rfl (by omega) rfl (by show(0:Int)=if(0:Int)=t then 0 else 0+0;split<;>rfl) rfl rfl h5 (by omega) (by omega);have pS:∀x:Int,x=t->x=t:=λ_ h=>h;refine⟨?_,s2,?_⟩
 ·rw[jq];have e:=s1;have hm:∀m:Int,m=t->ah 80 [bW,0,m]:=λm h=>by rw[h];exact s1
  exact hm _ (by omega)
 intro q0 _ _ qP;have hm:∀m:Int,m=t->q0=aB 62 [z5,m]->q0=aB 62 [z5,t]:=λm h h2=>by rw[h2,h]
 obtain⟨e0,ez⟩:=ez q0 (hm _ (by omega) qP);clear hm qP s1 s2;intro at6 _ _ Jn c1 _ _ hc1;rw[jq]at hc1;obtain⟨azo,i1,cm⟩:=ez at6 Jn c1 hc1;clear ez;refine⟨⟨by omega,by omega,by omega⟩,λ_=>?_⟩;intro rs _ _ _;refine⟨⟨by omega,by omega,by omega⟩,λ_=>?_⟩;intro r1 _ _ eH;obtain⟨s1,s2,ez⟩:=QM (x:=af) (t:=t) (n:=ak) (s:=z5) i1 (by simp only[c8,fe];omega) (by omega) jq eH (by omega) (by omega) h8 (by omega) rfl;refine⟨?_,s2,?_⟩
 ·have hm:∀m:Int,m=t-(z5)->ah 80 [c1,r1,m]:=λm h=>by rw[h];exact s1
  exact hm _ (by omega)
 intro q1 _ _ nA;have hm:∀m:Int,m=t-(z5)->q1=aB 62 [ak,m]->q1=aB 62 [ak,t-(z5)]:=λm h h2=>by rw[h2,h]
 obtain⟨e1,ez⟩:=ez q1 (hm _ (by omega) nA);clear hm nA s1 s2;intro at7 _ _ yX c2 _ _ hc2;obtain⟨azp,i2,eT⟩:=ez at7 yX c2 hc2;clear ez;intro w _ _ w2 w3;have uD:w=0:=by omega
 subst uD;clear w2 w3;refine⟨⟨by omega,by omega,by omega⟩,λ_=>?_⟩;intro rs _ _ _;refine⟨⟨by omega,by omega,by omega⟩,λ_=>?_⟩;intro r2 _ _ fM;obtain⟨s1,s2,ez⟩:=QM (x:=z2) (t:=t) (n:=aD) (s:=z5+ak) i2 (by simp only[c8,fe];omega) (by omega) jq fM (by omega) (by omega) h11 (by omega) rfl;refine⟨?_,s2,?_⟩
 ·have hm:∀m:Int,m=t-(z5+ak)->ah 80 [c2,r2,m]:=λm h=>by rw[h];exact s1
  exact hm _ (by omega)
 intro q2 _ _ oc;have hm:∀m:Int,m=t-(z5+ak)->q2=aB 62 [aD,m]->q2=aB 62 [aD,t-(z5+ak)]:=λm h h2=>by rw[h2,h]
 obtain⟨e2,ez⟩:=ez q2 (hm _ (by omega) oc);clear hm oc s1 s2;intro aua _ _ yY c3 _ _ Xj;obtain⟨aej,i3,j6⟩:=ez aua yY c3 Xj;clear ez;intro w _ _ w2 w3;have uD:w=0:=by omega
 subst uD;clear w2 w3;have hQ:aej=[]:=ra (by omega);have hl:((ab c3).length:Int)=t:=by rw[i3,hQ];simp only[c8,fe];omega
 subst jq;refine⟨⟨bO _,by omega,by omega⟩,λ_=>by omega,?_⟩;intro z _ aya hz;have hz:=oB hz (by omega);refine⟨⟨by assumption,aya,trivial⟩,?_⟩;show ab z=ab z0++(ab af++(ab z2));rw[hz,i3,hQ];simp only[gv,lv,eG]
theorem arP:Mh SB (dS SB [.d HK] 472):=by
 delta Mh bm bC bj cQ a8 df bT;dsimp only
 intro z0 _ _ af _ _ z2 _ _ hp;have hp:∀z∈([z0,af,z2]:List Int),(ab z).length<=100000000:=hp;intro z3 _ z4 _ _ z5 w7 _ h5 aq _ z7 _ _ ak Zd _ h8 z9 _ aC _ _ aD Zb _ h11;have h5:z5=((ab z0).length:Int):=h5;have h8:ak=((ab af).length:Int):=h8;have h11:aD=((ab z2).length:Int):=h11;refine⟨⟨bO _,w7,by rw[h5];exact bO _⟩,?_⟩;intro z12 _ _ fr;have fr:=oB fr h5;refine⟨⟨bO _,Zd,by rw[h8];exact bO _⟩,?_⟩;intro aU _ _ ga;have ga:=oB ga h8;refine⟨⟨bO _,Zb,by rw[h11];exact bO _⟩,?_⟩;intro aP _ _ hE;have hE:=oB hE h11;refine⟨λz hz=>?_,?_⟩
 ·simp only[kg,tW,or_false]at hz;rcases hz with rfl|rfl|rfl
  ·rw[fr];exact hp z0 (by simp)
  ·rw[ga];exact hp af (by simp)
  ·rw[hE];exact hp z2 (by simp)
 intro aw _ _ hj;have hj:ab aw=ab z12++(ab aU++(ab aP)):=hj;rw[fr,ga,hE]at hj;have aks:(ab aw).length<=1000000000:=by
  rw[hj];simp only[c8];have:=hp z0 (by simp);have:=hp af (by simp);have:=hp z2 (by simp);omega
 have ajK:ba aw=ba z0++(ba af++(ba z2)):=by
  unfold ba;rw[hj];simp only[fl]
 intro lS _ acP _ _ ax9 amZ _ hC;have hC:ax9=((ab aw).length:Int):=hC;refine⟨⟨bO _,amZ,by rw[hC];exact bO _⟩,λz9 iG k1 bE=>?_⟩;have oX:=oB bE hC;refine⟨by show(ab z9).length<=1000000000;rw[oX];exact aks,λaC l0 l1 cW aD m0 dE z12 n0 n1 fr=>?_⟩;have cW:ba aC=sd aT (ba z9):=cW;have fr:z12=((ab aC).length:Int):=fr;rw[wk oX]at cW;obtain⟨q1,q2,q3⟩:=aao (ba aw);have hl0:(ba aw).length=(ab aw).length:=l9 aw;refine⟨⟨bO _,by omega,by rw[fr];exact bO _⟩,λaU xe xf ga=>?_⟩;have ga:=oB ga fr;have akr:(ab aU).length=mT 32 (ba aw).length:=by rw[ga,<-l9,cW,q1]
 refine⟨by show 64∣(ab aU).length/\(ab aU).length<=1000001000;rw[akr];exact⟨q2,by omega⟩,λaP p0 p1 hE aw r0 r1 bF s0 s1 kQ=>?_⟩;have hE:ba aP=rB aT (ba aU):=hE;rw[wk ga,cW]at hE;have kQ:bF=((ab aP).length:Int):=kQ;have XL:(ba aP).length=32:=by rw[hE,C9];rfl
 have X1:(ab aP).length=32:=by rw[<-l9,XL]
 have fW:∀i:Int,0<=i->i<32->ah 21 [aP,i]:=λi h1 h2=>⟨h1,by rw[X1];exact h2⟩;refine⟨⟨by decide,by omega⟩,fW 0 (by decide) (by decide),?_⟩;refine⟨fW 0 (by decide) (by decide),?_⟩;intro kU u0 v0 t0;refine⟨fW 1 (by decide) (by decide),?_⟩;intro eb fO v1 t1;refine⟨fW 2 (by decide) (by decide),?_⟩;intro gP lP v2 t2;refine⟨fW 3 (by decide) (by decide),?_⟩;intro kc oD v3 t3;refine⟨fW 4 (by decide) (by decide),?_⟩;intro iv u4 v4 t4;refine⟨fW 5 (by decide) (by decide),?_⟩;intro nO R7 v5 t5;refine⟨fW 6 (by decide) (by decide),?_⟩;intro tR avn v6 t6;refine⟨fW 7 (by decide) (by decide),?_⟩;intro GJ R8 axO t7;refine⟨fW 8 (by decide) (by decide),?_⟩;intro Sn u8 GD t8;refine⟨fW 9 (by decide) (by decide),?_⟩;intro xB avp v9 t9;refine⟨fW 10 (by decide) (by decide),?_⟩;intro GI au2 v10 t10;refine⟨fW 11 (by decide) (by decide),?_⟩;intro Ln au3 v11 t11;refine⟨fW 12 (by decide) (by decide),?_⟩;intro Sl au4 v12 t12;refine⟨fW 13 (by decide) (by decide),?_⟩;intro Sm au5 axB t13;refine⟨fW 14 (by decide) (by decide),?_⟩;intro acn au6 axC t14;refine⟨fW 15 (by decide) (by decide),?_⟩;intro aco au7 axD t15;refine⟨fW 16 (by decide) (by decide),?_⟩;intro acp u16 axE t16;refine⟨fW 17 (by decide) (by decide),?_⟩;intro acq au8 axF t17;refine⟨fW 18 (by decide) (by decide),?_⟩;intro acr au9 axG t18;refine⟨fW 19 (by decide) (by decide),?_⟩;intro acs ava axH t19;refine⟨fW 20 (by decide) (by decide),?_⟩;intro acu avb v20 t20;refine⟨fW 21 (by decide) (by decide),?_⟩;intro acv avc v21 t21;refine⟨fW 22 (by decide) (by decide),?_⟩;intro acw avd axI t22;refine⟨fW 23 (by decide) (by decide),?_⟩;intro acx ave axJ t23;refine⟨fW 24 (by decide) (by decide),?_⟩;intro acy avf v24 t24;refine⟨fW 25 (by decide) (by decide),?_⟩;intro acz avg axK t25;refine⟨fW 26 (by decide) (by decide),?_⟩;intro acA avh axL t26;refine⟨fW 27 (by decide) (by decide),?_⟩;intro acB avi axM t27;refine⟨fW 28 (by decide) (by decide),?_⟩;intro acC avj v28 t28;refine⟨fW 29 (by decide) (by decide),?_⟩;intro acD avk axN t29;refine⟨fW 30 (by decide) (by decide),?_⟩;intro acE avl v30 t30;refine⟨fW 31 (by decide) (by decide),?_⟩;intro acF avm v31 t31;have hL:[kU,eb,gP,kc,iv,nO,tR,GJ,Sn,xB,GI,Ln,Sl,Sm,acn,aco,acp,acq,acr,acs,acu,acv,acw,acx,acy,acz,acA,acB,acC,acD,acE,acF]=ba aP:=by
  rw[eQ t0,eQ t1,eQ t2,eQ t3,eQ t4,eQ t5,eQ t6,eQ t7,eQ t8,eQ t9,eQ t10,eQ t11,eQ t12,eQ t13,eQ t14,eQ t15,eQ t16,eQ t17,eQ t18,eQ t19,eQ t20,eQ t21,eQ t22,eQ t23,eQ t24,eQ t25,eQ t26,eQ t27,eQ t28,eQ t29,eQ t30,eQ t31];exact(Wq (ba aP) 32 XL).symm
 refine⟨?_,?_⟩
 ·show bd (jb 0 255 32++[]) _;rw[lv];exact PH 32 _ rfl λx hx=>by
   simp only[List.flatten_cons,List.flatten_nil,lv,kg,tW,or_false]at hx;rcases hx with rfl|rfl|rfl|rfl|rfl|rfl|rfl|rfl|rfl|rfl|rfl|rfl|rfl|rfl|rfl|rfl|rfl|rfl|rfl|rfl|rfl|rfl|rfl|rfl|rfl|rfl|rfl|rfl|rfl|rfl|rfl|rfl
   ·exact⟨u0,v0⟩
   ·exact⟨fO,v1⟩
   ·exact⟨lP,v2⟩
   ·exact⟨oD,v3⟩
   ·exact⟨u4,v4⟩
   ·exact⟨R7,v5⟩
   ·exact⟨avn,v6⟩
   ·exact⟨R8,axO⟩
   ·exact⟨u8,GD⟩
   ·exact⟨avp,v9⟩
   ·exact⟨au2,v10⟩
   ·exact⟨au3,v11⟩
   ·exact⟨au4,v12⟩
   ·exact⟨au5,axB⟩
   ·exact⟨au6,axC⟩
   ·exact⟨au7,axD⟩
   ·exact⟨u16,axE⟩
   ·exact⟨au8,axF⟩
   ·exact⟨au9,axG⟩
   ·exact⟨ava,axH⟩
   ·exact⟨avb,v20⟩
   ·exact⟨avc,v21⟩
   ·exact⟨avd,axI⟩
   ·exact⟨ave,axJ⟩
   ·exact⟨avf,v24⟩
   ·exact⟨avg,axK⟩
   ·exact⟨avh,axL⟩
   ·exact⟨avi,axM⟩
   ·exact⟨avj,v28⟩
   ·exact⟨avk,axN⟩
   ·exact⟨avl,v30⟩
   ·exact⟨avm,v31⟩
 ·show [[kU,eb,gP,kc,iv,nO,tR,GJ,Sn,xB,GI,Ln,Sl,Sm,acn,aco,acp,acq,acr,acs,acu,acv,acw,acx,acy,acz,acA,acB,acC,acD,acE,acF]]=[j9 aT (ba z0++(ba af++(ba z2)))];rw[hL,hE,ajK];rfl
end Go.aX
namespace Go.aX
open Go Go.aW
def Tl (S:zzS) (K:zzK):Prop:=cl λz0=>∀r1:List Int,bd (jb 0 b8 2) r1->(ah 90 [z0,(ar r1 0 0),(ar r1 1 0)]->ah 3 [(ar r1 1 0),33]/\cP 3 [(ar r1 1 0),33] λz3=>ah 3 [z3,(ar r1 0 0)]/\cP 3 [z3,(ar r1 0 0)] λz4=>a8 27 [z4] λz5=>bj 0 [z4] λaq=>bm (-2) 0x7fffffffffffffff λz7=>a8 27 [z0] λak=>bj 0 [z0] λz9=>bm (-2) 0x7fffffffffffffff λaC=>ah 22 [z5,0,aq]/\a8 22 [z5,0,aq] λaD=>a8 23 [0,32] λz12=>ah 22 [ak,0,z9]/\a8 22 [ak,0,z9] λaU=>ah 75 [aD,z12,aU]/\∀fb:List Int,bd (jb 0 255 32) fb->S 472 [[aD],[z12],[aU]] [fb]->a8 23 [0,(ar fb 0 0)] λz46=>a8 23 [z46,(ar fb 1 0)] λgX=>a8 23 [gX,(ar fb 2 0)] λxE=>a8 23 [xE,(ar fb 3 0)] λz49=>a8 23 [z49,(ar fb 4 0)] λpB=>a8 23 [pB,(ar fb 5 0)] λz51=>a8 23 [z51,(ar fb 6 0)] λtU=>a8 23 [tU,(ar fb 7 0)] λz53=>a8 23 [z53,(ar fb 8 0)] λvF=>a8 23 [vF,(ar fb 9 0)] λzJ=>a8 23 [zJ,(ar fb 10 0)] λzK=>a8 23 [zK,(ar fb 11 0)] λzL=>a8 23 [zL,(ar fb 12 0)] λzM=>a8 23 [zM,(ar fb 13 0)] λz59=>a8 23 [z59,(ar fb 14 0)] λGN=>a8 23 [GN,(ar fb 15 0)] λGO=>a8 23 [GO,(ar fb 16 0)] λGP=>a8 23 [GP,(ar fb 17 0)] λGQ=>a8 23 [GQ,(ar fb 18 0)] λGR=>a8 23 [GR,(ar fb 19 0)] λGS=>a8 23 [GS,(ar fb 20 0)] λGU=>a8 23 [GU,(ar fb 21 0)] λGV=>a8 23 [GV,(ar fb 22 0)] λzN=>a8 23 [zN,(ar fb 23 0)] λGW=>a8 23 [GW,(ar fb 24 0)] λz70=>a8 23 [z70,(ar fb 25 0)] λGX=>a8 23 [GX,(ar fb 26 0)] λz72=>a8 23 [z72,(ar fb 27 0)] λGY=>a8 23 [GY,(ar fb 28 0)] λqu=>a8 23 [qu,(ar fb 29 0)] λz75=>a8 23 [z75,(ar fb 30 0)] λz76=>a8 23 [z76,(ar fb 31 0)] λtV=>ah 48 [tV]/\cl λxF=>S 225 [[tV]] [[xF]]->K [[z0],r1] [[xF]])
def Tm (S:zzS) (K:zzK):Prop:=a8 23 [0,477315081741,437051401625,1786254407,0] λz0=>a8 23 [0,0x71c38b091331f49b6f3ec7] λaf=>ah 22 [z0,0,1]/\a8 22 [z0,0,1] λz2=>ah 22 [af,0,1]/\a8 22 [af,0,1] λz3=>ah 93 [z2,113,113,z3]/\bm 0 6 λz4=>bm 0 0 λz5=>cl λaq=>cQ λz7=>cQ λak=>bm 0 21 λz9=>S 678 [[z2],[113],[113],[z3]] [[z4],[z5],[aq],[z7],[ak],[z9]]->bC λaC=>bm (-2) 0x7fffffffffffffff λaD=>bj 20 [z7] λz12=>bC λaU=>bm (-2) 0x7fffffffffffffff λaP=>bj 20 [ak] λaw=>ah 22 [z7,0,z12]/\a8 22 [z7,0,z12] λbF=>ah 22 [ak,0,aw]/\a8 22 [ak,0,aw] λbY=>∀KH:List Int,bd [(0,4),(0,0),(0,b8),(0,0),(0,0)] KH->dT λeB=>S 676 [[z4],[z5],[aq],[bF],[bY],[0x71c38b091331f49b6f3ec7]] [KH,[eB]]->(aE (decide (z9=0)) ((aE (decide (eB=1)) (dh 4 [(ar KH 2 0),1786254407] λz24=>(aE (decide (z24=1)) (ah 90 [113,477315081741,437051401625]/\cl λ fB=>S 679 [[113],[477315081741,437051401625]] [[fB]]->bj 0 [fB] λcq=>K [] [[(cond (decide (cq=43)) 1 0)]]) (K [] [[(cond (false) 1 0)]]))) (K [] [[(cond (false) 1 0)]]))) (K [] [[(cond (false) 1 0)]]))
theorem gE {z c x:Int} (h:z=aB 23 [c,x]):ab z=ab c++[[x]]:=by rw[h];exact di _
theorem MZ {z s:Int} (h:z=aB 27 [s]):ab z=(mY (aa s)).map λx=>[x]:=by
 rw[h];show ab (rc _)=_;rw[di];unfold mY;rw[jf];rfl
theorem M0 {z:Int} {l:List Int} (h:ab z=l.map λx=>[x]):ba z=l:=by
 unfold ba;rw[h,jf];exact List.map_id'' (λ_=>rfl) l
theorem asC (l:List Int):(cD l.length).map (λi=>[l.getD i 0])=l.map λx=>[x]:=by
 refine LB (by simp) λi h1 h2=>?_;simp only[jW]at h2;simp[ar,h2]
theorem Cm {z a b:Int} (h:z=aB 3 [a,b]):aa z=aa a++aa b:=by rw[h];exact fj _
theorem asB:cD 32=[0,1,2,3,4,5,6,7,8,9,10,11,12,13,14,15,16,17,18,19,20,21,22,23,24,25,26,27,28,29,30,31]:=by decide+kernel
theorem arb:Tl SB (dS SB [.d .str] 679):=by
 intro z0 n0 n1 r1 hr h;have h:∀z∈([z0,r1.getD 0 0,r1.getD 1 0]:List Int),(aa z).length<=10000000:=by simpa only[ah,uz]using h
 have l0:=h z0 (by simp);have l1:=h (r1.getD 0 0) (by simp);have l2:=h (r1.getD 1 0) (by simp);clear h;have hsp:aa (33:Int)=[32]:=by decide
 have nw:dP=0x7ffffffff000:=rfl;refine⟨?_,λz3 _ _ h3=>?_⟩
 ·show(aa (r1.getD 1 0)).length+(aa 33).length<=dP;rw[hsp,nw];simp only[dj,fe];omega
 have h3:=Cm h3;rw[hsp]at h3;refine⟨?_,λz4 _ _ h4 z5 _ _ h5 aq _ _ h6 z7 _ _ ak _ _ h8 z9 _ _ bE aC _ _=>?_⟩
 ·show(aa z3).length+(aa (r1.getD 0 0)).length<=dP;rw[h3,nw];simp only[c8,dj,fe];omega
 have h4:=Cm h4;rw[h3]at h4;have h5:=MZ h5;have h8:=MZ h8;have t5:(ab z5).length=(aa z4).length:=by rw[h5];simp[mY]
 have t8:(ab ak).length=(aa z0).length:=by rw[h8];simp[mY]
 have h6:aq=((ab z5).length:Int):=by rw[t5];exact h6
 have bE:z9=((ab ak).length:Int):=by rw[t8];exact bE
 refine⟨⟨bO _,by omega,by omega⟩,λaD _ _ h11 z12 _ _ fr=>⟨⟨bO _,by omega,by omega⟩,λaU _ _ ga=>⟨λz hz=>?_,λfb X1 hs=>?_⟩⟩⟩
 ·have h11:=whole h6 h11;have ga:=whole bE ga;have fr:ab z12=ab 0++[[32]]:=by rw[fr];exact di _
  simp only[kg,tW,or_false]at hz;rcases hz with rfl|rfl|rfl
  ·rw[h11,t5,h4];simp only[c8,dj,fe];omega
  ·rw[fr,eV];decide
  ·rw[ga,t8];omega
 have hs:[fb]=[j9 aT (ba aD++(ba z12++ba aU))]:=hs;simp only[gY,and_true]at hs;have afa:ba aD=mY (aa z4):=by rw[wk (whole h6 h11)];exact M0 h5
 have afc:ba aU=mY (aa z0):=by rw[wk (whole bE ga)];exact M0 h8
 have afb:ba z12=[32]:=by
  have fr:ab z12=ab 0++[[32]]:=by rw[fr];exact di _
  unfold ba;rw[fr,eV];rfl
 rw[afa,afb,afc,h4]at hs;have hlen:fb.length=32:=by rw[hs];exact C9 _ _
 intro z46 _ _ ahF gX _ _ ahG xE _ _ ahH z49 _ _ ahI pB _ _ ahJ z51 _ _ ahK tU _ _ ahL z53 _ _ ahM vF _ _ ahN zJ _ _ ahO zK _ _ ahP zL _ _ ahQ zM _ _ ahR z59 _ _ ahS GN _ _ ahT GO _ _ ahU GP _ _ ahV GQ _ _ ahW GR _ _ ahX GS _ _ ahY GU _ _ ahZ GV _ _ IT zN _ _ ah0 GW _ _ ah1 z70 _ _ ah2 GX _ _ N3 z72 _ _ N4 GY _ _ DU qu _ _ DV z75 _ _ DW z76 _ _ ah3 tV _ _ ah4;have VH:ab tV=fb.map λx=>[x]:=by
  rw[gE ah4,gE ah3,gE DW,gE DV,gE DU,gE N4,gE N3,gE ah2,gE ah1,gE ah0,gE IT,gE ahZ,gE ahY,gE ahX,gE ahW,gE ahV,gE ahU,gE ahT,gE ahS,gE ahR,gE ahQ,gE ahP,gE ahO,gE ahN,gE ahM,gE ahL,gE ahK,gE ahJ,gE ahI,gE ahH,gE ahG,gE ahF,eV,<-asC,hlen,asB];simp only[ch,List.map_nil,gv,qx]
 refine⟨(by show(ab tV).length<=1099511627776;rw[VH,jW,hlen];decide),λxF p0 p1 N5=>⟨⟨p0,p1,trivial⟩,?_⟩⟩;have N5:aa xF=eU (cK tV):=N5;show aa xF=qJ (aa z0) (kE r1);have oY:cK tV=fb.map λz=>jV z.toNat:=by
  unfold cK;rw[VH,jf];rfl
 rw[N5,oY,hs];show _=eU ((j9 aT (mY (ju (kE r1))++([32]++mY (aa z0)))).map λz=>jV z.toNat);unfold ju kE;rfl
theorem aau:∀l:au,(eU l).length=(4*l.length+2)/3
 |[]=>rfl
 |[a]=>by unfold eU;simp
 |[a,b]=>by unfold eU;simp
 |a::b::c::r=>by
  have ih:=aau r;unfold eU;simp only[dj];rw[ih];omega
theorem ajI (p:au) (w:au×au):(qJ p w).length=43:=by
 have h:(j9 aT (mY (ju w)++([32]++mY p))).length=32:=C9 _ _;unfold qJ;rw[aau,jW,h]
theorem aml {k n t a b s f:Int} {r:List Int} (h:SB 676 [[k],[n],[t],[a],[b],[s]] [r,[f]]) (hk:k=6) (hl:(ab a).length=(ab b).length):
 (∀x,pY a b (aa s)=some x->f=1/\aa (r.getD 2 0)=x)/\(pY a b (aa s)=none->f=0/\aa (r.getD 2 0)=[]):=by
 have h:match cond (decide (k=6)) (ot a (aa s)) none with
  |some i=>i<(ab b).length->r.getD 2 0=((ab b).getD i []).getD 2 0/\f=1
  |none=>aa (r.getD 2 0)=[]/\f=0:=h
 rw[decide_eq_true hk,cond_true]at h;unfold pY;cases hi:ot a (aa s)with
 |none=>
  rw[hi]at h;exact⟨λx hx=>(by cases hx),λ_=>⟨h.2,h.1⟩⟩
 |some i=>
  rw[hi]at h;have hlt:i<(ab b).length:=by
   unfold ot at hi;have:=(List.findIdx?_eq_some_iff_getElem.1 hi).1;rw[sq]at this;omega
  obtain⟨h1,h2⟩:=h hlt;refine⟨λx hx=>⟨h2,?_⟩,λhx=>(by cases hx)⟩;have hx:(gO b).getD i []=x:=by simpa using hx
  rw[h1,<-hx];simp[gO,ar,hlt]
theorem arc:Tm SB (dS SB [.d .bool] 680):=by
 intro z0 _ _ h0 af _ _ h1;have h0:ab z0=[[477315081741,437051401625,1786254407,0]]:=by rw[h0];show ab (rc (ab 0++_))=_;rw[di,eV];rfl
 have h1:ab af=[[0x71c38b091331f49b6f3ec7]]:=by rw[h1];show ab (rc (ab 0++_))=_;rw[di,eV];rfl
 refine⟨⟨bO _,by decide,by rw[h0];decide⟩,λz2 _ _ h2=>⟨⟨bO _,by decide,by rw[h1];decide⟩,λz3 _ _ h3=>?_⟩⟩;have h2:=(whole (by rw[h0];rfl) h2).trans h0;have h3:=(whole (by rw[h1];rfl) h3).trans h1;refine⟨h2,?_⟩;intro z4 _ _ z5 _ _ aq _ _ z7 _ _ ak _ _ z9 _ _ hL aC _ aD _ _ z12 _ _ fr aU _ aP _ _ aw _ _ jj;have hL:C3 ju (bds z2) (aa 113) (aa 113) (bA z3) z4 z5 aq z7 ak z9:=hL;have oY:bds z2=[k5 [477315081741,437051401625,1786254407,0]]:=by unfold bds;rw[h2];rfl
 have pS:bA z3=[aa 0x71c38b091331f49b6f3ec7]:=by unfold bA;rw[h3];rfl
 rw[oY,pS]at hL;obtain⟨g1,g2,g3,g4,g5⟩:=hL;have he:pc [k5 [477315081741,437051401625,1786254407,0]] (aa 113) (aa 113) [aa 0x71c38b091331f49b6f3ec7]=0:=by decide+kernel
 rw[he]at g1;obtain⟨g6,g7,g8⟩:=g5 g1;have hw:pY z7 ak (aa 0x71c38b091331f49b6f3ec7)=some (aa 1786254407):=by rw[g8];decide+kernel
 have fr:z12=((ab z7).length:Int):=fr;have jj:aw=((ab ak).length:Int):=jj;refine⟨⟨bO _,by omega,by omega⟩,λbF _ _ kQ=>⟨⟨bO _,by omega,by omega⟩,λbY _ _ iU KH _ eB _ _ hg=>?_⟩⟩;have kQ:=whole fr kQ;have iU:=whole jj iU;have hgo:pY bF bY (aa 0x71c38b091331f49b6f3ec7)=some (aa 1786254407):=by
  rw[<-hw];unfold pY ot bA gO;rw[kQ,iU]
 obtain⟨k1,k2⟩:=(aml hg g6 (by rw[kQ,iU];exact g7.1)).1 _ hgo;refine⟨λ_=>⟨λ_ z24 _ _ wB=>⟨λ_=>⟨?_,λfB _ _ mK cq _ _ wC=>?_⟩,λhq=>?_⟩,λhq=>?_⟩,λhq=>?_⟩
 ·intro z hz;simp only[kg,tW,or_false]at hz;rcases hz with rfl|rfl|rfl<;>decide
 ·have mK:aa fB=qJ (aa 113) (kE [477315081741,437051401625]):=mK;have wC:cq=((aa fB).length:Int):=wC;rw[mK,ajI]at wC;subst wC;exact⟨⟨by decide,by decide,trivial⟩,rfl⟩
 ·rw[sT wB,k2]at hq;simp at hq
 ·have:=of_decide_eq_false hq;omega
 ·have:=of_decide_eq_false hq;omega
end Go.aX
namespace Go.aX
open Go Go.aW
theorem GB {p:UInt8->Prop} (h:∀n:Fin 256,p (jV n.val)) (c:UInt8):p c:=by
 have:=h ⟨c.toNat,c.toNat_lt⟩;simpa using this
theorem al2:∀c:UInt8,Bo c=true->c<128:=GB (by decide+kernel)
theorem al1:∀c:UInt8,u2 c=true->c<128:=GB (by decide+kernel)
theorem YT:∀c:UInt8,j4 c=true->c<128:=GB (by decide+kernel)
theorem al3:∀c:UInt8,E5 c=true->c<128:=GB (by decide+kernel)
theorem anK:∀c:UInt8,c<128->lo c<128:=GB (by decide+kernel)
theorem Z5 {inn sS:UInt8->Bool} (hi:∀c:UInt8,inn c=true->c<128) {s:au} (h:BX inn sS s=true):iS s:=by
 intro b hb;obtain⟨i,nv,rfl⟩:=SA hb;have:=List.all_eq_true.1 h i (List.mem_range.2 nv);simp only[aQ]at this;have h1:=hi _ this.1.1;rw[kH,gF nv]at h1;exact h1
theorem Pa {s:au} (h:j3 s=true):iS s:=by
 unfold j3 at h;simp only[aQ]at h;exact Z5 al1 h.2
theorem anP {s:au} (h:ou s=true):iS s:=by
 unfold ou at h;simp only[aQ]at h;exact Z5 al2 h.2
theorem Uy {p:UInt8->Bool} (hi:∀c:UInt8,p c=true->c<128) {s:au} (h:s.all p=true):iS s:=λb hb=>hi b (List.all_eq_true.1 h b hb)
theorem Df {a b:au} (ha:iS a) (hb:iS b):iS (a++b):=λx hx=>(List.mem_append.1 hx).elim (ha x) (hb x)
theorem MP {c:Int} (h0:0<=c) (h1:c<128) {t:au} (hi:0<=idx c t) (ha:iS (t.take (idx c t).toNat)) (hb:iS (t.drop ((idx c t).toNat+1))):iS t:=by
 rcases PF h0 (by omega) t with⟨h,_⟩|⟨_,h2,h3,_,_⟩
 ·omega
 ·have e:t=t.take (idx c t).toNat++([u8 c]++t.drop ((idx c t).toNat+1)):=by
   rw[<-h3,kH,gF h2];simp only[qv,acU,List.getElem_cons_drop,jy]
  rw[e];refine Df ha (Df ?_ hb);intro b hb;simp only[ac4]at hb;subst hb;have:c.toNat<128:=by omega
  unfold u8;rw[azh];simp only[UInt8.toNat_ofNat'];show c.toNat% 256<128;omega
theorem atK {s:au} (h:mw s=true):iS s:=by
 unfold mw nk at h;cases hd:decide (0<=idx 58 s)with
 |false=>rw[hd]at h;simp only[cond_false,aQ]at h;exact Pa h.1
 |true=>
  rw[hd]at h;simp only[cond_true,aQ,pD]at h;refine MP (by decide) (by decide) (of_decide_eq_true hd) (Pa h.1) ?_;rcases h.2 with h|h
  ·simp at h
  ·unfold zl at h;simp only[aQ]at h;exact Uy YT h.2
theorem awK {s:au} (h:qp s=true):iS s/\s.length<=255/\s≠[]:=by
 unfold qp vk at h;simp only[aQ,decide_eq_true_eq]at h;obtain⟨⟨⟨h1,h2⟩,h3⟩,h4⟩:=h;cases hc:(ck 0 s.length&&bp s.length 255&&s.getD 0 0==64&&decide (0<=idx 58 s)&&mw (s.drop ((idx 58 s).toNat+1)))with
 |false=>unfold nI at h1;rw[hc]at h1;simp at h1
 |true=>
  have hp:nI 64 s=((s.take (idx 58 s).toNat).drop 1,s.drop ((idx 58 s).toNat+1),1):=by unfold nI;rw[hc];rfl
  rw[hp]at h4;simp only[aQ,decide_eq_true_eq,beq_iff_eq]at hc;obtain⟨⟨⟨⟨k1,k2⟩,k3⟩,k4⟩,mm⟩:=hc;have hn:s≠[]:=by intro e;rw[e]at k1;cases k1
  refine⟨MP (by decide) (by decide) k4 ?_ (atK mm),et k2,hn⟩;have ha:=Uy al3 h4
  match s,hn with
  |a::r,_=>
   have k3:a=64:=by simpa using k3
   subst k3;generalize (idx 58 (64::r)).toNat=i at ha⊢;cases i with
   |zero=>intro b hb;simp at hb
   |succ i=>
    have ha:iS (r.take i):=by simpa using ha
    intro b hb;simp only[vK,kg]at hb;rcases hb with rfl|hb
    ·decide
    ·exact ha b hb
theorem an2 {t:au} (h:iS t):iS (lower t):=λb hb=>by
 obtain⟨c,hc,rfl⟩:=List.mem_map.1 hb;exact anK c (h c hc)
theorem agW {w:au} (h:(oZ w).2=0):iS (oZ w).1/\(oZ w).1.length<=254:=by
 unfold oZ at h⊢;generalize jP _ w=t at h⊢;unfold AJ at h⊢;cases hc:(decide (0<=idx 64 t)&&bp t.length 254&&ou (t.take (idx 64 t).toNat)&&j3 (t.drop ((idx 64 t).toNat+1))&&(t.drop ((idx 64 t).toNat+1)).contains 46)with
 |false=>rw[hc]at h;cases h
 |true=>
  simp only[cond_true];simp only[aQ,decide_eq_true_eq]at hc;obtain⟨⟨⟨⟨k1,k2⟩,k3⟩,k4⟩,_⟩:=hc;exact⟨an2 (MP (by decide) (by decide) k1 (anP k3) (Pa k4)),by unfold lower;rw[jW];exact et k2⟩
theorem HW:∀(s d:au) (p:Bool) {d':au} {p':Bool},iS d->ur s d p=some (d',p')->iS d'
 |[],d,p,d',p',hd,h=>by unfold ur at h;cases h;exact hd
 |c::r,d,p,d',p',hd,h=>by
  unfold ur at h;cases h1:j4 c with
  |true=>
   rw[h1]at h;exact HW r _ p (Df hd (λb hb=>by simp only[ac4]at hb;subst hb;exact YT _ h1)) h
  |false=>
   rw[h1]at h;simp only[cond_false]at h;cases h2:(c==43&&d.isEmpty&& !p)with
   |true=>rw[h2]at h;exact HW r d true hd h
   |false=>
    rw[h2]at h;simp only[cond_false]at h;cases h3:abo.contains c with
    |true=>rw[h3]at h;exact HW r d p hd h
    |false=>rw[h3]at h;cases h
theorem asa {s:au} (h:(vp [] s).2=0):iS (vp [] s).1/\(vp [] s).1.length<=15:=by
 have hc:Ik []=some ([],[]):=rfl;unfold vp at h⊢;rw[hc]at h⊢;simp only at h⊢;cases hb:ur s [] false with
 |none=>rw[hb]at h;cases h
 |some q=>
  obtain⟨d,p⟩:=q;rw[hb]at h;simp only at h⊢;have hd:=HW s [] false (λb hb=>by cases hb) hb;have hN:QI [] [] [] d p=d:=by unfold QI;simp
  rw[hN]at h⊢;unfold aav at h⊢;cases hk:(ck d.length 6||ck 15 d.length||d.getD 0 0==48)with
  |true=>rw[hk]at h;cases h
  |false=>
   simp only[cond_false];simp only[Bool.or_eq_false_iff]at hk;refine⟨hd,?_⟩;have:=hk.1.2;have h2:¬15<d.length:=λhlt=>by
    have:ck 15 d.length=true:=adm hlt;rw[this]at hk;simp at hk
   omega
theorem asT {m w:au} (h:po m w=true):iS (ju (m,w))/\m.length<=6/\w.length<=254:=by
 unfold po at h;simp only[aQ,decide_eq_true_eq,beq_iff_eq]at h;obtain⟨⟨h1,h2⟩,h3⟩:=h;have key:iS m/\m.length<=6/\iS w/\w.length<=254:=by
  unfold tq at h1 h2 h3;cases he:(m==AI)with
  |true=>
   rw[he]at h1 h2 h3;simp only[cond_true]at h1 h2 h3;have hm:m=AI:=by simpa using he
   unfold ze at h1 h2 h3;cases hd:decide ((oZ w).2=0)with
   |false=>rw[hd]at h1;simp only[cond_false]at h1;exact absurd h1 (of_decide_eq_false hd)
   |true=>
    rw[hd]at h3;have h3:w=(oZ w).1:=h3;have:=agW (of_decide_eq_true hd);rw[<-h3]at this;refine⟨by rw[hm];show ∀b∈AI,b<128;decide,by rw[hm];decide,this⟩
  |false=>
   rw[he]at h1 h2 h3;simp only[cond_false]at h1 h2 h3;cases hs:(m==Kb)with
   |false=>rw[hs]at h1;cases h1
   |true=>
    rw[hs]at h1 h2 h3;simp only[cond_true]at h1 h2 h3;have hm:m=Kb:=by simpa using hs
    unfold ze at h1 h2 h3;cases hd:decide ((vp [] w).2=0)with
    |false=>rw[hd]at h1;simp only[cond_false]at h1;exact absurd h1 (of_decide_eq_false hd)
    |true=>
     rw[hd]at h3;have h3:w=(vp [] w).1:=h3;have:=asa (of_decide_eq_true hd);rw[<-h3]at this;exact⟨by rw[hm];show ∀b∈Kb,b<128;decide,by rw[hm];decide,this.1,by omega⟩
 obtain⟨k1,k2,k3,k4⟩:=key;exact⟨Df (Df k3 (by show ∀b∈([32]:au),b<128;decide)) k1,k2,k4⟩
theorem MQ {b:iQ} (h:pO b=true):iS (ju b.1)/\b.1.1.length<=6/\b.1.2.length<=254/\iS b.2.1/\b.2.1.length<=255/\b.2.1≠[]:=by
 unfold pO at h;simp only[aQ]at h;obtain⟨h1,h2,h3⟩:=asT h.2.2.1;obtain⟨h4,h5,h6⟩:=awK h.2.2.2;exact⟨h1,h2,h3,h4,h5,h6⟩
theorem aaQ {l:List iQ} (h:mv l=true):l.length<=64/\∀b∈l,pO b=true:=by
 unfold mv at h;simp only[aQ]at h;exact⟨et h.1.1,λb hb=>List.all_eq_true.1 h.1.2 b hb⟩
def zH (nm:au×au->au) (l:List iQ) (k:Nat) (s:au):Option au:=q7 nm (l.take k) s
theorem axW {nm:au×au->au} {l:List iQ} {k:Nat} (hk:k<l.length) (s:au):zH nm l (k+1) s=cond (decide (s=nm l[k].1)) (some l[k].2.1) (zH nm l k s):=by
 unfold zH q7;rw[Sx,gF hk];simp only[Option.toList_some,ayg,ayh,ayi,gv,acU,z8];by_cases h:s=nm l[k].1
 ·subst h;simp
 ·have h2:¬nm l[k].1=s:=λe=>h e.symm;simp[h,h2]
theorem axX {nm:au×au->au} {l:List iQ} {s t:au} (h:q7 nm l s=some t):∃b∈l,nm b.1=s/\b.2.1=t:=by
 unfold q7 at h;cases hf:l.reverse.find? (λb=>decide (nm b.1=s))with
 |none=>rw[hf]at h;cases h
 |some b=>
  rw[hf]at h;simp only[rf,aK]at h;have h1:=List.mem_of_find?_eq_some hf;have h2:=List.find?_some hf;exact⟨b,by simpa using h1,of_decide_eq_true h2,h⟩
end Go.aX
namespace Go.aX
open Go Go.aW
def fV (l:au) (i:Nat):Nat:=(l.getD (i/8) 0).toNat/2^(7-i% 8)% 2
def nq (st:au×Nat×Nat) (b:Nat):au×Nat×Nat:=cond (decide (st.2.2+1=6)) (st.1++[fv (2*st.2.1+b)],0,0) (st.1,2*st.2.1+b,st.2.2+1)
def dO (l:au):Nat->au×Nat×Nat
 |0=>([],0,0)
 |i+1=>nq (dO l i) (fV l i)
def Cb (l:au):au:=cond (decide ((dO l (8*l.length)).2.2=0)) (dO l (8*l.length)).1 ((dO l (8*l.length)).1++[fv ((dO l (8*l.length)).2.1*2^(6-(dO l (8*l.length)).2.2))])
theorem UM (l:au) (i:Nat):fV l i<2:=Nat.mod_lt _ (by decide)
theorem VR (l:au):∀i,(dO l i).2.1<2^(dO l i).2.2/\(dO l i).2.2<6/\(dO l i).1.length<=i
 |0=>by simp[dO]
 |i+1=>by
  obtain⟨h1,h2,h3⟩:=VR l i;have hb:=UM l i;unfold dO nq;cases hc:decide ((dO l i).2.2+1=6)with
  |true=>simp;omega
  |false=>
   have hc:=of_decide_eq_false hc;simp only[cond_false];refine⟨?_,by omega,by omega⟩;rw[xG];omega
theorem afn (a b c:UInt8) (r:au) (i:Nat):fV (a::b::c::r) (24+i)=fV r i:=by
 unfold fV;rw[show(24+i)/8=i/8+3 by omega,show(24+i)% 8=i% 8 by omega];rfl
theorem agQ (p:au) (st:au×Nat×Nat) (b:Nat):nq (p++st.1,st.2.1,st.2.2) b=(p++(nq st b).1,(nq st b).2.1,(nq st b).2.2):=by
 unfold nq;simp only;cases decide (st.2.2+1=6)with
 |true=>simp
 |false=>simp
theorem VS (a b c:UInt8) (r:au) (p:au) (h:dO (a::b::c::r) 24=(p,0,0)):∀i,dO (a::b::c::r) (24+i)=(p++(dO r i).1,(dO r i).2.1,(dO r i).2.2)
 |0=>by rw[kG,h];simp[dO]
 |i+1=>by
  rw[<-Nat.add_assoc];show nq (dO (a::b::c::r) (24+i)) (fV (a::b::c::r) (24+i))=_;rw[VS a b c r p h i,afn,agQ];rfl
theorem VQ (a:UInt8) (r:au):dO (a::r) 8=([fv (a.toNat/4)],a.toNat% 4,2):=by
 have ha:=a.toNat_lt;simp only[dO,nq,fV,vH,List.getD_cons_succ,Nat.reduceDiv,Nat.reduceMod,adB,adC,adD,Nat.reduceEqDiff,decide_true,decide_false,cond_true,cond_false,qx,gv];simp only[cN,gY,and_true];exact⟨congrArg fv (by omega),by omega⟩
theorem nr (l:au) (i:Nat):dO l (i+1)=nq (dO l i) (fV l i):=rfl
theorem sR {s:au} {n k b:Nat} (h:k+1≠6):nq (s,n,k) b=(s,2*n+b,k+1):=by unfold nq;rw[decide_eq_false h];rfl
theorem VJ {s:au} {n b:Nat}:nq (s,n,5) b=(s++[fv (2*n+b)],0,0):=rfl
theorem UN (p:au) (c:UInt8) (r:au) (k:Nat) (h:k<8):fV (p++c::r) (8*p.length+k)=c.toNat/2^(7-k)% 2:=by
 unfold fV;rw[show(8*p.length+k)/8=p.length by omega,show(8*p.length+k)% 8=k by omega];simp[ar]
theorem VP (a b:UInt8) (r:au):dO (a::b::r) 16=([fv (a.toNat/4),fv (a.toNat% 4*16+b.toNat/16)],b.toNat% 16,4):=by
 have hb:=b.toNat_lt;have hB:=λk h=>UN [a] b r k h;rw[nr _ 15,nr _ 14,nr _ 13,nr _ 12,nr _ 11,nr _ 10,nr _ 9,nr _ 8,VQ];rw[show fV (a::b::r) 8=_ from hB 0 (by decide),show fV (a::b::r) 9=_ from hB 1 (by decide),show fV (a::b::r) 10=_ from hB 2 (by decide),show fV (a::b::r) 11=_ from hB 3 (by decide),show fV (a::b::r) 12=_ from hB 4 (by decide),show fV (a::b::r) 13=_ from hB 5 (by decide),show fV (a::b::r) 14=_ from hB 6 (by decide),show fV (a::b::r) 15=_ from hB 7 (by decide)];have e0:=λs n b=>sR (s:=s) (n:=n) (k:=0) (b:=b) (by decide);have e1:=λs n b=>sR (s:=s) (n:=n) (k:=1) (b:=b) (by decide);have e2:=λs n b=>sR (s:=s) (n:=n) (k:=2) (b:=b) (by decide);have e3:=λs n b=>sR (s:=s) (n:=n) (k:=3) (b:=b) (by decide);have e4:=λs n b=>sR (s:=s) (n:=n) (k:=4) (b:=b) (by decide);simp only[VJ,e0,e1,e2,e3,e4,adC];simp only[adB,adD,qx,gv,cN,gY,and_true,true_and];exact⟨congrArg fv (by omega),by omega⟩
theorem ag4 (a b c:UInt8) (r:au):dO (a::b::c::r) 24=([fv (a.toNat/4),fv (a.toNat% 4*16+b.toNat/16),fv (b.toNat% 16*4+c.toNat/64),fv (c.toNat% 64)],0,0):=by
 have hc:=c.toNat_lt;have hB:=λk h=>UN [a,b] c r k h;rw[nr _ 23,nr _ 22,nr _ 21,nr _ 20,nr _ 19,nr _ 18,nr _ 17,nr _ 16,VP];rw[show fV (a::b::c::r) 16=_ from hB 0 (by decide),show fV (a::b::c::r) 17=_ from hB 1 (by decide),show fV (a::b::c::r) 18=_ from hB 2 (by decide),show fV (a::b::c::r) 19=_ from hB 3 (by decide),show fV (a::b::c::r) 20=_ from hB 4 (by decide),show fV (a::b::c::r) 21=_ from hB 5 (by decide),show fV (a::b::c::r) 22=_ from hB 6 (by decide),show fV (a::b::c::r) 23=_ from hB 7 (by decide)];have e0:=λs n b=>sR (s:=s) (n:=n) (k:=0) (b:=b) (by decide);have e1:=λs n b=>sR (s:=s) (n:=n) (k:=1) (b:=b) (by decide);have e2:=λs n b=>sR (s:=s) (n:=n) (k:=2) (b:=b) (by decide);have e3:=λs n b=>sR (s:=s) (n:=n) (k:=3) (b:=b) (by decide);have e4:=λs n b=>sR (s:=s) (n:=n) (k:=4) (b:=b) (by decide);simp only[VJ,e0,e1,e2,e3,e4,adC];simp only[adB,adD,qx,gv,cN,gY,and_true,true_and];exact⟨congrArg fv (by omega),congrArg fv (by omega)⟩
theorem aaE:∀l:au,Cb l=eU l
 |[]=>rfl
 |[a]=>by
  unfold Cb;rw[show 8*[a].length=8 from rfl,VQ];rfl
 |[a,b]=>by
  unfold Cb;rw[show 8*[a,b].length=16 from rfl,VP];rfl
 |a::b::c::r=>by
  have ih:=aaE r;unfold Cb at ih⊢;rw[show 8*(a::b::c::r).length=24+8*r.length by simp;omega,VS a b c r _ (ag4 a b c r)];simp only;unfold eU;rw[<-ih];cases decide ((dO r (8*r.length)).2.2=0)<;>simp
def Ma (S:zzS) (K:zzK):Prop:=cQ λz0=>(ah 48 [z0]->bC λaf=>bm (-2) bT λz2=>bj 20 [z0] λz3=>∃(lz:List (List Int)->Prop) (lY:List (List Int)->Nat),lz [[0],[0],[0],[0]]/\(cl λz5=>bm 0 63 λaq=>bm 0 5 λz7=>fa λak=>lz [[z5],[aq],[z7],[ak]]->bQ 0 4 ((8*z3)+0x8000000000000000) dF λz9=>(aE (decide (ak<((8*z3)+(aM*z9)))) (bQ 0 0xfffffffffffffff ak 8 λaC=>ah 30 [aC,z3]/\ah 21 [z0,aC]/\df 21 [z0,aC,0] λaD=>bQ 0 0xfffffffffffffff ak 8 λz12=>KC λaU=>aU=aD/2^(((((-1)*ak)+(8*z12))+7)).toNat->bQ 0 127 aU 2 λaP=>(aE (decide ((z7+1)=6)) (ah 2 [0x7af4fbc270fefa1d77b60c1dcbbb72d042060efccbb79585dd5077643d6ab009986931351863d08218ba137dc0437dd520551232d7ee1a54f8cd3e61991167d7,((2*aq)+(aU+((-2)*aP))),(((2*aq)+(aU+((-2)*aP)))+1)]/\cP 2 [0x7af4fbc270fefa1d77b60c1dcbbb72d042060efccbb79585dd5077643d6ab009986931351863d08218ba137dc0437dd520551232d7ee1a54f8cd3e61991167d7,((2*aq)+(aU+((-2)*aP))),(((2*aq)+(aU+((-2)*aP)))+1)] λaw=>ah 3 [z5,aw]/\cP 3 [z5,aw] λbF=>cz (ak+eI) dF λbY=>ah 39 [((ak+(aM*bY))+1),0,bT]/\(lz [[bF],[0],[0],[((ak+(aM*bY))+1)]]/\lY [[bF],[0],[0],[((ak+(aM*bY))+1)]]<lY [[z5],[aq],[z7],[ak]])) (cz (ak+eI) dF λaw=>ah 39 [((2*aq)+(aU+((-2)*aP))),0,63]/\ah 39 [(z7+1),0,5]/\ah 39 [((ak+(aM*aw))+1),0,bT]/\(lz [[z5],[((2*aq)+(aU+((-2)*aP)))],[(z7+1)],[((ak+(aM*aw))+1)]]/\lY [[z5],[((2*aq)+(aU+((-2)*aP)))],[(z7+1)],[((ak+(aM*aw))+1)]]<lY [[z5],[aq],[z7],[ak]])))) ((aE (decide (0<z7)) ((aE (decide ((z7+1)<6)) ((aE (decide ((z7+2)<6)) ((aE (decide ((z7+3)<6)) ((aE (decide ((z7+4)<6)) (ah 2 [0x7af4fbc270fefa1d77b60c1dcbbb72d042060efccbb79585dd5077643d6ab009986931351863d08218ba137dc0437dd520551232d7ee1a54f8cd3e61991167d7,(32*aq),((32*aq)+1)]/\cP 2 [0x7af4fbc270fefa1d77b60c1dcbbb72d042060efccbb79585dd5077643d6ab009986931351863d08218ba137dc0437dd520551232d7ee1a54f8cd3e61991167d7,(32*aq),((32*aq)+1)] λaC=>ah 3 [z5,aC]/\cP 3 [z5,aC] λaD=>K [[z0]] [[aD]]) (ah 2 [0x7af4fbc270fefa1d77b60c1dcbbb72d042060efccbb79585dd5077643d6ab009986931351863d08218ba137dc0437dd520551232d7ee1a54f8cd3e61991167d7,(16*aq),((16*aq)+1)]/\cP 2 [0x7af4fbc270fefa1d77b60c1dcbbb72d042060efccbb79585dd5077643d6ab009986931351863d08218ba137dc0437dd520551232d7ee1a54f8cd3e61991167d7,(16*aq),((16*aq)+1)] λaC=>ah 3 [z5,aC]/\cP 3 [z5,aC] λaD=>K [[z0]] [[aD]]))) (ah 2 [0x7af4fbc270fefa1d77b60c1dcbbb72d042060efccbb79585dd5077643d6ab009986931351863d08218ba137dc0437dd520551232d7ee1a54f8cd3e61991167d7,(8*aq),((8*aq)+1)]/\cP 2 [0x7af4fbc270fefa1d77b60c1dcbbb72d042060efccbb79585dd5077643d6ab009986931351863d08218ba137dc0437dd520551232d7ee1a54f8cd3e61991167d7,(8*aq),((8*aq)+1)] λaC=>ah 3 [z5,aC]/\cP 3 [z5,aC] λaD=>K [[z0]] [[aD]]))) (ah 2 [0x7af4fbc270fefa1d77b60c1dcbbb72d042060efccbb79585dd5077643d6ab009986931351863d08218ba137dc0437dd520551232d7ee1a54f8cd3e61991167d7,(4*aq),((4*aq)+1)]/\cP 2 [0x7af4fbc270fefa1d77b60c1dcbbb72d042060efccbb79585dd5077643d6ab009986931351863d08218ba137dc0437dd520551232d7ee1a54f8cd3e61991167d7,(4*aq),((4*aq)+1)] λaC=>ah 3 [z5,aC]/\cP 3 [z5,aC] λaD=>K [[z0]] [[aD]]))) (ah 2 [0x7af4fbc270fefa1d77b60c1dcbbb72d042060efccbb79585dd5077643d6ab009986931351863d08218ba137dc0437dd520551232d7ee1a54f8cd3e61991167d7,(2*aq),((2*aq)+1)]/\cP 2 [0x7af4fbc270fefa1d77b60c1dcbbb72d042060efccbb79585dd5077643d6ab009986931351863d08218ba137dc0437dd520551232d7ee1a54f8cd3e61991167d7,(2*aq),((2*aq)+1)] λaC=>ah 3 [z5,aC]/\cP 3 [z5,aC] λaD=>K [[z0]] [[aD]]))) (K [[z0]] [[z5]]))))))
theorem U3:aa 0x7af4fbc270fefa1d77b60c1dcbbb72d042060efccbb79585dd5077643d6ab009986931351863d08218ba137dc0437dd520551232d7ee1a54f8cd3e61991167d7=x5:=by decide+kernel
theorem U1 (z:Int):(cK z).length=(ab z).length:=by simp[cK]
theorem U0 {z:Int} {i:Nat} {v:Int} (v0:0<=v) (v1:v<=255) (h:v=((ab z).getD i []).getD 0 0):((cK z).getD i 0).toNat=v.toNat:=by
 unfold cK;by_cases hi:i<(ab z).length
 ·simp only[ar,lV,gF hi,rf,qv]at h⊢;rw[<-h];simp;omega
 ·have e:(ab z)[i]?=none:=List.getElem?_eq_none (by omega);simp only[ar,lV,e,Option.map_none,Option.getD_none]at h⊢;have:v=0:=by rw[h];rfl
  rw[this];rfl
def aeu (z0:Int) (bl:List (List Int)):Prop:=∃(i:Nat) (s n b:Int),bl=[[s],[n],[b],[(i:Int)]]/\i<=8*(ab z0).length/\aa s=(dO (cK z0) i).1/\n=((dO (cK z0) i).2.1:Nat)/\b=((dO (cK z0) i).2.2:Nat)
def aev (z0:Int) (bl:List (List Int)):Nat:=8*(ab z0).length-((bl.getD 3 []).getD 0 0).toNat
theorem Zr {n:Nat} {i:Int} (hi:i=(n:Int)) (h:n<64):ah 2 [0x7af4fbc270fefa1d77b60c1dcbbb72d042060efccbb79585dd5077643d6ab009986931351863d08218ba137dc0437dd520551232d7ee1a54f8cd3e61991167d7,i,i+1]/\∀z,z=aB 2 [0x7af4fbc270fefa1d77b60c1dcbbb72d042060efccbb79585dd5077643d6ab009986931351863d08218ba137dc0437dd520551232d7ee1a54f8cd3e61991167d7,i,i+1]->aa z=[fv n]:=by
 obtain⟨h1,h2⟩:=auo (s:=0x7af4fbc270fefa1d77b60c1dcbbb72d042060efccbb79585dd5077643d6ab009986931351863d08218ba137dc0437dd520551232d7ee1a54f8cd3e61991167d7) hi (by rw[U3];exact h);refine⟨h1,λz hz=>?_⟩;rw[h2 z hz,U3];rfl
where
 auo {s i:Int} {n:Nat} (hi:i=(n:Int)) (h:n<(aa s).length):(0<=i/\i<=i+1/\i+1<=((aa s).length:Int))/\∀z,z=aB 2 [s,i,i+1]->aa z=[(aa s).getD n 0]:=by
  subst hi;refine⟨⟨by omega,by omega,by omega⟩,λz hz=>?_⟩;rw[hz];simp only[aB,fj];rw[show((n:Int)).toNat=n by omega,show((n:Int)+1).toNat-n=1 by omega,sQ _ _ h];rfl
theorem asd {n b:Nat} (h:n<2^b) (hb:b<=5):n<32:=Nat.lt_of_lt_of_le h (Nat.pow_le_pow_right (by decide) hb)
theorem arp:Ma SB (dS SB [.d .str] 222):=by
 delta Ma aE cz bQ bm bC fa bj cQ cl cP KC df dF aM bT eI;dsimp only
 intro z0 a0 a1 gf af _ z2 _ _ z3 b0 b1 h3;have gf:(ab z0).length<=1099511627776:=gf;simp only[aB]at h3;refine⟨aeu z0,aev z0,⟨0,0,0,0,rfl,kW _,rfl,rfl,rfl⟩,?_⟩
 rintro z5 bW c1 aq d0 d1 z7 e0 e1 ak f0 f1 ⟨i,s,n,b,e,hi,hs,hn,hb⟩ z9 g0 g1 g2 g3
 obtain⟨rfl,rfl,rfl,rfl⟩:z5=s/\aq=n/\z7=b/\ak=i:=by simpa using e
 obtain⟨q1,q2,q3⟩:=VR (cK z0) i;have Yx:z9=0:=by omega
 subst Yx;have hkey:∀r:Int,0<=r->r<=b8->aa r=Cb (cK z0)->dS SB [.d .str] 222 [[z0]] [[r]]:=λr r0 r1 h=>⟨⟨r0,r1,trivial⟩,by show aa r=eU (cK z0);rw[h,aaE]⟩;refine⟨λhlt aC _ _ i0 i1=>?_,λe8=>?_⟩
 ·have hlt:(i:Int)<8*z3+-0x10000000000000000*0:=of_decide_eq_true hlt;have cW:aC=((i/8:Nat):Int):=by omega
  refine⟨⟨by omega,by omega⟩,⟨by omega,by omega⟩,λaD e9 cm h11 z12 _ _ iG k1 aU l0 l1 ga aP _ _ m0 dE=>?_⟩;have fr:z12=((i/8:Nat):Int):=by omega
  have aj6:(((-1)*(i:Int)+8*z12+7)).toNat=7-i% 8:=by omega
  rw[aj6]at ga;have h11:aD=((ab z0).getD (i/8) []).getD 0 0:=by rw[h11,cW];simp only[aB,ek];rfl
  have p8:=U0 e9 cm h11;have Oy:aU+-2*aP=((fV (cK z0) i:Nat):Int):=by
   have e1:aU=((((cK z0).getD (i/8) 0).toNat/2^(7-i% 8):Nat):Int):=by
    rw[ga,p8];have:aD=((aD.toNat:Nat):Int):=by omega
    conv=>lhs;rw[this]
    simp
   unfold fV;omega
  have hb2:=UM (cK z0) i;rw[Oy];have hst:dO (cK z0) (i+1)=nq (dO (cK z0) i) (fV (cK z0) i):=rfl;have aAU:=asd q1 (by omega);refine⟨λh6=>?_,λh6 aw p0 p1 aJ bb=>?_⟩
  ·have h6:z7+1=6:=of_decide_eq_true h6;obtain⟨t1,t2⟩:=Zr (n:=2*(dO (cK z0) i).2.1+fV (cK z0) i) (i:=2*aq+((fV (cK z0) i:Nat):Int)) (by omega) (by omega);refine⟨t1,λaw p0 p1 jj=>?_⟩;have Is:=t2 aw jj;refine⟨by show(aa z5).length+(aa aw).length<=dP;rw[Is,hs];unfold dP;simp;omega,λbF r0 r1 kQ bY s0 s1 s2 ez=>?_⟩;rw[CA (L:=8*z3) (by omega) (by omega) f0 s0 s2];have yZ:dO (cK z0) (i+1)=((dO (cK z0) i).1++[fv (2*(dO (cK z0) i).2.1+fV (cK z0) i)],0,0):=by
    rw[hst];unfold nq;rw[decide_eq_true (by omega)];rfl
   refine⟨⟨by omega,by omega⟩,⟨i+1,bF,0,0,by simp,by omega,?_,by rw[yZ];rfl,by rw[yZ];rfl⟩,?_⟩
   ·rw[kQ];simp only[aB,fj];rw[yZ,hs,Is]
   ·show 8*(ab z0).length-((i:Int)+1).toNat<8*(ab z0).length-((i:Int)).toNat;omega
  ·have h6:¬z7+1=6:=of_decide_eq_false h6;rw[CA (L:=8*z3) (by omega) (by omega) f0 p0 aJ];have yZ:dO (cK z0) (i+1)=((dO (cK z0) i).1,2*(dO (cK z0) i).2.1+fV (cK z0) i,(dO (cK z0) i).2.2+1):=by
    rw[hst];unfold nq;rw[decide_eq_false (by omega)];rfl
   refine⟨⟨by omega,by omega⟩,⟨by omega,by omega⟩,⟨by omega,by omega⟩,⟨i+1,z5,2*aq+((fV (cK z0) i:Nat):Int),z7+1,by simp,by omega,by rw[yZ];exact hs,by rw[yZ];simp;omega,by rw[yZ];simp;omega⟩,?_⟩;show 8*(ab z0).length-((i:Int)+1).toNat<8*(ab z0).length-((i:Int)).toNat;omega
 ·have e8:¬(i:Int)<8*z3+-0x10000000000000000*0:=of_decide_eq_false e8;have Er:i=8*(cK z0).length:=by rw[U1];omega
  have qL:Cb (cK z0)=cond (decide ((dO (cK z0) i).2.2=0)) (dO (cK z0) i).1 ((dO (cK z0) i).1++[fv ((dO (cK z0) i).2.1*2^(6-(dO (cK z0) i).2.2))]):=by rw[Er];rfl
  have pad:∀(k:Nat) (x:Int),0<(dO (cK z0) i).2.2->(dO (cK z0) i).2.2+k=6->x=(((dO (cK z0) i).2.1*2^k:Nat):Int)->
   ah 2 [0x7af4fbc270fefa1d77b60c1dcbbb72d042060efccbb79585dd5077643d6ab009986931351863d08218ba137dc0437dd520551232d7ee1a54f8cd3e61991167d7,x,x+1]/\
   ∀aC:Int,0<=aC->aC<=b8->aC=aB 2 [0x7af4fbc270fefa1d77b60c1dcbbb72d042060efccbb79585dd5077643d6ab009986931351863d08218ba137dc0437dd520551232d7ee1a54f8cd3e61991167d7,x,x+1]->
   ah 3 [z5,aC]/\
   ∀aD:Int,0<=aD->aD<=b8->aD=aB 3 [z5,aC]->
   dS SB [.d .str] 222 [[z0]] [[aD]]:=λk x hp hk hx=>by
   have hlt:(dO (cK z0) i).2.1*2^k<64:=by
    have:2^(dO (cK z0) i).2.2*2^k=64:=by rw[<-Nat.pow_add,hk]
    rw[<-this];exact Nat.mul_lt_mul_of_pos_right q1 (Nat.two_pow_pos k)
   obtain⟨t1,t2⟩:=Zr hx hlt;refine⟨t1,λaC _ _ cW=>?_⟩;have Dz:=t2 aC cW;refine⟨by show(aa z5).length+(aa aC).length<=dP;rw[Dz,hs];unfold dP;simp;omega,λaD r0 r1 h11=>hkey aD r0 r1 ?_⟩;rw[qL,decide_eq_false (by omega),h11];simp only[aB,fj,cond_false];rw[hs,Dz,show 6-(dO (cK z0) i).2.2=k by omega]
  refine⟨λhp=>?_,λhp=>hkey z5 bW c1 ?_⟩
  ·have hp:0<z7:=of_decide_eq_true hp;refine⟨λh=>⟨λh=>⟨λh=>⟨λh=>pad 5 _ (by omega) (by have:=of_decide_eq_true h;omega) (by omega),λh'=>pad 4 _ (by omega) (by have:=of_decide_eq_true h;have:=of_decide_eq_false h';omega) (by omega)⟩,λh'=>pad 3 _ (by omega) (by have:=of_decide_eq_true h;have:=of_decide_eq_false h';omega) (by omega)⟩,λh'=>pad 2 _ (by omega) (by have:=of_decide_eq_true h;have:=of_decide_eq_false h';omega) (by omega)⟩,λh'=>pad 1 _ (by omega) (by have:=of_decide_eq_false h';omega) (by omega)⟩
  ·have hp:¬0<z7:=of_decide_eq_false hp;rw[qL,decide_eq_true (by omega),hs];rfl
end Go.aX
namespace Go.aX
open Go Go.aW
def Dv (r:List Int):Nat->Nat->Int->(Int->Prop)->Prop
 |_,0,c,k=>k c
 |o,n+1,c,k=>∀z:Int,0<=z->z<=bV->z=aB 23 [c,ar r o 0]->Dv r (o+1) n z k
def Nc (c l:Int):Nat->Nat->List Int->(List Int->Prop)->Prop
 |0,_,acc,k=>k acc
 |n+1,i,acc,k=>ah 30 [(i:Int),l]/\ah 21 [c,(i:Int)]/\∀y:Int,0<=y->y<=255->y=aB 21 [c,(i:Int),0]->Nc c l n (i+1) (acc++[y]) k
end Go.aX
namespace Go.aX
open Go Go.aW
abbrev dF:Int:=0x10000000000000000
def ayc:List Int:=[0,0,0,0,0,0,0,0,0,0,0,0,0,0,0,0,0,0,0,0,0,0,0,0,0,0,0,0,0,0,0,0,0,0,0,0,0,0,0,0,0,0,0,0,0,0,0,0,0,0,0,0,0,0,0,0,0,0,0,0,0,0,0,0,0,0,0,0,0,0,0,0,0,0,0,0,0,0,0,0]
end Go.aX
namespace Go.aX
open Go Go.aW
abbrev qj (p:Int->Prop):Prop:=∀z:Int,(-2)<=z->z<=0x7fffffffffffffff->p z
def afk:List Int:=[1779033703,3144134277,1013904242,2773480762,1359893119,2600822924,528734635,1541459225]
def abU (K:zzK) (z0 g:Int):Prop:=∃(I:List (List Int)->Prop) (fo:List (List Int)->Nat),I [[0],[0],[0],[(-1)]]/\(bm 0 8 λi=>cQ λc=>fa λl=>qj λk=>I [[i],[c],[l],[k]]->aE (decide (i<8)) (∃(J:List (List Int)->Prop) (adR:List (List Int)->Nat),J [[24],[c],[l],[k]]/\(bm (-8) 24 λs=>cQ λd=>fa λe=>qj λf=>J [[s],[d],[e],[f]]->aE (decide (0<=s)) (ah 30 [i,8]/\ah 21 [g,i]/\zp 21 [g,i,0] λx=>∀y:Int,0<=y->y<=0xffffffffffffffff->y=x/2^(s).toNat->bQ 0 0xffffffffffffff y 256 λq=>ah 31 [d,e]/\ah 23 [d,1]/\a8 23 [d,(y+((-256)*q))] λd'=>qj λk8=>(J [[(s+(-8))],[d'],[(e+1)],[k8]]/\adR [[(s+(-8))],[d'],[(e+1)],[k8]]<adR [[s],[d],[e],[f]])) (I [[(i+1)],[d],[e],[f]]/\fo [[(i+1)],[d],[e],[f]]<fo [[i],[c],[l],[k]]))) (ah 22 [c,0,l]/\a8 22 [c,0,l] λr=>K [[z0]] [[r]]))
def abS (c n a m0:Int) (P:Int->Prop):Prop:=∃(I:List (List Int)->Prop) (fo:List (List Int)->Nat),I [[0],[m0]]/\(bm 0 64 λi=>cQ λm=>I [[i],[m]]->aE (decide (i<64)) (bQ 0 15 i 4 λx=>bQ 0 15 i 4 λy=>ah 30 [y,80]/\ah 21 [m,y]/\zp 21 [m,y,0] λw=>bQ 0 255 (256*w) 0x10000000000000000 λu=>cz ((a+i)+0x8000000000000000) 0x10000000000000000 λt=>ah 30 [(a+(i+((-0x10000000000000000)*t))),n]/\ah 21 [c,(a+(i+((-0x10000000000000000)*t)))]/\df 21 [c,(a+(i+((-0x10000000000000000)*t))),0] λb=>ah 30 [x,80]/\ah 21 [m,x]/\(ah 67 [m,x,1]->a8 42 [m,x,0,((256*w)+(((-0x10000000000000000)*u)+b))] λm'=>(I [[(i+1)],[m']]/\fo [[(i+1)],[m']]<fo [[i],[m]]))) (P m))
def abX (S:zzS) (m0:Int) (P:Int->Prop):Prop:=∃(I:List (List Int)->Prop) (fo:List (List Int)->Nat),I [[16],[m0]]/\(bm 16 64 λi=>cQ λm=>I [[i],[m]]->aE (decide (i<64)) (ah 30 [(i+(-16)),80]/\ah 21 [m,(i+(-16))]/\zp 21 [m,(i+(-16)),0] λa=>ah 30 [(i+(-15)),80]/\ah 21 [m,(i+(-15))]/\zp 21 [m,(i+(-15)),0] λb=>ah 82 [b,7,18,3,1]/\dg λs=>S 486 [[b],[7,18,3],[1]] [[s]]->cz (a+s) 0x10000000000000000 λo=>ah 30 [(i+(-7)),80]/\ah 21 [m,(i+(-7))]/\zp 21 [m,(i+(-7)),0] λc=>cz (a+(s+(((-0x10000000000000000)*o)+c))) 0x10000000000000000 λp=>ah 30 [(i+(-2)),80]/\ah 21 [m,(i+(-2))]/\zp 21 [m,(i+(-2)),0] λd=>ah 82 [d,17,19,10,1]/\dg λt=>S 487 [[d],[17,19,10],[1]] [[t]]->cz (a+(s+(((-0x10000000000000000)*o)+(c+(((-0x10000000000000000)*p)+t))))) 0x10000000000000000 λq=>dg λx=>S 483 [[(a+(s+(((-0x10000000000000000)*o)+(c+(((-0x10000000000000000)*p)+(t+((-0x10000000000000000)*q)))))))]] [[x]]->ah 30 [i,80]/\ah 21 [m,i]/\(ah 67 [m,i,1]->a8 42 [m,i,0,x] λm'=>(I [[(i+1)],[m']]/\fo [[(i+1)],[m']]<fo [[i],[m]]))) (P m))
def abW (S:zzS) (m:Int) (h:List Int) (P:List Int->Prop):Prop:=∃(I:List (List Int)->Prop) (fo:List (List Int)->Nat),I [[0],h]/\(bm 0 64 λi=>∀v:List Int,bd (jb 0 0xffffffffffffffff 8) v->I [[i],v]->aE (decide (i<64)) (ah 82 [ar v 4 0,6,11,25,0]/\dg λa=>S 485 [[ar v 4 0],[6,11,25],[0]] [[a]]->cz (ar v 7 0+a) 0x10000000000000000 λo=>bm 0 (cV .u64) λb=>b=aZ .and .u64 (ar v 4 0) (ar v 5 0)->bm 0 (cV .u64) λc=>c=aZ .and .u64 (((-1)*(ar v 4 0))+0xffffffffffffffff) (ar v 6 0)->bm 0 (cV .u64) λd=>d=aZ .xor .u64 b c->cz (ar v 7 0+(a+(((-0x10000000000000000)*o)+d))) 0x10000000000000000 λp=>ah 74 [i,80]/\bm 0x6ca6351e003826f 0xf57d4f7fee6ed178 λe0=>e0=ar si i.toNat 0->bQ 113926993 4118630271 e0 4294967296 λe=>cz (ar v 7 0+(a+(((-0x10000000000000000)*o)+(d+(((-0x10000000000000000)*p)+e))))) 0x10000000000000000 λq=>ah 30 [i,80]/\ah 21 [m,i]/\zp 21 [m,i,0] λx=>cz (ar v 7 0+(a+(((-0x10000000000000000)*o)+(d+(((-0x10000000000000000)*p)+(e+(((-0x10000000000000000)*q)+x))))))) 0x10000000000000000 λr=>dg λt=>S 483 [[(ar v 7 0+(a+(((-0x10000000000000000)*o)+(d+(((-0x10000000000000000)*p)+(e+(((-0x10000000000000000)*q)+(x+((-0x10000000000000000)*r)))))))))]] [[t]]->ah 82 [ar v 0 0,2,13,22,0]/\dg λf=>S 484 [[ar v 0 0],[2,13,22],[0]] [[f]]->bm 0 (cV .u64) λg1=>g1=aZ .and .u64 (ar v 0 0) (ar v 1 0)->bm 0 (cV .u64) λg2=>g2=aZ .and .u64 (ar v 0 0) (ar v 2 0)->bm 0 (cV .u64) λg3=>g3=aZ .xor .u64 g1 g2->bm 0 (cV .u64) λg4=>g4=aZ .and .u64 (ar v 1 0) (ar v 2 0)->bm 0 (cV .u64) λg5=>g5=aZ .xor .u64 g3 g4->cz (f+g5) 0x10000000000000000 λmq=>dg λu=>S 483 [[(f+(g5+((-0x10000000000000000)*mq)))]] [[u]]->cz (t+u) 0x10000000000000000 λo3=>dg λy=>S 483 [[(t+(u+((-0x10000000000000000)*o3)))]] [[y]]->cz (ar v 3 0+t) 0x10000000000000000 λo4=>dg λw=>S 483 [[(ar v 3 0+(t+((-0x10000000000000000)*o4)))]] [[w]]->(I [[(i+1)],[y,ar v 0 0,ar v 1 0,ar v 2 0,w,ar v 4 0,ar v 5 0,ar v 6 0]]/\fo [[(i+1)],[y,ar v 0 0,ar v 1 0,ar v 2 0,w,ar v 4 0,ar v 5 0,ar v 6 0]]<fo [[i],v])) (P v))
def R5 (S:zzS) (h v:List Int):Nat->Nat->List Int->(List Int->Prop)->Prop
 |0,_,acc,k=>k acc
 |n+1,i,acc,k=>cz (ar h i 0+ar v i 0) 0x10000000000000000 λo=>dg λy=>S 483 [[(ar h i 0+(ar v i 0+((-0x10000000000000000)*o)))]] [[y]]->R5 S h v n (i+1) (acc++[y]) k
def R4 (S:zzS) (K:zzK) (z0 c n:Int):Prop:=∃(I:List (List Int)->Prop) (fo:List (List Int)->Nat),I [[0],afk]/\(fa λa=>∀h:List Int,bd (jb 0 0xffffffffffffffff 8) h->I [[a],h]->aE (decide (a<n)) (Dv ayc 0 80 0 λm=>abS c n a m λm=>abX S m λm=>abW S m h λv=>R5 S h v 8 0 [] λh'=>cz (a+0x8000000000000040) 0x10000000000000000 λo=>ah 39 [((a+((-0x10000000000000000)*o))+64),0,0x7fffffffffffffff]/\(I [[((a+((-0x10000000000000000)*o))+64)],h']/\fo [[((a+((-0x10000000000000000)*o))+64)],h']<fo [[a],h])) (Dv h 0 8 0 λg=>abU K z0 g))
def abR (S:zzS) (K:zzK) (z0 z3 aC aD:Int):Prop:=
bQ 0 3 (8*z3) 0x10000000000000000 λaw=>
 bQ 0 255 ((8*z3)+((-0x10000000000000000)*aw)) 72057594037927936 λbF=>
 ah 31 [aC,aD]/\
 ah 23 [aC,1]/\
 a8 23 [aC,bF] λbY=>
 qj λaF=>
 bQ 0 65535 ((8*z3)+((-0x10000000000000000)*aw)) 281474976710656 λdH=>
 bQ 0 255 dH 256 λz20=>
 ah 31 [bY,(aD+1)]/\
 ah 23 [bY,1]/\
 a8 23 [bY,(dH+((-256)*z20))] λz21=>
 qj λaI=>
 bQ 0 16777215 ((8*z3)+((-0x10000000000000000)*aw)) 1099511627776 λeB=>
 bQ 0 65535 eB 256 λz24=>
 ah 31 [z21,(aD+2)]/\
 ah 23 [z21,1]/\
 a8 23 [z21,(eB+((-256)*z24))] λfB=>
 qj λcq=>
 bQ 0 4294967295 ((8*z3)+((-0x10000000000000000)*aw)) 4294967296 λjT=>
 bQ 0 16777215 jT 256 λz28=>
 ah 31 [fB,(aD+3)]/\
 ah 23 [fB,1]/\
 a8 23 [fB,(jT+((-256)*z28))] λiw=>
 qj λlr=>
 bQ 0 0xffffffffff ((8*z3)+((-0x10000000000000000)*aw)) 16777216 λz31=>
 bQ 0 4294967295 z31 256 λjU=>
 ah 31 [iw,(aD+4)]/\
 ah 23 [iw,1]/\
 a8 23 [iw,(z31+((-256)*jU))] λkV=>
 qj λpz=>
 bQ 0 0xffffffffffff ((8*z3)+((-0x10000000000000000)*aw)) 65536 λpA=>
 bQ 0 0xffffffffff pA 256 λqs=>
 ah 31 [kV,(aD+5)]/\
 ah 23 [kV,1]/\
 a8 23 [kV,(pA+((-256)*qs))] λz37=>
 qj λxD=>
 bQ 0 0xffffffffffffff ((8*z3)+((-0x10000000000000000)*aw)) 256 λvE=>
 bQ 0 0xffffffffffff vE 256 λz40=>
 ah 31 [z37,(aD+6)]/\
 ah 23 [z37,1]/\
 a8 23 [z37,(vE+((-256)*z40))] λqt=>
 qj λnP=>
 bQ 0 0xffffffffffffff ((8*z3)+((-0x10000000000000000)*aw)) 256 λsw=>
 ah 31 [qt,(aD+7)]/\
 ah 23 [qt,1]/\
 a8 23 [qt,((8*z3)+(((-0x10000000000000000)*aw)+((-256)*sw)))] λGM=>
 qj λeg=>
 R4 S K z0 GM (aD+8)
def R6 (S:zzS) (K:zzK) (z0 z3 z7 ayf ak:Int):Prop:=
∃(Mw:List (List Int)->Prop) (adP:List (List Int)->Nat),Mw [[z7],[ayf],[ak]]/\(cQ λaC=>fa λaD=>qj λz12=>Mw [[aC],[aD],[z12]]->
  bm (-0x8000000000000000) 0x7fffffffffffffff λaU=>S 441 [[z3],[32]] [[aU]]->
  bQ (-1) 0 (aU+0x7ffffffffffffff8) 0x10000000000000000 λaP=>
  (aE (decide (aD<((aU+((-0x10000000000000000)*aP))+(-8)))) (ah 31 [aC,aD]/\
   ah 23 [aC,1]/\
   a8 23 [aC,0] λaw=>
   qj λbF=>
   (Mw [[aw],[(aD+1)],[bF]]/\adP [[aw],[(aD+1)],[bF]]<adP [[aC],[aD],[z12]])) (abR S K z0 z3 aC aD))
 )
end Go.aX
namespace Go.aX
open Go Go.aW
theorem acm {k:IntKind} {x y:Int} (hx:0<=x) (hy:0<=y) (hx2:x<ku k) (uY:y<ku k):aZ .xor k x y=((x.toNat^^^y.toNat:Nat):Int):=by
 have hl:=JX k;have hx3:x<2^k.bits:=by rw[<-sn];omega
 have EX:y<2^k.bits:=by rw[<-sn];omega
 obtain⟨i,hi,_⟩:=Zs k;obtain⟨X,rfl⟩:=oI hx;obtain⟨Y,rfl⟩:=oI hy;have hX:X<2^i:=by rw[hi]at hx2;exact_mod_cast hx2
 have hY:Y<2^i:=by rw[hi]at uY;exact_mod_cast uY
 have h1:X^^^Y<2^i:=ayn hX hY;unfold aZ;simp only;rw[BitVec.toNat_xor,zR,zR];have e1:((X:Int)% ((2^k.bits:Nat):Int)).toNat=X:=by
  rw[sx (by omega) (by exact_mod_cast hx3)];simp
 have e2:((Y:Int)% ((2^k.bits:Nat):Int)).toNat=Y:=by
  rw[sx (by omega) (by exact_mod_cast EX)];simp
 rw[e1,e2];simp only[ek];exact Lm (by omega) (by rw[hi];exact_mod_cast h1)
theorem JW:ku .u32=4294967296:=by decide
theorem BP:ku .u64=0x10000000000000000:=by decide
theorem CC {x y:Int} (hx:0<=x) (hx2:x<4294967296) (hy:0<=y) (uY:y<4294967296):aZ .xor .u64 x y=aZ .xor .u32 x y/\0<=aZ .xor .u32 x y/\aZ .xor .u32 x y<4294967296:=by
 have e1:=acm (k:= .u64) hx hy (by rw[BP];omega) (by rw[BP];omega);have e2:=acm (k:= .u32) hx hy (by rw[JW];omega) (by rw[JW];omega);rw[e1,e2];have h1:x.toNat^^^y.toNat<2^32:=ayn (by omega) (by omega);exact⟨rfl,by omega,by omega⟩
theorem Db {x y:Int} (hx:0<=x) (hx2:x<4294967296) (hy:0<=y) (uY:y<4294967296):aZ .and .u64 x y=aZ .and .u32 x y/\0<=aZ .and .u32 x y/\aZ .and .u32 x y<4294967296:=by
 have e1:=yd (k:= .u64) hx hy (by rw[BP];omega) (by show y<0x10000000000000000;omega);have e2:=yd (k:= .u32) hx hy (by rw[JW];omega) (by show y<4294967296;omega);rw[e1,e2];have h1:x.toNat&&&y.toNat<=x.toNat:=Nat.and_le_left;exact⟨rfl,by omega,by omega⟩
theorem aoV {x y:Int} (hx:0<=x) (hx2:x<4294967296) (hy:0<=y) (uY:y<4294967296):aZ .and .u64 (-1*x+0xffffffffffffffff) y=aZ .and .u32 (4294967295-x) y:=by
 have e1:=yd (k:= .u64) (x:=-1*x+0xffffffffffffffff) (y:=y) (by omega) hy (by rw[BP];omega) (by show y<0x10000000000000000;omega);have e2:=yd (k:= .u32) (x:=4294967295-x) (y:=y) (by omega) hy (by rw[JW];omega) (by show y<4294967296;omega);rw[e1,e2];have h1:(-1*x+0xffffffffffffffff).toNat&&&y.toNat<2^32:=Nat.lt_of_le_of_lt Nat.and_le_right (by omega);have h2:=Nat.and_mod_two_pow (a:=(-1*x+0xffffffffffffffff).toNat) (b:=y.toNat) (n:=32);rw[acW h1,acW (a:=y.toNat) (by omega)]at h2;rw[h2,show(-1*x+0xffffffffffffffff).toNat% 2^32=(4294967295-x).toNat by omega]
end Go.aX
