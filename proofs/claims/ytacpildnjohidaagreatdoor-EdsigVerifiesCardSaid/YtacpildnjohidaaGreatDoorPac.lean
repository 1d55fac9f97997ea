/- A contract out of a tree. -/
import Derived.Test.YtacpildnjohidaaGreatDoorPab
import Derived.Laws.Externs
import Derived.ChangeMaps5
import Derived.ChangeSame
import Derived.OpenShut
import Derived.Handed
import Derived.ProofKit
import Derived.LaidMore
import Derived.Stop.Joined
import Derived.HandedShaped
import Derived.SizedLaws
import Derived.Carry
import Derived.RangeFuncOwn
import Derived.RangeFuncLeaves
import Derived.KernelRfl
import Derived.Test.YtacpildnjohidaaGreatDoorPaa
open Array renaming replicate->Cu,eq_empty_of_size_eq_zero->Ef
open Bool renaming and_eq_true->bA,not_eq_true'->cy,or_eq_true->Ea
open Classical renaming byContradiction->afU,axiomOfChoice->aTj
open Function renaming comp->V5
open Go renaming World->aC,Value->a6,TypeId->bw,Program->bU,FuncId->dD,IntKind->dZ,Calls->oq,DataW->p3,MemPlace->AZ,Deferred->Gg
open Go.ChangeSpec renaming post_blind->aUF,plain->aUH
open Go.DataW renaming weightsEach->Wl,weightsAll->Wm,weights->Wn,trod->af2,trod_int->ash,TrodAll->asz,trod_array->aOL,lit->aOM,trod_string->aPt
open Go.DataW.Whole renaming of_heap->aUE
open Go.DataW.agg renaming injEq->aTo
open Go.Extern renaming findNext->afZ,find->af0
open Go.Extern.MathBitsCarry renaming m64->aOJ,three->aTk,pair->aTl
open Go.Fence renaming wide->I4
open Go.Frame renaming enter->aPw
open Go.Input renaming okWide->aPv
open Go.OpenSpec renaming ofChange->agf
open Go.Value renaming int->A0,cells->IZ,slice->Qt,okWide->QH,bool->aOH,agg->aPu
open Go.World renaming cell?->pw,putObj_heap_other->A4,putObj_heap_same->Eg,frozen?->Gd,putObj_size->agh,alloc_heap_new->aPA
open Go.World.Extends renaming refl->sA,drew->V8
open Int renaming le_refl->cF,mul_comm->lG,emod_eq_of_lt->mF,lt_or_le->m5,eq_ofNat_of_zero_le->oP,le_of_lt->sz,add_mul_emod_self_left->xX,le_trans->Ct,mul_add->LL,toNat_of_nonneg->Qj,pow_succ->V3,ediv_eq_iff_of_pos->Wc
open List renaming getD->I,map_cons->dk,nil_append->eM,mem_cons_of_mem->eS,replicate->fD,mem_of_getElem?->fZ,range->ga,length_append->gx,getD_cons_zero->gP,map_nil->gZ,getD_cons_succ->h9,append_nil->iq,append_assoc->iI,map_append->jd,cons_append->jJ,length_cons->kJ,map_congr_left->kK,drop_zero->kL,getElem?_eq_getElem->nI,map_map->om,take_of_length_le->oo,take_append_drop->oQ,mem_cons->pt,length_drop->p4,length_take->p6,flatten_cons->qO,length->qP,length_map->qQ,length_nil->rD,getElem?_set->wv,zipWith->wx,flatMap_cons->wy,getElem?_cons_zero->xZ,not_mem_nil->zu,mem_append->zB,drop_drop->Cs,drop_left->Ge,replicate_succ->Gj,drop_of_length_le->IT,mem_of_find?_eq_some->IY,all_eq_true->LK,map_take->LO,map_drop->LP,map_id->Qo,mem_or_eq_of_mem_set->QE,getElem?_eq_none->QF,zipWith_cons_cons->Wa,mem_cons_self->Wb,take_length->afY,mapM_cons->asf
open List.cons renaming injEq->mh
open Nat renaming beq->aR,le_refl->bS,eq_of_beq_eq_true->bV,ble->cJ,blt->ea,le_of_ble_eq_true->gY,le_trans->nK,add_zero->pv,pow_succ->zv,mul_comm->AX,zero_add->A2,succ_mul->Cv,mul_one->D6,pow_add->D8,lt_of_lt_of_le->IW,beq_refl->IX,mul_mod->LJ,le_add_right->LN,mod_lt->Qm,div_add_mod->V1,mul_assoc->V4,mul_le_mul_left->Wd,dvd_of_mod_eq_zero->aOB,div_le_self->aOC
open Nat.Coprime renaming mul_right->aS4,eq_one_of_dvd->aS5
open Option.some renaming injEq->bp,inj->iH
open Prod.mk renaming injEq->eZ
set_option linter.unusedVariables false
set_option linter.unusedSimpArgs false
namespace Go.bX
open M
theorem Q3:∀{b:List (Int×Int)} {P Q:List Int->Prop},(∀rs,P rs->Q rs)->kx b P->kx b Q
 |[],_,_,h,hp=>h _ hp
 |(l,u)::b,P,Q,h,hp=>λr h1 h2=>Q3 (b:=b) (P:=λrs=>P (r::rs)) (Q:=λrs=>Q (r::rs)) (λrs=>h (r::rs)) (hp r h1 h2)
theorem uw:∀{b:List (Int×Int)} {P:List Int->Prop},(∀rs,ay b rs->P rs)->kx b P
 |[],_,h=>h [] trivial
 |(l,u)::b,P,h=>λr h1 h2=>uw (b:=b) (P:=λrs=>P (r::rs)) λrs hi=>h (r::rs) ⟨h1,h2,hi⟩
theorem kY {S:Nat->List Int->List Int->Prop} {L ahf:V->Env->Prop} (h:∀v ρ,L v ρ->ahf v ρ):∀(t:T) (G:ft) (ρ:Env),t.holds S L G ρ->t.holds S ahf G ρ
 | .stuck,_,_,ae=>ae
 | .leaf v,_,ρ,ae=>h v ρ ae
 | .div n x d lo hi r,G,ρ,ae=>λq h1 h2 h3 h4=>kY h r G _ (ae q h1 h2 h3 h4)
 | .mul n x y lo hi r,G,ρ,ae=>λq h1 h2 h3=>kY h r G _ (ae q h1 h2 h3)
 | .bit n op k x y r,G,ρ,ae=>λq h1 h2 h3=>kY h r G _ (ae q h1 h2 h3)
 | .shr n x y lo hi r,G,ρ,ae=>λq h1 h2 h3=>kY h r G _ (ae q h1 h2 h3)
 | .B9 n cs bt lo hi r,G,ρ,ae=>λq h1 h2 h3=>kY h r G _ (ae q h1 h2 h3)
 | .vx b t e,G,ρ,ae=>⟨λhb=>kY h t G ρ (ae.1 hb),λhb=>kY h e G ρ (ae.2 hb)⟩
 | .call id args n bds r,G,ρ,ae=>Q3 (λrs hr hs=>kY h r G _ (hr hs)) ae
 | .loop me init n bds r,G,ρ,ae=>by
  obtain⟨fv,hB,h1,h2⟩:=ae;exact⟨fv,hB,h1,Q3 (λzs hz dU=>kY h r _ _ (hz dU)) h2⟩
 | .again me vals,G,ρ,ae=>ae
 | .both x y,G,ρ,ae=>⟨kY h x G ρ ae.1,kY h y G ρ ae.2⟩
 | .fn n op args lo hi r,G,ρ,ae=>λq h1 h2 h3=>kY h r G _ (ae q h1 h2 h3)
 | .tA op args r,G,ρ,ae=>⟨ae.1,kY h r G ρ ae.2⟩
 | .wa n lo hi r,G,ρ,ae=>λz h1 h2=>kY h r G _ (ae z h1 h2)
 | .nat n r,G,ρ,ae=>λz h1=>kY h r G _ (ae z h1)
 | .wJ op args r,G,ρ,ae=>λh1=>kY h r G ρ (ae h1)
 | .ind n b r,G,ρ,ae=>λz h1 h2 h3=>kY h r G _ (ae z h1 h2 h3)
def T.plain:T->Bool
 |stuck=>true
 |leaf _=>true
 |fn _ _ _ _ _ r|tA _ _ r|ind _ _ r|div _ _ _ _ _ r|mul _ _ _ _ _ r|bit _ _ _ _ _ r|shr _ _ _ _ _ r|B9 _ _ _ _ _ r|call _ _ _ _ r=>r.plain
 |vx _ t e=>t.plain&&e.plain
 |loop .. =>false
 |again .. =>false
 |both .. =>false
 |wa .. =>false
 |nat .. =>false
 |wJ .. =>false
def Path (S:Nat->List Int->List Int->Prop):T->Env->V->Env->Prop
 | .stuck,_,_,_=>False
 | .leaf v,ρ,v',ad=>v'=v/\ad=ρ
 | .div n x d lo hi r,ρ,v,ad=>∃q,0<=x.den ρ-d*q/\x.den ρ-d*q<d/\Path S r (dQ ρ n q) v ad
 | .mul n x y lo hi r,ρ,v,ad=>Path S r (dQ ρ n (x.den ρ*y.den ρ)) v ad
 | .bit n op k x y r,ρ,v,ad=>Path S r (dQ ρ n (ca op k (x.den ρ) (y.den ρ))) v ad
 | .shr n x y lo hi r,ρ,v,ad=>Path S r (dQ ρ n (x.den ρ/2^(y.den ρ).toNat)) v ad
 | .B9 n cs bt lo hi r,ρ,v,ad=>Path S r (dQ ρ n ((cs.map (·.den ρ)).getD (bt.den ρ).toNat 0)) v ad
 | .vx b t e,ρ,v,ad=>(b.den ρ=true/\Path S t ρ v ad)∨(b.den ρ=false/\Path S e ρ v ad)
 | .call id args n bds r,ρ,v,ad=>∃rs,S id (args.map (·.den ρ)) rs/\Path S r (bO ρ n rs) v ad
 | .loop ..,_,_,_=>False
 | .again ..,_,_,_=>False
 | .both ..,_,_,_=>False
 | .wa ..,_,_,_=>False
 | .nat ..,_,_,_=>False
 | .wJ ..,_,_,_=>False
 | .ind n b r,ρ,v,ad=>Path S r (dQ ρ n (cond (b.den ρ) 1 0)) v ad
 | .fn n op args lo hi r,ρ,v,ad=>Path S r (dQ ρ n (cR op (args.map (·.den ρ)))) v ad
 | .tA op args r,ρ,v,ad=>Path S r ρ v ad
theorem yv {S:Nat->List Int->List Int->Prop} {L:V->Env->Prop}:∀(t:T) (G:ft) (ρ:Env),t.plain=true->t.holds S L G ρ->t.holds S (λv ad=>L v ad/\Path S t ρ v ad) G ρ
 | .stuck,_,_,_,ae=>ae
 | .leaf v,_,ρ,_,ae=>⟨ae,rfl,rfl⟩
 | .div n x d lo hi r,G,ρ,hp,ae=>λq h1 h2 h3 h4=>kY (λv ad h=>⟨h.1,q,h3,h4,h.2⟩) r G _ (yv r G _ hp (ae q h1 h2 h3 h4))
 | .mul n x y lo hi r,G,ρ,hp,ae=>λq h1 h2 h3=>kY (λv ad h=>⟨h.1,by subst h3;exact h.2⟩) r G _ (yv r G _ hp (ae q h1 h2 h3))
 | .bit n op k x y r,G,ρ,hp,ae=>λq h1 h2 h3=>kY (λv ad h=>⟨h.1,by subst h3;exact h.2⟩) r G _ (yv r G _ hp (ae q h1 h2 h3))
 | .shr n x y lo hi r,G,ρ,hp,ae=>λq h1 h2 h3=>kY (λv ad h=>⟨h.1,by subst h3;exact h.2⟩) r G _ (yv r G _ hp (ae q h1 h2 h3))
 | .B9 n cs bt lo hi r,G,ρ,hp,ae=>λq h1 h2 h3=>kY (λv ad h=>⟨h.1,by subst h3;exact h.2⟩) r G _ (yv r G _ hp (ae q h1 h2 h3))
 | .vx b t e,G,ρ,hp,ae=>by
  simp only[T.plain,bA]at hp;exact⟨λhb=>kY (λv ad h=>⟨h.1,.inl ⟨hb,h.2⟩⟩) t G ρ (yv t G ρ hp.1 (ae.1 hb)),λhb=>kY (λv ad h=>⟨h.1,.inr ⟨hb,h.2⟩⟩) e G ρ (yv e G ρ hp.2 (ae.2 hb))⟩
 | .call id args n bds r,G,ρ,hp,ae=>Q3 (λrs hr hs=>kY (λv ad h=>⟨h.1,rs,hs,h.2⟩) r G _ (yv r G _ hp (hr hs))) ae
 | .loop ..,_,_,hp,_=>by simp[T.plain]at hp
 | .again ..,_,_,hp,_=>by simp[T.plain]at hp
 | .both ..,_,_,hp,_=>by simp[T.plain]at hp
 | .wa ..,_,_,hp,_=>by simp[T.plain]at hp
 | .nat ..,_,_,hp,_=>by simp[T.plain]at hp
 | .wJ ..,_,_,hp,_=>by simp[T.plain]at hp
 | .ind n b r,G,ρ,hp,ae=>λq h1 h2 h3=>kY (λv ad h=>⟨h.1,by
  have:q=cond (b.den ρ) 1 0:=by rw[h3];by_cases ai:q=1<;>simp[ai]<;>omega
  rw[this]at h;exact h.2⟩) r G _ (yv r G _ hp (ae q h1 h2 h3))
 | .fn n op args lo hi r,G,ρ,hp,ae=>λq h1 h2 h3=>kY (λv ad h=>⟨h.1,by subst h3;exact h.2⟩) r G _ (yv r G _ hp (ae q h1 h2 h3))
 | .tA op args r,G,ρ,hp,ae=>⟨ae.1,kY (λv ad h=>⟨h.1,h.2⟩) r G ρ (yv r G ρ hp ae.2)⟩
theorem Px {x d q fM:Int} (h1:0<=x-d*q) (h2:x-d*q<d) (h3:0<=x-d*fM) (h4:x-d*fM<d):q=fM:=by
 have hd:0<d:=by omega
 have ar:x/d=q:=by
  rw[Wc hd];constructor<;>rw[lG]<;>(try rw[LL])<;>omega
 have aG:x/d=fM:=by
  rw[Wc hd];constructor<;>rw[lG]<;>(try rw[LL])<;>omega
 omega
theorem yJ {S:Nat->List Int->List Int->Prop} (iK:∀id a rs cK,S id a rs->S id a cK->rs=cK):∀(t:T) (ρ:Env) {v v':V} {bg b0:Env},Path S t ρ v bg->Path S t ρ v' b0->v=v'/\bg=b0
 | .stuck,_,_,_,_,_,h,_=>h.elim
 | .leaf v,_,_,_,_,_,h,aP=>⟨h.1.trans aP.1.symm,h.2.trans aP.2.symm⟩
 | .div n x d lo hi r,ρ,_,_,_,_,⟨q,bG,a2,a3⟩,⟨fM,bQ,b9,dh⟩=>by
  have:=Px bG a2 bQ b9;subst this;exact yJ iK r _ a3 dh
 | .mul n x y lo hi r,ρ,_,_,_,_,h,aP=>yJ iK r _ h aP
 | .bit n op k x y r,ρ,_,_,_,_,h,aP=>yJ iK r _ h aP
 | .shr n x y lo hi r,ρ,_,_,_,_,h,aP=>yJ iK r _ h aP
 | .B9 n cs bt lo hi r,ρ,_,_,_,_,h,aP=>yJ iK r _ h aP
 | .vx b t e,ρ,_,_,_,_,h,aP=>by
  rcases h with⟨h1,h2⟩|⟨h1,h2⟩<;>rcases aP with⟨h3,h4⟩|⟨h3,h4⟩
  ·exact yJ iK t ρ h2 h4
  ·rw[h1]at h3;cases h3
  ·rw[h1]at h3;cases h3
  ·exact yJ iK e ρ h2 h4
 | .call id args n bds r,ρ,_,_,_,_,⟨rs,bG,a2⟩,⟨cK,bQ,b9⟩=>by
  have:=iK _ _ _ _ bG bQ;subst this;exact yJ iK r _ a2 b9
 | .loop ..,_,_,_,_,_,h,_=>h.elim
 | .again ..,_,_,_,_,_,h,_=>h.elim
 | .both ..,_,_,_,_,_,h,_=>h.elim
 | .wa ..,_,_,_,_,_,h,_=>h.elim
 | .nat ..,_,_,_,_,_,h,_=>h.elim
 | .wJ ..,_,_,_,_,_,h,_=>h.elim
 | .ind n b r,ρ,_,_,_,_,h,aP=>yJ iK r _ h aP
 | .fn n op args lo hi r,ρ,_,_,_,_,h,aP=>yJ iK r _ h aP
 | .tA op args r,ρ,_,_,_,_,h,aP=>yJ iK r _ h aP
inductive O where
 |l (x:U)
 |b (x:bH)
def O.den (ρ:Env):O->Int
 |l x=>x.den ρ
 |b x=>cond (x.den ρ) 1 0
def my (k:dZ):List A->Option (List O)
 |[]=>some []
 | .int bD x::r=>cond (decide (k=bD)) (match my k r with|some l=>some (.l x.l::l)|none=>none) none
 |_::_=>none
def aV.out:aV->A->Option O
 | .int k _ _,.int bD x=>cond (decide (k=bD)) (some (.l x.l)) none
 | .str,.str l=>some (.l l)
 | .bool,.bool e=>some (.b e)
 |_,_=>none
def vQ:List aV->List A->Option (List O)
 |[],[]=>some []
 |c::d,a::r=>match c.out a,vQ d r with|some o,some l=>some (o::l)|_,_=>none
 |_,_=>none
def DA:D->W->Option (List O)
 | .int k _ _,.one (.int bD x)=>cond (decide (k=bD)) (some [.l x.l]) none
 | .bool,.one (.bool x)=>some [.b x]
 | .agg k n _ _,.agg l=>cond (aR l.length n) (my k l) none
 | .str,.one (.str l)=>some [.l l]
 | .mix d,.agg l=>vQ d l
 |_,_=>none
def FC:List D->List W->Option (List O)
 |[],[]=>some []
 |d::r,w::s=>match DA d w,FC r s with|some a,some b=>some (a++b)|_,_=>none
 |_,_=>none
def outs (ds:List D):V->Option (List O)
 | .w u=>match ds with|[d]=>DA d u|_=>none
 | .jG l=>match ds with|[_]=>none|_=>FC ds l
 |_=>none
def kh (ds:List D) (K:List Int->Prop) (v:V) (ρ:Env):Prop:=
 match outs ds v with
 |some os=>K (os.map (O.den ρ))
 |none=>False
theorem aoQ {ρ:Env} {m:Nat->Nat} {k:dZ}:∀{l:List A} {os:List O},my k l=some os->os.length=l.length/\l.map (A.den ρ m)=(os.map (O.den ρ)).map (.int k)
 |[],os,h=>by simp[my]at h;subst h;exact⟨rfl,rfl⟩
 | .int bD x::r,os,h=>by
  simp only[my]at h;by_cases af:k=bD
  ·simp only[af,decide_true,cond_true]at h;cases hr:my bD r with
   |none=>simp[hr]at h
   |some o=>
    simp only[hr,bp]at h;subst h;subst af;obtain⟨h1,h2⟩:=aoQ (ρ:=ρ) (m:=m) hr;exact⟨by simp[h1],by simp only[dk,h2,A.den,O.den]⟩
  ·simp[af]at h
 | .bool _::_,_,h=>by simp[my]at h
 | .ptr .. ::_,_,h=>by simp[my]at h
 | .rp .. ::_,_,h=>by simp[my]at h
 | .gptr .. ::_,_,h=>by simp[my]at h
 | .slc .. ::_,_,h=>by simp[my]at h
 | .con _::_,_,h=>by simp[my]at h
 | .str _::_,_,h=>by simp[my]at h
theorem aV.aFG {ρ:Env} {m:Nat->Nat} {c:aV} {a:A} {o:O} (h:c.out a=some o):a.den ρ m=c.val (o.den ρ):=by
 unfold aV.out at h;split at h
 ·rename_i k lo hi bD x;by_cases af:k=bD
  ·subst af;simp only[decide_true,cond_true,bp]at h;subst h;rfl
  ·simp[af]at h
 ·simp only[bp]at h;subst h;rfl
 ·rename_i e;simp only[bp]at h;subst h;have hb:∀b:Bool,aOH b=aOH (decide ((cond b 1 0:Int)=1)):=by intro b;cases b<;>rfl
  exact hb (e.den ρ)
 ·cases h
theorem aoT {ρ:Env} {m:Nat->Nat}:∀{d:List aV} {l:List A} {os:List O},vQ d l=some os->os.length=d.length/\l.map (A.den ρ m)=wx aV.val d (os.map (O.den ρ))
 |[],[],os,h=>by simp[vQ]at h;subst h;exact⟨rfl,rfl⟩
 |c::d,a::r,os,h=>by
  simp only[vQ]at h;cases h1:c.out a with
  |none=>simp[h1]at h
  |some o=>
   cases hr:vQ d r with
   |none=>simp[h1,hr]at h
   |some l=>
    simp only[h1,hr,bp]at h;subst h;obtain⟨b1,bY⟩:=aoT (ρ:=ρ) (m:=m) hr;exact⟨by simp[b1],by simp only[dk,bY,aV.aFG h1,Wa]⟩
 |[],_::_,_,h=>by simp[vQ]at h
 |_::_,[],_,h=>by simp[vQ]at h
theorem ads {ρ:Env} {m:Nat->Nat} {d:D} {u:W} {os:List O} (h:DA d u=some os):os.length=d.num/\∀zs,d.val (os.map (O.den ρ)++zs)=u.den ρ m:=by
 unfold DA at h;split at h
 ·rename_i k _ _ bD x;by_cases af:k=bD
  ·subst af;simp only[decide_true,cond_true,bp]at h;subst h;exact⟨rfl,λzs=>by simp[D.val,W.den,A.den,O.den]⟩
  ·simp[af]at h
 ·rename_i x;simp only[bp]at h;subst h;exact⟨rfl,λzs=>by cases hx:x.den ρ<;>simp[D.val,W.den,A.den,O.den,hx]⟩
 ·rename_i k n' _ _ l;cases hc:aR l.length n' with
  |false=>simp[hc]at h
  |true=>
   simp only[hc,cond_true]at h;have hl:=bV hc;subst hl;obtain⟨h1,h2⟩:=aoQ (ρ:=ρ) (m:=m) h;exact⟨h1,λzs=>by simp only[D.val,W.den,h2];rw[List.take_append_of_le_length (by simp[h1]),oo (by simp[h1])]⟩
 ·simp only[bp]at h;subst h;exact⟨rfl,λzs=>rfl⟩
 ·rename_i d l;obtain⟨h1,h2⟩:=aoT (ρ:=ρ) (m:=m) h;refine⟨h1,λzs=>?_⟩;simp only[D.val,W.den,h2]
  congr 2
  have key:∀(a:List aV) (b c:List Int),b.length=a.length->wx aV.val a (b++c)=wx aV.val a b:=by
   intro a;induction a with
   |nil=>intro b c _;simp
   |cons p a ih=>
    intro b c hb;cases b with
    |nil=>simp at hb
    |cons z b=>simp[ih b c (by simpa using hb)]
  exact key _ _ _ (by simp[h1])
 ·cases h
theorem aoR {ρ:Env} {m:Nat->Nat}:∀{ds:List D} {l:List W} {os:List O},FC ds l=some os->p1 ds (os.map (O.den ρ))=l.map (W.den ρ m)
 |[],[],os,h=>by simp[FC]at h;subst h;rfl
 |d::ds,u::l,os,h=>by
  simp only[FC]at h;cases h1:DA d u with
  |none=>simp[h1]at h
  |some a=>
   cases h2:FC ds l with
   |none=>simp[h1,h2]at h
   |some b=>
    simp only[h1,h2,bp]at h;subst h;obtain⟨b1,bY⟩:=ads (ρ:=ρ) (m:=m) h1;rw[jd];simp only[p1,bY,dk];rw[show d.num=(a.map (O.den ρ)).length by simp[b1],Ge,aoR h2]
 |[],_::_,_,h=>by simp[FC]at h
 |_::_,[],_,h=>by simp[FC]at h
theorem aN3 (ds:List D):∀zs,(p1 ds zs).length=ds.length:=by
 induction ds with
 |nil=>intro zs;rfl
 |cons d r ih=>intro zs;simp[p1,ih]
theorem A5 {ds:List D} {K:List Int->Prop} {v:V} {ρ:Env} {m:Nat->Nat} {val:a6} (h:kh ds K v ρ) (hr:v.rel ρ m val):∃rs,K rs/\val=oc ds rs:=by
 unfold kh at h;cases aw:outs ds v with
 |none=>simp[aw]at h
 |some os=>
  simp only[aw]at h;refine⟨_,h,?_⟩;unfold outs at aw;cases v with
  |any=>cases aw
  |td _ _ _=>cases aw
  |tB _ _=>cases aw
  |w u=>
   simp only at aw;split at aw
   ·rename_i d;obtain⟨b1,bY⟩:=ads (ρ:=ρ) (m:=m) aw;simp only[V.rel]at hr;have:=bY [];rw[iq]at this;simp[oc,p1,this,hr]
   ·cases aw
  |jG l=>
   simp only at aw;split at aw
   ·cases aw
   ·rename_i dz;have:=aoR (ρ:=ρ) (m:=m) aw;simp only[V.rel]at hr;unfold oc;split
    ·rename_i x heq;exfalso;have hl:=aN3 ds (os.map (O.den ρ));rw[heq]at hl
     match ds,hl with
     |[d],_=>exact dz d rfl
    ·rw[hr,this]
noncomputable def YX (cons:List br) (BS Bd Ca:dD):gy:=λf=>
 cond (aR f BS) (some acX) <| cond (aR f Bd) (some Yh) <| cond (aR f Ca) (some aeU) <|
 match cons.find? (λc=>aR f c.f)with
 |some c=>some c.M
 |none=>none
section
variable {S:Nat->List Int->List Int->Prop} {P:bU} {gl:fO} {wb:aC}
theorem avg {w0:eV} {cons:List br} {BS Bd Ca:dD} (hm:Jc P BS) (ha:I7 P Bd) (hs:Jf P Ca) (hc:∀c∈cons,c.A7 P w0.b (S c.id)):iD S P gl w0 (YX cons BS Bd Ca):=by
 intro f g kX L n ρ m bl vs xs h1 h2 h3 h4;unfold YX at kX;cases ar:aR f BS with
 |true=>
  have:=bV ar;subst this;simp only[ar,cond_true,bp]at kX;subst kX;exact aDb hm h3 h4
 |false=>
  cases aG:aR f Bd with
  |true=>
   have:=bV aG;subst this;simp only[ar,aG,cond_true,cond_false,bp]at kX;subst kX;exact at7 ha h3 h4
  |false=>
   cases cm:aR f Ca with
   |true=>
    have:=bV cm;subst this;simp only[ar,aG,cm,cond_true,cond_false,bp]at kX;subst kX;exact aLd hs h3 h4
   |false=>
    simp only[ar,aG,cm,cond_false]at kX;cases iS:cons.find? (λc=>aR f c.f)with
    |none=>simp[iS]at kX
    |some c=>
     simp only[iS,bp]at kX;subst kX;have h5:=List.find?_some iS;have:=bV h5;subst this;exact br.snd (hc c (IY iS)) (λ_ _ h=>h) L n ρ m bl vs xs h3 h4
noncomputable def Rq (cons:List br):gy:=λf=>
 match cons.filter (λc=>aR f c.f)with
 |[]=>none
 |l=>some λbl vs n k=>match l.find? (λc=>(uK c.args vs).isSome)with
  |some c=>c.M bl vs n k
  |none=>match l with
   |c::_=>c.M bl vs n k
   |[]=> .stuck
theorem ajA {w0:eV} {cons:List br} (hc:∀c∈cons,c.A7 P w0.b (S c.id)):iD S P gl w0 (Rq cons):=by
 intro f g kX L n ρ m bl vs xs h1 h2 h3 h4;unfold Rq at kX;split at kX
 ·cases kX
 ·rename_i l hl;simp only[bp]at kX;subst kX;intro G k af;simp only at af;split at af
  ·rename_i c Nb;have e3:=List.mem_filter.1 (IY Nb);have Hl:=bV e3.2;subst Hl;exact br.snd (hc c e3.1) (λ_ _ h=>h) L n ρ m bl vs xs h3 h4 G k af
  ·split at af
   ·rename_i c r Sk;have e3:=List.mem_filter.1 (show c∈cons.filter (λc=>aR f c.f) from by rw[Sk];exact Wb (a:=c) (l:=r));have Hl:=bV e3.2;subst Hl;exact br.snd (hc c e3.1) (λ_ _ h=>h) L n ρ m bl vs xs h3 h4 G k af
   ·exact af.elim
theorem Calls.some {f:dD} {args:Array a6} {w:aC} {R:Ending->aC->Prop} (h:oq P f args w R):∃e w',R e w':=by
 obtain⟨e,w',E1,h1,_⟩:=h [];exact⟨e,w',h1⟩
noncomputable def br.tree (P:bU) (gl:fO) (cal:gy) (li:dD->Nat->Option gz) (rounds d:Nat) (c:br):T:=
 Mo P gl cal li rounds d c.f (aU c.args).length ((vZ 0 c.args).map V.w) [] λ_ v _=> .leaf v
theorem XJ {ρ:Env} {m:Nat->Nat}:∀(l:List W),gb ρ m (l.map V.w) (l.map (W.den ρ m))
 |[]=>trivial
 |_::r=>⟨rfl,XJ r⟩
theorem br.calls {c:br} {cal:gy} {li:dD->Nat->Option gz} {rounds d:Nat} {L:V->Env->Prop} (hm:P.follows .mixedOrders=true) (c8:∀r ex ro,iD S P gl ⟨wb,r,ex,ro,[]⟩ cal) (hg:gJ gl ⟨wb,wb,λ_=>False,λ_=>False,[]⟩) {zs:List Int} (hz:ay (aU c.args) zs)
 (aA:(c.tree P gl cal li rounds d).holds S L (λ_ _=>False) (bO (λ_=>0) 0 zs)) (w:aC) (hw:wb.Extends w):
 oq P c.f (p1 c.args zs).toArray w λe w'=>∃v ad m val,e= .returned val/\v.rel ad m val/\L v ad/\w.Extends w':=by
 have hs:=UY (m:=λ_=>0) (nb:=0) (N:=(aU c.args).length) c.args hz (kr.bO (λ_=>0) 0 zs) (by omega);have:=avi (L:=L) (b:=wb) (w:=w) hm (c8 w _ _) hg c.f _ _ _ ((vZ 0 c.args).map (W.den (bO (λ_=>0) 0 zs) λ_=>0)) hw (λv hv=>by
  obtain⟨u,hu,rfl⟩:=List.mem_map.1 hv;exact hs.1 u hu) (XJ _) aA
 rw[hs.2]at this;refine this.mono λe w' ⟨v,ad,m,val,nb,h1,h2,_,h3,h4⟩=>⟨v,ad,m,val,h1,h2,h3,h4⟩
theorem br.aDC {c:br} {cal:gy} {li:dD->Nat->Option gz} {rounds d:Nat} {spec:List Int->List Int->Prop} (hm:P.follows .mixedOrders=true) (c8:∀r ex ro,iD S P gl ⟨wb,r,ex,ro,[]⟩ cal) (hg:gJ gl ⟨wb,wb,λ_=>False,λ_=>False,[]⟩)
 (hf:∀args w,(callFunc c.f args).run P w= .ok (.enter c.f args) w) (iK:∀id a rs cK,S id a rs->S id a cK->rs=cK) (hp:(c.tree P gl cal li rounds d).plain=true)
 (aA:∀zs,ay (aU c.args) zs->(c.tree P gl cal li rounds d).holds S (kh c.res λrs=>ay (aU c.res) rs/\spec zs rs) (λ_ _=>False) (bO (λ_=>0) 0 zs)):c.bu P wb spec:=by
 refine⟨hf,λzs hz=>?_⟩;have o6:=yv _ _ _ hp (aA zs hz);have h0:=br.calls hm c8 hg hz o6 wb (sA wb);obtain⟨e,w',v0,cx,m0,aSF,h1,h2,⟨h3,E5⟩,h4⟩:=Calls.some h0;obtain⟨rs,⟨hb,hs⟩,hv⟩:=A5 h3 h2;refine⟨rs,hb,hs,λw hw=>?_⟩;refine(br.calls hm c8 hg hz o6 w hw).mono λe w' ⟨v,ad,m,val,g1,g2,⟨g3,axG⟩,g4⟩=>?_;obtain⟨ar,aG⟩:=yJ iK _ _ axG E5;subst ar;subst aG;unfold kh at g3 h3;have:val=oc c.res rs:=by
  cases aw:outs c.res v with
  |none=>simp[aw]at h3
  |some os=>
   have key:∀{m val},v.rel ad m val->val=oc c.res (os.map (O.den ad)):=λ{m val} hr=>by
    have Hd:kh c.res (λrs=>rs=os.map (O.den ad)) v ad:=by unfold kh;simp[aw]
    obtain⟨cK,aAu,hv⟩:=A5 Hd hr;rw[hv,aAu]
   rw[key g2,<-key h2,hv]
 exact⟨by rw[g1,this],g4⟩
theorem br.bu.fn {c:br} {spec:List Int->List Int->Prop} (h:c.bu P wb spec):∃F:List Int->List Int,c.bu P wb λzs rs=>rs=F zs/\spec zs rs:=by
 have h2:∀zs,∃rs,ay (aU c.args) zs->ay (aU c.res) rs/\spec zs rs/\∀w,wb.Extends w->oq P c.f (p1 c.args zs).toArray w λe w'=>e= .returned (oc c.res rs)/\w.Extends w':=λzs=>by
  by_cases hz:ay (aU c.args) zs
  ·obtain⟨rs,h3⟩:=h.2 zs hz;exact⟨rs,λ_=>h3⟩
  ·exact⟨[],λaA8=>absurd aA8 hz⟩
 obtain⟨F,hF⟩:=aTj h2;exact⟨F,h.1,λzs hz=>⟨F zs,(hF zs hz).1,⟨rfl,(hF zs hz).2.1⟩,(hF zs hz).2.2⟩⟩
end
end Go.bX
namespace Go.bX
open M
structure lI where
 f:dD
 id:Nat
 k:dZ
 N:Nat
 lo:Int
 hi:Int
 ty:bw
 off:Nat
 len:Nat
 cap:Nat
 args:List D
 res:List D
noncomputable def lI.bds (c:lI):List (Int×Int):=aS c.lo c.hi c.N++aU c.args
def lI.bu (P:bU) (wb:aC) (c:lI) (spec:List Int->List Int->Prop):Prop:=
 (∀args w,(callFunc c.f args).run P w= .ok (.enter c.f args) w)/\
 ∀zs,ay c.bds zs->∃rs,ay (aU c.res) rs/\spec zs rs/\∀(w:aC) (g:Nat),wb.Extends w->wb.heap.size<=g->w.heap[g]?=some (.cells ((zs.take c.N).map (.int c.k)).toArray c.ty (0,0))->
  oq P c.f (.slice (some ⟨g,c.off,none⟩) c.len c.cap::p1 c.args (zs.drop c.N)).toArray w λe w'=>e= .returned (oc c.res rs)/\w.Extends w'
noncomputable def lI.M (c:lI):List aH->List V->M V:=λbl vs n k=>
 match vs with
 | .w (.one (.slc b off len cap))::rest=>match bl[b]? with
  |some (cs,t)=>cond (aR off c.off&&aR len c.len&&aR cap c.cap&&aR t.1 c.ty&& !t.2&&aR cs.length c.N&&cd cs) (match oY c.k c.lo c.hi cs,uK c.args rest with
   |some l1,some l2=> .call c.id (l1++l2) n (aU c.res) (k (Ij c.res n) (n+(aU c.res).length))
   |_,_=> .stuck) .stuck
  |none=> .stuck
 |_=> .stuck
section
variable {S:Nat->List Int->List Int->Prop} {P:bU} {gl:fO} {w0:eV}
theorem lI.snd {c:lI} {spec:List Int->List Int->Prop} (hc:c.bu P w0.b spec) (iK:∀zs rs,spec zs rs->S c.id zs rs) (L:V->Env->Prop) (n:Nat) (ρ:Env) (m:Nat->Nat) (bl:List aH) (vs:List V) (xs:List a6)
 (hb:dg n bl.length ρ bl) (lO:∀v∈vs,V.ok n bl.length ρ v) (hr:gb ρ m vs xs):aB S L (c.M bl vs) n ρ λad n' v=>v.ok n' bl.length ad/\∃val,v.rel ad m val/\∀w,Mem w0 ρ m bl w->x2 P c.f xs.toArray w val:=by
 intro G k af;unfold lI.M at af;split at af
 ·rename_i b off len cap rest;cases ba:bl[b]? with
  |none=>simp[ba,T.holds]at af
  |some q=>
   obtain⟨cs,t⟩:=q;simp only[ba]at af;cases ai:(aR off c.off&&aR len c.len&&aR cap c.cap&&aR t.1 c.ty&& !t.2&&aR cs.length c.N&&cd cs)with
   |false=>rw[ai]at af;exact af.elim
   |true=>
    simp only[ai,cond_true]at af;simp only[bA]at ai;obtain⟨⟨⟨⟨⟨⟨a1,bB⟩,cp⟩,eC⟩,oa⟩,lz⟩,oJ⟩:=ai;have a1:=bV a1;have bB:=bV bB;have cp:=bV cp;have eC:=bV eC;have lz:=bV lz
    cases h1:oY c.k c.lo c.hi cs with
    |none=>simp[h1,T.holds]at af
    |some l1=>
     cases h2:uK c.args rest with
     |none=>simp[h1,h2,T.holds]at af
     |some l2=>
      simp only[h1,h2]at af;have dR:∀a∈cs,A.ok n bl.length ρ a:=hb (cs,t) (fZ ba);obtain⟨bG,a2,a3⟩:=RS (m:=m) h1 dR;cases xs with
      |nil=>exact hr.elim
      |cons x xs=>
       obtain⟨hx,hr⟩:=hr;obtain⟨bQ,b9⟩:=RV h2 (λv hv=>lO v (eS _ hv)) hr;have e3:ay c.bds ((l1++l2).map (·.den ρ)):=by
        rw[jd];unfold lI.bds;rw[<-lz];exact nA a2 bQ
       obtain⟨rs,r1,r2,ig⟩:=hc.2 _ e3;have ae:=Rs af r1 (iK _ _ r2);have pM:=UE (m:=m) (nb:=bl.length) (N:=n+(aU c.res).length) r1 (kr.bO ρ n rs) (bS _);refine⟨_,_,_,LN _ _,agree.bO rs n ρ,⟨pM.1,_,pM.2,λw hw=> .inr ⟨hc.1 _ _,?_⟩⟩,ae⟩;obtain⟨g1,g2,r0,j4,g3⟩:=hw.hI b cs t ba oJ;have hlen:((l1.map (·.den ρ)).length)=c.N:=by simp[bG,lz]
       have ar:((l1++l2).map (·.den ρ)).take c.N=l1.map (·.den ρ):=by rw[jd,<-hlen,List.take_left]
       have aG:((l1++l2).map (·.den ρ)).drop c.N=l2.map (·.den ρ):=by rw[jd,<-hlen,Ge]
       have:=ig w (m b) hw.ext g1 (by rw[ar,<-a3,<-eC];rw[j4 (by simpa using oa),iq]at g3;exact g3);rw[aG,b9,<-a1,<-bB,<-cp]at this;simp only[V.rel,W.den,A.den]at hx;rw[hx];exact this
 ·exact af.elim
theorem apc (k:dZ) (lo hi:Int) (i N:Nat):cd (xA k lo hi i N)=true:=by cases N<;>rfl
noncomputable def lI.tree (P:bU) (gl:fO) (cal:gy) (li:dD->Nat->Option gz) (rounds d:Nat) (c:lI):T:=
 Mo P gl cal li rounds d c.f (c.bds.length) (.w (.one (.slc 0 c.off c.len c.cap))::(vZ c.N c.args).map V.w) [(xA c.k c.lo c.hi 0 c.N,(c.ty,false))] λ_ v bx=>match bx with
  |(cs,t)::_=>cond (rK (xA c.k c.lo c.hi 0 c.N) cs&&aR c.ty t.1&& !t.2) (.leaf v) .stuck
  |[]=> .stuck
theorem lI.calls {wb:aC} {c:lI} {cal:gy} {li:dD->Nat->Option gz} {rounds d:Nat} {L:V->Env->Prop} (hm:P.follows .mixedOrders=true) (c8:∀r ex ro,iD S P gl ⟨wb,r,ex,ro,[]⟩ cal) (hg:gJ gl ⟨wb,wb,λ_=>False,λ_=>False,[]⟩) {zs:List Int} (hz:ay c.bds zs)
 (aA:(c.tree P gl cal li rounds d).holds S L (λ_ _=>False) (bO (λ_=>0) 0 zs)) (w:aC) (g:Nat) (hw:wb.Extends w) (aaM:wb.heap.size<=g) (hcell:w.heap[g]?=some (.cells ((zs.take c.N).map (.int c.k)).toArray c.ty (0,0))):
 oq P c.f (.slice (some ⟨g,c.off,none⟩) c.len c.cap::p1 c.args (zs.drop c.N)).toArray w λe w'=>∃v ad m val,e= .returned val/\v.rel ad m val/\L v ad/\w.Extends w':=by
 have hat:=kr.bO (λ_=>0) 0 zs;have xd:=BI hz;rw[Ie]at xd;have cB:c.bds.length=c.N+(aU c.args).length:=by simp[lI.bds,Ie]
 have h1:=ad2 (ρ:=bO (λ_=>0) 0 zs) (m:=λ_=>g) (N:=c.bds.length) (nb:=1) (k:=c.k) c.N 0 zs xd.1 hat (by omega);have h2:=UY (ρ:=bO (λ_=>0) 0 zs) (m:=λ_=>g) (N:=c.bds.length) (nb:=1) (s:=c.N) c.args xd.2 (by have:=hat.drop c.N;simpa using this) (by omega);have nx:Mem ⟨wb,w,λi=>i=g,λ_=>False,[]⟩ (bO (λ_=>0) 0 zs) (λ_=>g) [(xA c.k c.lo c.hi 0 c.N,(c.ty,false))] w:=by
  refine⟨hw,rfl,rfl,rfl,bS _,λ_ _ _=>rfl,λi cs t h _=>?_,λi sh off code cap kind t h=>?_,λi j p q hi aO _=> .inl (by have h1:=(List.getElem?_eq_some_iff.1 hi).1;have h2:=(List.getElem?_eq_some_iff.1 aO).1;simp at h1 h2;omega)⟩
  rotate_left
  ·cases i with
   |zero=>
    simp only[xZ,bp,eZ]at h;have:=apc c.k c.lo c.hi 0 c.N;rw[h.1]at this;cases this
   |succ i=>simp at h
  cases i with
  |zero=>simp at h;obtain⟨rfl,rfl⟩:=h;exact⟨aaM,.inl rfl,[],λ_=>rfl,by rw[h1.2,iq];exact hcell⟩
  |succ i=>simp at h
 have qt:dg c.bds.length 1 (bO (λ_=>0) 0 zs) [(xA c.k c.lo c.hi 0 c.N,(c.ty,false))]:=λp hp=>by simp at hp;subst hp;exact h1.1
 have hrel:gb (bO (λ_=>0) 0 zs) (λ_=>g) (V.w (.one (.slc 0 c.off c.len c.cap))::(vZ c.N c.args).map V.w) (Qt (some ⟨g,c.off,none⟩) c.len c.cap::(vZ c.N c.args).map (W.den (bO (λ_=>0) 0 zs) λ_=>g)):=⟨rfl,XJ _⟩;have lO:∀v∈(V.w (.one (.slc 0 c.off c.len c.cap))::(vZ c.N c.args).map V.w),V.ok c.bds.length 1 (bO (λ_=>0) 0 zs) v:=λv hv=>by
  rcases List.mem_cons.1 hv with rfl|hv
  ·simp[V.ok,W.ok,A.ok]
  ·obtain⟨u,hu,rfl⟩:=List.mem_map.1 hv;exact h2.1 u hu
 have key:=(YY rfl (L:=L) (li:=li) (rounds:=rounds) hm (c8 w (λi=>i=g) (λ_=>False)) hg d c.f c.bds.length _ [(xA c.k c.lo c.hi 0 c.N,(c.ty,false))] _ (λ_ _=>False) _ (λ_=>g) w _ (λe w'=>∃v ad m val,e= .returned val/\V.rel ad m v val/\L v ad/\w.Extends w') qt nx lO hrel aA ?_).2
 ·rw[h2.2]at key;exact key
 ·intro n' v bx e7 ad m' w' val b1 bY dH h8 il ix qE
  match bx,qE,ix,b1 with
  |[],qE,_,_=>exact qE.elim
  |(cs,t)::r,qE,ix,b1=>
   simp only at qE;cases hc:(rK (xA c.k c.lo c.hi 0 c.N) cs&&aR c.ty t.1&& !t.2)with
   |false=>simp[hc,T.holds]at qE
   |true=>
    simp only[hc,cond_true,T.holds]at qE;simp only[bA]at hc;have ar:=GK hc.1.1;have aG:t=(c.ty,false):=Prod.ext (bV hc.1.2).symm (by simpa using hc.2);subst ar;subst aG;refine⟨v,ad,m',val,rfl,h8,qE,?_⟩;have az0:m' 0=g:=b1.hm 0 (by simp);have uN:∀i:Nat,i<w.heap.size->w'.heap[i]?=w.heap[i]?:=λi hi=>by
     by_cases J5:i=g
     ·subst J5;obtain⟨_,_,ig,aAo,h3⟩:=ix.hI 0 _ _ rfl (apc _ _ _ _ _);rw[az0,aAo rfl,iq]at h3;rw[h3,hcell,<-h1.2,yG h1.1 b1.ha (λb hb=>b1.hm b (by simpa using hb))]
     ·exact ix.j1 i hi J5
    exact⟨ix.km,ix.mU,ix.l8,ix.iW,λa ha=>by simp only[pw,uN a.block ha],λa ha=>by simp only[Gd,uN a.block ha],uN⟩
noncomputable def bq (UN:List lI) (cons:List br) (BS Bd Ca:dD):gy:=λf=>
 match UN.filter (λc=>aR f c.f)with
 |[]=>YX cons BS Bd Ca f
 |l=>some λbl vs n k=>match l.find? (λc=>match vs with| .w (.one (.slc b off len cap))::_=>(match bl[b]? with|some (cs,t)=>aR off c.off&&aR len c.len&&aR cap c.cap&&aR t.1 c.ty&& !t.2&&aR cs.length c.N|none=>false)|_=>false)with
  |some c=>c.M bl vs n k
  |none=> .stuck
theorem eA {UN:List lI} {cons:List br} {BS Bd Ca:dD} (hm:Jc P BS) (ha:I7 P Bd) (hs:Jf P Ca) (aAw:∀c∈UN,c.bu P w0.b (S c.id)) (hc:∀c∈cons,c.A7 P w0.b (S c.id)):iD S P gl w0 (bq UN cons BS Bd Ca):=by
 intro f g kX L n ρ m bl vs xs h1 h2 h3 h4;unfold bq at kX;split at kX
 ·exact avg (gl:=gl) hm ha hs hc f g kX L n ρ m bl vs xs h1 h2 h3 h4
 ·rename_i l hl;simp only[bp]at kX;subst kX;intro G k af;simp only at af;split at af
  ·rename_i c Nb;have nx:=IY Nb;have e3:=List.mem_filter.1 nx;have Hl:=bV e3.2;subst Hl;exact lI.snd (aAw c e3.1) (λ_ _ h=>h) L n ρ m bl vs xs h1 h3 h4 G k af
  ·exact af.elim
end
end Go.bX
namespace Go.bX
theorem ahX {P:bU} {f:dD} {fn:Func} (hf:P.funcs[f]?=some fn) (aa4:(fn.name== "runtime.NumGoroutine")=false) (hb:fn.body.isNone=true) (hn:afZ fn=none) (he:af0 fn=some add64Entry):I7 P f:=by
 intro x y c hx hy hc iL w;refine .inl ?_;rw[run_callFunc_extern hf aa4 hb hn he,run_add64 x y c hx hy hc iL];rfl
def aqf:Array a6->Sem a6:=λargs=>do
 let(x,y,b)<-aTk "Sub64" args
 pure (aTl ((x+aOJ-y-b)% aOJ) (if x<y+b then 1 else 0))
theorem aJ4 {P:bU} (x y b:Nat) (hb:b<=1) (w:aC):
 (aqf #[.int .u64 x,.int .u64 y,.int .u64 b]).run P w=
   .ok (.tuple #[.int .u64 (((x+18446744073709551616-y-b)% 18446744073709551616:Nat):Int),.int .u64 ((if x<y+b then 1 else 0:Nat):Int)]) w:=by
 have:b=0∨b=1:=by omega
 rcases this with rfl|rfl<;>rfl
theorem aqg {P:bU} {f:dD} {fn:Func} (hf:P.funcs[f]?=some fn) (aa4:(fn.name== "runtime.NumGoroutine")=false) (hb:fn.body.isNone=true) (hn:afZ fn=none) (he:af0 fn=some aqf):Jf P f:=by
 intro x y c hx tO hy abv hc iL w;refine .inl ?_;obtain⟨X,rfl⟩:=oP hx;obtain⟨Y,rfl⟩:=oP hy;obtain⟨C,rfl⟩:=oP hc;rw[run_callFunc_extern hf aa4 hb hn he,aJ4 X Y C (by omega)];have ar:(((X+18446744073709551616-Y-C)% 18446744073709551616:Nat):Int)=((X:Int)-Y-C)% 18446744073709551616:=by omega
 have aG:(((if X<Y+C then 1 else 0:Nat)):Int)=-(((X:Int)-Y-C)/18446744073709551616):=by split<;>omega
 rw[ar,aG];rfl
def Bv (P:bU) (f:dD):Bool:=match P.funcs[f]? with
 |some fn=> !(fn.name== "runtime.NumGoroutine")&&fn.body.isSome
 |none=>false
theorem enters {P:bU} {f:dD} (h:Bv P f=true) (args:Array a6) (w:aC):(callFunc f args).run P w= .ok (.enter f args) w:=by
 unfold Bv at h;cases hf:P.funcs[f]? with
 |none=>simp[hf]at h
 |some fn=>
  simp only[hf,bA,cy]at h;have h1:fn.name≠ "runtime.NumGoroutine" :=by simpa using h.1
  obtain⟨c,hc⟩:=Option.isSome_iff_exists.1 h.2;simp[callFunc,hf,h1,hc,Sem.run]
section
variable {S:Nat->List Int->List Int->Prop} {P:bU} {gl:fO} {wb:aC}
theorem br.pS {c:br} {cal:gy} {li:dD->Nat->Option gz} {rounds d:Nat} {spec:List Int->List Int->Prop} (hm:P.follows .mixedOrders=true) (c8:∀r ex ro,iD S P gl ⟨wb,r,ex,ro,[]⟩ cal) (hg:gJ gl ⟨wb,wb,λ_=>False,λ_=>False,[]⟩)
 (hf:∀args w,(callFunc c.f args).run P w= .ok (.enter c.f args) w) (hu:∀zs rs cK,ay (aU c.args) zs->ay (aU c.res) rs->ay (aU c.res) cK->spec zs rs->spec zs cK->rs=cK)
 (aA:kx (aU c.args) λzs=>(c.tree P gl cal li rounds d).holds S (kh c.res λrs=>ay (aU c.res) rs/\spec zs rs) (λ_ _=>False) (bO (λ_=>0) 0 zs)):c.bu P wb spec:=by
 refine⟨hf,λzs hz=>?_⟩;have h0:=br.calls hm c8 hg hz (nh aA hz) wb (sA wb);obtain⟨e,w',v,ad,m,val,h1,h2,h3,h4⟩:=Calls.some h0;obtain⟨rs,⟨hb,hs⟩,hv⟩:=A5 h3 h2;refine⟨rs,hb,hs,λw hw=>?_⟩;refine(br.calls hm c8 hg hz (nh aA hz) w hw).mono λe w' ⟨v,ad,m,val,h1,h2,h3,h4⟩=>?_;obtain⟨cK,⟨nW,Hv⟩,xg⟩:=A5 h3 h2;rw[hu zs cK rs hz nW hb Hv hs]at xg;exact⟨by rw[h1,xg],h4⟩
theorem lI.pS {c:lI} {cal:gy} {li:dD->Nat->Option gz} {rounds d:Nat} {spec:List Int->List Int->Prop} (hm:P.follows .mixedOrders=true) (c8:∀r ex ro,iD S P gl ⟨wb,r,ex,ro,[]⟩ cal) (hg:gJ gl ⟨wb,wb,λ_=>False,λ_=>False,[]⟩)
 (hf:∀args w,(callFunc c.f args).run P w= .ok (.enter c.f args) w) (hu:∀zs rs cK,ay c.bds zs->ay (aU c.res) rs->ay (aU c.res) cK->spec zs rs->spec zs cK->rs=cK) (hex:∀zs,ay c.bds zs->∃rs,ay (aU c.res) rs/\spec zs rs)
 (aA:kx c.bds λzs=>(c.tree P gl cal li rounds d).holds S (kh c.res λrs=>ay (aU c.res) rs/\spec zs rs) (λ_ _=>False) (bO (λ_=>0) 0 zs)):c.bu P wb spec:=by
 refine⟨hf,λzs hz=>?_⟩;obtain⟨rs,hb,hs⟩:=hex zs hz;refine⟨rs,hb,hs,λw g hw aaM hcell=>?_⟩;refine(lI.calls hm c8 hg hz (nh aA hz) w g hw aaM hcell).mono λe w' ⟨v,ad,m,val,h1,h2,h3,h4⟩=>?_;obtain⟨cK,⟨nW,Hv⟩,xg⟩:=A5 h3 h2;rw[hu zs cK rs hz nW hb Hv hs]at xg;exact⟨by rw[h1,xg],h4⟩
end
def num (b:Int):List Int->Int
 |[]=>0
 |x::r=>x+b*num b r
theorem num_nonneg {b lo hi:Int} (hb:0<b) (hl:0<=lo):∀{n:Nat} {l:List Int},ay (aS lo hi n) l->0<=num b l
 |0,[],_=>cF _
 |_+1,x::r,h=>by
  have:=num_nonneg hb hl h.2.2;have h2:0<=b*num b r:=Int.mul_nonneg (sz hb) this;have:=h.1;simp only[num];omega
 |0,_::_,h=>h.elim
 |_+1,[],h=>h.elim
theorem TY {b:Int} (hb:0<b):∀{n:Nat} {l:List Int},ay (aS 0 (b-1) n) l->num b l<b^n
 |0,[],_=>by simp[num]
 |n+1,x::r,h=>by
  have:=TY hb h.2.2;have h2:b*(num b r+1)<=b*b^n:=Int.mul_le_mul_of_nonneg_left (by omega) (sz hb);have:=h.2.1;simp only[num];rw[V3,lG _ b];have:b*(num b r+1)=b*num b r+b:=by rw[LL,Int.mul_one]
  omega
 |0,_::_,h=>h.elim
 |_+1,[],h=>h.elim
theorem OR {b:Int} (hb:0<b):∀{n:Nat} {l l':List Int},ay (aS 0 (b-1) n) l->ay (aS 0 (b-1) n) l'->num b l=num b l'->l=l'
 |0,[],[],_,_,_=>rfl
 |n+1,x::r,ht::r',h,aP,he=>by
  simp only[num]at he;have ar:(x+b*num b r)% b=(ht+b*num b r')% b:=by rw[he]
  rw[xX,xX,mF h.1 (by have:=h.2.1;omega),mF aP.1 (by have:=aP.2.1;omega)]at ar;subst ar;have aG:b*num b r=b*num b r':=by omega
  have cm:=Int.eq_of_mul_eq_mul_left (by omega) aG;rw[OR hb h.2.2 aP.2.2 cm]
 |0,_::_,_,h,_,_=>h.elim
 |_+1,[],_,h,_,_=>h.elim
 |0,[],_::_,_,aP,_=>aP.elim
 |_+1,_::_,[],_,aP,_=>aP.elim
def Jz (b:Int):Nat->Int->List Int
 |0,_=>[]
 |n+1,x=>x% b::Jz b n (x/b)
theorem ajZ {b:Int} (hb:0<b):∀(n:Nat) (x:Int),ay (aS 0 (b-1) n) (Jz b n x)
 |0,_=>trivial
 |n+1,x=>⟨Int.emod_nonneg _ (by omega),by have:=Int.emod_lt_of_pos x hb;omega,ajZ hb n _⟩
theorem aoB {b:Int} (hb:0<b):∀(n:Nat) (x:Int),0<=x->x<b^n->num b (Jz b n x)=x
 |0,x,h0,h=>by simp at h;simp[Jz,num];omega
 |n+1,x,h0,h=>by
  have h1:x/b<b^n:=Int.ediv_lt_of_lt_mul hb (by rw[V3]at h;exact h);have h2:0<=x/b:=Int.ediv_nonneg h0 (sz hb);simp only[Jz,num,aoB hb n _ h2 h1];have:=Int.emod_add_mul_ediv x b;omega
def ac2 (K:List Int->List Int->Prop):Prop:=
 ∀z0:Int,0<=z0->z0<=18446744073709551615->
 ∀av:Int,0<=av->av<=18446744073709551615->
 ∀z2:Int,0<=z2->z2<=4294967295->0<=((1*z0+0)+0)-4294967296*z2->((1*z0+0)+0)-4294967296*z2<4294967296->
 ∀z3:Int,0<=z3->z3<=4294967295->0<=((1*z0+0)+0)-4294967296*z3->((1*z0+0)+0)-4294967296*z3<4294967296->
 ∀z4:Int,0<=z4->z4<=4294967295->0<=((1*av+0)+0)-4294967296*z4->((1*av+0)+0)-4294967296*z4<4294967296->
 ∀z5:Int,0<=z5->z5<=4294967295->0<=((1*av+0)+0)-4294967296*z5->((1*av+0)+0)-4294967296*z5<4294967296->
 ∀bb:Int,0<=bb->bb<=18446744065119617025->bb=((1*z0+((-4294967296)*z2+0))+0)*((1*av+((-4294967296)*z4+0))+0)->
 ∀aJ:Int,0<=aJ->aJ<=18446744065119617025->aJ=((1*z3+0)+0)*((1*av+((-4294967296)*z4+0))+0)->
 ∀aD:Int,0<=aD->aD<=4294967294->0<=((1*bb+0)+0)-4294967296*aD->((1*bb+0)+0)-4294967296*aD<4294967296->
 ∀z9:Int,0<=z9->z9<=4294967294->0<=((1*aJ+(1*aD+0))+0)-4294967296*z9->((1*aJ+(1*aD+0))+0)-4294967296*z9<4294967296->
 ∀aW:Int,0<=aW->aW<=4294967294->0<=((1*aJ+(1*aD+0))+0)-4294967296*aW->((1*aJ+(1*aD+0))+0)-4294967296*aW<4294967296->
 ∀aI:Int,0<=aI->aI<=18446744065119617025->aI=((1*z0+((-4294967296)*z2+0))+0)*((1*z5+0)+0)->
 ∀z12:Int,0<=z12->z12<=18446744065119617025->z12=((1*z3+0)+0)*((1*z5+0)+0)->
 ∀aY:Int,0<=aY->aY<=4294967295->0<=((1*aJ+(1*aD+((-4294967296)*z9+(1*aI+0))))+0)-4294967296*aY->((1*aJ+(1*aD+((-4294967296)*z9+(1*aI+0))))+0)-4294967296*aY<4294967296->
 ∀aM:Int,0<=aM->aM<=340282366920938463426481119284349108225->aM=((1*z0+0)+0)*((1*av+0)+0)->
 ∀aT:Int,0<=aT->aT<=18446744073709551614->0<=((1*aM+0)+0)-18446744073709551616*aT->((1*aM+0)+0)-18446744073709551616*aT<18446744073709551616->
 K [z0,av] [((1*aW+(1*z12+(1*aY+0)))+0),((1*aM+((-18446744073709551616)*aT+0))+0)]
def wd:D:= .int .u64 0 18446744073709551615
def Rp (f:dD):br:=⟨f,0,[wd,wd],[wd,wd]⟩
theorem aDd (x y a b:Int):x*y=(x+(-4294967296)*a)*(y+(-4294967296)*b)+4294967296*(a*(y+(-4294967296)*b)+(x+(-4294967296)*a)*b)+18446744073709551616*(a*b):=by
 grind
theorem mulVC_holds:ac2 λzs rs=>ay (aU [wd,wd]) rs/\rs=[zs.getD 0 0*zs.getD 1 0/18446744073709551616,zs.getD 0 0*zs.getD 1 0% 18446744073709551616]:=by
 unfold ac2;intro x h1 h2 y h3 h4 a h5 h6 h7 b4 dW dd hC j2 hM b jA kD yk mv b' oZ yl qs R2 p pK Hc Z3 q akZ Bw R3 c Z4 Z5 Bx Z6 d Z7 R4 By Z8 zR vG E6 zZ Z9 r aaa aab z1 s aac aad wZ t JQ MW JR w1 m MX MY CY u ak1 aQX aQY aQZ;have ar:dW=a:=by omega
 have aG:b'=b:=by omega
 have cm:zR=d:=by omega
 subst ar;subst aG;subst cm;simp only[Int.one_mul,Int.add_zero]at*;have:=aDd x y dW b';rw[<-CY,<-Z3,<-R3,<-z1,<-wZ]at this;simp only[gP,h9,<-CY,aU,wd,D.bds,jJ,eM,ay,and_true,mh];omega
theorem aog {P:bU} {f:dD} (hm:P.follows .mixedOrders=true) (hf:∀args w,(callFunc f args).run P w= .ok (.enter f args) w)
 (h:∀K,(kx (aU (Rp f).args) λzs=>((Rp f).tree P [] (λ_=>none) (λ_ _=>none) 600 6).holds (λ_ _ _=>True) (kh (Rp f).res (K zs)) (λ_ _=>False) (bO (λ_=>0) 0 zs))=ac2 K):Jc P f:=by
 intro x y hx tO hy abv w;have hv:=mulVC_holds;rw[<-h]at hv;have e3:ay (aU (Rp f).args) [x,y]:=⟨hx,by omega,hy,by omega,trivial⟩;refine .inr ⟨hf _ _,?_⟩;have:=br.calls (wb:=w) hm (λr ex ro f g kX=>by cases kX) (λg cs hg=>by cases hg) e3 (nh hv e3) w (sA w);refine this.mono λe w' ⟨v,ad,m,val,h1,h2,h3,h4⟩=>?_;obtain⟨rs,⟨_,hr⟩,hv⟩:=A5 h3 h2;rw[h1,hv,hr];exact⟨rfl,h4⟩
end Go.bX
namespace Go.bX
abbrev kt:=List (Nat×Nat)
abbrev ks:=List (List Int)
def yF:kt->ks->Nat->Int
 |(s,k)::st,l::bf,i=>cond (cJ s i&&ea i (s+k)) (l.getD (i-s) 0) (yF st bf i)
 |_,_,_=>0
def acN:kt->ks->Prop
 |(_,k)::st,l::bf=>l.length=k/\acN st bf
 |[],[]=>True
 |_,_=>False
def sF (ρ:Env) (st:kt) (bf:ks):Prop:=acN st bf/\∀i,ρ i=yF st bf i
def Jy (st:kt) (bf:ks):List (Int×Nat)->Int
 |[]=>0
 |(k,i)::r=>match r with
  |[]=>cond (k==1) (yF st bf i) (k*yF st bf i)
  |_=>cond (k==1) (yF st bf i) (k*yF st bf i)+Jy st bf r
def U.hL (st:kt) (bf:ks) (l:U):Int:=
 match l.ts with
 |[]=>l.c
 |ts=>cond (l.c==0) (Jy st bf ts) (Jy st bf ts+l.c)
theorem ajQ {ρ:Env} {st:kt} {bf:ks} (h:∀i,ρ i=yF st bf i):∀ts,Jy st bf ts=kB ρ ts
 |[]=>rfl
 |(k,i)::[]=>by
  simp only[Jy,kB,<-h i];cases af:(k==1)with
  |true=>have:k=1:=by simpa using af
         subst this;simp
  |false=>simp
 |(k,i)::t::r=>by
  have ih:=ajQ h (t::r);rw[Jy,kB,ih,<-h i]
  ·cases af:(k==1)with
   |true=>have:k=1:=by simpa using af
          subst this;simp
   |false=>simp
  ·intro hc;cases hc
theorem U.mr {ρ:Env} {st:kt} {bf:ks} (h:∀i,ρ i=yF st bf i) (l:U):l.hL st bf=l.den ρ:=by
 unfold U.hL U.den;cases hl:l.ts with
 |nil=>simp[kB]
 |cons t r=>
  simp only[ajQ h];cases hc:(l.c==0)with
  |true=>have:l.c=0:=by simpa using hc
         rw[this];simp
  |false=>simp
def G5:kt->ks->Nat->Nat->Option (List Int)
 |(s,k)::st,l::bf,i,len=>cond (aR s i&&aR k len) (some l) (cond (cJ (i+len) s||cJ (s+k) i) (G5 st bf i len) none)
 |_,_,_,_=>none
theorem akh:∀{st:kt} {bf:ks} {i len:Nat} {l:List Int},G5 st bf i len=some l->acN st bf->l.length=len/\∀j,j<len->yF st bf (i+j)=l.getD j 0
 |[],_,_,_,_,h,_=>by simp[G5]at h
 |_::_,[],_,_,_,h,_=>by simp[G5]at h
 |(s,k)::st,l'::bf,i,len,l,h,hl=>by
  unfold G5 at h;cases h1:(aR s i&&aR k len)with
  |true=>
   simp only[h1,cond_true,bp]at h;subst h;simp only[bA]at h1;have ar:=bV h1.1;have aG:=bV h1.2;subst ar;subst aG;refine⟨hl.1,λj aO=>?_⟩;unfold yF;have:(cJ s (s+j)&&ea (s+j) (s+k))=true:=by simp[ea];omega
   rw[this,cond_true,Nat.add_sub_cancel_left]
  |false=>
   simp only[h1,cond_false]at h;cases h2:(cJ (i+len) s||cJ (s+k) i)with
   |false=>simp[h2]at h
   |true=>
    simp only[h2,cond_true]at h;obtain⟨g1,g2⟩:=akh h hl.2;refine⟨g1,λj aO=>?_⟩;rw[<-g2 j aO]
    conv=>lhs;unfold yF
    have:(cJ s (i+j)&&ea (i+j) (s+k))=false:=by
     simp only[Ea,Nat.ble_eq]at h2;cases h3:(cJ s (i+j)&&ea (i+j) (s+k))with
     |false=>rfl
     |true=>simp[ea]at h3;omega
    rw[this,cond_false]
def N4:Nat->List U->Bool
 |_,[]=>true
 |i,l::r=>(l.c==0&&(match l.ts with|[(k,j)]=>k==1&&aR i j|_=>false))&&N4 (i+1) r
def firstVar:List U->Nat
 |[]=>0
 |l::_=>match l.ts with|[(_,j)]=>j|_=>0
theorem amK {ρ:Env}:∀{ls:List U} {i:Nat},N4 i ls=true->∀j,j<ls.length->(ls.map (·.den ρ)).getD j 0=ρ (i+j)
 |[],_,_,j,aO=>by simp at aO
 |l::r,i,h,j,aO=>by
  simp only[N4,bA]at h;cases j with
  |zero=>
   obtain⟨⟨h1,h2⟩,_⟩:=h;have hc:l.c=0:=by simpa using h1
   cases hl:l.ts with
   |nil=>simp[hl]at h2
   |cons t s=>
    cases s with
    |cons t' Ip=>simp[hl]at h2
    |nil=>
     obtain⟨k,q⟩:=t;simp only[hl,bA]at h2;have ar:k=1:=by simpa using h2.1
     have aG:=bV h2.2;subst ar;subst aG;simp[U.den,hl,kB,hc]
  |succ j=>
   have:=amK (ρ:=ρ) h.2 j (by simpa using aO);simp only[dk,h9];rw[this]
   congr 1;omega
def B8 (st:kt) (bf:ks) (ls:List U):List Int:=
 cond (ea 1 ls.length&&N4 (firstVar ls) ls) (match G5 st bf (firstVar ls) ls.length with|some l=>l|none=>ls.map (U.hL st bf)) (ls.map (U.hL st bf))
theorem anI {l l':List Int} (hl:l.length=l'.length) (h:∀j,j<l.length->l.getD j 0=l'.getD j 0):l=l':=by
 apply List.ext_getElem hl;intro j h1 h2;have:=h j h1;simpa [List.getD_eq_getElem?_getD,nI h1,nI h2]using this
theorem UO {ρ:Env} {st:kt} {bf:ks} (h:sF ρ st bf) (ls:List U):B8 st bf ls=ls.map (·.den ρ):=by
 have cw:ls.map (U.hL st bf)=ls.map (·.den ρ):=kK λl _=>U.mr h.2 l;unfold B8;cases h1:(ea 1 ls.length&&N4 (firstVar ls) ls)with
 |false=>simpa using cw
 |true=>
  simp only[cond_true];simp only[bA]at h1;cases h2:G5 st bf (firstVar ls) ls.length with
  |none=>exact cw
  |some l=>
   obtain⟨g1,g2⟩:=akh h2 h.1;show l=_;refine anI (by simp[g1]) λj aO=>?_;rw[amK h1.2 j (by omega),h.2,g2 j (by omega)]
def rW:bH->Option (List U×List U)
 | .eq a b=>some ([a],[b])
 | .and (.eq a b) r=>match rW r with|some (x,y)=>some (a::x,b::y)|none=>none
 |_=>none
def bH.hL (st:kt) (bf:ks):bH->Bool
 |lit b=>b
 |eq a b=>decide (a.hL st bf=b.hL st bf)
 |lt a b=>decide (a.hL st bf<b.hL st bf)
 |le a b=>decide (a.hL st bf<=b.hL st bf)
 |not a=> !a.hL st bf
 |and a b=>match rW (.and a b)with
  |some (x,y)=>decide (B8 st bf x=B8 st bf y)
  |none=>a.hL st bf&&b.hL st bf
 |iff a b=>a.hL st bf==b.hL st bf
theorem ake {ρ:Env}:∀{b:bH} {x y:List U},rW b=some (x,y)->b.den ρ=decide (x.map (·.den ρ)=y.map (·.den ρ))
 | .eq a b,x,y,h=>by
  simp only[rW,bp,eZ]at h;obtain⟨rfl,rfl⟩:=h;simp[bH.den]
 | .and (.eq a b) r,x,y,h=>by
  simp only[rW]at h;cases hr:rW r with
  |none=>simp[hr]at h
  |some p=>
   obtain⟨ht,og⟩:=p;simp only[hr,bp,eZ]at h;obtain⟨rfl,rfl⟩:=h;have ih:=ake (ρ:=ρ) hr;simp only[bH.den,ih,dk,mh];simp
 | .lit _,_,_,h=>by simp[rW]at h
 | .lt _ _,_,_,h=>by simp[rW]at h
 | .le _ _,_,_,h=>by simp[rW]at h
 | .not _,_,_,h=>by simp[rW]at h
 | .iff _ _,_,_,h=>by simp[rW]at h
 | .and (.lit _) _,_,_,h=>by simp[rW]at h
 | .and (.lt _ _) _,_,_,h=>by simp[rW]at h
 | .and (.le _ _) _,_,_,h=>by simp[rW]at h
 | .and (.not _) _,_,_,h=>by simp[rW]at h
 | .and (.and _ _) _,_,_,h=>by simp[rW]at h
 | .and (.iff _ _) _,_,_,h=>by simp[rW]at h
theorem bH.mr {ρ:Env} {st:kt} {bf:ks} (h:sF ρ st bf):∀b:bH,b.hL st bf=b.den ρ
 |lit _=>rfl
 |eq a b=>by simp only[hL,den,U.mr h.2]
 |lt a b=>by simp only[hL,den,U.mr h.2]
 |le a b=>by simp only[hL,den,U.mr h.2]
 |not a=>by simp only[hL,den,bH.mr h a]
 |and a b=>by
  have ar:=bH.mr h a;have aG:=bH.mr h b;unfold hL;cases ai:rW (.and a b)with
  |none=>simp only[den,ar,aG]
  |some p=>
   obtain⟨x,y⟩:=p;simp only[ake (ρ:=ρ) ai,UO h]
 |iff a b=>by simp only[hL,den,bH.mr h a,bH.mr h b]
def cg {α:Type}:List Nat->List α->List (List α)
 |[],[]=>[]
 |[],x::l=>[x::l]
 |k::n7,l=>l.take k::cg n7 (l.drop k)
theorem US {α β:Type} (f:α->β):∀(n7:List Nat) (l:List α),cg n7 (l.map f)=(cg n7 l).map (List.map f)
 |[],[]=>rfl
 |[],_::_=>rfl
 |k::n7,l=>by simp only[cg,dk,<-LO,<-LP,US f n7]
def Et:List Nat->Nat->List (Int×Int)->(kt->ks->List (List Int)->Prop)->kt->ks->Prop
 |[],_,[],P,st,bf=>P st bf []
 |[],_,_::_,_,_,_=>False
 |k::n7,n,bds,P,st,bf=>cond (aR k 1)
  (match bds with
  |(lo,hi)::ai0=>∀z:Int,lo<=z->z<=hi->Et n7 (n+1) ai0 (λui tC ls=>P ui tC ([z]::ls)) ((n,1)::st) ([z]::bf)
  |[]=>False)
  (cond (cJ k bds.length) (∀r:List Int,ay (bds.take k) r->Et n7 (n+k) (bds.drop k) (λui tC ls=>P ui tC (r::ls)) ((n,k)::st) (r::bf)) False)
theorem aqN:∀(a b:List Int) (n:Nat) (ρ:Env),bO ρ n (a++b)=bO (bO ρ n a) (n+a.length) b
 |[],b,n,ρ=>rfl
 |z::a,b,n,ρ=>by
  simp only[jJ,bO,kJ];rw[aqN a b]
  congr 1;omega
theorem aqO:∀(l:List Int) (n:Nat) (ρ:Env) (i:Nat),bO ρ n l i=cond (cJ n i&&ea i (n+l.length)) (l.getD (i-n) 0) (ρ i)
 |[],n,ρ,i=>by
  have:(cJ n i&&ea i (n+0))=false:=by
   cases h:(cJ n i&&ea i (n+0))with
   |false=>rfl
   |true=>simp[ea]at h;omega
  simp only[bO,rD,this,cond_false]
 |z::l,n,ρ,i=>by
  simp only[bO];rw[aqO l (n+1)];by_cases h1:i=n
  ·subst h1;have ar:(cJ (i+1) i&&ea i (i+1+l.length))=false:=by
    have:cJ (i+1) i=false:=by
     cases h:cJ (i+1) i with
     |false=>rfl
     |true=>exact absurd (gY h) (by omega)
    simp[this]
   have aG:(cJ i i&&ea i (i+(z::l).length))=true:=by simp[ea]
   rw[ar,aG];simp[dQ]
  ·have hu:dQ ρ n z i=ρ i:=afi ρ z h1;by_cases h2:n<=i/\i<n+1+l.length
   ·have ar:(cJ (n+1) i&&ea i (n+1+l.length))=true:=by simp[ea];omega
    have aG:(cJ n i&&ea i (n+(z::l).length))=true:=by simp[ea];omega
    rw[ar,aG];simp only[cond_true];rw[show i-n=(i-(n+1))+1 by omega,h9]
   ·have ar:(cJ (n+1) i&&ea i (n+1+l.length))=false:=by
     cases h:(cJ (n+1) i&&ea i (n+1+l.length))with
     |false=>rfl
     |true=>simp[ea]at h;omega
    have aG:(cJ n i&&ea i (n+(z::l).length))=false:=by
     cases h:(cJ n i&&ea i (n+(z::l).length))with
     |false=>rfl
     |true=>simp[ea]at h;omega
    rw[ar,aG];simp[hu]
theorem sF.push {ρ:Env} {st:kt} {bf:ks} (h:sF ρ st bf) (n:Nat) (l:List Int):sF (bO ρ n l) ((n,l.length)::st) (l::bf):=
 ⟨⟨rfl,h.1⟩,λi=>by rw[aqO,yF,<-h.2 i]⟩
theorem amF:∀{bds:List (Int×Int)} {zs:List Int} (k:Nat),ay bds zs->ay (bds.take k) (zs.take k)/\ay (bds.drop k) (zs.drop k)
 |[],[],k,_=>by simp[ay]
 |[],_::_,_,h=>h.elim
 |(_,_)::_,[],_,h=>h.elim
 |(l,u)::b,z::zs,0,h=>by simpa [ay]using h
 |(l,u)::b,z::zs,k+1,h=>by
  obtain⟨h1,h2,h3⟩:=h;obtain⟨g1,g2⟩:=amF (bds:=b) (zs:=zs) k h3;exact⟨⟨h1,h2,g1⟩,g2⟩
theorem Jj:∀{n7:List Nat} {n:Nat} {bds:List (Int×Int)} {P:kt->ks->List (List Int)->Prop} {st:kt} {bf:ks} {ρ:Env} {zs:List Int},Et n7 n bds P st bf->sF ρ st bf->ay bds zs->∃ui tC,sF (bO ρ n zs) ui tC/\P ui tC (cg n7 zs)
 |[],n,[],P,st,bf,ρ,[],h,aA,_=>⟨st,bf,aA,h⟩
 |[],_,[],_,_,_,_,_::_,_,_,hi=>hi.elim
 |[],_,_::_,_,_,_,_,_,h,_,_=>h.elim
 |k::n7,n,bds,P,st,bf,ρ,zs,h,aA,hi=>by
  unfold Et at h;cases af:aR k 1 with
  |true=>
   have e:=bV af;subst e;simp only[af,cond_true]at h;cases bds with
   |nil=>exact h.elim
   |cons b ai0=>
    obtain⟨lo,q4⟩:=b;cases zs with
    |nil=>exact hi.elim
    |cons z zs=>
     obtain⟨h1,h2,h3⟩:=hi;have:=Jj (h z h1 h2) (aA.push n [z]) h3;obtain⟨ui,tC,g1,g2⟩:=this;refine⟨ui,tC,g1,?_⟩;simpa [cg]using g2
  |false=>
   simp only[af,cond_false]at h;cases hb:cJ k bds.length with
   |false=>simp only[hb,cond_false]at h
   |true=>
    simp only[hb,cond_true]at h;have nW:k<=bds.length:=by simpa using hb
    have hlen:=dn hi;obtain⟨i1,i2⟩:=amF k hi;have e:(zs.take k).length=k:=by simp;omega
    have o6:=aA.push n (zs.take k);rw[e]at o6;obtain⟨ui,tC,g1,g2⟩:=Jj (h _ i1) o6 i2;refine⟨ui,tC,?_,g2⟩;have aG:=aqN (zs.take k) (zs.drop k) n ρ;rw[oQ,e]at aG;rw[aG];exact g1
abbrev I8:=Nat->List (List Int)->Prop
def I8.set (A:I8) (me:Nat) (p:List (List Int)->Prop):I8:=λi=>cond (aR i me) p (A i)
def T.qy (sh:Nat->List Nat×List Nat) (lsh:Nat->List Nat) (S:Nat->List (List Int)->List (List Int)->Prop) (L:V->kt->ks->Prop):T->I8->kt->ks->Prop
 |stuck,_,_,_=>False
 |leaf v,_,st,bf=>L v st bf
 |div n x d lo hi r,A,st,bf=>∀q:Int,lo<=q->q<=hi->0<=x.hL st bf-d*q->x.hL st bf-d*q<d->r.qy sh lsh S L A ((n,1)::st) ([q]::bf)
 |mul n x y lo hi r,A,st,bf=>∀p:Int,lo<=p->p<=hi->p=x.hL st bf*y.hL st bf->r.qy sh lsh S L A ((n,1)::st) ([p]::bf)
 |bit n op k x y r,A,st,bf=>∀z:Int,0<=z->z<=k.max->z=ca op k (x.hL st bf) (y.hL st bf)->r.qy sh lsh S L A ((n,1)::st) ([z]::bf)
 |shr n x y lo hi r,A,st,bf=>∀z:Int,lo<=z->z<=hi->z=x.hL st bf/2^(y.hL st bf).toNat->r.qy sh lsh S L A ((n,1)::st) ([z]::bf)
 |B9 n cs bt lo hi r,A,st,bf=>∀z:Int,lo<=z->z<=hi->z=(B8 st bf cs).getD (bt.hL st bf).toNat 0->r.qy sh lsh S L A ((n,1)::st) ([z]::bf)
 |vx b t e,A,st,bf=>(b.hL st bf=true->t.qy sh lsh S L A st bf)/\(b.hL st bf=false->e.qy sh lsh S L A st bf)
 |call id args n bds r,A,st,bf=>Et (sh id).2 n bds (λui tC rs=>S id ((cg (sh id).1 args).map (B8 st bf)) rs->r.qy sh lsh S L A ui tC) st bf
 |loop me init n bds r,A,st,bf=>∃(fv:List (List Int)->Prop) (hB:List (List Int)->Nat),fv ((cg (lsh me) init).map (B8 st bf))/\
  Et (lsh me) n bds (λui tC zs=>fv zs->r.qy sh lsh S L (A.set me λvs=>fv vs/\hB vs<hB zs) ui tC) st bf
 |again me vals,A,st,bf=>A me ((cg (lsh me) vals).map (B8 st bf))
 |both a b,A,st,bf=>a.qy sh lsh S L A st bf/\b.qy sh lsh S L A st bf
 |fn n op args lo hi r,A,st,bf=>∀z:Int,lo<=z->z<=hi->z=cR op (args.map (U.hL st bf))->r.qy sh lsh S L A ((n,1)::st) ([z]::bf)
 |ind n b r,A,st,bf=>∀z:Int,0<=z->z<=1->b.hL st bf=decide (z=1)->r.qy sh lsh S L A ((n,1)::st) ([z]::bf)
 |wa n lo hi r,A,st,bf=>∀z:Int,lo<=z->z<=hi->r.qy sh lsh S L A ((n,1)::st) ([z]::bf)
 |nat n r,A,st,bf=>∀z:Int,0<=z->r.qy sh lsh S L A ((n,1)::st) ([z]::bf)
 |wJ op args r,A,st,bf=>az op (args.map (U.hL st bf))->r.qy sh lsh S L A st bf
 |tA op args r,A,st,bf=>az op (args.map (U.hL st bf))/\r.qy sh lsh S L A st bf
theorem aew {ρ:Env} {st:kt} {bf:ks} (h:sF ρ st bf) (n7:List Nat) (l:List U):(cg n7 l).map (B8 st bf)=cg n7 (l.map (·.den ρ)):=by
 rw[US];exact kK λx _=>UO h x
def e1 (sh:Nat->List Nat×List Nat) (S:Nat->List (List Int)->List (List Int)->Prop):Nat->List Int->List Int->Prop:=λid zs rs=>S id (cg (sh id).1 zs) (cg (sh id).2 rs)
theorem acV {ρ:Env} {st:kt} {bf:ks} (h:sF ρ st bf) (l:List U):l.map (U.hL st bf)=l.map (·.den ρ):=kK λx _=>U.mr h.2 x
theorem q7 {sh:Nat->List Nat×List Nat} {lsh:Nat->List Nat} {S:Nat->List (List Int)->List (List Int)->Prop} {ahi:V->kt->ks->Prop} {L:V->Env->Prop} (ej:∀v ρ st bf,sF ρ st bf->ahi v st bf->L v ρ):
 ∀(t:T) (jW:I8) (A:ft) (ρ:Env) (st:kt) (bf:ks),(∀me vs,jW me (cg (lsh me) vs)->A me vs)->sF ρ st bf->t.qy sh lsh S ahi jW st bf->t.holds (e1 sh S) L A ρ
 | .stuck,_,_,_,_,_,_,_,h=>h
 | .leaf v,_,_,ρ,st,bf,_,aA,h=>ej v ρ st bf aA h
 | .div n x d lo hi r,jW,A,ρ,st,bf,aQ,aA,h=>λq h1 h2 h3 h4=>q7 ej r jW A _ _ _ aQ (aA.push n [q]) (h q h1 h2 (by rw[U.mr aA.2];exact h3) (by rw[U.mr aA.2];exact h4))
 | .mul n x y lo hi r,jW,A,ρ,st,bf,aQ,aA,h=>λq h1 h2 h3=>q7 ej r jW A _ _ _ aQ (aA.push n [q]) (h q h1 h2 (by rw[U.mr aA.2,U.mr aA.2];exact h3))
 | .bit n op k x y r,jW,A,ρ,st,bf,aQ,aA,h=>λq h1 h2 h3=>q7 ej r jW A _ _ _ aQ (aA.push n [q]) (h q h1 h2 (by rw[U.mr aA.2,U.mr aA.2];exact h3))
 | .shr n x y lo hi r,jW,A,ρ,st,bf,aQ,aA,h=>λq h1 h2 h3=>q7 ej r jW A _ _ _ aQ (aA.push n [q]) (h q h1 h2 (by rw[U.mr aA.2,U.mr aA.2];exact h3))
 | .B9 n cs bt lo hi r,jW,A,ρ,st,bf,aQ,aA,h=>λq h1 h2 h3=>q7 ej r jW A _ _ _ aQ (aA.push n [q]) (h q h1 h2 (by rw[UO aA,U.mr aA.2];exact h3))
 | .vx b t e,jW,A,ρ,st,bf,aQ,aA,h=>⟨λhb=>q7 ej t jW A _ _ _ aQ aA (h.1 (by rw[bH.mr aA];exact hb)),λhb=>q7 ej e jW A _ _ _ aQ aA (h.2 (by rw[bH.mr aA];exact hb))⟩
 | .call id args n bds r,jW,A,ρ,st,bf,aQ,aA,h=>by
  refine uw λrs hi hs=>?_;obtain⟨ui,tC,h1,h2⟩:=Jj h aA hi;exact q7 ej r jW A _ _ _ aQ h1 (h2 (by rw[aew aA];exact hs))
 | .loop me init n bds r,jW,A,ρ,st,bf,aQ,aA,h=>by
  obtain⟨fv,hB,h1,h2⟩:=h;refine⟨λzs=>fv (cg (lsh me) zs),λzs=>hB (cg (lsh me) zs),?_,?_⟩
  ·rw[aew aA]at h1;exact h1
  ·refine uw λzs hi dU=>?_;obtain⟨ui,tC,g1,g2⟩:=Jj h2 aA hi;refine q7 ej r _ _ _ _ _ (λaCG vs hv=>?_) g1 (g2 dU);unfold I8.set at hv;unfold ft.set;cases ai:aR aCG me with
   |true=>
    rw[ai]at hv;have e:=bV ai;subst e;exact hv
   |false=>rw[ai]at hv;exact aQ _ _ hv
 | .again me vals,jW,A,ρ,st,bf,aQ,aA,h=>aQ me _ (by rw[<-aew aA];exact h)
 | .both x y,jW,A,ρ,st,bf,aQ,aA,h=>⟨q7 ej x jW A ρ st bf aQ aA h.1,q7 ej y jW A ρ st bf aQ aA h.2⟩
 | .fn n op args lo hi r,jW,A,ρ,st,bf,aQ,aA,h=>λq h1 h2 h3=>q7 ej r jW A _ _ _ aQ (aA.push n [q]) (h q h1 h2 (by rw[acV aA];exact h3))
 | .ind n b r,jW,A,ρ,st,bf,aQ,aA,h=>λq h1 h2 h3=>q7 ej r jW A _ _ _ aQ (aA.push n [q]) (h q h1 h2 (by rw[bH.mr aA];exact h3))
 | .wa n lo hi r,jW,A,ρ,st,bf,aQ,aA,h=>λq h1 h2=>q7 ej r jW A _ _ _ aQ (aA.push n [q]) (h q h1 h2)
 | .nat n r,jW,A,ρ,st,bf,aQ,aA,h=>λq h1=>q7 ej r jW A _ _ _ aQ (aA.push n [q]) (h q h1)
 | .wJ op args r,jW,A,ρ,st,bf,aQ,aA,h=>λh1=>q7 ej r jW A ρ st bf aQ aA (h (by rw[acV aA];exact h1))
 | .tA op args r,jW,A,ρ,st,bf,aQ,aA,h=>⟨by rw[<-acV aA];exact h.1,q7 ej r jW A _ _ _ aQ aA h.2⟩
def Fv:List O->Option (List U)
 |[]=>some []
 | .l x::r=>match Fv r with|some l=>some (x::l)|none=>none
 | .b _::_=>none
def O.hL (st:kt) (bf:ks):O->Int
 |l x=>x.hL st bf
 |b x=>cond (x.hL st bf) 1 0
def Lh (st:kt) (bf:ks) (os:List O):List Int:=
 match Fv os with
 |some ls=>B8 st bf ls
 |none=>os.map (O.hL st bf)
theorem anH {ρ:Env}:∀{os:List O} {ls:List U},Fv os=some ls->ls.map (·.den ρ)=os.map (O.den ρ)
 |[],ls,h=>by simp[Fv]at h;subst h;rfl
 | .l x::r,ls,h=>by
  simp only[Fv]at h;cases hr:Fv r with
  |none=>simp[hr]at h
  |some l=>
   simp only[hr,bp]at h;subst h;simp only[dk,anH hr,O.den]
 | .b _::_,_,h=>by simp[Fv]at h
theorem O.mr {ρ:Env} {st:kt} {bf:ks} (h:sF ρ st bf):∀o:O,o.hL st bf=o.den ρ
 | .l x=>U.mr h.2 x
 | .b x=>by simp only[hL,den,bH.mr h]
theorem ap2 {ρ:Env} {st:kt} {bf:ks} (h:sF ρ st bf) (os:List O):Lh st bf os=os.map (O.den ρ):=by
 unfold Lh;cases hl:Fv os with
 |some ls=>exact(UO h ls).trans (anH hl)
 |none=>exact kK λo _=>O.mr h o
def aC8 (k:Nat):List Nat:=match k with
 |12=>[4,4,4]
 |15=>[5,5,5]
 |20=>[5,5,5,5]
 |k=>[k]
def D.nums:D->List Nat
 | .mix l=>aC8 l.length
 | .AQ _=>[]
 | .kF .. =>[]
 |d=>[d.num]
def ua (ds:List D):List Nat:=ds.flatMap D.nums
def XK (ds:List D) (K:List (List Int)->Prop) (v:V) (st:kt) (bf:ks):Prop:=
 match outs ds v with
 |some os=>K ((cg (ua ds) os).map (Lh st bf))
 |none=>False
theorem atG {ds:List D} {K:List (List Int)->Prop} (v:V) (ρ:Env) (st:kt) (bf:ks) (aA:sF ρ st bf) (h:XK ds K v st bf):kh ds (λrs=>K (cg (ua ds) rs)) v ρ:=by
 unfold XK at h;unfold kh;cases aw:outs ds v with
 |none=>simp[aw]at h
 |some os=>
  simp only[aw]at h⊢;rw[US]
  rwa [show(cg (ua ds) os).map (Lh st bf)=(cg (ua ds) os).map (List.map (O.den ρ)) from kK λo _=>ap2 aA o]at h
def dE (sh:Nat->List Nat×List Nat) (lsh:Nat->List Nat) (S:Nat->List (List Int)->List (List Int)->Prop) (K:List (List Int)->List (List Int)->Prop) (lens:List Nat) (bds:List (Int×Int)) (ds:List D) (t:T):Prop:=
 Et lens 0 bds (λst bf zs=>t.qy sh lsh S (XK ds (K zs)) (λ_ _=>False) st bf) [] []
theorem L8 {sh:Nat->List Nat×List Nat} {lsh:Nat->List Nat} {S:Nat->List (List Int)->List (List Int)->Prop} {K:List (List Int)->List (List Int)->Prop} {lens:List Nat} {bds:List (Int×Int)} {ds:List D} {t:T}
 (h:dE sh lsh S K lens bds ds t):kx bds λzs=>t.holds (e1 sh S) (kh ds λrs=>K (cg lens zs) (cg (ua ds) rs)) (λ_ _=>False) (bO (λ_=>0) 0 zs):=by
 refine uw λzs hi=>?_;obtain⟨st,bf,h1,h2⟩:=Jj h (show sF (λ_=>0) [] [] from⟨trivial,λ_=>rfl⟩) hi;exact q7 (λv ρ st bf aA hl=>atG v ρ st bf aA hl) t _ _ _ st bf (λ_ _ hf=>hf.elim) h1 h2
end Go.bX
namespace Go.bX
open Go.ChangeShapes Go.WideShapes Go.RowKit
variable {H:Type} {enc:bw×a6->H} {P:bU}
theorem aqT {k:dZ} {z:Int}:(Lit.int k z).wf=true↔k.min<=z/\z<=k.max:=by simp[Lit.wf]
theorem ajD {k:dZ}:∀(cs:List a6) (xs:List (p3 H×List AZ)),cs.length=xs.length->
 (∀i,i<xs.length->∃z,(cs.drop i).take 1=[.int k z]/\xs[i]?=some (.lit (.int k z),[])/\(Lit.int k z).wf=true)->
 ∃zs:List Int,cs=zs.map (.int k)/\xs=zs.map (λz=>(.lit (.int k z),[]))/\∀z∈zs,(Lit.int k z).wf=true
 |[],[],_,_=>⟨[],rfl,rfl,λ_ h=>by cases h⟩
 |[],_::_,h,_=>by simp at h
 |_::_,[],h,_=>by simp at h
 |c::cs,x::xs,hl,h=>by
  obtain⟨z,h1,h2,h3⟩:=h 0 (by simp);simp at h1 h2;obtain⟨zs,ar,aG,cm⟩:=ajD cs xs (by simpa using hl) λi hi=>by
   obtain⟨y,g1,g2,g3⟩:=h (i+1) (by simpa using hi);exact⟨y,by simpa using g1,by simpa using g2,g3⟩
  refine⟨z::zs,by rw[h1,ar];rfl,by rw[h2,aG];rfl,λy hy=>?_⟩;rcases List.mem_cons.1 hy with rfl|hy
  ·exact h3
  ·exact cm y hy
theorem BH:∀{b b':List (Int×Int)} {l l':List Int},ay b l->ay b' l'->ay (b++b') (l++l')
 |[],_,[],_,_,h=>h
 |_::_,_,_::_,_,h,aP=>⟨h.1,h.2.1,BH h.2.2 aP⟩
 |[],_,_::_,_,h,_=>h.elim
 |_::_,_,[],_,h,_=>h.elim
theorem D.aqQ (d:D) {zs l:List Int} (h:zs.length=d.num):d.val (zs++l)=d.val zs:=by
 cases d with
 |str=>match zs,h with|[z],_=>rfl
 |int k lo hi=>match zs,h with|[z],_=>rfl
 |bool=>match zs,h with|[z],_=>rfl
 |agg k n lo hi=>simp only[D.num]at h;simp only[D.val,<-h];simp
 |AQ p=>rfl
 |kF k c=>rfl
 |mix p=>
  simp only[D.num]at h;simp only[D.val]
  congr 2
  revert zs;induction p with
  |nil=>intro zs h;simp
  |cons a p ih=>
   intro zs h
   match zs,h with
   |z::zs,h=>simp only[jJ,Wa,ih (zs:=zs) (by simpa using h)]
theorem aB3 {w w':aC} (h:w.Extends w') (may:AZ->Prop):w.keptBut w' may:=
 Below.frame (W:=w) ⟨h.os,h.tape,h.output,h.size,λi hi=>h.block i hi⟩ may
theorem E3 {w:aC} {name:String} {g:Nat} {t e:bw} {k:dZ} {n:Nat} {cs:Array a6} {fuel:Nat} {p:List AZ} {zs:List Int} {spare:Nat->Bool} {held:Bool} {base:Nat} {enc:bw×a6->Unit}
 (hg:P.globalNamed name=some g) (aA:P.underlying t=some (.array n e)) (he:P.underlying e=some (.int k)) (Sb:P.cellsOf e=1) (azl:P.cellsOf t=n)
 (hv:w.var? P name=some cs) (hd:af2 enc P w base spare held fuel t cs.toList=some (.agg (zs.map λz=> .lit (.int k z)),p)):
 g<w.heap.size/\∃t' E1,w.heap[g]?=some (Obj.cells (zs.map (A0 k)).toArray t' E1):=by
 obtain⟨xs,m,rfl,hx,hlen,hn,J0⟩:=aOL aA hd;obtain⟨iN,ar,aG,cm⟩:=ajD (k:=k) cs.toList xs (by rw[hlen,azl,hn]) λi hi=>by
  have:=J0 i (by omega);rw[Sb,D6]at this;cases amm:xs[i]? with
  |none=>simp at amm;omega
  |some y=>
   rw[amm]at this;obtain⟨z,g1,g2,g3⟩:=ash he this;exact⟨z,g1,by rw[g2],g3⟩
 simp only[eZ,aTo]at hx;have hy:iN=zs:=by
  have h1:=hx.1;rw[aG,om]at h1;have BC:∀a b:Int,(aOM (.int k a):p3 Unit)= .lit (.int k b)->a=b:=λa b h=>by cases h;rfl
  exact((List.map_inj_right (f:=λz:Int=>(aOM (.int k z):p3 Unit)) BC).1 h1).symm
 subst hy;simp only[World.var?,hg,Option.bind_some]at hv;split at hv
 ·rename_i lM t' E1 hb;simp only[bp]at hv;subst hv;refine⟨?_,t',E1,?_⟩
  ·exact(Array.getElem?_eq_some_iff.1 hb).1
  ·rw[hb,<-ar]
 ·cases hv
end Go.bX
namespace Go.bX
open M
inductive cT where
 |d (x:D)
 |rd (sh:List aV)
 |te (sh:List aV) (e:bw)
def cT.num:cT->Nat
 |d x=>x.num
 |_=>1
noncomputable def cT.bds:cT->List (Int×Int)
 |d x=>x.bds
 |_=>[(0,dN)]
noncomputable def dF:List cT->List (Int×Int)
 |[]=>[]
 |x::r=>x.bds++dF r
def cT.HF:cT->Bool
 |d _=>true
 |_=>false
def cT.tQ:cT->Bool
 |te _ _=>true
 |_=>false
def cT.r3:cT->Bool
 |rd _=>true
 |_=>false
def tv:List cT->Bool
 |[]=>true
 | .d _::r=>tv r
 | .rd _::r=>r.all (λb=> !b.tQ)&&tv r
 | .te _ _::r=>r.all cT.HF&&tv r
def CG (F:Nat->Prop) (w:aC) (sh:List aV) (rows:List (List Int)) (v:a6):Prop:=
 (v= .slice none 0 0/\rows=[])∨∃(g o cap:Nat) (cells:Array a6) (t:bw) (fz:Nat×Nat),v= .slice (some ⟨g,o,none⟩) rows.length cap/\(rows.length<=cap/\(cap:Int)<=9223372036854775807)/\F g/\w.heap[g]?=some (.cells cells t fz)/\pA cells o sh rows
def Gu (N:Nat->Prop) (w:aC) (sh:List aV) (e:bw) (rows:List (List Int)) (v:a6):Prop:=
 (v= .slice none 0 0/\rows=[])∨∃(g cap:Nat) (cells:Array a6),v= .slice (some ⟨g,0,none⟩) rows.length cap/\(rows.length<=cap/\(cap:Int)<=9223372036854775807)/\N g/\w.heap[g]?=some (.cells cells e (0,0))/\pA cells 0 sh rows/\cells.size=cap*sh.length
def cT.at (F N:Nat->Prop) (w:aC):cT->List Int->a6->Prop
 |d x,zs,v=>v=x.val zs
 |rd sh,zs,v=>CG F w sh (aj (zs.getD 0 0)) v
 |te sh e,zs,v=>Gu N w sh e (aj (zs.getD 0 0)) v
def ni (F N:Nat->Prop) (w:aC):List cT->List Int->List a6->Prop
 |[],_,[]=>True
 |b::r,zs,v::vs=>b.at F N w zs v/\ni F N w r (zs.drop b.num) vs
 |_,_,_=>False
def xL (us:List a6):a6:=match us with|[x]=>x|l=> .tuple l.toArray
structure fE where
 f:dD
 id:Nat
 args:List cT
 res:List cT
 pre:Nat:=0
def KW:Nat->List Int->Prop
 |0,_=>True
 |p+1,l=>az (p+1) l
def adD:Nat->List U->T->T
 |0,_,r=>r
 |p+1,ls,r=> .tA (p+1) ls r
def Ug:Nat->List U->T->T
 |0,_,r=>r
 |p+1,ls,r=> .wJ (p+1) ls r
theorem preM_holds {S:Nat->List Int->List Int->Prop} {L:V->Env->Prop} {A:ft} {ρ:Env} {p:Nat} {ls:List U} {r:T} (h:(adD p ls r).holds S L A ρ):KW p (ls.map (·.den ρ))/\r.holds S L A ρ:=by
 cases p with
 |zero=>exact⟨trivial,h⟩
 |succ p=>exact h
theorem preA_holds {S:Nat->List Int->List Int->Prop} {L:V->Env->Prop} {A:ft} {ρ:Env} {p:Nat} {ls:List U} {r:T} (h:(Ug p ls r).holds S L A ρ) (hp:KW p (ls.map (·.den ρ))):r.holds S L A ρ:=by
 cases p with
 |zero=>exact h
 |succ p=>exact h hp
def fE.bu (P:bU) (wb:aC) (c:fE) (spec:List Int->List Int->Prop):Prop:=
 (∀args w,(callFunc c.f args).run P w= .ok (.enter c.f args) w)/\
 ∀(F:Nat->Prop) (w:aC) (vs:List a6) (zs:List Int),wb.Extends w->ay (dF c.args) zs->KW c.pre zs->ni F (λ_=>False) w c.args zs vs->
  oq P c.f vs.toArray w λe w'=>w.Extends w'/\∃rs us,ay (dF c.res) rs/\spec zs rs/\ni (λg=>F g∨w.heap.size<=g) (λg=>w.heap.size<=g) w' c.res rs us/\e= .returned (xL us)
noncomputable def zI:List cT->Nat->Nat->List W->List aH->(Nat->List W->List aH->T)->T
 |[],_,n,us,bl,k=>k n us bl
 | .d x::r,s,n,us,bl,k=>zI r (s+x.num) n (us++[x.sym s]) bl k
 | .rd sh::r,s,n,us,bl,k=> .nat n (.wa (n+1) (-1) 9223372036854775807 (.fn (n+2) 20 [.var s] 0 9223372036854775807
  (zI r (s+1) (n+3) (us++[.one (.sl bl.length sh.length (.var n) (.const 0) (.var (n+2)) (.var (n+1)))]) (bl++[([.rows sh (.var n) (.var s) (.var (n+1)) 1],(0,false))]) k)))
 | .te sh e::r,s,n,us,bl,k=> .wa n (-1) 9223372036854775807 (.fn (n+1) 20 [.var s] 0 9223372036854775807
  (zI r (s+1) (n+2) (us++[.one (.sl bl.length sh.length (.const 0) (.const 0) (.var (n+1)) (.var n))]) (bl++[([.rows sh (.const 0) (.var s) (.var n) 2],(e,false))]) k))
section
variable {S:Nat->List Int->List Int->Prop} {L:V->Env->Prop} {w0:eV} {P:bU} {gl:fO} {cal:gy}
theorem kr.agree {ρ ad:Env} {s n:Nat} {zs:List Int} (h:kr ρ s zs) (ha:agree n ρ ad) (hn:s+zs.length<=n):kr ad s zs:=λj aO=>by rw[ha (s+j) (by omega)];exact h j aO
theorem y4 {ρ:Env} {n i:Nat} {z:Int} (h:i<n):dQ ρ n z i=ρ i:=afi ρ z (by omega)
theorem GD {F N:Nat->Prop} (hF:∀g,F g->w0.ex g∨w0.ro g∨w0.r.heap.size<=g) (cB:∀g,N g->w0.b.heap.size<=g/\w0.r.heap.size<=g):∀{l:List cT} {s n:Nat} {us:List W} {bl:List aH} {k:Nat->List W->List aH->T} {G:ft} {ρ:Env} {m:Nat->Nat} {w:aC} {zs:List Int} {vals:List a6},
 tv l=true->dg n bl.length ρ bl->Mem w0 ρ m bl w->kr ρ s zs->ay (dF l) zs->s+(dF l).length<=n->ni F N w l zs vals->
 ((l.all λb=> !b.r3)=true∨∀(i:Nat) (p:aH),bl[i]?=some p->F (m i)->bP ρ p.1<=1)->((l.all λb=> !b.tQ)=true∨∀(i:Nat) (p:aH),bl[i]?=some p->N (m i)->bP ρ p.1=0)->
 (∀u∈us,W.ok n bl.length ρ u)->
 (zI l s n us bl k).holds S L G ρ->∃n' ad m' pZ bx,fj n bl.length ρ m n' (qP bx) ad m'/\dg n' bx.length ad bx/\Mem w0 ad m' bx w/\pZ.map (W.den ad m')=us.map (W.den ρ m)++vals/\(∀u∈pZ,W.ok n' bx.length ad u)/\(k n' pZ bx).holds S L G ad
 |[],s,n,us,bl,k,G,ρ,m,w,zs,vals,_,hb,hm,_,_,_,hat,_,_,xf,ae=>by
  match vals,hat with
  |[],_=>exact⟨n,ρ,m,us,bl,fj.refl _ _ _ _,hb,hm,by simp,xf,ae⟩
 | .d x::r,s,n,us,bl,k,G,ρ,m,w,zs,vals,b2,hb,hm,aQ,hz,hn,hat,h1,h2,xf,ae=>by
  match vals,hat with
  |v::vs,hat=>
   obtain⟨hv,hat⟩:=hat;have hv:v=x.val zs:=hv;simp only[dF,cT.bds]at hz hn;simp only[gx]at hn;obtain⟨i1,i2⟩:=BI hz;rw[D.Mg]at i1 i2 hn;have hs:=D.P0 (ρ:=ρ) (m:=m) (N:=n) (nb:=bl.length) x i1 aQ (by omega);obtain⟨n',ad,m',pZ,bx,g1,g2,g3,g4,g5,g6⟩:=GD hF cB (l:=r) (s:=s+x.num) (us:=us++[x.sym s]) (zs:=zs.drop x.num) b2 hb hm (aQ.drop x.num) i2 (by omega) hat (by
    rcases h1 with h1|h1
    ·left;simpa [cT.r3]using h1
    ·exact .inr h1) (by
    rcases h2 with h2|h2
    ·left;simpa [cT.tQ]using h2
    ·exact .inr h2) (λu hu=>by
    rcases List.mem_append.1 hu with hu|hu
    ·exact xf u hu
    ·simp at hu;subst hu;exact hs.1) ae
   exact⟨n',ad,m',pZ,bx,g1,g2,g3,by rw[g4,jd,hv];simp[hs.2],g5,g6⟩
 | .rd sh::r,s,n,us,bl,k,G,ρ,m,w,zs,vals,b2,hb,hm,aQ,hz,hn,hat,h1,h2,xf,ae=>by
  match vals,hat with
  |v::vs,hat=>
   obtain⟨hv,hat⟩:=hat
   match zs,hz with
   |z::zs,hz=>
    obtain⟨av,z2,hz⟩:=hz;have hv:CG F w sh (aj z) v:=hv;obtain⟨E7,aae⟩:=aQ.tail;have h1:∀(i:Nat) (p:aH),bl[i]?=some p->F (m i)->bP ρ p.1<=1:=by
     rcases h1 with h1|h1
     ·simp[cT.r3]at h1
     ·exact h1
    simp only[dF,cT.bds,gx,kJ,rD]at hn;simp only[tv,bA]at b2;have hlen:(aj z).length<=9223372036854775807:=by
     rcases hv with⟨_,h⟩|⟨_,_,cap,_,_,_,_,⟨h3,h4⟩,_⟩
     ·simp[h]
     ·omega
    have xh:zs.length=(dF r).length:=dn hz;obtain⟨g,o,cap,C5,C6,Hm,No,Hn⟩:∃(g:Nat) (o:Nat) (cap:Int),(-1<=cap/\cap<=9223372036854775807)/\(cap<0->aj z=[])/\(0<=cap->((aj z).length:Int)<=cap)/\
     (v=if cap<0 then Qt none 0 0 else .slice (some ⟨g,o,none⟩) (aj z).length cap.toNat)/\
     (0<=cap->F g/\∃cells t fz,w.heap[g]?=some (.cells cells t fz)/\pA cells o sh (aj z)):=by
     rcases hv with⟨h3,h4⟩|⟨g,o,cap,cells,t,fz,h3,⟨h4,h5⟩,h6,h7,b4⟩
     ·exact⟨0,0,-1,by omega,λ_=>h4,λh=>by omega,by simp[h3],λh=>by omega⟩
     ·exact⟨g,o,cap,by omega,λh=>by omega,λ_=>by omega,by rw[if_neg (by omega)];simpa using h3,λ_=>⟨h6,cells,t,fz,h7,b4⟩⟩
    have Nq:=ae (o:Int) (by omega) cap C5.1 C5.2 (aj z).length (by omega) (by omega) (by
     simp only[dk,gZ,cR,U.c6];rw[y4 (by omega),y4 (by omega),E7])
    generalize tP:dQ (dQ (dQ ρ n (o:Int)) (n+1) cap) (n+2) ((aj z).length:Int)=je at Nq;have ha:agree n ρ je:=by
     rw[<-tP];intro i hi;rw[y4 (by omega),y4 (by omega),y4 hi]
    have cw:je n=o:=by rw[<-tP,y4 (by omega),y4 (by omega),m4]
    have ar:je (n+1)=cap:=by rw[<-tP,y4 (by omega),m4]
    have aG:je (n+2)=(aj z).length:=by rw[<-tP,m4]
    have cm:je s=z:=by rw[ha s (by omega)];exact E7
    have NB:=hm.tj hb ha;have M6:=hb.ext ha (show n<=n+3 by omega) (bS bl.length);have MZ:(A.rows sh (.var n) (.var s) (.var (n+1)) 1).ok (n+3) bl.length je:=⟨⟨U.hQ (by omega),U.hQ (by omega),U.hQ (by omega)⟩,by rw[U.c6,cm];exact⟨av,z2⟩,by rw[U.c6,ar];exact C5⟩;have nU:=NB.push (x:=([.rows sh (.var n) (.var s) (.var (n+1)) 1],(0,false))) (g:=g) M6 (λy hy=>by simp at hy;subst hy;exact MZ) (λaw=>by cases aw) (λgW k5 code' mN ta he=>by
     cases he;intro _;refine⟨λh=>by rw[U.c6,ar]at h;rw[U.c6,cm];exact C6 h,λh=>?_⟩;rw[U.c6,ar]at h;obtain⟨M0,cells,t,fz,k1,k2⟩:=Hn h;exact⟨hF g M0,cells,t,fz,k1,⟨by rw[U.c6,cw];omega,by rw[U.c6,U.c6,cw,cm];exact k2⟩,λh2=>by omega⟩) (λi p hi he=>by
      by_cases hc:0<=cap
      ·refine .inl ⟨?_,?_⟩
       ·rw[yD (hb _ (fZ hi)) ha];exact h1 i p hi (by rw[he];exact(Hn hc).1)
       ·rw[vO (by decide) (by rw[U.c6,ar];exact hc)];exact bS 1
      ·refine .inr (.inr ?_);simp only[bP,U.c6,ar];rw[if_pos (by omega)])
    have aaY:fj n bl.length ρ m (n+3) (bl++[([A.rows sh (.var n) (.var s) (.var (n+1)) 1],((0:bw),false))]).length je (od m bl.length g):=⟨by omega,ha,by simp,λb hb=>pk hb⟩;have Hj:dg (n+3) (bl++[([A.rows sh (.var n) (.var s) (.var (n+1)) 1],((0:bw),false))]).length je (bl++[([.rows sh (.var n) (.var s) (.var (n+1)) 1],(0,false))]):=λp hp a nV=>by
     rcases List.mem_append.1 hp with hp|hp
     ·exact(M6 p hp a nV).ext (agree.refl _ _) (bS _) (by simp)
     ·simp at hp;subst hp;simp at nV;subst nV;exact MZ.ext (agree.refl _ _) (bS _) (by simp)
    have abk:W.ok (n+3) (bl++[([A.rows sh (.var n) (.var s) (.var (n+1)) 1],((0:bw),false))]).length je (.one (.sl bl.length sh.length (.var n) (.const 0) (.var (n+2)) (.var (n+1)))):=by
     refine⟨by simp,⟨U.hQ (by omega),U.dK _ _,U.hQ (by omega),U.hQ (by omega)⟩,?_⟩;simp only[U.c6,U.bz,cw,ar,aG];exact⟨by omega,by omega,λh=>by rw[C6 h];rfl,Hm⟩
    obtain⟨n',ad,m',pZ,bx,g1,g2,g3,g4,g5,g6⟩:=GD hF cB (l:=r) (s:=s+1) (us:=us++[.one (.sl bl.length sh.length (.var n) (.const 0) (.var (n+2)) (.var (n+1)))]) (zs:=zs) (vals:=vs) b2.2 Hj nU (aae.agree ha (by omega)) hz (by omega) hat (.inr λi p hi hf=>by
     rw[List.getElem?_append]at hi;split at hi
     ·rename_i j3;rw[pk j3]at hf;rw[yD (hb _ (fZ hi)) ha];exact h1 i p hi hf
     ·have:i=bl.length:=by
       have:=(List.getElem?_eq_some_iff.1 hi).1;simp at this;omega
      subst this;simp at hi;subst hi;simp only[bP];split<;>omega) (.inl b2.1) (λu hu=>by
     rcases List.mem_append.1 hu with hu|hu
     ·exact(xf u hu).ext ha (by omega) (by simp)
     ·simp at hu;subst hu;exact abk) Nq
    refine⟨n',ad,m',pZ,bx,aaY.trans g1,g2,g3,?_,g5,g6⟩;rw[g4,jd,iI]
    congr 1
    ·exact kK λu hu=>W.oA (xf u hu) ha (λb hb=>pk hb)
    ·simp only[dk,gZ,jJ,eM,W.den,A.den,U.c6,U.bz,cw,ar,aG,pY];rw[No];simp
 | .te sh e::r,s,n,us,bl,k,G,ρ,m,w,zs,vals,b2,hb,hm,aQ,hz,hn,hat,h1,h2,xf,ae=>by
  match vals,hat with
  |v::vs,hat=>
   obtain⟨hv,hat⟩:=hat
   match zs,hz with
   |z::zs,hz=>
    obtain⟨av,z2,hz⟩:=hz;have hv:Gu N w sh e (aj z) v:=hv;obtain⟨E7,aae⟩:=aQ.tail;simp only[dF,cT.bds,gx,kJ,rD]at hn;simp only[tv,bA]at b2;have h2:∀(i:Nat) (p:aH),bl[i]?=some p->N (m i)->bP ρ p.1=0:=by
     rcases h2 with h2|h2
     ·simp[cT.tQ]at h2
     ·exact h2
    have hlen:(aj z).length<=9223372036854775807:=by
     rcases hv with⟨_,h⟩|⟨_,cap,_,_,⟨h3,h4⟩,_⟩
     ·simp[h]
     ·omega
    have xh:zs.length=(dF r).length:=dn hz;obtain⟨g,cap,C5,C6,Hm,No,Hn⟩:∃(g:Nat) (cap:Int),(-1<=cap/\cap<=9223372036854775807)/\(cap<0->aj z=[])/\(0<=cap->((aj z).length:Int)<=cap)/\
     (v=if cap<0 then Qt none 0 0 else .slice (some ⟨g,0,none⟩) (aj z).length cap.toNat)/\
     (0<=cap->N g/\∃cells,w.heap[g]?=some (.cells cells e (0,0))/\pA cells 0 sh (aj z)/\cells.size=cap.toNat*sh.length):=by
     rcases hv with⟨h3,h4⟩|⟨g,cap,cells,h3,⟨h4,h5⟩,h6,h7,b4,dd⟩
     ·exact⟨0,-1,by omega,λ_=>h4,λh=>by omega,by simp[h3],λh=>by omega⟩
     ·exact⟨g,cap,by omega,λh=>by omega,λ_=>by omega,by rw[if_neg (by omega)];simpa using h3,λ_=>⟨h6,cells,h7,b4,by simpa using dd⟩⟩
    have Nq:=ae cap C5.1 C5.2 (aj z).length (by omega) (by omega) (by
     simp only[dk,gZ,cR,U.c6];rw[y4 (by omega),E7])
    generalize tP:dQ (dQ ρ n cap) (n+1) ((aj z).length:Int)=je at Nq;have ha:agree n ρ je:=by
     rw[<-tP];intro i hi;rw[y4 (by omega),y4 hi]
    have ar:je n=cap:=by rw[<-tP,y4 (by omega),m4]
    have aG:je (n+1)=(aj z).length:=by rw[<-tP,m4]
    have cm:je s=z:=by rw[ha s (by omega)];exact E7
    have NB:=hm.tj hb ha;have M6:=hb.ext ha (show n<=n+2 by omega) (bS bl.length);have MZ:(A.rows sh (.const 0) (.var s) (.var n) 2).ok (n+2) bl.length je:=⟨⟨U.dK _ _,U.hQ (by omega),U.hQ (by omega)⟩,by rw[U.c6,cm];exact⟨av,z2⟩,by rw[U.c6,ar];exact C5⟩;have nU:=NB.push (x:=([.rows sh (.const 0) (.var s) (.var n) 2],(e,false))) (g:=g) M6 (λy hy=>by simp at hy;subst hy;exact MZ) (λaw=>by cases aw) (λgW k5 code' mN ta he=>by
     cases he;intro _;refine⟨λh=>by rw[U.c6,ar]at h;rw[U.c6,cm];exact C6 h,λh=>?_⟩;rw[U.c6,ar]at h;obtain⟨ayd,cells,k1,k2,k3⟩:=Hn h;have gU:=cB g ayd;exact⟨.inr (.inr gU.2),cells,e,(0,0),k1,⟨by rw[U.bz];exact cF _,by rw[U.bz,U.c6,cm];exact k2⟩,λ_=>⟨rfl,U.bz _ _,.OL,by rw[U.c6,ar];exact k3,gU.1,.inr gU.2⟩⟩) (λi p hi he=>by
      by_cases hc:0<=cap
      ·refine .inr (.inl ?_);rw[yD (hb _ (fZ hi)) ha];exact h2 i p hi (by rw[he];exact(Hn hc).1)
      ·refine .inr (.inr ?_);simp only[bP,U.c6,ar];rw[if_pos (by omega)])
    have aaY:fj n bl.length ρ m (n+2) (bl++[([A.rows sh (.const 0) (.var s) (.var n) 2],(e,false))]).length je (od m bl.length g):=⟨by omega,ha,by simp,λb hb=>pk hb⟩;have Hj:dg (n+2) (bl++[([A.rows sh (.const 0) (.var s) (.var n) 2],(e,false))]).length je (bl++[([.rows sh (.const 0) (.var s) (.var n) 2],(e,false))]):=λp hp a nV=>by
     rcases List.mem_append.1 hp with hp|hp
     ·exact(M6 p hp a nV).ext (agree.refl _ _) (bS _) (by simp)
     ·simp at hp;subst hp;simp at nV;subst nV;exact MZ.ext (agree.refl _ _) (bS _) (by simp)
    have abk:W.ok (n+2) (bl++[([A.rows sh (.const 0) (.var s) (.var n) 2],(e,false))]).length je (.one (.sl bl.length sh.length (.const 0) (.const 0) (.var (n+1)) (.var n))):=by
     refine⟨by simp,⟨U.dK _ _,U.dK _ _,U.hQ (by omega),U.hQ (by omega)⟩,?_⟩;simp only[U.c6,U.bz,ar,aG];exact⟨by omega,by omega,λh=>by rw[C6 h];rfl,Hm⟩
    obtain⟨n',ad,m',pZ,bx,g1,g2,g3,g4,g5,g6⟩:=aia (w0:=w0) (l:=r) (s:=s+1) (us:=us++[.one (.sl bl.length sh.length (.const 0) (.const 0) (.var (n+1)) (.var n))]) (zs:=zs) (vals:=vs) b2.1 Hj nU (aae.agree ha (by omega)) hz (by omega) hat (λu hu=>by
     rcases List.mem_append.1 hu with hu|hu
     ·exact(xf u hu).ext ha (by omega) (by simp)
     ·simp at hu;subst hu;exact abk) Nq
    refine⟨n',ad,m',pZ,bx,aaY.trans g1,g2,g3,?_,g5,g6⟩;rw[g4,jd,iI]
    congr 1
    ·exact kK λu hu=>W.oA (xf u hu) ha (λb hb=>pk hb)
    ·simp only[dk,gZ,jJ,eM,W.den,A.den,U.c6,U.bz,ar,aG,pY];rw[No];simp
where
 aia {w0:eV} {F N:Nat->Prop}:∀{l:List cT} {s n:Nat} {us:List W} {bl:List aH} {k:Nat->List W->List aH->T} {G:ft} {ρ:Env} {m:Nat->Nat} {w:aC} {zs:List Int} {vals:List a6},
  (l.all cT.HF)=true->dg n bl.length ρ bl->Mem w0 ρ m bl w->kr ρ s zs->ay (dF l) zs->s+(dF l).length<=n->ni F N w l zs vals->
  (∀u∈us,W.ok n bl.length ρ u)->
  (zI l s n us bl k).holds S L G ρ->∃n' ad m' pZ bx,fj n bl.length ρ m n' (qP bx) ad m'/\dg n' bx.length ad bx/\Mem w0 ad m' bx w/\pZ.map (W.den ad m')=us.map (W.den ρ m)++vals/\(∀u∈pZ,W.ok n' bx.length ad u)/\(k n' pZ bx).holds S L G ad
 |[],s,n,us,bl,k,G,ρ,m,w,zs,vals,_,hb,hm,_,_,_,hat,xf,ae=>by
  match vals,hat with
  |[],_=>exact⟨n,ρ,m,us,bl,fj.refl _ _ _ _,hb,hm,by simp,xf,ae⟩
 | .d x::r,s,n,us,bl,k,G,ρ,m,w,zs,vals,b2,hb,hm,aQ,hz,hn,hat,xf,ae=>by
  match vals,hat with
  |v::vs,hat=>
   obtain⟨hv,hat⟩:=hat;have hv:v=x.val zs:=hv;simp only[dF,cT.bds]at hz hn;simp only[gx]at hn;obtain⟨i1,i2⟩:=BI hz;rw[D.Mg]at i1 i2 hn;have hs:=D.P0 (ρ:=ρ) (m:=m) (N:=n) (nb:=bl.length) x i1 aQ (by omega);obtain⟨n',ad,m',pZ,bx,g1,g2,g3,g4,g5,g6⟩:=aia (l:=r) (s:=s+x.num) (us:=us++[x.sym s]) (zs:=zs.drop x.num) (by simpa [cT.HF]using b2) hb hm (aQ.drop x.num) i2 (by omega) hat (λu hu=>by
    rcases List.mem_append.1 hu with hu|hu
    ·exact xf u hu
    ·simp at hu;subst hu;exact hs.1) ae
   exact⟨n',ad,m',pZ,bx,g1,g2,g3,by rw[g4,jd,hv];simp[hs.2],g5,g6⟩
 | .rd _::_,_,_,_,_,_,_,_,_,_,_,_,b2,_,_,_,_,_,_,_,_=>by simp[cT.HF]at b2
 | .te _ _::_,_,_,_,_,_,_,_,_,_,_,_,b2,_,_,_,_,_,_,_,_=>by simp[cT.HF]at b2
end
end Go.bX
namespace Go.bX
open M
theorem TI (x:Nat) (r:List Nat):lc (x::r)=2^x*(2*lc r+1):=rfl
theorem aCx (x:Nat) (r:List Nat):lc r<=lc (x::r):=by
 rw[TI];have h1:1<=2^x:=Nat.one_le_two_pow;have h2:2*lc r+1<=2^x*(2*lc r+1):=Nat.le_mul_of_pos_left _ h1;omega
theorem anC:∀(a:Nat) (l:List Nat),lc (l.drop a)<=lc l
 |0,l=>by simp
 |a+1,[]=>by simp
 |a+1,x::r=>by rw[List.drop_succ_cons];exact nK (anC a r) (aCx x r)
theorem anD:∀(k:Nat) (l:List Nat),lc (l.take k)<=lc l
 |0,l=>by simp[lc]
 |k+1,[]=>by simp
 |k+1,x::r=>by
  rw[List.take_succ_cons,TI,TI];exact Wd _ (by have:=anD k r;omega)
theorem ad1 (l:List (List Int)) (a k:Nat):rc ((l.drop a).take k)<=rc l:=by
 unfold rc;rw[LO,LP]
 exact_mod_cast nK (anD k _) (anC a _)
theorem aPD (n:Nat):CB (F4 n)=n:=by
 unfold CB F4;by_cases h:n% 2=0
 ·rw[if_pos h,if_pos (by omega)];omega
 ·rw[if_neg h,if_neg (by omega)];omega
theorem aqu:∀(f n:Nat),0<n->n<=f->n=2^uk f n*(2*(n/2^uk f n/2)+1)
 |0,n,h,aP=>by omega
 |f+1,n,h,aP=>by
  unfold uk;by_cases hn:n% 2=0
  ·rw[if_pos hn];have ih:=aqu f (n/2) (by omega) (by omega);have e:n/2^(uk f (n/2)+1)=n/2/2^uk f (n/2):=by rw[zv,AX,Nat.div_div_eq_div_mul]
   rw[e,zv,AX (2^_) 2,V4,<-ih];omega
  ·rw[if_neg hn];simp;omega
theorem acK:∀(f n:Nat),n<=f->lc (Du f n)=n
 |0,n,h=>by
  have:n=0:=by omega
  subst this;rfl
 |f+1,n,h=>by
  unfold Du;by_cases hn:n=0
  ·rw[if_pos hn,hn];rfl
  ·rw[if_neg hn,TI];have hp:0<2^uk n n:=Nat.two_pow_pos _;have hd:n/2^uk n n/2<=f:=by
    have h1:n/2^uk n n<=n:=aOC _ _;omega
   rw[acK f _ hd];exact(aqu n n (by omega) (bS _)).symm
theorem ad0 {z:Int} (h:0<=z):rc (aj z)=z:=by
 unfold rc aj;rw[om];have e:((λrow:List Int=>lc (row.map CB))∘λn=>(Du n n).map F4)=id:=by
  funext n
  simp only[V5,om,id];have:(CB∘F4)=id:=by funext k;exact aPD k
  rw[this,Qo,acK n n (bS _)]
 rw[e,Qo,acK _ _ (bS _)];omega
def qd:V->List Nat
 | .w (.one (.sl b _ _ _ _ _))=>[b]
 | .w (.one (.slc b _ _ _))=>[b]
 |_=>[]
def YZ (cap gD:U):M Unit:=cond (U.beq cap gD) (pure ()) (js 40 [cap,gD])
noncomputable def UA (sh:List aV) (bl:List aH) (v:V):M U:=
 match v with
 | .w (.one (.con (.slice none 0 0)))=>pure (.const 0)
 | .w (.one (.sl b bE o ro len cap))=>match bl[b]? with
  |some ([.rows gW off code gD kind],_)=>cond (ea 0 kind&&tk sh gW&&U.beq o off&&aR bE sh.length) (bind (js 22 [code,ro,ro.add len]) λ_=>bind (YZ cap gD) λ_=>kC 22 [code,ro,ro.add len] 0 dN) fail
  |_=>fail
 | .w (.one (.slc b off len cap))=>match yp bl b off (len*sh.length)with
  |some cs=>cond (ss sh&&cJ len 1073741824&&cJ len cap&&cJ cap 9223372036854775807) (Eu sh (rR sh.length len cs) (.const 0)) fail
  |none=>match bl[b]? with
   |some ([.rows gW o code gD kind],_)=>match gD.e4 with
    |some Rt=>cond (ea 0 kind&&tk sh gW&&U.beq o (.const 0)&&aR off 0&&cJ len cap&&cJ cap 9223372036854775807&&decide (0<=Rt)) (bind (js 22 [code,.const 0,.const len]) λ_=>kC 22 [code,.const 0,.const len] 0 dN) fail
    |none=>fail
   |_=>fail
 |_=>fail
noncomputable def adu (sh:List aV) (e:bw) (bl:List aH) (v:V):M U:=
 match v with
 | .w (.one (.con (.slice none 0 0)))=>pure (.const 0)
 | .w (.one (.sl b bE o ro len cap))=>match bl[b]? with
  |some ([.rows gW off code gD kind],t)=>cond (aR kind 2&&tk sh gW&&U.beq o (.const 0)&&U.beq off (.const 0)&&U.beq ro (.const 0)&&U.beq cap gD&&aR bE sh.length&&aR t.1 e) (bind (js 22 [code,.const 0,len]) λ_=>kC 22 [code,.const 0,len] 0 dN) fail
  |_=>fail
 | .w (.one (.slc b off len cap))=>match bl[b]? with
  |some (C,t)=>match yp bl b off (len*sh.length)with
   |some cs=>cond (ss sh&&cJ len 1073741824&&cJ len cap&&cJ cap 9223372036854775807&&aR off 0&&aR C.length (cap*sh.length)&& !t.2&&aR t.1 e) (Eu sh (rR sh.length len cs) (.const 0)) fail
   |none=>fail
  |none=>fail
 |_=>fail
def y1:V->List Nat
 | .w (.one (.slc b _ _ _))=>[b]
 |_=>[]
def vp (w0:eV) (ρ:Env) (m:Nat->Nat) (bl:List aH) (bs os:List Nat) (g:Nat):Prop:=
 (∃b∈bs,m b=g/\∃p,bl[b]?=some p/\bP ρ p.1≠0/\(cd p.1=true->b∈os))/\(w0.ex g∨w0.ro g∨w0.r.heap.size<=g)
section
variable {S:Nat->List Int->List Int->Prop} {L:V->Env->Prop} {n:Nat} {ρ:Env} {m:Nat->Nat} {bl:List aH} {gl:fO} {w0:eV} {P:bU} {w:aC}
theorem CG.mono {F Ej:Nat->Prop} {sh:List aV} {rows:List (List Int)} {v:a6} (h:CG F w sh rows v) (hF:∀g,F g->Ej g):CG Ej w sh rows v:=by
 rcases h with h|⟨g,o,cap,cells,t,fz,h1,h2,h3,h4⟩
 ·exact .inl h
 ·exact .inr ⟨g,o,cap,cells,t,fz,h1,h2,hF g h3,h4⟩
theorem ap6 {b off len:Nat} {C:List A} {t:bw×Bool} {cs:List A} {sh:List aV} {rows:List (List Int)} (hb:dg n bl.length ρ bl) (hw:Mem w0 ρ m bl w) (ba:bl[b]?=some (C,t)) (dR:yp bl b off (len*sh.length)=some cs)
 (mT:∀row∈rows,cP sh row) (mR:cc sh rows=cs.map (A.den ρ m)):w0.b.heap.size<=m b/\(w0.ex (m b)∨w0.r.heap.size<=m b)/\∃cells:Array a6,w.heap[m b]?=some (.cells cells t.1 (0,0))/\pA cells off sh rows/\(t.2=false->cells.size=C.length):=by
 unfold yp at dR;rw[ba]at dR;simp only at dR;cases hc:(cJ (off+len*sh.length) C.length&&cd C)with
 |false=>rw[hc]at dR;cases dR
 |true=>
  rw[hc]at dR;simp only[cond_true,bp]at dR;simp only[bA]at hc;have hle:=gY hc.1;obtain⟨g1,g2,r,hr,g3⟩:=hw.hI b C t ba hc.2;refine⟨g1,g2,_,g3,⟨mT,(C.take off).map (A.den ρ m),((C.drop off).drop (len*sh.length)).map (A.den ρ m)++r,?_,by simp;omega⟩,λaA=>by rw[hr aA];simp⟩;rw[mR,<-dR];show C.map (A.den ρ m)++r=_;have e:C=C.take off++((C.drop off).take (len*sh.length)++(C.drop off).drop (len*sh.length)):=by rw[oQ,oQ]
  conv=>lhs;rw[e]
  simp only[jd,iI]
theorem PL:aj ((U.const 0).den ρ)=[]:=by rw[U.bz];exact m2
theorem A8:(0:Int)<=dN:=Ct (k7 []) (x3 (l:=[]) (by simp) (by simp))
theorem ap5 {sh:List aV} {len:Nat} {cs:List A} (ny:ss sh=true) (hl:len<=1073741824) (b2:∀a∈cs,A.ok n bl.length ρ a) (nX:cs.length=len*sh.length):
 aB S L (Eu sh (rR sh.length len cs) (.const 0)) n ρ λad n' l=>l.bM n'/\(0<=l.den ad/\l.den ad<=dN)/\(aj (l.den ad)).length=len/\(∀row∈aj (l.den ad),cP sh row)/\cc sh (aj (l.den ad))=cs.map (A.den ρ m):=by
 have o2:=Mq (w:=sh.length) (k:=len) nX;refine(Md (nb:=bl.length) (m:=m) ny (rs:=rR sh.length len cs) (c:= .const 0) (λrow hr a ha=>b2 a (Mr row hr a ha)) (U.dK _ _) (by rw[U.bz];exact⟨cF _,A8⟩) (by rw[PL];intro _ h;simp at h) (by rw[PL,o2.1];simpa using hl)).mono λbg bk l hn ha ⟨b1,bY,eQ,dH,h8,il,ix⟩=>?_;rw[PL,eM]at dH;rw[dH];exact⟨b1,bY,by rw[h8,o2.1],il,by rw[ix,o2.2]⟩
theorem avj {cap gD:U} {α:Type} {x:M α} {R:Env->Nat->α->Prop} (h:(0<=cap.den ρ->0<=gD.den ρ)->aB S L x n ρ R):aB S L (bind (YZ cap gD) λ_=>x) n ρ R:=by
 unfold YZ;cases hc:U.beq cap gD with
 |true=>exact h (by rw[U.beq_eq hc];exact id)
 |false=>exact ln h
theorem ao8 {sh:List aV} {v:V} {X:a6} (hb:dg n bl.length ρ bl) (hw:Mem w0 ρ m bl w) (hv:v.ok n bl.length ρ) (bZ:v.rel ρ m X):
 aB S L (UA sh bl v) n ρ λad n' l=>l.bM n'/\(0<=l.den ad/\l.den ad<=dN)/\CG (vp w0 ρ m bl (qd v) (y1 v)) w sh (aj (l.den ad)) X:=by
 unfold UA;split
 ·refine aB.pure ⟨U.dK _ _,by rw[U.bz];exact⟨cF _,A8⟩,.inl ⟨bZ,PL⟩⟩
 ·rename_i b bE o ro len cap;split
  ·rename_i gW off code gD kind t ba;refine eX λhc=>ln λaf=>?_;simp only[bA]at hc;obtain⟨⟨⟨c1,bN⟩,cA⟩,dr⟩:=hc;have c1:0<kind:=gY c1;have bN:=DP bN;have cA:=U.beq_eq cA;have dr:=bV dr
   subst bN;subst cA;subst dr;simp only[dk,gZ,az,U.den_add]at af;have NT:(A.sl b sh.length o ro len cap).ok n bl.length ρ:=hv;obtain⟨ptr,ar,aG,cm⟩:=AP (m:=m) NT;have bZ:X=(A.sl b sh.length o ro len cap).den ρ m:=bZ;obtain⟨ah,⟨ag,ao,dB,kb⟩,⟨kq,oe,po,pq⟩,⟨p2,pn⟩,jH,k8⟩:=NT;have iT:(A.rows sh o code gD kind).ok n bl.length ρ:=hb _ (fZ ba) _ (by simp);have hf:cR 22 ([code,ro,ro.add len].map (·.den ρ))=rc (((aj (code.den ρ)).drop (ro.den ρ).toNat).take (len.den ρ).toNat):=by
    simp only[dk,gZ,cR,U.den_add]
    congr 2;omega
   have iG:rc (((aj (code.den ρ)).drop (ro.den ρ).toNat).take (len.den ρ).toNat)<=dN:=by
    have h1:=ad1 (aj (code.den ρ)) (ro.den ρ).toNat (len.den ρ).toNat;rw[ad0 iT.2.1.1]at h1;exact Ct h1 iT.2.1.2
   refine avj λC2=>?_;refine(mQ (by rw[hf];exact k7 _) (by rw[hf];exact iG)).mono λbg bk l hn ha ⟨k1,k2⟩=>?_;rw[hf]at k2;refine⟨k1,by rw[k2];exact⟨k7 _,iG⟩,?_⟩;rw[k2,kp];have hlen:(((aj (code.den ρ)).drop (ro.den ρ).toNat).take (len.den ρ).toNat).length=(len.den ρ).toNat:=by simp;omega
   rcases m5 (cap.den ρ) 0 with e2|e2
   ·left
    have:=jH e2;refine⟨by rw[bZ,ar,aG e2,if_pos e2,this];rfl,by rw[this];simp⟩
   ·right
    clear iG;rcases m5 (gD.den ρ) 0 with yo|yo
    ·have:=C2 e2;omega
    ·obtain⟨er,cells,mg,fz,a1,⟨bB,cp⟩,_⟩:=(hw.rws b sh o code gD kind t ba (by omega)).2 yo;refine⟨m b,(o.den ρ).toNat+(ro.den ρ).toNat*sh.length,(cap.den ρ).toNat,cells,mg,fz,?_,⟨by rw[hlen];have:=k8 e2;omega,by omega⟩,⟨⟨b,by simp[qd],rfl,_,ba,by rw[vO (by omega) yo];omega,λh=>by cases h⟩,er⟩,a1,?_⟩
     ·rw[bZ,ar,cm e2,hlen,if_neg (by omega)]
     ·exact cp.sub _ _ (by omega)
  ·exact aB.fail
 ·rename_i b off len cap;split
  ·rename_i cs dR;refine eX λhc=>?_;simp only[bA]at hc;obtain⟨⟨⟨c1,bN⟩,cA⟩,dr⟩:=hc;have bN:=gY bN;have cA:=gY cA;have dr:=gY dr
   obtain⟨d1,d2,d3⟩:=JX hw hb dR;refine(ap5 (m:=m) c1 bN d2 d1).mono λbg bk l hn ha ⟨k1,k2,k3,k4,tS⟩=>⟨k1,k2,.inr ?_⟩;have bZ:X= .slice (some ⟨m b,off,none⟩) len cap:=bZ;cases ba:bl[b]? with
   |none=>unfold yp at dR;rw[ba]at dR;cases dR
   |some q=>
    obtain⟨C,t⟩:=q;obtain⟨g1,g2,cells,g3,g4,_⟩:=ap6 hb hw ba dR k4 tS;have o5:cd C=true:=by
     unfold yp at dR;rw[ba]at dR;simp only at dR;cases hc:(cJ (off+len*sh.length) C.length&&cd C)with
     |false=>rw[hc]at dR;cases dR
     |true=>simp only[bA]at hc;exact hc.2
    exact⟨m b,off,cap,cells,t.1,(0,0),by rw[bZ,k3],⟨by omega,by omega⟩,⟨⟨b,by simp[qd],rfl,_,ba,by rw[n6 o5];decide,λ_=>by simp[y1]⟩,g2.elim .inl λh=> .inr (.inr h)⟩,g3,g4⟩
  ·split
   ·rename_i gW o code gD kind t ba;cases C2:gD.e4 with
    |none=>exact aB.fail
    |some Rt=>
     refine eX λhc=>ln λaf=>?_;simp only[bA,decide_eq_true_eq]at hc;obtain⟨⟨⟨⟨⟨⟨c1,bN⟩,cA⟩,dr⟩,fY⟩,hK⟩,nr⟩:=hc;have c1:0<kind:=gY c1;have bN:=DP bN;have cA:=U.beq_eq cA;have dr:=bV dr
     have fY:=gY fY;have hK:=gY hK
     subst bN;subst cA;subst dr;simp only[dk,gZ,az,U.bz]at af;have bZ:X= .slice (some ⟨m b,0,none⟩) len cap:=bZ;have iT:(A.rows sh (.const 0) code gD kind).ok n bl.length ρ:=hb _ (fZ ba) _ (by simp);have hf:cR 22 ([code,.const 0,.const (len:Int)].map (·.den ρ))=rc ((aj (code.den ρ)).take len):=by
      simp only[dk,gZ,cR,U.bz];simp
     have iG:rc ((aj (code.den ρ)).take len)<=dN:=by
      have h1:=ad1 (aj (code.den ρ)) 0 len;rw[ad0 iT.2.1.1,kL]at h1;exact Ct h1 iT.2.1.2
     refine(mQ (by rw[hf];exact k7 _) (by rw[hf];exact iG)).mono λbg bk l hn ha ⟨k1,k2⟩=>?_;rw[hf]at k2;refine⟨k1,by rw[k2];exact⟨k7 _,iG⟩,?_⟩;rw[k2,kp];have hlen:((aj (code.den ρ)).take len).length=len:=by simp;omega
     have yo:0<=gD.den ρ:=by rw[U.lp C2];exact nr
     obtain⟨er,cells,mg,fz,a1,⟨bB,cp⟩,_⟩:=(hw.rws b sh (.const 0) code gD kind t ba (by omega)).2 yo;have eC:=cp.sub 0 len (by omega);rw[kL]at eC;refine .inr ⟨m b,0,cap,cells,mg,fz,by rw[bZ,hlen],⟨by omega,by omega⟩,⟨⟨b,by simp[qd],rfl,_,ba,by rw[vO (by omega) yo];omega,λh=>by cases h⟩,er⟩,a1,?_⟩;simpa [U.bz]using eC
   ·exact aB.fail
 ·exact aB.fail
theorem aFH {sh:List aV} {e:bw} {v:V} {X:a6} (hex:∀g,¬w0.ex g) (hb:dg n bl.length ρ bl) (hw:Mem w0 ρ m bl w) (hv:v.ok n bl.length ρ) (bZ:v.rel ρ m X):
 aB S L (adu sh e bl v) n ρ λad n' l=>l.bM n'/\(0<=l.den ad/\l.den ad<=dN)/\Gu (λg=>w0.r.heap.size<=g) w sh e (aj (l.den ad)) X:=by
 unfold adu;split
 ·refine aB.pure ⟨U.dK _ _,by rw[U.bz];exact⟨cF _,A8⟩,.inl ⟨bZ,PL⟩⟩
 ·rename_i b bE o ro len cap;split
  ·rename_i gW off code gD kind t ba;refine eX λhc=>ln λaf=>?_;simp only[bA]at hc;obtain⟨⟨⟨⟨⟨⟨⟨c1,bN⟩,cA⟩,Rg⟩,YV⟩,hK⟩,dr⟩,fY⟩:=hc;have c1:=bV c1;have bN:=DP bN;have cA:=U.beq_eq cA;have Rg:=U.beq_eq Rg;have YV:=U.beq_eq YV;have hK:=U.beq_eq hK;have dr:=bV dr;have fY:=bV fY
   subst bN;subst cA;subst dr;subst Rg;subst YV;subst hK;subst fY;subst c1;simp only[dk,gZ,az,U.bz]at af;have NT:(A.sl b sh.length (.const 0) (.const 0) len cap).ok n bl.length ρ:=hv;obtain⟨ptr,ar,aG,cm⟩:=AP (m:=m) NT;have bZ:X=(A.sl b sh.length (.const 0) (.const 0) len cap).den ρ m:=bZ;obtain⟨ah,⟨ag,ao,dB,kb⟩,⟨kq,oe,po,pq⟩,⟨p2,pn⟩,jH,k8⟩:=NT;rw[U.bz]at pn;have iT:(A.rows sh (.const 0) code cap 2).ok n bl.length ρ:=hb _ (fZ ba) _ (by simp);have hf:cR 22 ([code,.const 0,len].map (·.den ρ))=rc (((aj (code.den ρ)).drop 0).take (len.den ρ).toNat):=by
    simp only[dk,gZ,cR,U.bz]
    congr 2
   have iG:rc (((aj (code.den ρ)).drop 0).take (len.den ρ).toNat)<=dN:=by
    have h1:=ad1 (aj (code.den ρ)) 0 (len.den ρ).toNat;rw[ad0 iT.2.1.1]at h1;exact Ct h1 iT.2.1.2
   refine(mQ (by rw[hf];exact k7 _) (by rw[hf];exact iG)).mono λbg bk l hn ha ⟨k1,k2⟩=>?_;rw[hf]at k2;refine⟨k1,by rw[k2];exact⟨k7 _,iG⟩,?_⟩;rw[k2,kp];have hlen:(((aj (code.den ρ)).drop 0).take (len.den ρ).toNat).length=(len.den ρ).toNat:=by simp;omega
   rcases m5 (cap.den ρ) 0 with e2|e2
   ·left
    have:=jH e2;refine⟨by rw[bZ,ar,aG e2,if_pos e2,this];rfl,by rw[this];simp⟩
   ·right
    clear iG;obtain⟨er,cells,mg,fz,a1,⟨bB,cp⟩,eC⟩:=(hw.rws b sh (.const 0) code cap 2 t ba (by omega)).2 e2;obtain⟨p0,b1,bY,dH,h8,il⟩:=eC (by omega);have bY:=bY.two;subst p0;subst bY;rw[U.bz]at cp;refine⟨m b,(cap.den ρ).toNat,cells,?_,⟨by rw[hlen];have:=k8 e2;omega,by omega⟩,il.elim (λh=>absurd h (hex _)) id,a1,?_,dH⟩
    ·rw[bZ,ar,cm e2,hlen,if_neg (by omega)];simp[U.bz]
    ·have:=cp.sub 0 (len.den ρ).toNat (by omega);simpa using this
  ·exact aB.fail
 ·rename_i b off len cap;split
  ·rename_i C t ba;split
   ·rename_i cs dR;refine eX λhc=>?_;simp only[bA]at hc;obtain⟨⟨⟨⟨⟨⟨⟨c1,bN⟩,cA⟩,dr⟩,fY⟩,hK⟩,nr⟩,mq⟩:=hc;have bN:=gY bN;have cA:=gY cA;have dr:=gY dr
    have fY:=bV fY;have hK:=bV hK;have mq:=bV mq
    subst fY;subst mq;obtain⟨d1,d2,d3⟩:=JX hw hb dR;refine(ap5 (m:=m) c1 bN d2 d1).mono λbg bk l hn ha ⟨k1,k2,k3,k4,tS⟩=>⟨k1,k2,.inr ?_⟩;have bZ:X= .slice (some ⟨m b,0,none⟩) len cap:=bZ;obtain⟨g1,g2,cells,g3,g4,g5⟩:=ap6 hb hw ba dR k4 tS;exact⟨m b,cap,cells,by rw[bZ,k3],⟨by omega,by omega⟩,g2.elim (λh=>absurd h (hex _)) id,g3,g4,by rw[g5 (by simpa using nr),hK]⟩
   ·exact aB.fail
  ·exact aB.fail
 ·exact aB.fail
end
def ZP (d:D) (v:V):M (List U):=
 match d,v with
 | .bool,.w (.one (.bool e))=>match e with
  | .lit v=>pure [.const (cond v 1 0)]
  |e=>bind (HD e) λl=>pure [l]
 | .int k lo hi,.w (.one (.int bD x))=>cond (decide (k=bD)) (cond (uJ lo hi x) (pure [x.l]) (bind (js 39 [x.l,.const lo,.const hi]) λ_=>pure [x.l])) fail
 | .mix l,.w (.agg s)=>Im l s
 | .str,.w (.one (.str l))=>pure [l]
 | .AQ l,.w (.one (.str x))=>match x.e4 with|some c=>cond (decide (c=l5 (yB l))) (pure []) fail|none=>fail
 | .kF k c,.w (.one (.int bD x))=>match x.l.e4 with|some d=>cond (decide (k=bD)&&decide (d=c)) (pure []) fail|none=>fail
 | .agg k n lo hi,.w (.agg l)=>cond (aR l.length n) (match oY k lo hi l with|some r=>pure r|none=>fail) fail
 |_,_=>fail
noncomputable def G7 (bl:List aH):List cT->List V->M (List U)
 |[],[]=>pure []
 | .d x::r,v::s=>bind (ZP x v) λa=>bind (G7 bl r s) λb=>pure (a++b)
 | .rd sh::r,v::s=>bind (UA sh bl v) λa=>bind (G7 bl r s) λb=>pure (a::b)
 |_,_=>fail
section
variable {S:Nat->List Int->List Int->Prop} {L:V->Env->Prop} {w0:eV} {P:bU} {w:aC}
theorem ad8:∀{sh:List aV} {zs:List Int},cP sh zs->ay (sh.map aV.ia) zs/\wx aV.val sh zs=eu sh zs
 |[],[],_=>⟨trivial,rfl⟩
 |c::sh,z::zs,h=>⟨⟨h.1.1,h.1.2,(ad8 h.2).1⟩,by simp[eu,(ad8 h.2).2]⟩
 |[],_::_,h=>h.elim
 |_::_,[],h=>h.elim
theorem awU {d:D} {v:V} {X:a6} {n nb:Nat} {ρ:Env} {m:Nat->Nat} (hv:v.ok n nb ρ) (bZ:v.rel ρ m X):aB S L (ZP d v) n ρ λad n' ls=>(∀x∈ls,U.bM n' x)/\ay d.bds (ls.map (·.den ad))/\X=d.val (ls.map (·.den ad)):=by
 unfold ZP;split
 ·rename_i e;have bZ:X= .bool (e.den ρ):=bZ;have key:aB S L (bind (HD e) λl=>pure [l]) n ρ λad n' ls=>(∀x∈ls,U.bM n' x)/\ay D.bool.bds (ls.map (·.den ad))/\X=D.bool.val (ls.map (·.den ad)):=
   SL.bind λbg bk l hn ha ⟨g1,g2,g3⟩=>aB.pure ⟨λx hx=>by simp at hx;subst hx;exact g1,⟨g2.1,g2.2,trivial⟩,by rw[bZ,g3];rfl⟩
  cases e with
  |lit b=>
   refine aB.pure ⟨λx hx=>by simp at hx;subst hx;exact U.dK _ _,?_,?_⟩
   ·simp only[dk,gZ,U.bz,D.bds];cases b<;>exact⟨by decide,by decide,trivial⟩
   ·rw[bZ];simp only[dk,gZ,U.bz];cases b<;>rfl
  |_=>exact key
 ·rename_i k lo hi bD x;refine eX λaf=>?_;have af:k=bD:=by simpa using af
  subst af;have hv:x.ok n ρ:=hv;have bZ:X= .int k (x.l.den ρ):=bZ;cases hf:uJ lo hi x with
  |true=>
   have:=MK hf hv;exact aB.pure ⟨λy hy=>by simp at hy;subst hy;exact hv.1,⟨this.1,this.2,trivial⟩,bZ⟩
  |false=>
   refine ln λaf=>aB.pure ?_;simp only[dk,gZ,az,U.bz]at af;exact⟨λy hy=>by simp at hy;subst hy;exact hv.1,⟨af.1,af.2,trivial⟩,bZ⟩
 ·rename_i l s;have bZ:X= .agg (s.map (A.den ρ m)).toArray:=bZ;refine(PR (nb:=nb) (m:=m) hv).mono λbg bk ls hn ha ⟨g1,g2,g3⟩=>?_;have:=ad8 g2;refine⟨g1,this.1,?_⟩;rw[bZ,<-g3];simp only[D.val,this.2]
 ·rename_i l;have bZ:X= .string (iu (cN (l.den ρ))):=bZ;have hv:l.bM n/\0<=l.den ρ/\l.den ρ<=tu:=hv;exact aB.pure ⟨λy hy=>by simp at hy;subst hy;exact hv.1,⟨hv.2.1,hv.2.2,trivial⟩,bZ⟩
 ·rename_i l x;have bZ:X= .string (iu (cN (x.den ρ))):=bZ;cases hc:x.e4 with
  |none=>exact aB.fail
  |some c=>
   refine eX λhd=>aB.pure ⟨λy hy=>by simp at hy,trivial,?_⟩;rw[bZ,aqe (n:=n) hc (by simpa using hd)];rfl
 ·rename_i k c bD x;have bZ:X= .int bD (x.l.den ρ):=bZ;cases hc:x.l.e4 with
  |none=>exact aB.fail
  |some d=>
   refine eX λhd=>aB.pure ⟨λy hy=>by simp at hy,trivial,?_⟩;simp only[bA,decide_eq_true_eq]at hd;rw[bZ,U.lp hc,<-hd.1,hd.2];rfl
 ·rename_i k n' lo hi l;refine eX λaf=>?_;have af:=bV af;have bZ:X= .agg (l.map (A.den ρ m)).toArray:=bZ;cases hf:oY k lo hi l with
  |none=>exact aB.fail
  |some r=>
   obtain⟨g1,g2,g3⟩:=RS (m:=m) hf hv;rw[af]at g2;refine aB.pure ⟨ZN hf hv,g2,?_⟩;rw[bZ,g3];simp only[D.val];rw[oo (by simp[g1,af])]
 ·exact aB.fail
theorem an4 {n:Nat} {ρ ad:Env} {ls:List U} (h:∀x∈ls,U.bM n x) (ha:agree n ρ ad):ls.map (·.den ad)=ls.map (·.den ρ):=kK λx hx=>U.ch ha (h x hx)
theorem vp.later {n nb:Nat} {ρ ad:Env} {m:Nat->Nat} {bl:List aH} {bs os:List Nat} {g:Nat} (hb:dg n nb ρ bl) (ha:agree n ρ ad) (h:vp w0 ad m bl bs os g):vp w0 ρ m bl bs os g:=by
 obtain⟨⟨b,h1,h2,p,h3,h4,h6⟩,h5⟩:=h;exact⟨⟨b,h1,h2,p,h3,by rw[<-yD (hb p (fZ h3)) ha];exact h4,h6⟩,h5⟩
theorem RT {bl:List aH} {m:Nat->Nat}:∀{ds:List cT} {vs:List V} {xs:List a6} {n:Nat} {ρ:Env},dg n bl.length ρ bl->Mem w0 ρ m bl w->(∀v∈vs,V.ok n bl.length ρ v)->gb ρ m vs xs->
 aB S L (G7 bl ds vs) n ρ λad n' ls=>(∀x∈ls,U.bM n' x)/\ay (dF ds) (ls.map (·.den ad))/\∀F:Nat->Prop,(∀g,vp w0 ρ m bl (vs.flatMap qd) (vs.flatMap y1) g->F g)->ni F (λ_=>False) w ds (ls.map (·.den ad)) xs
 |[],[],[],n,ρ,_,_,_,_=>aB.pure ⟨λ_ h=>by simp at h,trivial,λ_ _=>trivial⟩
 | .d x::r,v::s,X::xs,n,ρ,hb,hw,hv,hr=>by
  unfold G7;refine(awU (hv v (by simp)) hr.1).bind λbg bk a hn ha ⟨g1,g2,g3⟩=>?_;refine(RT (ds:=r) (vs:=s) (xs:=xs) (hb.ext ha hn (bS _)) (hw.tj hb ha) (λu hu=>(hv u (eS _ hu)).ext ha hn (bS _)) (gb.later (λu hu=>hv u (eS _ hu)) ha hr.2)).bind λb0 gF b gU eJ ⟨k1,k2,k3⟩=>aB.pure ⟨λy hy=>?_,?_,λF hF=>?_⟩
  ·rcases List.mem_append.1 hy with hy|hy
   ·exact(g1 y hy).mono gU
   ·exact k1 y hy
  ·rw[jd,an4 g1 eJ];exact nA g2 k2
  ·have hl:(a.map (·.den bg)).length=x.num:=by rw[dn g2,D.Mg]
   rw[jd,an4 g1 eJ];refine⟨?_,?_⟩
   ·show X=x.val _;rw[D.aqQ x hl];exact g3
   ·show ni F _ w r (List.drop x.num _) xs;rw[<-hl,Ge];exact k3 F λg hg=>hF g (by
     have:=vp.later hb ha hg;obtain⟨⟨b',h1,h2,p,h4,h5,h6⟩,h3⟩:=this;exact⟨⟨b',by simp only[wy,zB];exact .inr h1,h2,p,h4,h5,λh=>by simp only[wy,zB];exact .inr (h6 h)⟩,h3⟩)
 | .rd sh::r,v::s,X::xs,n,ρ,hb,hw,hv,hr=>by
  unfold G7;refine(ao8 hb hw (hv v (by simp)) hr.1).bind λbg bk a hn ha ⟨g1,g2,g3⟩=>?_;refine(RT (ds:=r) (vs:=s) (xs:=xs) (hb.ext ha hn (bS _)) (hw.tj hb ha) (λu hu=>(hv u (eS _ hu)).ext ha hn (bS _)) (gb.later (λu hu=>hv u (eS _ hu)) ha hr.2)).bind λb0 gF b gU eJ ⟨k1,k2,k3⟩=>aB.pure ⟨λy hy=>?_,?_,λF hF=>?_⟩
  ·rcases List.mem_cons.1 hy with rfl|hy
   ·exact g1.mono gU
   ·exact k1 y hy
  ·simp only[dk,U.ch eJ g1];exact⟨g2.1,g2.2,k2⟩
  ·simp only[dk,U.ch eJ g1];refine⟨?_,?_⟩
   ·show CG F w sh (aj _) X;exact g3.mono λg hg=>hF g (by
     obtain⟨⟨b',h1,h2,p,h4,h5,h6⟩,h3⟩:=hg;exact⟨⟨b',by simp only[wy,zB];exact .inl h1,h2,p,h4,h5,λh=>by simp only[wy,zB];exact .inl (h6 h)⟩,h3⟩)
   ·exact k3 F λg hg=>hF g (by
     have:=vp.later hb ha hg;obtain⟨⟨b',h1,h2,p,h4,h5,h6⟩,h3⟩:=this;exact⟨⟨b',by simp only[wy,zB];exact .inr h1,h2,p,h4,h5,λh=>by simp only[wy,zB];exact .inr (h6 h)⟩,h3⟩)
 |[],_::_,_,_,_,_,_,_,_=>aB.fail
 | .d _::_,[],_,_,_,_,_,_,_=>aB.fail
 | .rd _::_,[],_,_,_,_,_,_,_=>aB.fail
 | .te _ _::_,[],_,_,_,_,_,_,_=>aB.fail
 | .te _ _::_,_::_,_,_,_,_,_,_,_=>aB.fail
 |_,[],_::_,_,_,_,_,_,hr=>hr.elim
 |_,_::_,[],_,_,_,_,_,hr=>hr.elim
where
 gb.later {n nb:Nat} {ρ ad:Env} {m:Nat->Nat}:∀{vs:List V} {xs:List a6},(∀v∈vs,V.ok n nb ρ v)->agree n ρ ad->gb ρ m vs xs->gb ad m vs xs
 |[],[],_,_,_=>trivial
 |v::vs,x::xs,hv,ha,hr=>⟨V.rel.ext hr.1 (hv v (by simp)) ha (λ_ _=>rfl),gb.later (λu hu=>hv u (eS _ hu)) ha hr.2⟩
 |[],_::_,_,_,hr=>hr.elim
 |_::_,[],_,_,hr=>hr.elim
end
end Go.bX
namespace Go.bX
open M
def E2:List Nat->List aH->List aH
 |[],bl=>bl
 |b::r,bl=>match bl[b]? with
  |some ([.rows sh off code cap (k+1)],t)=>E2 r (eD bl b ([.rows sh off code cap 1],t))
  |_=>E2 r bl
def FW (us:List W):V:=match us with|[u]=> .w u|l=> .jG l
def BU:List V->Bool
 |[]=>true
 | .w (.one (.slc ..))::_=>false
 |_::r=>BU r
noncomputable def fE.LY (c:fE) (n:Nat) (vs:List V) (bl:List aH) (k:RK):T:=
 G7 bl c.args vs n λls bk=>cond (tv c.res&&(!(c.res.any cT.r3)||BU vs)) (adD c.pre ls (.call c.id ls bk (dF c.res) (zI c.res bk (bk+(dF c.res).length) [] (cond (c.res.any cT.r3) (E2 (vs.flatMap qd) bl) bl) λgF us sG=>k gF (FW us) sG))) .stuck
def asD (sh:List aV) (b:Nat):V:= .w (.one (.sl b sh.length (.const 0) (.const 0) (.const 0) (.const 0)))
def afO (rd:Bool) (sh:List aV) (b:Nat) (bl:List aH):Option (List aH):=
 match bl[b]? with
 |some ([],(t,false))=>cond rd (some (eD bl b ([.rows sh (.const 0) (.const 0) (.const 0) 1],(t,false)))) none
 |some ([.rows gW off code cap kind],t)=>cond (tk sh gW&&U.beq off (.const 0)&&U.beq cap (.const 0)&&ea 0 kind) (some bl) none
 |_=>none
def oO (rd:Bool):List cT->List V->List aH->List V×List aH
 | .rd sh::r,v::s,bl=>match v with
  | .w (.one (.slc b 0 0 0))=>match afO rd sh b bl with
   |some uy=>(asD sh b::(oO rd r s uy).1,(oO rd r s uy).2)
   |none=>(v::(oO rd r s bl).1,(oO rd r s bl).2)
  |_=>(v::(oO rd r s bl).1,(oO rd r s bl).2)
 |_::r,v::s,bl=>(v::(oO rd r s bl).1,(oO rd r s bl).2)
 |_,vs,bl=>(vs,bl)
noncomputable def fE.E (c:fE) (n:Nat) (vs:List V) (bl:List aH) (k:RK):T:=
 c.LY n (oO (c.res.any cT.r3) c.args vs bl).1 (oO (c.res.any cT.r3) c.args vs bl).2 k
section
variable {S:Nat->List Int->List Int->Prop} {L:V->Env->Prop} {w0:eV} {P:bU}
theorem Mem.zero {ρ:Env} {m:Nat->Nat} {bl:List aH} {w:aC} {b:Nat} {sh:List aV} {t:bw} (h:Mem w0 ρ m bl w) (ba:bl[b]?=some ([],(t,false))):Mem w0 ρ m (eD bl b ([.rows sh (.const 0) (.const 0) (.const 0) 1],(t,false))) w:=by
 have uM:b<bl.length:=(List.getElem?_eq_some_iff.1 ba).1;obtain⟨a1,bB,r,hr,cp⟩:=h.hI b [] (t,false) ba rfl;have hr:=hr rfl;subst hr;have eO:∀(i:Nat) (p:aH),(eD bl b ([.rows sh (.const 0) (.const 0) (.const 0) 1],(t,false)))[i]?=some p->(i=b/\p=([.rows sh (.const 0) (.const 0) (.const 0) 1],(t,false)))∨(i≠b/\bl[i]?=some p):=λi p hi=>by
  rw[m3,wv]at hi;split at hi
  ·rename_i iV;subst iV;simp only[uM,if_true,bp]at hi;exact .inl ⟨rfl,hi.symm⟩
  ·rename_i iV;exact .inr ⟨λe=>iV e.symm,hi⟩
 have hold:bP ρ ([]:List A)=2:=n6 rfl;refine⟨h.ext,h.km,h.mU,h.l8,h.iW,h.j1,λi lM t' hi kE=>?_,λi gW k5 code' mN ta t' hi=>?_,λi j p q hi aO he=>?_⟩
 ·rcases eO i _ hi with⟨rfl,eN⟩|⟨dz,hi⟩
  ·cases eN;cases kE
  ·exact h.hI i lM t' hi kE
 ·rcases eO i _ hi with⟨rfl,eN⟩|⟨dz,hi⟩
  ·cases eN;intro _;simp only[U.bz];exact⟨λh0=>by omega,λ_=>⟨bB.elim .inl λh=> .inr (.inr h),_,_,_,cp,⟨cF _,by rw[m2];intro _ h;simp at h,[],[],by simp[m2,cc],rfl⟩,λdd=>by omega⟩⟩
  ·exact h.rws i gW k5 _ mN ta t' hi
 ·rcases eO i _ hi with⟨rfl,eN⟩|⟨dz,q4⟩
  ·rcases eO j _ aO with⟨rfl,yq⟩|⟨az2,aO⟩
   ·exact .inl rfl
   ·rcases h.inj i j _ q ba aO he with h1|h1|h1|h1
    ·exact .inl h1
    ·simp only[hold]at h1;omega
    ·simp only[hold]at h1;omega
    ·exact .inr (.inr (.inr h1))
  ·rcases eO j _ aO with⟨Hp,yq⟩|⟨az2,aO⟩
   ·subst Hp;rcases h.inj i j p _ q4 ba he with h1|h1|h1|h1
    ·exact .inl h1
    ·simp only[hold]at h1;omega
    ·exact .inr (.inr (.inl h1))
    ·simp only[hold]at h1;omega
   ·exact h.inj i j p q q4 aO he
theorem aOp {n:Nat} {ρ:Env} {m:Nat->Nat} {w:aC} {rd:Bool} {sh:List aV} {b:Nat} {bl uy:List aH} (h:afO rd sh b bl=some uy) (hm:Mem w0 ρ m bl w) (hb:dg n bl.length ρ bl):Mem w0 ρ m uy w/\dg n uy.length ρ uy/\uy.length=bl.length/\b<bl.length:=by
 unfold afO at h;split at h
 ·rename_i t ba;cases rd with
  |false=>cases h
  |true=>
   simp only[cond_true,bp]at h;subst h;refine⟨hm.zero ba,hb.set (λa ha=>?_),mA _ _ _,(List.getElem?_eq_some_iff.1 ba).1⟩;have ha:a= .rows sh (.const 0) (.const 0) (.const 0) 1:=by simpa using ha
   subst ha;refine⟨⟨U.dK _ _,U.dK _ _,U.dK _ _⟩,?_,?_⟩
   ·simp only[U.bz];exact⟨cF _,A8⟩
   ·simp only[U.bz];omega
 ·rename_i gW off code cap kind t ba;cases hc:(tk sh gW&&U.beq off (.const 0)&&U.beq cap (.const 0)&&ea 0 kind)with
  |false=>rw[hc]at h;cases h
  |true=>
   rw[hc]at h;simp only[cond_true,bp]at h;subst h;exact⟨hm,hb,rfl,(List.getElem?_eq_some_iff.1 ba).1⟩
 ·cases h
theorem afP {n:Nat} {ρ:Env} {m:Nat->Nat} {w:aC} {rd:Bool}:∀{ds:List cT} {vs:List V} {bl:List aH} {xs:List a6},Mem w0 ρ m bl w->dg n bl.length ρ bl->(∀v∈vs,V.ok n bl.length ρ v)->gb ρ m vs xs->
 Mem w0 ρ m (oO rd ds vs bl).2 w/\dg n (oO rd ds vs bl).2.length ρ (oO rd ds vs bl).2/\(oO rd ds vs bl).2.length=bl.length/\(∀v∈(oO rd ds vs bl).1,V.ok n bl.length ρ v)/\gb ρ m (oO rd ds vs bl).1 xs
 |[],vs,bl,xs,hm,hb,hv,hr=>⟨hm,hb,rfl,hv,hr⟩
 |d::r,[],bl,xs,hm,hb,hv,hr=>by
  cases d<;>exact⟨hm,hb,rfl,hv,hr⟩
 |d::r,v::s,bl,xs,hm,hb,hv,hr=>by
  match xs,hr with
  |x::xs,hr=>
  have ij:Mem w0 ρ m (oO rd r s bl).2 w/\dg n (oO rd r s bl).2.length ρ (oO rd r s bl).2/\(oO rd r s bl).2.length=bl.length/\(∀u∈(v::(oO rd r s bl).1),V.ok n bl.length ρ u)/\gb ρ m (v::(oO rd r s bl).1) (x::xs):=by
   obtain⟨g1,g2,g3,g4,g5⟩:=afP (rd:=rd) (ds:=r) (vs:=s) hm hb (λu hu=>hv u (eS _ hu)) hr.2;exact⟨g1,g2,g3,λu hu=>by
    rcases List.mem_cons.1 hu with rfl|hu
    ·exact hv u (by simp)
    ·exact g4 u hu,hr.1,g5⟩
  cases d with
  |d y=>exact ij
  |te sh e=>exact ij
  |rd sh=>
   unfold oO;split
   ·rename_i b _;split
    ·rename_i uy hz;obtain⟨a1,bB,cp,eC⟩:=aOp hz hm hb;obtain⟨g1,g2,g3,g4,g5⟩:=afP (rd:=rd) (ds:=r) (vs:=s) a1 bB (λu hu=>by rw[cp];exact hv u (eS _ hu)) hr.2;refine⟨g1,g2,by rw[g3,cp],λu hu=>?_,?_,g5⟩
     ·rcases List.mem_cons.1 hu with rfl|hu
      ·refine⟨eC,⟨U.dK _ _,U.dK _ _,U.dK _ _,U.dK _ _⟩,?_⟩;simp only[U.bz];exact⟨⟨by omega,by omega,by omega,by omega⟩,⟨by omega,by omega⟩,λh=>by omega,λ_=>by omega⟩
      ·rw[<-cp];exact g4 u hu
     ·have h0:x= .slice (some ⟨m b,0,none⟩) 0 0:=hr.1;rw[h0];simp[asD,V.rel,W.den,A.den,U.bz]
    ·exact ij
   ·exact ij
theorem Mem.low {ρ:Env} {m:Nat->Nat} {bl:List aH} {w:aC} {b k:Nat} {sh:List aV} {off code cap:U} {t:bw×Bool} (h:Mem w0 ρ m bl w) (ba:bl[b]?=some ([.rows sh off code cap (k+1)],t)):Mem w0 ρ m (eD bl b ([.rows sh off code cap 1],t)) w:=by
 have uM:b<bl.length:=(List.getElem?_eq_some_iff.1 ba).1;have eO:∀(i:Nat) (p:aH),(eD bl b ([.rows sh off code cap 1],t))[i]?=some p->(i=b/\p=([.rows sh off code cap 1],t))∨(i≠b/\bl[i]?=some p):=λi p hi=>by
  rw[m3,wv]at hi;split at hi
  ·rename_i iV;subst iV;simp only[uM,if_true,bp]at hi;exact .inl ⟨rfl,hi.symm⟩
  ·rename_i iV;exact .inr ⟨λe=>iV e.symm,hi⟩
 have af:∀(i:Nat) (p:aH),(eD bl b ([.rows sh off code cap 1],t))[i]?=some p->∃dO,bl[i]?=some dO/\bP ρ p.1<=bP ρ dO.1/\(bP ρ dO.1≠0->True):=λi p hi=>by
  rcases eO i p hi with⟨rfl,rfl⟩|⟨dz,hi⟩
  ·refine⟨_,ba,?_,λ_=>trivial⟩;simp only[bP];split<;>omega
  ·exact⟨p,hi,bS _,λ_=>trivial⟩
 refine⟨h.ext,h.km,h.mU,h.l8,h.iW,h.j1,λi lM t' hi aw=>?_,λi gW k5 code' mN ta t' hi=>?_,λi j p q hi aO he=>?_⟩
 ·rcases eO i _ hi with⟨rfl,eN⟩|⟨dz,hi⟩
  ·cases eN;cases aw
  ·exact h.hI i lM t' hi aw
 ·rcases eO i _ hi with⟨rfl,eN⟩|⟨dz,hi⟩
  ·cases eN;intro _;obtain⟨g1,g2⟩:=h.rws i _ _ _ _ (k+1) _ ba (by omega);refine⟨g1,λhc=>?_⟩;obtain⟨g3,cells,mg,fz,g4,g5,_⟩:=g2 hc;exact⟨g3,cells,mg,fz,g4,g5,λh2=>by omega⟩
  ·exact h.rws i gW k5 _ mN ta t' hi
 ·obtain⟨dO,h1,h2,_⟩:=af i p hi;obtain⟨fM,h3,h4,_⟩:=af j q aO;rcases h.inj i j dO fM h1 h3 he with h5|h5|h5|h5
  ·exact .inl h5
  ·exact .inr (.inl ⟨by omega,by omega⟩)
  ·exact .inr (.inr (.inl (by omega)))
  ·exact .inr (.inr (.inr (by omega)))
theorem ZX {n nb:Nat} {ρ:Env} {m:Nat->Nat} {w:aC}:∀{bs:List Nat} {bl:List aH},Mem w0 ρ m bl w->dg n nb ρ bl->Mem w0 ρ m (E2 bs bl) w/\dg n nb ρ (E2 bs bl)/\(E2 bs bl).length=bl.length/\
 ∀(i:Nat) (p:aH),(E2 bs bl)[i]?=some p->∃dO,bl[i]?=some dO/\bP ρ p.1<=bP ρ dO.1/\(i∈bs->cd dO.1=false->bP ρ p.1<=1)
 |[],bl,h,hb=>⟨h,hb,rfl,λi p hi=>⟨p,hi,bS _,λh=>by simp at h⟩⟩
 |b::r,bl,h,hb=>by
  unfold E2;split
  ·rename_i sh off code cap k t ba;have uM:b<bl.length:=(List.getElem?_eq_some_iff.1 ba).1;have nW:dg n nb ρ (eD bl b ([.rows sh off code cap 1],t)):=λp hp a ha=>by
    rw[m3]at hp;rcases QE hp with hp|hp
    ·exact hb p hp a ha
    ·subst hp;simp at ha;subst ha;have h0:A.ok n nb ρ (.rows sh off code cap (k+1)):=hb _ (fZ ba) _ (by simp);exact h0
   obtain⟨g1,g2,g3,g4⟩:=ZX (bs:=r) (h.low ba) nW;refine⟨g1,g2,by rw[g3,mA],λi p hp=>?_⟩;obtain⟨dO,h1,h2,h3⟩:=g4 i p hp;by_cases lN:i=b
   ·subst lN;rw[m3,List.getElem?_set_self uM]at h1;cases h1;refine⟨_,ba,nK h2 (by simp only[bP];split<;>omega),λ_ _=>nK h2 (by simp only[bP];split<;>omega)⟩
   ·rw[m3,List.getElem?_set_ne (λe=>lN e.symm)]at h1;exact⟨dO,h1,h2,λhi aw=>h3 (by simpa [lN]using hi) aw⟩
  ·rename_i mS;obtain⟨g1,g2,g3,g4⟩:=ZX (bs:=r) h hb;refine⟨g1,g2,g3,λi p hp=>?_⟩;obtain⟨dO,h1,h2,h3⟩:=g4 i p hp;refine⟨dO,h1,h2,λhi aw=>?_⟩;rcases List.mem_cons.1 hi with rfl|hi
   ·obtain⟨C,t⟩:=dO;obtain⟨sh,off,code,cap,k,rfl⟩:=T9 aw;cases k with
    |zero=>
     have:bP ρ [A.rows sh off code cap 0]=0:=by simp[bP]
     simp only[this]at h2;omega
    |succ k=>exact absurd h1 (mS _ _ _ _ _ _)
   ·exact h3 hi aw
theorem apk {n nb:Nat} {ρ:Env} {m:Nat->Nat} {us:List W} {vals:List a6} (h:∀u∈us,W.ok n nb ρ u) (hm:us.map (W.den ρ m)=vals):(FW us).ok n nb ρ/\(FW us).rel ρ m (xL vals):=by
 subst hm;unfold FW xL;split
 ·exact⟨h _ (by simp),rfl⟩
 ·rename_i dz;refine⟨h,?_⟩;split
  ·rename_i x hx
   match us,dz,hx with
   |[u],dz,_=>exact absurd rfl (dz u)
  ·rfl
theorem aox:∀{vs:List V},BU vs=true->vs.flatMap y1=[]
 |[],_=>rfl
 |v::r,h=>by
  unfold BU at h;split at h
  ·rename_i heq;cases heq
  ·cases h
  ·rename_i dz heq;cases heq;rw[wy,aox h,iq];unfold y1;split
   ·exact(dz _ _ _ _ rfl).elim
   ·rfl
theorem aoy:∀{vs:List V} {b:Nat},BU vs=true->b∈vs.flatMap qd->∃bE o ro len cap,V.w (.one (.sl b bE o ro len cap))∈vs
 |[],b,_,h=>by simp at h
 |v::r,b,h,hb=>by
  simp only[wy,zB]at hb;rcases hb with hb|hb
  ·unfold qd at hb;split at hb
   ·simp at hb;subst hb;exact⟨_,_,_,_,_,Wb ..⟩
   ·simp[BU]at h
   ·simp at hb
  ·have aP:BU r=true:=by
    unfold BU at h;split at h
    ·rename_i heq;cases heq
    ·cases h
    ·rename_i heq;cases heq;exact h
   obtain⟨bE,o,ro,len,cap,h1⟩:=aoy aP hb;exact⟨bE,o,ro,len,cap,eS _ h1⟩
theorem fE.ahb {c:fE} {spec:List Int->List Int->Prop} {f:dD} {aib:Array a6} (iK:∀zs rs,spec zs rs->S c.id zs rs) (n:Nat) (vs:List V) (bl:List aH) (k:RK) (G:ft) (ρ:Env) (m:Nat->Nat) (w:aC) (xs:List a6) (R':Ending->aC->Prop)
 (hc:∀zs,ay (dF c.args) zs->KW c.pre zs->ni (vp w0 ρ m bl (vs.flatMap qd) (vs.flatMap y1)) (λ_=>False) w c.args zs xs->
   oq P f aib w λe w'=>w.Extends w'/\∃rs us,ay (dF c.res) rs/\spec zs rs/\ni (λg=>vp w0 ρ m bl (vs.flatMap qd) (vs.flatMap y1) g∨w.heap.size<=g) (λg=>w.heap.size<=g) w' c.res rs us/\e= .returned (xL us))
 (hb:dg n bl.length ρ bl) (hw:Mem w0 ρ m bl w) (hv:∀v∈vs,V.ok n bl.length ρ v) (hr:gb ρ m vs xs) (ae:(c.LY n vs bl k).holds S L G ρ) (af:Gs S L w0 k n bl.length ρ m G R'):
 oq P f aib w R':=by
 unfold fE.LY at ae;obtain⟨bg,bk,ls,iM,hD,⟨g1,g2,g3⟩,ae⟩:=RT (S:=S) (L:=L) hb hw hv hr G _ ae;cases ai:(tv c.res&&(!(c.res.any cT.r3)||BU vs))with
 |false=>rw[ai]at ae;exact ae.elim
 |true=>
  rw[ai]at ae;simp only[cond_true]at ae;obtain⟨rZ,ae⟩:=preM_holds ae;simp only[T.holds]at ae;simp only[bA,Ea,cy]at ai;refine(hc _ g2 rZ (g3 _ λ_ h=>h)).mono ?_
  rintro e w' ⟨he,rs,us,r1,r2,ig,rfl⟩
  have ae:=nh ae r1 (iK _ _ r2);have qu:=hb.ext hD iM (bS bl.length);have aA2:=(hw.grow he).tj hb hD;have eJ:agree bk bg (bO bg bk rs):=agree.bO rs bk bg;have q3:=qu.ext eJ (LN bk (dF c.res).length) (bS bl.length);have NW:=aA2.tj qu eJ;have aQ:kr (bO bg bk rs) bk rs:=kr.bO bg bk rs;have Sw:rs.length=(dF c.res).length:=dn r1;have Hg:=hD.trans eJ iM;have aal:fj n bl.length ρ m (bk+(dF c.res).length) bl.length (bO bg bk rs) m:=⟨by omega,Hg,bS _,λ_ _=>rfl⟩;have jC:∀(i:Nat) (p:aH),bl[i]?=some p->bP (bO bg bk rs) p.1=bP ρ p.1:=λi p hi=>yD (hb p (fZ hi)) Hg;have aaG:∀(i:Nat) (p:aH),bl[i]?=some p->w.heap.size<=m i->bP ρ p.1=0:=λi p hi sZ=>by
   by_cases h0:bP ρ p.1=0
   ·exact h0
   ·have:=hw.lt hi h0;omega
  have fin:∀bx:List aH,dg (bk+(dF c.res).length) bx.length (bO bg bk rs) bx->Mem w0 (bO bg bk rs) m bx w'->bx.length=bl.length->
   (∀(i:Nat) (p:aH),bx[i]?=some p->(vp w0 ρ m bl (vs.flatMap qd) (vs.flatMap y1) (m i)∨w.heap.size<=m i)->(c.res.any cT.r3)=true->bP (bO bg bk rs) p.1<=1)->
   (∀(i:Nat) (p:aH),bx[i]?=some p->w.heap.size<=m i->bP (bO bg bk rs) p.1=0)->
   (zI c.res bk (bk+(dF c.res).length) [] bx λgF us sG=>k gF (FW us) sG).holds S L G (bO bg bk rs)->R' (.returned (xL us)) w':=λbx nW yy hlen gT ay6 ae=>by
   have hF:∀g,(vp w0 ρ m bl (vs.flatMap qd) (vs.flatMap y1) g∨w.heap.size<=g)->w0.ex g∨w0.ro g∨w0.r.heap.size<=g:=λg hg=>by
    rcases hg with hg|hg
    ·exact hg.2
    ·exact .inr (.inr (nK hw.iW hg))
   have cB:∀g,w.heap.size<=g->w0.b.heap.size<=g/\w0.r.heap.size<=g:=λg hg=>⟨nK hw.ext.size hg,nK hw.iW hg⟩;have h1:(c.res.all λb=> !b.r3)=true∨∀(i:Nat) (p:aH),bx[i]?=some p->(vp w0 ρ m bl (vs.flatMap qd) (vs.flatMap y1) (m i)∨w.heap.size<=m i)->bP (bO bg bk rs) p.1<=1:=by
    cases Ai:c.res.any cT.r3 with
    |true=>exact .inr λi p hi hf=>gT i p hi hf Ai
    |false=>
     left
     rw[LK];intro b hb;cases iG:b.r3 with
     |false=>rfl
     |true=>rw[List.any_eq_true.2 ⟨b,hb,iG⟩]at Ai;cases Ai
   obtain⟨n',ad,m',pZ,sG,b1,bY,dH,h8,il,ix⟩:=GD (S:=S) (L:=L) hF cB (l:=c.res) (us:=[]) (vals:=us) ai.1 nW yy aQ r1 (bS _) ig h1 (.inr ay6) (λu hu=>by simp at hu) ae;have pM:=apk (m:=m') il (by simpa using h8);exact af n' (FW pZ) sG G ad m' w' (xL us) (aal.trans (hlen▸b1)) (gQ.refl _ _) pM.1 pM.2 bY dH ix
  cases Ai:c.res.any cT.r3 with
  |false=>
   rw[Ai]at ae;exact fin bl q3 NW rfl (λ_ _ _ _ h=>by rw[Ai]at h;cases h) (λi p hi sZ=>by rw[jC i p hi];exact aaG i p hi sZ) ae
  |true=>
   rw[Ai]at ae ai;obtain⟨f1,f2,f3,f4⟩:=ZX (bs:=vs.flatMap qd) NW q3;have yt:BU vs=true:=by
    rcases ai.2 with h|h
    ·cases h
    ·exact h
   refine fin _ (by rw[f3];exact f2) f1 f3 (λi p hi hf _=>?_) (λi p hi sZ=>?_) ae
   ·obtain⟨dO,h1,h2,h3⟩:=f4 i p hi;rw[jC i dO h1]at h2;rcases hf with⟨⟨b,alr,Sa,q,Ah,xb,aAn⟩,_⟩|sZ
    ·obtain⟨bE,o,ro,len,cap,nx⟩:=aoy yt alr;rcases hw.inj i b dO q h1 Ah (by rw[Sa])with h5|h5|h5|h5
     ·subst h5;rw[h1]at Ah;cases Ah;cases aw:cd dO.1 with
      |false=>exact h3 alr aw
      |true=>
       have:=aAn aw;rw[aox yt]at this;simp at this
     ·omega
     ·omega
     ·exact absurd h5 xb
    ·have:=aaG i dO h1 sZ;omega
   ·obtain⟨dO,h1,h2,_⟩:=f4 i p hi;rw[jC i dO h1]at h2;have:=aaG i dO h1 sZ;omega
theorem fE.asM {c:fE} {spec:List Int->List Int->Prop} (hc:c.bu P w0.b spec) (iK:∀zs rs,spec zs rs->S c.id zs rs) (n:Nat) (vs:List V) (bl:List aH) (k:RK) (G:ft) (ρ:Env) (m:Nat->Nat) (w:aC) (xs:List a6) (R':Ending->aC->Prop)
 (hb:dg n bl.length ρ bl) (hw:Mem w0 ρ m bl w) (hv:∀v∈vs,V.ok n bl.length ρ v) (hr:gb ρ m vs xs) (ae:(c.LY n vs bl k).holds S L G ρ) (af:Gs S L w0 k n bl.length ρ m G R'):
 (callFunc c.f xs.toArray).run P w= .ok (.enter c.f xs.toArray) w/\oq P c.f xs.toArray w R':=by
 exact⟨hc.1 _ _,fE.ahb iK n vs bl k G ρ m w xs R' (λzs h1 h2 h3=>hc.2 _ w xs zs hw.ext h1 h2 h3) hb hw hv hr ae af⟩
theorem fE.L0 {c:fE} {spec:List Int->List Int->Prop} (hc:c.bu P w0.b spec) (iK:∀zs rs,spec zs rs->S c.id zs rs) (n:Nat) (vs:List V) (bl:List aH) (k:RK) (G:ft) (ρ:Env) (m:Nat->Nat) (w:aC) (xs:List a6) (R':Ending->aC->Prop)
 (hb:dg n bl.length ρ bl) (hw:Mem w0 ρ m bl w) (hv:∀v∈vs,V.ok n bl.length ρ v) (hr:gb ρ m vs xs) (ae:(c.E n vs bl k).holds S L G ρ) (af:Gs S L w0 k n bl.length ρ m G R'):
 (callFunc c.f xs.toArray).run P w= .ok (.enter c.f xs.toArray) w/\oq P c.f xs.toArray w R':=by
 obtain⟨g1,g2,g3,g4,g5⟩:=afP (rd:=c.res.any cT.r3) (ds:=c.args) hw hb hv hr;exact c.asM hc iK n _ _ k G ρ m w xs R' g2 g1 (λv hv=>by rw[g3];exact g4 v hv) g5 ae (by rw[g3];exact af)
end
end Go.bX
namespace Go.bX
open M
def O.bM (n:Nat):O->Prop
 |l x=>x.bM n
 |b x=>x.bM n
theorem O.ch {n:Nat} {ρ ad:Env} (ha:agree n ρ ad):∀{o:O},o.bM n->o.den ad=o.den ρ
 | .l x,h=>U.ch ha h
 | .b x,h=>by simp only[O.den];rw[bH.ch ha h]
theorem aoP {k:dZ} {n nb:Nat} {ρ:Env}:∀{l:List A} {os:List O},my k l=some os->(∀a∈l,A.ok n nb ρ a)->∀o∈os,O.bM n o
 |[],os,h,_=>by simp[my]at h;subst h;intro x hx;simp at hx
 | .int bD x::s,os,h,b2=>by
  simp only[my]at h;cases hc:decide (k=bD)with
  |false=>simp[hc]at h
  |true=>
   cases hr:my k s with
   |none=>simp[hc,hr]at h
   |some r'=>
    simp only[hc,hr,cond_true,bp]at h;subst h;intro y hy;rcases List.mem_cons.1 hy with hy|hy
    ·rw[hy];have h0:A.ok n nb ρ (.int bD x):=b2 _ (Wb ..);have h0:x.ok n ρ:=h0;exact h0.1
    ·exact aoP hr (λa ha=>b2 a (eS _ ha)) y hy
 | .bool _::_,_,h,_=>by simp[my]at h
 | .ptr .. ::_,_,h,_=>by simp[my]at h
 | .rp .. ::_,_,h,_=>by simp[my]at h
 | .gptr .. ::_,_,h,_=>by simp[my]at h
 | .slc .. ::_,_,h,_=>by simp[my]at h
 | .con _::_,_,h,_=>by simp[my]at h
 | .str _::_,_,h,_=>by simp[my]at h
 | .rows .. ::_,_,h,_=>by simp[my]at h
 | .sl .. ::_,_,h,_=>by simp[my]at h
 | .ep .. ::_,_,h,_=>by simp[my]at h
theorem aV.aFF {c:aV} {a:A} {o:O} {n nb:Nat} {ρ:Env} (h:c.out a=some o) (ha:a.ok n nb ρ):o.bM n:=by
 unfold aV.out at h;split at h
 ·rename_i k _ _ bD x;cases af:decide (k=bD)with
  |false=>simp[af]at h
  |true=>
   simp only[af,cond_true,bp]at h;subst h;have ha:x.ok n ρ:=ha;exact ha.1
 ·simp only[bp]at h;subst h;exact ha.1
 ·simp only[bp]at h;subst h;exact ha
 ·cases h
theorem aoS {n nb:Nat} {ρ:Env}:∀{d:List aV} {l:List A} {os:List O},vQ d l=some os->(∀a∈l,A.ok n nb ρ a)->∀o∈os,O.bM n o
 |[],[],os,h,_=>by simp[vQ]at h;subst h;intro x hx;simp at hx
 |c::d,a::s,os,h,b2=>by
  simp only[vQ]at h;cases h1:c.out a with
  |none=>simp[h1]at h
  |some o=>
   cases h2:vQ d s with
   |none=>simp[h1,h2]at h
   |some aoN=>
    simp only[h1,h2,bp]at h;subst h;intro y hy;rcases List.mem_cons.1 hy with hy|hy
    ·rw[hy];exact aV.aFF h1 (b2 a (Wb ..))
    ·exact aoS h2 (λb hb=>b2 b (eS _ hb)) y hy
 |[],_::_,_,h,_=>by simp[vQ]at h
 |_::_,[],_,h,_=>by simp[vQ]at h
theorem aFE {d:D} {u:W} {os:List O} {n nb:Nat} {ρ:Env} (h:DA d u=some os) (hu:u.ok n nb ρ):∀o∈os,O.bM n o:=by
 unfold DA at h;split at h
 ·rename_i k _ _ bD x;cases af:decide (k=bD)with
  |false=>simp[af]at h
  |true=>
   simp only[af,cond_true,bp]at h;subst h;have hu:x.ok n ρ:=hu;intro o aw;simp at aw;subst aw;exact hu.1
 ·simp only[bp]at h;subst h;intro o aw;simp at aw;subst aw;exact hu
 ·rename_i k n' _ _ l;cases af:aR l.length n' with
  |false=>simp[af]at h
  |true=>
   simp only[af,cond_true]at h;exact aoP h hu
 ·simp only[bp]at h;subst h;intro o aw;simp at aw;subst aw;exact hu.1
 ·exact aoS h hu
 ·cases h
noncomputable def La (bl:List aH):cT->W->M (List O)
 | .d x,u=>match DA x u with|some os=>pure os|none=>fail
 | .rd sh,u=>bind (UA sh bl (.w u)) λl=>pure [.l l]
 | .te sh e,u=>bind (adu sh e bl (.w u)) λl=>pure [.l l]
noncomputable def UD (bl:List aH):List cT->List W->M (List O)
 |[],[]=>pure []
 |b::r,u::s=>bind (La bl b u) λa=>bind (UD bl r s) λc=>pure (a++c)
 |_,_=>fail
noncomputable def PO (bl:List aH) (ds:List cT) (v:V):M (List O):=
 match v with
 | .w u=>match ds with|[d]=>La bl d u|_=>fail
 | .jG l=>match ds with|[_]=>fail|_=>UD bl ds l
 |_=>fail
def O.toW:O->W
 |l x=> .one (.int .u8 ⟨x,0,0⟩)
 |b x=> .one (.bool x)
def W.toO:W->O
 | .one (.int _ x)=> .l x.l
 | .one (.bool e)=> .b e
 |_=> .l (.const 0)
theorem O.toW_toO (o:O):o.toW.toO=o:=by cases o<;>rfl
def FB (os:List O):V:= .jG (os.map O.toW)
def zF (K:List Int->Prop) (v:V) (ρ:Env):Prop:=
 match v with
 | .jG l=>K (l.map λu=>u.toO.den ρ)
 |_=>False
theorem XM {K:List Int->Prop} {os:List O} {ρ:Env}:zF K (FB os) ρ=K (os.map (O.den ρ)):=by
 unfold zF FB;simp only[om]
 congr 1
 exact kK λo _=>by simp[V5,O.toW_toO]
section
variable {S:Nat->List Int->List Int->Prop} {L:V->Env->Prop} {w0:eV} {P:bU} {w:aC}
theorem Gu.mono {N L2:Nat->Prop} {sh:List aV} {e:bw} {rows:List (List Int)} {v:a6} (h:Gu N w sh e rows v) (cB:∀g,N g->L2 g):Gu L2 w sh e rows v:=by
 rcases h with h|⟨g,cap,cells,h1,h2,h3,h4⟩
 ·exact .inl h
 ·exact .inr ⟨g,cap,cells,h1,h2,cB g h3,h4⟩
def Xs (w0:eV) (g:Nat):Prop:=w0.ex g∨w0.ro g∨w0.r.heap.size<=g
theorem api {d:cT} {u:W} {n:Nat} {ρ:Env} {m:Nat->Nat} {bl:List aH} (hex:∀g,¬w0.ex g) (hb:dg n bl.length ρ bl) (hw:Mem w0 ρ m bl w) (hu:u.ok n bl.length ρ):
 aB S L (La bl d u) n ρ λad n' os=>(∀o∈os,O.bM n' o)/\os.length=d.num/\(d.HF=false->ay d.bds (os.map (O.den ad)))/\∀zs,d.at (Xs w0) (λg=>w0.r.heap.size<=g) w (os.map (O.den ad)++zs) (u.den ρ m):=by
 cases d with
 |d x=>
  unfold La;cases aw:DA x u with
  |none=>simp only[aw];exact aB.fail
  |some os=>
   simp only[aw];have:=ads (ρ:=ρ) (m:=m) aw;exact aB.pure ⟨aFE aw hu,this.1,λh=>(by simp[cT.HF]at h),λzs=>(this.2 zs).symm⟩
 |rd sh=>
  unfold La;refine(ao8 (v:= .w u) hb hw hu rfl).bind λbg bk l hn ha ⟨g1,g2,g3⟩=>aB.pure ⟨λo aw=>by simp at aw;subst aw;exact g1,rfl,λ_=>⟨g2.1,g2.2,trivial⟩,λzs=>?_⟩;exact g3.mono λg hg=>hg.2
 |te sh e=>
  unfold La;refine(aFH (v:= .w u) hex hb hw hu rfl).bind λbg bk l hn ha ⟨g1,g2,g3⟩=>aB.pure ⟨λo aw=>by simp at aw;subst aw;exact g1,rfl,λ_=>⟨g2.1,g2.2,trivial⟩,λzs=>g3⟩
theorem aC2 {n:Nat} {ρ ad:Env} {os:List O} (h:∀x∈os,O.bM n x) (ha:agree n ρ ad):os.map (O.den ad)=os.map (O.den ρ):=kK λx hx=>O.ch ha (h x hx)
theorem apj {m:Nat->Nat} {bl:List aH} (hex:∀g,¬w0.ex g):∀{ds:List cT} {us:List W} {n:Nat} {ρ:Env},dg n bl.length ρ bl->Mem w0 ρ m bl w->(∀u∈us,W.ok n bl.length ρ u)->
 aB S L (UD bl ds us) n ρ λad n' os=>(∀o∈os,O.bM n' o)/\ni (Xs w0) (λg=>w0.r.heap.size<=g) w ds (os.map (O.den ad)) (us.map (W.den ρ m))
 |[],[],n,ρ,_,_,_=>aB.pure ⟨λ_ h=>by simp at h,trivial⟩
 |b::r,u::s,n,ρ,hb,hw,hu=>by
  unfold UD;refine(api hex hb hw (hu u (by simp))).bind λbg bk a hn ha ⟨g1,g2,_,g3⟩=>?_;refine(apj (ds:=r) (us:=s) hex (hb.ext ha hn (bS _)) (hw.tj hb ha) (λx hx=>(hu x (eS _ hx)).ext ha hn (bS _))).bind λb0 gF c gU eJ ⟨k1,k2⟩=>aB.pure ⟨λo aw=>?_,?_⟩
  ·rcases List.mem_append.1 aw with aw|aw
   ·have:=g1 o aw;cases o with
    |l x=>exact U.bM.mono this gU
    |b x=>exact bH.bM.mono gU this
   ·exact k1 o aw
  ·rw[jd,aC2 g1 eJ];refine⟨g3 _,?_⟩;rw[<-g2,<-qQ (f:=O.den bg) (as:=a),Ge];have e:s.map (W.den ρ m)=s.map (W.den bg m):=kK λx hx=>(W.oA (hu x (eS _ hx)) ha (λ_ _=>rfl)).symm;rw[e];exact k2
 |[],_::_,_,_,_,_,_=>aB.fail
 |_::_,[],_,_,_,_,_=>aB.fail
theorem ad4 {ds:List cT} {v:V} {val:a6} {n:Nat} {ρ:Env} {m:Nat->Nat} {bl:List aH} (hex:∀g,¬w0.ex g) (hb:dg n bl.length ρ bl) (hw:Mem w0 ρ m bl w) (hv:v.ok n bl.length ρ) (hr:v.rel ρ m val):
 aB S L (PO bl ds v) n ρ λad n' os=>∃us,val=xL us/\ni (Xs w0) (λg=>w0.r.heap.size<=g) w ds (os.map (O.den ad)) us:=by
 unfold PO;split
 ·rename_i u;split
  ·rename_i d;refine(api hex hb hw hv).mono λbg bk os hn ha ⟨g1,g2,_,g3⟩=>⟨[u.den ρ m],hr,?_,trivial⟩;have:=g3 []
   rwa [iq]at this
  ·exact aB.fail
 ·rename_i l;split
  ·exact aB.fail
  ·rename_i dz;refine(apj (ds:=ds) hex hb hw hv).mono λbg bk os hn ha ⟨g1,g2⟩=>⟨l.map (W.den ρ m),?_,g2⟩;have hr:val= .tuple (l.map (W.den ρ m)).toArray:=hr;rw[hr];unfold xL;split
   ·rename_i x hx;exfalso;have hl:l.length=1:=by have:=congrArg qP hx;simpa using this
    match ds,l,hl,g2,dz with
    |[d],[u],_,_,dz=>exact dz d rfl
    |[],[u],_,g2,_=>simp[ni]at g2
    |_::_::_,[u],_,g2,_=>simp[ni]at g2
   ·rfl
 ·exact aB.fail
def KF (i:Nat):U:=⟨0,[(1,i)]⟩
theorem TM (ρ:Env) (zs:List Int):((ga zs.length).map KF).map (·.den (bO ρ 0 zs))=zs:=by
 refine anI (by simp) λj aO=>?_;have aO:j<zs.length:=by simpa using aO
 have:=kr.bO ρ 0 zs j aO;rw[A2]at this;simp[KF,U.den,kB,I,aO]at this⊢;exact this
noncomputable def fE.tree (bc:qT) (P:bU) (gl:fO) (cal:gy) (li:dD->Nat->Option gz) (rounds d:Nat) (c:fE):T:=
 cond (tv c.args&& !(c.args.any cT.tQ)) (Ug c.pre ((ga (dF c.args).length).map KF) (zI c.args 0 (dF c.args).length [] [] λn us bl=>Jr bc P gl cal li rounds d c.f n (us.map V.w) bl λn' v bx=>PO bx c.res v n' λos _=> .leaf (FB os))) .stuck
theorem XF {ρ:Env} {m:Nat->Nat}:∀{us:List W} {xs:List a6},us.map (W.den ρ m)=xs->gb ρ m (us.map V.w) xs
 |[],[],_=>trivial
 |u::us,x::xs,h=>by
  simp only[dk,mh]at h;exact⟨h.1.symm,XF h.2⟩
 |[],_::_,h=>by simp at h
 |_::_,[],h=>by simp at h
noncomputable def jZ:List fE->qT
 |[],_=>none
 |c::r,f=>cond (aR c.f f) (some c.E) (jZ r f)
theorem nS {wb:aC} {r:aC} {ex ro:Nat->Prop}:∀{l:List fE},(∀c∈l,c.bu P wb (S c.id))->x0 S L ⟨wb,r,ex,ro,[]⟩ P (jZ l)
 |[],_=>λf g h=>by cases h
 |c::l,h=>λf g hf=>by
  unfold jZ at hf;cases hb:aR c.f f with
  |true=>
   rw[hb]at hf;simp only[cond_true,bp]at hf;have:=bV hb;subst this;subst hf;intro n vs bl k G ρ m w xs R' h1 h2 h3 h4 h5 h6;exact fE.L0 (w0:=⟨wb,r,ex,ro,[]⟩) (h c (by simp)) (λ_ _ h=>h) n vs bl k G ρ m w xs R' h1 h2 h3 h4 h5 h6
  |false=>
   rw[hb]at hf;exact nS (λc hc=>h c (eS _ hc)) f g hf
theorem fE.OU {wb:aC} {gl:fO} {c:fE} {bc:qT} {cal:gy} {li:dD->Nat->Option gz} {rounds d:Nat} {spec:List Int->List Int->Prop} (hm:P.follows .mixedOrders=true) (c8:∀r ex ro,iD S P gl ⟨wb,r,ex,ro,[]⟩ cal) (hg:gJ gl ⟨wb,wb,λ_=>False,λ_=>False,[]⟩)
 (oD:∀(L:V->Env->Prop) (r:aC) (ro:Nat->Prop),x0 S L ⟨wb,r,λ_=>False,ro,[]⟩ P bc) (hf:∀args w,(callFunc c.f args).run P w= .ok (.enter c.f args) w)
 (aA:kx (dF c.args) λzs=>(c.tree bc P gl cal li rounds d).holds S (zF λrs=>ay (dF c.res) rs/\spec zs rs) (λ_ _=>False) (bO (λ_=>0) 0 zs)):c.bu P wb spec:=by
 refine⟨hf,λF w vs zs hw hz NJ hat=>?_⟩;have ae:=nh aA hz;have xh:=dn hz;unfold fE.tree at ae;cases ai:(tv c.args&& !(c.args.any cT.tQ))with
 |false=>rw[ai]at ae;exact ae.elim
 |true=>
  rw[ai]at ae;simp only[cond_true]at ae;have ae:=preA_holds ae (by rw[<-xh,TM];exact NJ);simp only[bA,cy]at ai;have nx:Mem ⟨wb,w,λ_=>False,F,[]⟩ (bO (λ_=>0) 0 zs) (λ_=>0) [] w:=⟨hw,rfl,rfl,rfl,bS _,λ_ _ _=>rfl,λi cs t h=>by simp at h,λi sh off code cap kind t h=>by simp at h,λi j p q h=>by simp at h⟩;have jR:(c.args.all λb=> !b.tQ)=true:=by
   rw[LK];intro b hb;cases iG:b.tQ with
   |false=>rfl
   |true=>rw[List.any_eq_true.2 ⟨b,hb,iG⟩]at ai;cases ai.2
  obtain⟨n',ad,m',us,bl,b1,bY,dH,h8,il,ix⟩:=GD (S:=S) (L:=_) (w0:=⟨wb,w,λ_=>False,F,[]⟩) (F:=F) (N:=λ_=>False) (λg hg=> .inr (.inl hg)) (λg hg=>hg.elim) (l:=c.args) (s:=0) (us:=[]) (bl:=[]) (m:=λ_=>0) ai.1 (λp hp=>by simp at hp) nx (kr.bO _ 0 zs) hz (by omega) hat (.inr λi p h=>by simp at h) (.inl jR) (λu hu=>by simp at hu) ae;have aaP:gJ gl ⟨wb,w,λ_=>False,F,[]⟩:=hg;refine(Rr (S:=S) (w0:=⟨wb,w,λ_=>False,F,[]⟩) rfl hm (c8 w (λ_=>False) F) aaP (oD _ _ _) d c.f n' (us.map V.w) bl _ _ ad m' w vs _ bY dH (λv hv=>by
   obtain⟨u,hu,rfl⟩:=List.mem_map.1 hv;exact il u hu) (XF (by simpa using h8)) ix ?_).2
  intro gF v bx e7 b0 e5 w' val h1 h2 h3 h4 h5 h6 h7;obtain⟨je,tZ,os,Da,w5,⟨xs,tO,BF⟩,hl⟩:=ad4 (S:=S) (w0:=⟨wb,w,λ_=>False,F,[]⟩) (λg hg=>hg) h5 h6 h3 h4 e7 _ h7;have hl:zF _ (FB os) je:=hl;rw[XM]at hl;refine⟨?_,os.map (O.den je),xs,hl.1,hl.2,?_,by rw[tO]⟩
  ·have uN:∀i:Nat,i<w.heap.size->w'.heap[i]?=w.heap[i]?:=λi hi=>h6.j1 i hi λh=>h;exact⟨h6.km,h6.mU,h6.l8,h6.iW,λa ha=>by simp only[pw,uN a.block ha],λa ha=>by simp only[Gd,uN a.block ha],uN⟩
  ·exact Jl (λg hg=>by
    rcases hg with hg|hg|hg
    ·exact hg.elim
    ·exact .inl hg
    ·exact .inr hg) (λg hg=>hg) BF
where
 Jl {F Ej N L2:Nat->Prop} {w:aC} (hF:∀g,F g->Ej g) (cB:∀g,N g->L2 g):∀{ds:List cT} {zs:List Int} {vs:List a6},ni F N w ds zs vs->ni Ej L2 w ds zs vs
 |[],_,[],_=>trivial
 | .d x::r,zs,v::vs,h=>⟨h.1,Jl hF cB h.2⟩
 | .rd sh::r,zs,v::vs,h=>⟨CG.mono h.1 hF,Jl hF cB h.2⟩
 | .te sh e::r,zs,v::vs,h=>⟨Gu.mono h.1 cB,Jl hF cB h.2⟩
 |[],_,_::_,h=>h.elim
 |_::_,_,[],h=>by simp[ni]at h
end
def cT.nums:cT->List Nat
 | .d x=>x.nums
 |_=>[1]
def Dx (ds:List cT):List Nat:=ds.flatMap cT.nums
def XL (ds:List cT) (K:List (List Int)->Prop) (v:V) (st:kt) (bf:ks):Prop:=
 match v with
 | .jG l=>K ((cg (Dx ds) (l.map W.toO)).map (Lh st bf))
 |_=>False
theorem atH {ds:List cT} {K:List (List Int)->Prop} (v:V) (ρ:Env) (st:kt) (bf:ks) (aA:sF ρ st bf) (h:XL ds K v st bf):zF (λrs=>K (cg (Dx ds) rs)) v ρ:=by
 unfold XL at h;unfold zF;split at h
 ·rename_i l;have e:l.map (λu=>u.toO.den ρ)=(l.map W.toO).map (O.den ρ):=by simp
  simp only[e];rw[US]
  rwa [show(cg (Dx ds) (l.map W.toO)).map (Lh st bf)=(cg (Dx ds) (l.map W.toO)).map (List.map (O.den ρ)) from kK λo _=>ap2 aA o]at h
 ·exact h.elim
def lY (sh:Nat->List Nat×List Nat) (lsh:Nat->List Nat) (S:Nat->List (List Int)->List (List Int)->Prop) (K:List (List Int)->List (List Int)->Prop) (lens:List Nat) (bds:List (Int×Int)) (ds:List cT) (t:T):Prop:=
 Et lens 0 bds (λst bf zs=>t.qy sh lsh S (XL ds (K zs)) (λ_ _=>False) st bf) [] []
theorem X4 {sh:Nat->List Nat×List Nat} {lsh:Nat->List Nat} {S:Nat->List (List Int)->List (List Int)->Prop} {K:List (List Int)->List (List Int)->Prop} {lens:List Nat} {bds:List (Int×Int)} {ds:List cT} {t:T}
 (h:lY sh lsh S K lens bds ds t):kx bds λzs=>t.holds (e1 sh S) (zF λrs=>K (cg lens zs) (cg (Dx ds) rs)) (λ_ _=>False) (bO (λ_=>0) 0 zs):=by
 refine uw λzs hi=>?_;obtain⟨st,bf,h1,h2⟩:=Jj h (show sF (λ_=>0) [] [] from⟨trivial,λ_=>rfl⟩) hi;exact q7 (λv ρ st bf aA hl=>atH v ρ st bf aA hl) t _ _ _ st bf (λ_ _ hf=>hf.elim) h1 h2
end Go.bX
namespace Go.bX
open M
structure jL where
 c:br
 pre:Nat
def jL.bu (P:bU) (wb:aC) (q:jL) (spec:List Int->List Int->Prop):Prop:=
 ∀zs,ay (aU q.c.args) zs->az q.pre zs->∃rs,ay (aU q.c.res) rs/\spec zs rs/\∀w,wb.Extends w->x2 P q.c.f (p1 q.c.args zs).toArray w (oc q.c.res rs)
noncomputable def jL.M (q:jL):List aH->List V->M V:=λ_ vs n k=>
 match uK q.c.args vs with
 |some l=> .tA q.pre l (.call q.c.id l n (aU q.c.res) (k (Ij q.c.res n) (n+(aU q.c.res).length)))
 |none=> .stuck
noncomputable def ff (K1:List jL) (cons:List br):gy:=λf=>
 match K1.filter (λq=>aR f q.c.f)with
 |[]=>Rq cons f
 |l=>some λbl vs n k=>match l.find? (λq=>(uK q.c.args vs).isSome)with
  |some q=>q.M bl vs n k
  |none=>match Rq cons f with
   |some g=>g bl vs n k
   |none=> .stuck
section
variable {S:Nat->List Int->List Int->Prop} {P:bU} {gl:fO} {w0:eV}
theorem jL.snd {q:jL} {spec:List Int->List Int->Prop} (hc:q.bu P w0.b spec) (iK:∀zs rs,spec zs rs->S q.c.id zs rs) (L:V->Env->Prop) (n:Nat) (ρ:Env) (m:Nat->Nat) (bl:List aH) (vs:List V) (xs:List a6)
 (lO:∀v∈vs,V.ok n bl.length ρ v) (hr:gb ρ m vs xs):aB S L (q.M bl vs) n ρ λad n' v=>v.ok n' bl.length ad/\∃val,v.rel ad m val/\∀w,Mem w0 ρ m bl w->x2 P q.c.f xs.toArray w val:=by
 intro G k af;unfold jL.M at af;cases hl:uK q.c.args vs with
 |none=>simp[hl,T.holds]at af
 |some l=>
  simp only[hl]at af;obtain⟨o4,af⟩:=af;obtain⟨h1,h2⟩:=RV hl lO hr;obtain⟨rs,r1,r2,ig⟩:=hc _ h1 o4;have ae:=Rs af r1 (iK _ _ r2);have hlen:=dn r1;have pM:=UE (m:=m) (nb:=bl.length) (N:=n+(aU q.c.res).length) r1 (kr.bO ρ n rs) (bS _);refine⟨_,_,_,LN _ _,agree.bO rs n ρ,⟨pM.1,_,pM.2,λw hw=>?_⟩,ae⟩;rw[h2]at ig;exact ig w hw.ext
theorem hh {K1:List jL} {cons:List br} (ai:∀q∈K1,q.bu P w0.b (S q.c.id)) (hc:∀c∈cons,c.A7 P w0.b (S c.id)):iD S P gl w0 (ff K1 cons):=by
 intro f g kX L n ρ m bl vs xs h1 h2 h3 h4;unfold ff at kX;split at kX
 ·exact ajA (gl:=gl) hc f g kX L n ρ m bl vs xs h1 h2 h3 h4
 ·rename_i l hl;simp only[bp]at kX;subst kX;intro G k af;simp only at af;split at af
  ·rename_i q Nb;have e3:=List.mem_filter.1 (IY Nb);have Hl:=bV e3.2;subst Hl;exact jL.snd (ai q e3.1) (λ_ _ h=>h) L n ρ m bl vs xs h3 h4 G k af
  ·split at af
   ·rename_i l6 BB;exact ajA (gl:=gl) hc f l6 BB L n ρ m bl vs xs h1 h2 h3 h4 G k af
   ·exact af.elim
end
end Go.bX
namespace Go.bX
section
variable {S:Nat->List Int->List Int->Prop} {P:bU} {gl:fO} {wb:aC}
def ki (args res:List D) (spec:List Int->List Int->Prop):Prop:=∀zs rs cK,ay (aU args) zs->ay (aU res) rs->ay (aU res) cK->spec zs rs->spec zs cK->oc res rs=oc res cK
theorem br.adb {c:br} {cal:gy} {li:dD->Nat->Option gz} {rounds d:Nat} {spec:List Int->List Int->Prop} (hm:P.follows .mixedOrders=true) (c8:∀r ex ro,iD S P gl ⟨wb,r,ex,ro,[]⟩ cal) (hg:gJ gl ⟨wb,wb,λ_=>False,λ_=>False,[]⟩)
 (hf:∀args w,(callFunc c.f args).run P w= .ok (.enter c.f args) w) (hu:ki c.args c.res spec)
 (aA:kx (aU c.args) λzs=>(c.tree P gl cal li rounds d).holds S (kh c.res λrs=>ay (aU c.res) rs/\spec zs rs) (λ_ _=>False) (bO (λ_=>0) 0 zs)):c.bu P wb spec:=by
 refine⟨hf,λzs hz=>?_⟩;have h0:=br.calls hm c8 hg hz (nh aA hz) wb (sA wb);obtain⟨e,w',v,ad,m,val,h1,h2,h3,h4⟩:=Calls.some h0;obtain⟨rs,⟨hb,hs⟩,hv⟩:=A5 h3 h2;refine⟨rs,hb,hs,λw hw=>?_⟩;refine(br.calls hm c8 hg hz (nh aA hz) w hw).mono λe w' ⟨v,ad,m,val,h1,h2,h3,h4⟩=>?_;obtain⟨cK,⟨nW,Hv⟩,xg⟩:=A5 h3 h2;rw[hu zs cK rs hz nW hb Hv hs]at xg;exact⟨by rw[h1,xg],h4⟩
noncomputable def jL.tree (P:bU) (gl:fO) (cal:gy) (li:dD->Nat->Option gz) (rounds d:Nat) (q:jL):T:=
 .wJ q.pre ((ga (aU q.c.args).length).map KF) (q.c.tree P gl cal li rounds d)
theorem jL.adb {q:jL} {cal:gy} {li:dD->Nat->Option gz} {rounds d:Nat} {spec:List Int->List Int->Prop} (hm:P.follows .mixedOrders=true) (c8:∀r ex ro,iD S P gl ⟨wb,r,ex,ro,[]⟩ cal) (hg:gJ gl ⟨wb,wb,λ_=>False,λ_=>False,[]⟩)
 (hf:∀args w,(callFunc q.c.f args).run P w= .ok (.enter q.c.f args) w) (hu:ki q.c.args q.c.res spec)
 (aA:kx (aU q.c.args) λzs=>(q.tree P gl cal li rounds d).holds S (kh q.c.res λrs=>ay (aU q.c.res) rs/\spec zs rs) (λ_ _=>False) (bO (λ_=>0) 0 zs)):q.bu P wb spec:=by
 intro zs hz hp;have o6:=nh aA hz;have hl:=dn hz;unfold jL.tree at o6;rw[<-hl]at o6;have o6:=o6 (by rw[TM];exact hp);have h0:=br.calls hm c8 hg hz o6 wb (sA wb);obtain⟨e,w',v,ad,m,val,h1,h2,h3,h4⟩:=Calls.some h0;obtain⟨rs,⟨hb,hs⟩,hv⟩:=A5 h3 h2;refine⟨rs,hb,hs,λw hw=> .inr ⟨hf _ _,?_⟩⟩;refine(br.calls hm c8 hg hz o6 w hw).mono λe w' ⟨v,ad,m,val,h1,h2,h3,h4⟩=>?_;obtain⟨cK,⟨nW,Hv⟩,xg⟩:=A5 h3 h2;rw[hu zs cK rs hz nW hb Hv hs]at xg;exact⟨by rw[h1,xg],h4⟩
end
theorem vf {α:Type}:∀(n7:List Nat) (l:List α),(cg n7 l).flatten=l
 |[],[]=>rfl
 |[],_::_=>by simp[cg]
 |k::n7,l=>by simp only[cg,qO,vf n7,oQ]
section
variable {P:bU} {gl:fO} {wb:aC} {sh:Nat->List Nat×List Nat} {SB:Nat->List (List Int)->List (List Int)->Prop}
def jX (SB:Nat->List (List Int)->List (List Int)->Prop) (res:List D) (id:Nat):List (List Int)->List (List Int)->Prop:=λzs rs=>ay (aU res) rs.flatten/\SB id zs rs
theorem aqS {lsh:Nat->List Nat} {id:Nat} {lens:List Nat} {bds:List (Int×Int)} {ds:List D} {t:T} (hl:lens=(sh id).1) (hd:ua ds=(sh id).2) (h:dE sh lsh SB (jX SB ds id) lens bds ds t):
 kx bds λzs=>t.holds (e1 sh SB) (kh ds λrs=>ay (aU ds) rs/\e1 sh SB id zs rs) (λ_ _=>False) (bO (λ_=>0) 0 zs):=by
 refine uw λzs hz=>?_;have h:=nh (L8 h) hz;simp only[jX,vf]at h;rw[hl,hd]at h;exact h
theorem aFt {c:br} {cal:gy} {li:dD->Nat->Option gz} {rounds d:Nat} {lsh:Nat->List Nat} {lens:List Nat} (hm:P.follows .mixedOrders=true) (c8:∀r ex ro,iD (e1 sh SB) P gl ⟨wb,r,ex,ro,[]⟩ cal) (hg:gJ gl ⟨wb,wb,λ_=>False,λ_=>False,[]⟩)
 (hf:Bv P c.f=true) (hu:ki c.args c.res (e1 sh SB c.id)) (hl:lens=(sh c.id).1) (hd:ua c.res=(sh c.id).2)
 (hv:dE sh lsh SB (jX SB c.res c.id) lens (aU c.args) c.res (c.tree P gl cal li rounds d)):c.bu P wb (e1 sh SB c.id):=
 br.adb hm c8 hg (enters hf) hu (aqS hl hd hv)
theorem aJc {q:jL} {cal:gy} {li:dD->Nat->Option gz} {rounds d:Nat} {lsh:Nat->List Nat} {lens:List Nat} (hm:P.follows .mixedOrders=true) (c8:∀r ex ro,iD (e1 sh SB) P gl ⟨wb,r,ex,ro,[]⟩ cal) (hg:gJ gl ⟨wb,wb,λ_=>False,λ_=>False,[]⟩)
 (hf:Bv P q.c.f=true) (hu:ki q.c.args q.c.res (e1 sh SB q.c.id)) (hl:lens=(sh q.c.id).1) (hd:ua q.c.res=(sh q.c.id).2)
 (hv:dE sh lsh SB (jX SB q.c.res q.c.id) lens (aU q.c.args) q.c.res (q.tree P gl cal li rounds d)):q.bu P wb (e1 sh SB q.c.id):=
 jL.adb hm c8 hg (enters hf) hu (aqS hl hd hv)
end
end Go.bX
namespace Go.bX
open Go.ChangeShapes Go.WideShapes Go.RowKit
variable {H:Type} {enc:bw×a6->H} {P:bU}
def Li (g:bw->Option (List aV)) (cells:bw->Nat):List Field->Nat->Option (List aV)
 |[],_=>some []
 |f::r,o=>match g f.type,Li g cells r (o+cells f.type)with
  |some l,some m=>cond (aR f.offset o&&aR (cells f.type) l.length) (some (l++m)) none
  |_,_=>none
def DQ (P:bU):Nat->bw->Option (List aV)
 |0,_=>none
 |d+1,t=>match P.underlying t with
  |some (.int k)=>some [.int k k.min k.max]
  |some .string=>some [.str]
  |some .bool=>some [.bool]
  |some (.struct fs)=>Li (DQ P d) P.cellsOf fs.toList 0
  |some (.array n e)=>match DQ P d e with
   |some l=>cond (aR (P.cellsOf e) l.length) (some (fD n l).flatten) none
   |none=>none
  |_=>none
theorem cP.append:∀{a b:List aV} {x y:List Int},cP a x->cP b y->cP (a++b) (x++y)/\eu (a++b) (x++y)=eu a x++eu b y
 |[],_,[],_,_,h=>⟨h,rfl⟩
 |_::_,_,_::_,_,h,aP=>by
  have:=cP.append h.2 aP;exact⟨⟨h.1,this.1⟩,by simp only[jJ,eu,this.2]⟩
 |[],_,_::_,_,h,_=>h.elim
 |_::_,_,[],_,h,_=>h.elim
def XP (enc:bw×a6->H) (P:bU) (w:aC) (base:Nat) (spare:Nat->Bool) (held:Bool) (t:bw) (sh:List aV):Prop:=
 ∀(n:Nat) (cs:List a6) (x:p3 H×List AZ),af2 enc P w base spare held n t cs=some x->cs.length=sh.length->(∀m∈x.1.weights P t,m<=reachBytes)->
  ∃zs,cP sh zs/\cs=eu sh zs/\x.2=[]
theorem aoL {base n:Nat} {w:aC} {spare:Nat->Bool} {held:Bool} {g:bw->Option (List aV)} (hg:∀t sh,g t=some sh->XP enc P w base spare held t sh) {cs:List a6}:∀(fs:List Field) (o:Nat) (sh:List aV) (xs:List (p3 H×List AZ)),Li g P.cellsOf fs o=some sh->cs.length=o+sh.length->xs.length=fs.length->
 (∀(j:Nat) (f:Field),fs[j]?=some f->af2 enc P w base spare held n f.type ((cs.drop f.offset).take (P.cellsOf f.type))=xs[j]?)->
 (∀m∈Wl P (fs.map (·.type)) (xs.map (·.1)),m<=reachBytes)->
 ∃zs,cP sh zs/\cs.drop o=eu sh zs/\xs.flatMap (·.2)=[]
 |[],o,sh,xs,h,hl,hx,_,_=>by
  simp only[Li,bp]at h;subst h;have:xs=[]:=List.length_eq_zero_iff.1 (by simpa using hx);subst this;exact⟨[],trivial,IT (by simp at hl;omega),rfl⟩
 |f::fs,o,sh,[],_,_,hx,_,_=>by simp at hx
 |f::fs,o,sh,x::xs,h,hl,hx,hf,hw=>by
  unfold Li at h;cases h1:g f.type with
  |none=>simp[h1]at h
  |some l=>
   cases h2:Li g P.cellsOf fs (o+P.cellsOf f.type)with
   |none=>simp[h1,h2]at h
   |some m=>
    simp only[h1,h2]at h;cases hc:(aR f.offset o&&aR (P.cellsOf f.type) l.length)with
    |false=>simp[hc]at h
    |true=>
     simp only[hc,cond_true,bp]at h;subst h;simp only[bA]at hc;have ar:=bV hc.1;have aG:=bV hc.2;have h0:=hf 0 f rfl;simp only[xZ]at h0;simp only[dk,Wl,zB]at hw;simp only[gx]at hl;obtain⟨zs,bG,a2,a3⟩:=hg f.type l h1 n ((cs.drop f.offset).take (P.cellsOf f.type)) x h0 (by rw[p6,p4,ar,aG];omega) λm' hm=>hw m' (.inl hm);obtain⟨iN,bQ,b9,dh⟩:=aoL (cs:=cs) hg fs (o+P.cellsOf f.type) m xs h2 (by omega) (by simpa using hx) (λj qo aO=>by simpa using hf (j+1) qo (by simpa using aO)) λm' hm=>hw m' (.inr hm);have M5:=cP.append bG bQ;refine⟨zs++iN,M5.1,?_,by simp[a3,dh]⟩;rw[M5.2,<-a2,<-b9,ar,<-Cs];exact(oQ _ _).symm
theorem aoK {base n:Nat} {w:aC} {spare:Nat->Bool} {held:Bool} {e:bw} {l:List aV} (hg:XP enc P w base spare held e l) (hc:P.cellsOf e=l.length) {cs:List a6}:∀(k i:Nat) (xs:List (p3 H×List AZ)),cs.length=(i+k)*l.length->xs.length=k->
 (∀j,j<k->af2 enc P w base spare held n e ((cs.drop ((i+j)*P.cellsOf e)).take (P.cellsOf e))=xs[j]?)->
 (∀m∈Wm P e (xs.map (·.1)),m<=reachBytes)->
 ∃zs,cP (fD k l).flatten zs/\cs.drop (i*l.length)=eu (fD k l).flatten zs/\xs.flatMap (·.2)=[]
 |0,i,xs,hl,hx,_,_=>by
  have:xs=[]:=List.length_eq_zero_iff.1 hx;subst this;exact⟨[],trivial,IT (by rw[hl];exact bS _),rfl⟩
 |k+1,i,[],_,hx,_,_=>by simp at hx
 |k+1,i,x::xs,hl,hx,hf,hw=>by
  have h0:=hf 0 (Nat.succ_pos k);simp only[xZ,pv]at h0;simp only[dk,Wm,zB]at hw;have Sk:cs.length=i*l.length+(l.length+k*l.length):=by rw[hl,Nat.add_mul,Cv];omega
  obtain⟨zs,bG,a2,a3⟩:=hg n _ x h0 (by rw[p6,p4,hc];omega) λm' hm=>hw m' (.inl hm);obtain⟨iN,bQ,b9,dh⟩:=aoK hg hc k (i+1) xs (by rw[hl];congr 1;omega) (by simpa using hx) (λj aO=>by
   have:=hf (j+1) (by omega);rw[show i+(j+1)=i+1+j by omega]at this;simpa using this) λm' hm=>hw m' (.inr hm)
  have M5:=cP.append bG bQ;refine⟨zs++iN,by rw[Gj,qO];exact M5.1,?_,by simp[a3,dh]⟩;rw[Gj,qO,M5.2,<-a2,<-b9,hc,Cv,<-Cs];exact(oQ _ _).symm
theorem T6 {base:Nat} {w:aC} {spare:Nat->Bool} {held:Bool}:∀(d:Nat) (t:bw) (sh:List aV),DQ P d t=some sh->XP enc P w base spare held t sh
 |0,t,sh,h=>by simp[DQ]at h
 |d+1,t,sh,h=>by
  have ih:=T6 (base:=base) (w:=w) (spare:=spare) (held:=held) d;intro n cs x hx hl hw;unfold DQ at h;split at h
  ·rename_i k hu;simp only[bp]at h;subst h;obtain⟨z,rfl,rfl,abp⟩:=ash hu hx;have:=aqT.1 abp;exact⟨[z],⟨this,trivial⟩,rfl,rfl⟩
  ·rename_i hu;simp only[bp]at h;subst h;obtain⟨s,rfl,rfl,hs⟩:=aPt hu hx;have hb:s.data.toList.length<=tY:=hw _ (by simp[Wn]);refine⟨[l5 s.data.toList],⟨⟨Mn _,Jb hb⟩,trivial⟩,?_,rfl⟩;simp[eu,aV.val,Iu,iu]
  ·rename_i hu;simp only[bp]at h;subst h;obtain⟨b,rfl,rfl⟩:=DataW.trod_bool hu hx;refine⟨[cond b 1 0],⟨?_,trivial⟩,?_,rfl⟩
   ·cases b<;>simp[aV.ia]
   ·cases b<;>simp[eu,aV.val]
  ·rename_i fs hu;obtain⟨xs,m,rfl,rfl,hlen,hn,J0⟩:=DataW.trod_struct hu hx;simp only[Wn,hu]at hw;obtain⟨zs,bG,a2,a3⟩:=aoL (n:=m) ih fs.toList 0 sh xs h (by omega) (by rw[hn];simp) (λj f aO=>J0 j f (by simpa using aO)) hw;exact⟨zs,bG,by simpa using a2,a3⟩
  ·rename_i k e hu;cases h1:DQ P d e with
   |none=>simp[h1]at h
   |some l=>
    simp only[h1]at h;cases hc:aR (P.cellsOf e) l.length with
    |false=>simp[hc]at h
    |true=>
     simp only[hc,cond_true,bp]at h;subst h;have hc:=bV hc;obtain⟨xs,m,rfl,rfl,hlen,hn,J0⟩:=aOL hu hx;simp only[Wn,hu]at hw;have mR:(fD k l).flatten.length=k*l.length:=by simp
     obtain⟨zs,bG,a2,a3⟩:=aoK (n:=m) (ih e l h1) hc k 0 xs (by rw[hl,mR];simp) hn (λj aO=>by
      have:=J0 j aO;simpa using this) hw
     exact⟨zs,bG,by simpa using a2,a3⟩
  ·cases h
theorem aJC {fits:bw->Bool}:∀(d:Nat) (e:bw) (count off n:Nat),rowAt P fits d e count off n=true->off<=count*P.cellsOf e
 |0,_,_,_,_,h=>by simp[rowAt]at h
 |d+1,e,count,off,n,h=>by
  unfold rowAt at h
  dsimp only at h
  split at h
  ·cases h
  ·rename_i hs;have azq:=V1 off (P.cellsOf e);have hlt:=Qm off (Nat.pos_of_ne_zero hs);rw[Ea]at h;rcases h with h|h
   ·simp only[bA,beq_iff_eq,decide_eq_true_eq]at h;have h1:off/P.cellsOf e<=count:=by omega
    have:=Wd (P.cellsOf e) h1;rw[AX count];omega
   ·rw[bA]at h;have h1:off/P.cellsOf e<count:=by simpa using h.1
    have h1:off/P.cellsOf e+1<=count:=h1;have:=Wd (P.cellsOf e) h1;rw[Nat.mul_add,D6]at this;rw[AX count];omega
theorem anG:∀(d:Nat) (e:bw) (count off:Nat) (u:bw) (n:Nat),liesAt P d e count off u n=true->off<=count*P.cellsOf e
 |0,_,_,_,_,_,h=>by simp[liesAt]at h
 |d+1,e,count,off,u,n,h=>by
  unfold liesAt at h;rw[Ea]at h;rcases h with h|h
  ·exact aJC _ _ _ _ _ h
  ·split at h
   ·exact anG d e count off _ _ h
   ·cases h
theorem avz {base:Nat} {w:aC} {a:Addr} {n:Nat} {cs:List a6} (h:w.cells? base a n=some cs):cs.length=n/\∀j,j<n->w.cell? (a.add j)=cs[j]?:=by
 unfold World.cells? at h;split at h
 ·have hl:=List.anE h;refine⟨by simpa using hl,λj aO=>?_⟩;have:=List.akS h j j (by simp[aO]);exact this
 ·cases h
where
 List.anE {α β:Type} {f:α->Option β}:∀{l:List α} {r:List β},l.mapM f=some r->r.length=l.length
  |[],r,h=>by simp at h;subst h;rfl
  |x::l,r,h=>by
   rw[asf]at h;cases hx:f x with
   |none=>simp[hx]at h
   |some y=>
    cases hl:l.mapM f with
    |none=>simp[hx,hl]at h
    |some s=>
     simp[hx,hl]at h;subst h;simp[List.anE hl]
 List.akS {α β:Type} {f:α->Option β}:∀{l:List α} {r:List β},l.mapM f=some r->∀(j:Nat) (x:α),l[j]?=some x->f x=r[j]?
  |[],r,h,j,x,hx=>by simp at hx
  |y::l,r,h,j,x,hx=>by
   rw[asf]at h;cases hy:f y with
   |none=>simp[hy]at h
   |some z=>
    cases hl:l.mapM f with
    |none=>simp[hy,hl]at h
    |some s=>
     simp[hy,hl]at h;subst h;cases j with
     |zero=>simp at hx;subst hx;simp[hy]
     |succ j=>simpa using List.akS hl j x (by simpa using hx)
theorem apv {cells:Array a6} {sh:List aV}:∀(len o:Nat),o<=cells.size->(∀i,i<len->∃zs,cP sh zs/\∀j,j<sh.length->cells[o+i*sh.length+j]?=(eu sh zs)[j]?)->(0<len->0<sh.length)->
 ∃rows:List (List Int),rows.length=len/\pA cells o sh rows
 |0,o,aw,_,_=>⟨[],rfl,λ_ h=>by simp at h,cells.toList.take o,cells.toList.drop o,by simp[cc],by simp;omega⟩
 |len+1,o,aw,h,hp=>by
  obtain⟨zs,bG,a2⟩:=h 0 (Nat.succ_pos _);have hp:=hp (Nat.succ_pos _);have hv:=Io bG;have aaX:=a2 (sh.length-1) (by omega);have hsz:o+sh.length<=cells.size:=by
   have:(eu sh zs)[sh.length-1]?≠none:=by rw[nI (by omega)];simp
   rw[<-aaX]at this;have:=Array.axR.1 this;omega
  obtain⟨rows,bQ,b9,pre,post,dh,mI⟩:=apv len (o+sh.length) hsz (λi hi=>by
   obtain⟨iN,c1,bN⟩:=h (i+1) (by omega);refine⟨iN,c1,λj aO=>?_⟩;rw[<-bN j aO]
   congr 1
   rw[Cv];omega) λ_=>hp
  refine⟨zs::rows,by simp[bQ],λrow hr=>?_,cells.toList.take o,post,?_,by simp;omega⟩
  ·rcases List.mem_cons.1 hr with rfl|hr
   ·exact bG
   ·exact b9 row hr
  ·have ar:pre=cells.toList.take (o+sh.length):=by
    rw[dh,iI,List.take_left' mI]
   have aG:pre=cells.toList.take o++eu sh zs:=by
    rw[ar,List.take_add]
    congr 1
    refine List.ext_getElem? λj=>?_;by_cases aO:j<sh.length
    ·have:=a2 j aO;rw[List.getElem?_take,if_pos aO,List.getElem?_drop,<-this];simp
    ·rw[QF (by simp;omega),QF (by omega)]
   have cm:cells.toList=cells.toList.take o++eu sh zs++cc sh rows++post:=by rw[<-aG];exact dh
   have iS:cc sh (zs::rows)=eu sh zs++cc sh rows:=by simp[cc]
   rw[iS,<-iI];exact cm
where
 Array.axR {α:Type} {a:Array α} {i:Nat}:a[i]?≠none↔i<a.size:=by simp
def LX (P:bU) (t:bw):cT->Prop
 | .d (.int k lo hi)=>P.underlying t=some (.int k)/\lo=k.min/\hi=k.max
 | .d .bool=>P.underlying t=some .bool
 | .d .str=>P.underlying t=some .string
 | .d (.agg k n lo hi)=>∃e,P.underlying t=some (.array n e)/\DQ P 8 t=some (fD n (.int k lo hi))/\P.cellsOf t=n
 | .d (.mix l)=>((∃fs,P.underlying t=some (.struct fs))∨∃n e,P.underlying t=some (.array n e))/\DQ P 8 t=some l/\P.cellsOf t=l.length
 | .d (.AQ _)=>False
 | .d (.kF ..)=>False
 | .rd sh=>∃e,P.underlying t=some (.slice e)/\DQ P 8 e=some sh/\P.cellsOf e=sh.length/\ss sh=true
 | .te _ _=>False
theorem cP.ay:∀{sh:List aV} {zs:List Int},cP sh zs->ay (sh.map aV.ia) zs
 |[],[],_=>trivial
 |_::_,_::_,h=>⟨h.1.1,h.1.2,cP.ay h.2⟩
 |[],_::_,h=>h.elim
 |_::_,[],h=>h.elim
theorem apo:∀(sh:List aV) (zs:List Int),eu sh zs=wx aV.val sh zs
 |[],_=>by simp[eu]
 |_::_,[]=>by simp[eu]
 |c::sh,z::zs=>by simp only[eu,Wa,apo sh zs]
theorem apn (k:dZ) (lo hi:Int):∀(n:Nat) (zs:List Int),zs.length=n->eu (fD n (.int k lo hi)) zs=zs.map (A0 k)
 |0,[],_=>rfl
 |n+1,z::zs,h=>by
  rw[Gj];simp only[eu,dk,apn k lo hi n zs (by simpa using h)];rfl
 |0,_::_,h=>by simp at h
 |n+1,[],h=>by simp at h
theorem an5 (k:dZ) (lo hi:Int):∀n:Nat,(fD n (aV.int k lo hi)).map aV.ia=aS lo hi n
 |0=>rfl
 |n+1=>by rw[Gj,dk,an5 k lo hi n];rfl
theorem aFz {dq:Nat} {w:aC} {t:bw} {b:cT} {v:a6} {x:p3 H} {ly:List AZ} (aA:LX P t b) (s4:QH P w .any dq t v) (hd:DataW.Trod enc P w 0 (λ_=>true) true t v x ly) (hw:∀m∈x.weights P t,m<=reachBytes):
 ∃zs,ay b.bds zs/\zs.length=b.num/\b.at (λg=>g<w.heap.size) (λ_=>False) w zs v:=by
 obtain⟨fuel,hf⟩:=hd;have agg:((∃fs,P.underlying t=some (.struct fs))∨∃n e,P.underlying t=some (.array n e))->∃cs,v= .agg cs/\cs.size=P.cellsOf t:=λh=>by
  unfold QH at s4;rcases h with⟨fs,h⟩|⟨n,e,h⟩
  ·rw[h]at s4;obtain⟨cs,a,b,_⟩:=s4;exact⟨cs,a,b⟩
  ·rw[h]at s4;obtain⟨cs,a,b,_⟩:=s4;exact⟨cs,a,b⟩
 cases b with
 |te _ _=>exact aA.elim
 |d y=>
  cases y with
  |AQ l=>exact aA.elim
  |kF k c=>exact aA.elim
  |int k lo hi=>
   obtain⟨h1,rfl,rfl⟩:=aA;obtain⟨n,rfl⟩:=okWide_int h1 s4;obtain⟨n',h,hx,abp⟩:=ash h1 hf;simp[IZ]at h;subst h;have:=aqT.1 abp;exact⟨[n],⟨this.1,this.2,trivial⟩,rfl,rfl⟩
  |bool=>
   obtain⟨c,rfl⟩:=okWide_bool aA s4;refine⟨[cond c 1 0],?_,rfl,?_⟩
   ·cases c<;>simp[cT.bds,D.bds,ay]
   ·cases c<;>simp[cT.at,D.val]
  |str=>
   obtain⟨s,rfl⟩:=okWide_string aA s4;obtain⟨Ip,h,hx,hs⟩:=aPt aA hf;simp[IZ]at h;subst h;simp only[eZ]at hx;have hb:s.data.toList.length<=tY:=hw _ (by rw[hx.1];simp[Wn]);exact⟨[l5 s.data.toList],⟨Mn _,Jb hb,trivial⟩,rfl,by simp[cT.at,D.val,Iu,iu]⟩
  |agg k n lo hi=>
   obtain⟨e,h1,h2,h3⟩:=aA;obtain⟨cs,rfl,hsz⟩:=agg (.inr ⟨n,e,h1⟩);obtain⟨zs,bG,a2,_⟩:=T6 8 t _ h2 fuel _ _ hf (by show cs.toList.length=_;simp[hsz,h3]) hw;have hl:zs.length=n:=by have:=bG.len;simpa using this
   have dR:cs=(eu (fD n (.int k lo hi)) zs).toArray:=by rw[<-a2];simp[IZ]
   refine⟨zs,?_,hl,?_⟩
   ·have:=bG.ay;rw[an5]at this;exact this
   ·show aPu cs=_;rw[dR,apn k lo hi n zs hl];simp only[D.val,<-hl,afY]
  |mix l=>
   obtain⟨h1,h2,h3⟩:=aA;obtain⟨cs,rfl,hsz⟩:=agg h1;obtain⟨zs,bG,a2,_⟩:=T6 8 t _ h2 fuel _ _ hf (by show cs.toList.length=_;simp[hsz,h3]) hw;have hl:zs.length=l.length:=bG.len;have dR:cs=(eu l zs).toArray:=by rw[<-a2];simp[IZ]
   refine⟨zs,bG.ay,hl,?_⟩;show aPu cs=_;rw[dR,apo];rfl
 |rd sh=>
  obtain⟨e,h1,h2,h3,Hw⟩:=aA;have h4:0<sh.length:=by
   unfold ss at Hw;simp only[bA,Nat.blt_eq]at Hw;exact Hw.1.2
  obtain⟨a,len,cap,rfl⟩:=okWide_slice h1 s4;rcases DataW.trod_slice h1 hf with⟨h,_⟩|⟨ahW,rj,mN,elems,rest,n,rfl,h,hx,_,Nw,Fa,J0,azw,xd,yt⟩
  ·simp[IZ]at h;obtain⟨rfl,rfl,rfl⟩:=h;exact⟨[0],⟨cF _,A8,trivial⟩,rfl,.inl ⟨rfl,m2⟩⟩
  ·simp[IZ]at h;obtain⟨rfl,rfl,rfl⟩:=h;have azH:w.has P .any dq ahW e cap:=by
    unfold QH at s4;rw[h1]at s4;simp only[Cell.okWide,Cell.ok,h1]at s4;exact s4.2.2
   obtain⟨_,amh,row,Y3,ny,azT⟩:=azH;obtain⟨g,o,sp⟩:=ahW;simp only at amh;subst amh;obtain⟨cells,ID,fz,Ho,w7⟩:∃cells ID fz,w.heap[g]?=some (.cells cells ID fz)/\cells.size=Y3/\ID=row:=by
    unfold World.shape? at ny;split at ny
    ·rename_i c el fz hb;simp only[bp,eZ]at ny;exact⟨c,el,fz,hb,ny.2,ny.1⟩
    ·cases ny
   have aw:o<=cells.size:=by
    have:=anG _ _ _ _ _ _ azT;have h6:=Nat.div_mul_le_self Y3 (P.cellsOf row);have h7:o<=Y3/P.cellsOf row*P.cellsOf row:=this;omega
   simp only[eZ]at hx;obtain⟨tO,BF⟩:=hx;rw[tO]at hw;simp only[Wn,h1,pt,zB]at hw;obtain⟨rows,r1,r2⟩:=apv (cells:=cells) (sh:=sh) len o aw (λi hi=>by
    have:=azw i hi;cases hy:elems[i]? with
    |none=>rw[List.getElem?_eq_none_iff]at hy;omega
    |some y=>
     rw[hy,Option.bind_eq_some_iff]at this;obtain⟨cs,g1,g2⟩:=this;obtain⟨l1,l2⟩:=avz g1;obtain⟨zs,av,z2,_⟩:=T6 8 e sh h2 n cs y g2 (by rw[l1,h3]) λm hm=>by
      refine hw m (.inr (.inl ?_));exact an7 hy hm
     refine⟨zs,av,λj aO=>?_⟩;have:=l2 j (by rw[h3];exact aO);rw[lb,lb]at this;simp only[pw,Ho,Option.isSome_none,Bool.false_eq_true,if_false]at this;rw[<-z2,<-this,h3]) λ_=>h4
   have e2:(cap:Int)<=9223372036854775807:=by unfold maxLen at Fa;omega
   have Sw:rows.length<=maxLen:=by omega
   have ayf:rc rows<=dN:=x3 Sw λr hr=>(r2.1 r hr).row Hw;refine⟨[rc rows],⟨k7 _,ayf,trivial⟩,rfl,.inr ⟨g,o,cap,cells,ID,fz,?_,?_,?_,Ho,?_⟩⟩
   ·simp[kp,r1]
   ·simp only[gP,kp,r1];exact⟨Nw,e2⟩
   ·exact(Array.getElem?_eq_some_iff.1 Ho).1
   ·simp only[gP,kp];exact r2
where
 an7 {e:bw}:∀{l:List (p3 H×List AZ)} {i:Nat} {y:p3 H×List AZ} {m:Nat},l[i]?=some y->m∈y.1.weights P e->m∈Wm P e (l.map (·.1))
  |x::l,0,y,m,h,hm=>by
   simp only[xZ,bp]at h;subst h;simp only[dk,Wm,zB];exact .inl hm
  |x::l,i+1,y,m,h,hm=>by
   simp only[dk,Wm,zB];exact .inr (an7 (by simpa using h) hm)
  |[],_,_,_,h,_=>by simp at h
def Wt (P:bU):List bw->List cT->Prop
 |[],[]=>True
 |t::ts,b::bs=>LX P t b/\Wt P ts bs
 |_,_=>False
theorem cT.auv {F N:Nat->Prop} {w:aC} (b:cT) {zs l:List Int} {v:a6} (h:zs.length=b.num) (ha:b.at F N w zs v):b.at F N w (zs++l) v:=by
 cases b with
 |d x=>
  show v=x.val (zs++l);rw[D.aqQ x (l:=l) h];exact ha
 |rd sh=>match zs,h with|[z],_=>exact ha
 |te sh e=>match zs,h with|[z],_=>exact ha
theorem aoJ {dq:Nat} {w:aC}:∀{ts:List bw} {bs:List cT} {vs:List a6} {xs:List (p3 H)} {ly:List AZ},Wt P ts bs->(∀(j:Nat) t v,ts[j]?=some t->vs[j]?=some v->QH P w .any dq t v)->asz enc P w 0 (λ_=>true) true ts vs xs ly->
 (∀m∈Wl P ts xs,m<=reachBytes)->∃zs,ay (dF bs) zs/\ni (λg=>g<w.heap.size) (λ_=>False) w bs zs vs/\xs.length=bs.length
 |[],[],[],[],ly,_,_,h,_=>⟨[],trivial,trivial,rfl⟩
 |[],[],_::_,_,_,_,_,h,_=>h.elim
 |[],[],[],_::_,_,_,_,h,_=>h.elim
 |[],_::_,_,_,_,h,_,_,_=>h.elim
 |_::_,[],_,_,_,h,_,_,_=>h.elim
 |_::_,_::_,[],_,_,_,_,h,_=>by cases h
 |_::_,_::_,_::_,[],_,_,_,h,_=>by cases h
 |t::ts,b::bs,v::vs,x::xs,ly,aA,hv,h,hw=>by
  obtain⟨p,q,h1,h2,rfl⟩:=h;simp only[Wl,zB]at hw;obtain⟨zs,bG,a2,a3⟩:=aFz aA.1 (hv 0 t v rfl rfl) h1 λm hm=>hw m (.inl hm);obtain⟨iN,bQ,b9,dh⟩:=aoJ aA.2 (λj t v h1 h2=>hv (j+1) t v (by simpa using h1) (by simpa using h2)) h2 λm hm=>hw m (.inr hm);refine⟨zs++iN,BH bG bQ,⟨cT.auv b a2 a3,?_⟩,by simp[dh]⟩;rw[<-a2,Ge];exact b9
theorem aqr (hl:laidOutB P=true) {W W':aC} (hb:Below W.heap.size W W'):∀{ts:List bw} {vs:List a6} {xs:List (p3 H)} {ly:List AZ},(∀t∈ts,P.readableRec t=true/\t<P.types.size)->asz enc P W 0 (λ_=>true) true ts vs xs ly->(∀x∈ly,x.block<W.heap.size)->
 asz enc P W' 0 (λb=>decide (b<W.heap.size)) true ts vs xs ly
 |[],[],[],_,_,h,_=>h
 |[],_::_,_,_,_,h,_=>h.elim
 |[],[],_::_,_,_,h,_=>h.elim
 |_::_,[],_,_,_,h,_=>by cases h
 |_::_,_::_,[],_,_,h,_=>by cases h
 |t::ts,v::vs,x::xs,ly,hr,h,hlt=>by
  obtain⟨p,q,h1,h2,rfl⟩:=h;exact⟨p,q,Below.trod hl (hr t (by simp)).1 (hr t (by simp)).2 h1 hb λx hx=>hlt x (List.mem_append.2 (.inl hx)),aqr hl hb (λt aA=>hr t (eS _ aA)) h2 λx hx=>hlt x (List.mem_append.2 (.inr hx)),rfl⟩
theorem avB {C:Checked} {os:Os} {f:dD} {fn:Func} {s:ChangeSpec} {apart:Bool} {X:aC->Array a6->Prop}
 (bZ:∀(w w':aC) (args:Array a6),w.heap=w'.heap->X w args->X w' args)
 (own:ownKnob C.prog.godebug=none) (started:os.Started) (ac8:C.prog.inits.idxOf? f=none) (Fg:C.prog.funcs[f]?=some fn)
 (witness:∃(w:aC) (tape:Tape) (i:Input),w.os=os/\(w.forCall tape i).Shaped C.prog/\i.vars=[]/\aPv C.prog (w.forCall tape i) .any w.heap.size f i/\
   ((s.pre enc C.prog fn [] apart (w.forCall tape i).memory i.args/\X (w.forCall tape i).memory i.args)/\sizedMet enc C.prog fn (agf s) apart (w.forCall tape i).memory i.args)/\({}:Assume).holds C.prog (lone (aPw C.prog f i.args .normal) [] (w.forCall tape i)))
 (Zc:∀(W:aC) (base:Nat) (args:Array a6) (ds gs:List (p3 H)) (before:List AZ),
   (∀(j:Nat) t v,fn.params[j]?=some t->args[j]?=some v->QH C.prog W .any base t v)->
   DataW.Whole enc C.prog fn.params.toList s.vars apart W args.toList ds gs before->(Wl C.prog (fn.params.toList++s.plain.varTypes C.prog) (ds++gs)).all (·<=reachBytes)=true->X W args->W.ShapedOpen C.prog->
   oq C.prog f args W λe W'=>∃v,e= .returned v/\s.post enc C.prog fn apart true false false W args v W'):
 ReturnsInHanded {} C os f .any (λw args=>(s.pre enc C.prog fn [] apart w args/\X w args)/\sizedMet enc C.prog fn (agf s) apart w args) (s.post enc C.prog fn apart true false false):=by
 refine returnsInHanded_of_calls own started ac8 witness ?_;intro w tape i _ ny _ b2 rZ aQ7;obtain⟨_,_,_,axD,Nl,_,_,_,_,s4⟩:=b2;have e:axD=fn:=iH (Nl.symm.trans Fg);subst e;obtain⟨⟨⟨ds,gs,before,hw,hc⟩,hx⟩,hz⟩:=rZ;have yy:=aUE (w':=w.forCall tape i) (by rfl) hw;refine(Zc (w.forCall tape i) w.heap.size i.args ds gs before s4 yy (hz.weights hw) (bZ _ _ _ (by rfl) hx) ny).mono λe W' ⟨v,he,hp⟩=>?_;subst he;exact aUF hp
theorem aCw {C:Checked} {os:Os} {f:dD} {fn:Func} {s:ChangeSpec} {X:aC->Array a6->Prop} {apart:Bool} {ts:List bw} {tb:bw} {bs:List cT}
 (bZ:∀(w w':aC) (args:Array a6),w.heap=w'.heap->X w args->X w' args)
 (own:ownKnob C.prog.godebug=none) (started:os.Started) (ac8:C.prog.inits.idxOf? f=none) (Fg:C.prog.funcs[f]?=some fn)
 (witness:∃(w:aC) (tape:Tape) (i:Input),w.os=os/\(w.forCall tape i).Shaped C.prog/\i.vars=[]/\aPv C.prog (w.forCall tape i) .any w.heap.size f i/\
   ((s.pre enc C.prog fn [] apart (w.forCall tape i).memory i.args/\X (w.forCall tape i).memory i.args)/\sizedMet enc C.prog fn (agf s) apart (w.forCall tape i).memory i.args)/\({}:Assume).holds C.prog (lone (aPw C.prog f i.args .normal) [] (w.forCall tape i)))
 (hp:fn.params.toList=ts) (hr:fn.resultTypes.toList=[tb]) (ic:fn.resultTypes.size=1) (aAI:C.prog.underlying tb=some .bool) (NR:Wt C.prog ts bs) (J8:laidOutB C.prog=true) (Ai:(ts.all λt=>C.prog.readableRec t&&decide (t<C.prog.types.size))=true) (abn:s.vars=[])
 (hs:∀xs:List (p3 H),xs.length=bs.length->s.fn H xs={results:=[.lit (.bool true)],args:=xs,vars:=[]})
 (Zc:∀(W:aC) (zs:List Int) (vs:List a6),ay (dF bs) zs->ni (λg=>g<W.heap.size) (λ_=>False) W bs zs vs->X W vs.toArray->W.ShapedOpen C.prog->oq C.prog f vs.toArray W λe W'=>e= .returned (.bool true)/\W.Extends W'):
 ReturnsInHanded {} C os f .any (λw args=>(s.pre enc C.prog fn [] apart w args/\X w args)/\sizedMet enc C.prog fn (agf s) apart w args) (s.post enc C.prog fn apart true false false):=by
 refine avB bZ own started ac8 Fg witness ?_;intro W base args xs gs before aAY w4 hsz hx ny;have ayh:=w4;have hlt:=w4.lt;obtain⟨p,q,aQ,aap,rfl,aaL,aRh⟩:=w4;rw[hp]at aQ;rw[abn]at aap;obtain⟨rfl,rfl⟩:gs=[]/\q=[]:=by
  cases gs with
  |nil=>exact⟨rfl,aap⟩
  |cons g r=>exact absurd aap (by intro h;cases h)
 have s4:∀(j:Nat) t v,ts[j]?=some t->args.toList[j]?=some v->QH C.prog W .any base t v:=λj t v h1 h2=>aAY j t v (by rw[<-hp]at h1;simpa using h1) (by simpa using h2);have e:(fn.params.toList++s.plain.varTypes C.prog)=ts:=by rw[hp];simp[DataSpec.varTypes,aUH,abn]
 rw[e,iq,LK]at hsz;obtain⟨zs,hz,hat,hlen⟩:=aoJ NR s4 aQ λn hn=>by simpa using hsz n hn
 have tI:args=args.toList.toArray:=by simp
 rw[tI]at hx;have aaD:oq C.prog f args W λe W'=>e= .returned (.bool true)/\W.Extends W':=by
  have:=Zc W zs args.toList hz hat hx ny
  rwa [<-tI]at this
 refine aaD.mono λe W' ⟨he,hw⟩=>?_;subst he;have Nl:=hs (xs++[]) (by simp[hlen]);have ay7:Below W.heap.size W W':=⟨hw.os,hw.tape,hw.output,hw.size,λi hi=>hw.block i hi⟩;refine⟨_,rfl,_,_,_,[],p,[],ayh,?_,?_,?_,aB3 hw _,λh=>by cases h⟩
 ·rw[Nl,hr,ic];exact trodAll_mk1 (shut_bool aAI true)
 ·rw[Nl,hp,iq];exact aqr J8 ay7 (λt aA=>by
   have:=List.all_eq_true.1 Ai t aA;simpa using this) aQ λx hx=>hlt x (by simp[hx])
 ·rw[Nl,abn];rfl
section
variable {gl:fO} {wb:aC} {sh:Nat->List Nat×List Nat} {SB:Nat->List (List Int)->List (List Int)->Prop}
def gV (SB:zzS) (res:List cT) (id:Nat):List (List Int)->List (List Int)->Prop:=λzs rs=>ay (dF res) rs.flatten/\SB id zs rs
theorem auZ {c:fE} {bc:qT} {cal:gy} {li:dD->Nat->Option gz} {rounds d:Nat} {lsh:Nat->List Nat} {lens:List Nat} (hm:P.follows .mixedOrders=true) (c8:∀r ex ro,iD (e1 sh SB) P gl ⟨wb,r,ex,ro,[]⟩ cal) (hg:gJ gl ⟨wb,wb,λ_=>False,λ_=>False,[]⟩)
 (oD:∀(L:V->Env->Prop) (r:aC) (ro:Nat->Prop),x0 (e1 sh SB) L ⟨wb,r,λ_=>False,ro,[]⟩ P bc) (hf:Bv P c.f=true) (hl:lens=(sh c.id).1) (hd:Dx c.res=(sh c.id).2)
 (hv:lY sh lsh SB (gV SB c.res c.id) lens (dF c.args) c.res (c.tree bc P gl cal li rounds d)):c.bu P wb (e1 sh SB c.id):=by
 refine fE.OU (li:=li) (rounds:=rounds) (d:=d) hm c8 hg oD (enters hf) (uw λzs hz=>?_);have h:=nh (X4 hv) hz;simp only[gV,vf]at h;rw[hl,hd]at h;exact h
theorem aCv {c:fE} {W:aC} {vs:List a6} {zs:List Int} (hc:c.bu P W (e1 sh SB c.id)) (pM:c.res=[.d .bool]) (rZ:c.pre=0) (hz:ay (dF c.args) zs) (hat:ni (λg=>g<W.heap.size) (λ_=>False) W c.args zs vs) (h1:∀a z,SB c.id a [[z]]->z=1) (h2:(sh c.id).2=[1]):
 oq P c.f vs.toArray W λe W'=>e= .returned (.bool true)/\W.Extends W':=by
 refine(hc.2 _ W vs zs (sA W) hz (by rw[rZ];trivial) hat).mono λe W' ⟨hx,rs,us,hb,hs,hr,he⟩=>⟨?_,hx⟩;rw[pM]at hb hr
 match rs,hb,us,hr,hs,he with
 |[z],hb,[u],hr,hs,he=>
  unfold e1 at hs;rw[h2]at hs;have ar:z=1:=h1 _ z hs;subst ar;have:u= .bool true:=hr.1;subst this;rw[he];rfl
 |[z],hb,[],hr,hs,he=>exact hr.elim
 |[z],hb,_::_::_,hr,hs,he=>exact hr.2.elim
 |[],hb,_,_,_,_=>exact hb.elim
 |_::_::_,hb,_,_,_,_=>exact hb.2.2.elim
end
end Go.bX
namespace Go.bX
open M
structure aPF where
 f:dD
 id:Nat
 sh:List aV
 e:bw
 args:List cT
 pre:Nat:=0
section
variable {S:Nat->List Int->List Int->Prop} {L:V->Env->Prop} {w0:eV} {P:bU}
end
end Go.bX
namespace Go.bX
open M Go.RowKit
variable {S:Nat->List Int->List Int->Prop} {L:V->Env->Prop} {P:bU} {gl:fO} {cal:gy}
def Xq (P:bU) (f:dD):Prop:=
 (∀args w,(callFunc f args).run P w= .ok (.enter f args) w)/\
 ∀(l bs vv:Nat) (sv:a6) (g off len cap c:Nat) (J:Nat->aC->Prop) (W:aC),
  0<c->len<=9223372036854775807->c∣len->len<=cap->c<=9223372036854775807->
  (sv= .slice (some ⟨g,off,none⟩) len cap∨(sv= .slice none 0 0/\len=0))->
  (∀i W,J i W->W.cell? ⟨bs,0,none⟩=some sv/\W.cell? ⟨vv,0,none⟩=some (.int .i64 c))->
  (∀i W,J i W->J i W.drew)->
  (∀i W,J i W->c*i<len->YieldAt I4 0 P l #[.slice (some ⟨g,off+c*i,none⟩) c c] W λe W'=>e= .returned (.bool true)/\J (i+1) W')->
  J 0 W->CallsIn I4 0 P f #[.func (.yield l) #[] #[],.pointer (some ⟨bs,0,none⟩),.pointer (some ⟨vv,0,none⟩)] W λe W'=>(∃v,e= .returned v)/\J (len/c) W'
theorem ZI {b w w':aC} (h:b.Extends w) (h1:w'.os=w.os) (h2:w'.tape=w.tape) (h3:w'.output=w.output) (h4:w.heap.size<=w'.heap.size) (h5:∀k,k<b.heap.size->w'.heap[k]?=w.heap[k]?):b.Extends w':=
 ⟨h1.trans h.os,h2.trans h.tape,h3.trans h.output,nK h.size h4,λa ha=>(World.cell?_of_block (h5 _ ha)).trans (h.cell a ha),λa ha=>(World.frozen?_of_block (h5 _ ha)).trans (h.frozen a ha),λi hi=>(h5 i hi).trans (h.block i hi)⟩
theorem Mem.y3 {b r r':aC} {ex ro:Nat->Prop} {ds GU:List Gg} {ρ:Env} {m:Nat->Nat} {bl:List aH} {w w':aC} (h:Mem ⟨b,r,ex,ro,ds⟩ ρ m bl w) (l:Nat) (hl:b.heap.size<=l) (hex:¬ex l) (hlt:l<r.heap.size)
 (hr:r'.os=r.os/\r'.tape=r.tape/\r'.output=r.output/\r'.heap.size=r.heap.size) (hw:w'.os=w.os/\w'.tape=w.tape/\w'.output=w.output/\w'.heap.size=w.heap.size)
 (h1:∀k,k≠l->r'.heap[k]?=r.heap[k]?) (h2:∀k,k≠l->w'.heap[k]?=w.heap[k]?) (h3:w'.heap[l]?=r'.heap[l]?) (hc:∀o:Obj,r.heap[l]?=some o->o.isCells=false):Mem ⟨b,r',ex,ro,GU⟩ ρ m bl w':=by
 have aA3:w.heap[l]?=r.heap[l]?:=h.j1 l hlt hex;have ne:∀{g:Nat} {cs:Array a6} {t:bw} {fz:Nat×Nat},w.heap[g]?=some (.cells cs t fz)->g≠l:=λ{g cs t fz} hg e=>by
  subst e;rw[aA3]at hg;have:=hc _ hg;simp[Obj.isCells]at this
 refine⟨ZI h.ext hw.1 hw.2.1 hw.2.2.1 (by omega) (λk af=>h2 k (by simp only at hl af;omega)),by rw[hw.1,h.km];exact hr.1.symm,by rw[hw.2.1,h.mU];exact hr.2.1.symm,by rw[hw.2.2.1,h.l8];exact hr.2.2.1.symm,by have:=h.iW;simp only at this⊢;omega,λi hi hx=>?_,λi cs t hi aw=>?_,λi sh off code cap kind t hi=>?_,h.inj⟩
 ·by_cases e:i=l
  ·subst e;exact h3
  ·rw[h2 i e,h1 i e];exact h.j1 i (by simp only at hi⊢;omega) hx
 ·obtain⟨g1,g2,Lb,Fk,g3⟩:=h.hI i cs t hi aw;refine⟨g1,g2.imp id λh=>?_,Lb,Fk,by rw[h2 _ (ne g3)];exact g3⟩;simp only at h⊢;omega
 ·intro af;obtain⟨g1,g2⟩:=h.rws i sh off code cap kind t hi af;refine⟨g1,λe2=>?_⟩;obtain⟨k1,cells,t',fz,k2,k3,k4⟩:=g2 e2;refine⟨k1.imp id (·.imp id λh=>by simp only at h⊢;omega),cells,t',fz,by rw[h2 _ (ne k2)];exact k2,k3,λMV=>?_⟩;obtain⟨fK,oE,pO,tR,An,q9⟩:=k4 MV;exact⟨fK,oE,pO,tR,An,q9.imp id λh=>by simp only at h⊢;omega⟩
structure Sub (eR w0:eV):Prop where
 b:eR.b=w0.b
 os:eR.r.os=w0.r.os
 tape:eR.r.tape=w0.r.tape
 out:eR.r.output=w0.r.output
 size:w0.r.heap.size<=eR.r.heap.size
 ex:∀g,eR.ex g∨eR.r.heap.size<=g->w0.ex g∨w0.r.heap.size<=g
 ro:∀g,eR.ro g->w0.ro g
 j1:∀i,i<w0.r.heap.size->¬w0.ex i->eR.r.heap[i]?=w0.r.heap[i]?
theorem Mem.less {eR w0:eV} {ρ:Env} {m:Nat->Nat} {bl:List aH} {w:aC} (h:Mem eR ρ m bl w) (s:Sub eR w0):Mem w0 ρ m bl w:=by
 refine⟨s.b▸h.ext,h.km.trans s.os,h.mU.trans s.tape,h.l8.trans s.out,nK s.size h.iW,λi hi hx=>?_,λi cs t hi aw=>?_,λi sh off code cap kind t hi=>?_,h.inj⟩
 ·have dz:¬eR.ex i:=λe=>by
   rcases s.ex i (.inl e)with e|e
   ·exact hx e
   ·omega
  exact(h.j1 i (IW hi s.size) dz).trans (s.j1 i hi hx)
 ·obtain⟨g1,g2,g3⟩:=h.hI i cs t hi aw;exact⟨s.b▸g1,s.ex _ g2,g3⟩
 ·intro af;obtain⟨g1,g2⟩:=h.rws i sh off code cap kind t hi af;refine⟨g1,λe2=>?_⟩;obtain⟨k1,cells,t',fz,k2,k3,k4⟩:=g2 e2;refine⟨?_,cells,t',fz,k2,k3,λMV=>?_⟩
  ·rcases k1 with k1|k1|k1
   ·exact(s.ex _ (.inl k1)).imp id .inr
   ·exact .inr (.inl (s.ro _ k1))
   ·exact(s.ex _ (.inr k1)).imp id .inr
  ·obtain⟨fK,oE,pO,tR,An,q9⟩:=k4 MV;exact⟨fK,oE,pO,tR,s.b▸An,s.ex _ q9⟩
def narrow (w0:eV) (W:aC) (ds:List Gg):eV:=⟨w0.b,W,λg=>(w0.ex g∨w0.r.heap.size<=g)/\∃o:Obj,W.heap[g]?=some o/\o.isCells=true,w0.ro,ds⟩
theorem Mem.narrow {w0:eV} {ρ:Env} {m:Nat->Nat} {bl:List aH} {w:aC} (h:Mem w0 ρ m bl w) (ds:List Gg):Mem (narrow w0 w ds) ρ m bl w:=by
 refine⟨h.ext,rfl,rfl,rfl,bS _,λ_ _ _=>rfl,λi cs t hi aw=>?_,λi sh off code cap kind t hi=>?_,h.inj⟩
 ·obtain⟨g1,g2,Lb,Fk,g3⟩:=h.hI i cs t hi aw;exact⟨g1,.inl ⟨g2,_,g3,rfl⟩,Lb,Fk,g3⟩
 ·intro af;obtain⟨g1,g2⟩:=h.rws i sh off code cap kind t hi af;refine⟨g1,λe2=>?_⟩;obtain⟨k1,cells,t',fz,k2,k3,k4⟩:=g2 e2;refine⟨?_,cells,t',fz,k2,k3,λMV=>?_⟩
  ·rcases k1 with k1|k1|k1
   ·exact .inl ⟨.inl k1,_,k2,rfl⟩
   ·exact .inr (.inl k1)
   ·exact .inl ⟨.inr k1,_,k2,rfl⟩
  ·obtain⟨fK,oE,pO,tR,An,q9⟩:=k4 MV;exact⟨fK,oE,pO,tR,An,.inl ⟨q9,_,k2,rfl⟩⟩
theorem Sub.narrow {w0:eV} {ρ:Env} {m:Nat->Nat} {bl:List aH} {w:aC} (h:Mem w0 ρ m bl w) (ds:List Gg):Sub (narrow w0 w ds) w0:=
 ⟨rfl,h.km,h.mU,h.l8,h.iW,λg hg=>by
  rcases hg with hg|hg
  ·exact hg.1
  ·exact .inr (nK h.iW hg),λ_ h=>h,λi hi hx=>h.j1 i hi hx⟩
theorem Sub.y3 {w0:eV} {b r r':aC} {ex ro:Nat->Prop} {ds GU:List Gg} (s:Sub ⟨b,r,ex,ro,ds⟩ w0) (l:Nat) (hl:w0.r.heap.size<=l) (hr:r'.os=r.os/\r'.tape=r.tape/\r'.output=r.output/\r'.heap.size=r.heap.size)
 (h1:∀k,k≠l->r'.heap[k]?=r.heap[k]?):Sub ⟨b,r',ex,ro,GU⟩ w0:=
 ⟨s.b,hr.1.trans s.os,hr.2.1.trans s.tape,hr.2.2.1.trans s.out,by have:=s.size;simp only at this⊢;omega,λg hg=>s.ex g (hg.imp id λh=>by simp only at h⊢;omega),s.ro,λi hi hx=>by
  rw[h1 i (by omega)];exact s.j1 i hi hx⟩
theorem Mem.ds {b r:aC} {ex ro:Nat->Prop} {ds GU:List Gg} {ρ:Env} {m:Nat->Nat} {bl:List aH} {w:aC} (h:Mem ⟨b,r,ex,ro,ds⟩ ρ m bl w):Mem ⟨b,r,ex,ro,GU⟩ ρ m bl w:=
 ⟨h.ext,h.km,h.mU,h.l8,h.iW,h.j1,h.hI,h.rws,h.inj⟩
theorem iD.ds {b r:aC} {ex ro:Nat->Prop} {ds GU:List Gg} (h:iD S P gl ⟨b,r,ex,ro,ds⟩ cal):iD S P gl ⟨b,r,ex,ro,GU⟩ cal:=λf g hf L n ρ m bl vs xs h1 h2 h3 h4=>by
 obtain⟨w,hw⟩:=h2
 exactλG I5 ae=>by
  obtain⟨ad,n',v,k1,k2,⟨k3,val,k4,tS⟩,Ap⟩:=h f g hf L n ρ m bl vs xs h1 ⟨w,hw.ds⟩ h3 h4 G I5 ae;exact⟨ad,n',v,k1,k2,⟨k3,val,k4,λw hw=>tS w hw.ds⟩,Ap⟩
noncomputable def adZ (P:bU) (gl:fO) (cal:gy) (inl:mH) (li:Nat->Option gz) (rounds:Nat) (cells:List (Nat×Nat×Int×Int)) (Br:dD) (g:Operand) (ly:Array Tmp) (assign body:Code) (n:Nat) (tm:List V) (bl:List aH) (k:iP):T:=
 match cu tm g,ly.toList,hb cells 0 (n+1) bl with
 | .tB f [.ptr bs 0,.ptr vv 0],[p],some (gB,l2,b9)=>match bl[bs]?,bl[vv]?,gB[bs]?,gB[vv]? with
  |some ([.sl b bE o ro len cap],_),some ([.int .i64 N],_),some ([xs],_),some ([P3],_)=>match N.l.e4 with
   |some c=>cond (aR f Br&&decide (0<c)&&decide (c<=9223372036854775807)&&aR bE 1&&pR assign&&pR body&&qq tm tm&&qp gB gB&&A.beq xs (.sl b bE o ro len cap)&&A.beq P3 (.int .i64 N)&&cd [xs]&&cd [P3])
    (.tA 70 [len,.const c] (.loop n (l2++[.const 0]) (n+1) (b9++[(0,9223372036854775807)])
      (.vx (.lt ((U.var (n+1+l2.length)).smul c) len)
        (qj P gl cal inl li rounds assign (n+1+l2.length+1) (xI tm p (.w (.one (.sl b 1 o (ro.add ((U.var (n+1+l2.length)).smul c)) (.const c) (.const c))))) gB λx n' cE bx=>match x with
          | .normal=>qj P gl cal inl li rounds body n' cE bx λx n' cE bx=>match x with
           | .normal=>match hb cells 0 (n+1) (bx.take bl.length)with
            |some (sH,v2,_)=>cond (qp gB sH) (.again n (v2++[(U.var (n+1+l2.length)).add (.const 1)])) .stuck
            |none=> .stuck
           |_=> .stuck
          |_=> .stuck)
        (k (n+1+l2.length+1) tm gB)))) .stuck
   |none=> .stuck
  |_,_,_,_=> .stuck
 |_,_,_=> .stuck
theorem amd {ij:List Nat}:∀(tm:List V) (i s:Nat),(∀j,i<=j->j<i+tm.length->ij.any (aR j)=true)->hs ij [] i s tm=some (tm,[],[])
 |[],_,_,_=>rfl
 |v::r,i,s,h=>by
  unfold hs;rw[h i (bS _) (by simp),amd r (i+1) s λj h1 h2=>h j (by omega) (by simp only[kJ];omega)];rfl
theorem ani (tm:List V) (s:Nat):hs (ga tm.length) [] 0 s tm=some (tm,[],[]):=
 amd tm 0 s λj _ h=>List.any_eq_true.2 ⟨j,List.mem_range.2 (by omega),IX j⟩
theorem BX (w:aC) (l:Nat) (o:Obj):(w.putObj l o).os=w.os/\(w.putObj l o).tape=w.tape/\(w.putObj l o).output=w.output/\(w.putObj l o).heap.size=w.heap.size:=⟨rfl,rfl,rfl,agh⟩
theorem Mem.ajC {w0:eV} {ρ:Env} {m:Nat->Nat} {bl:List aH} {w:aC} (h:Mem w0 ρ m bl w) {i:Nat} {x:A} {t:bw×Bool} (hi:bl[i]?=some ([x],t)) (aw:cd [x]=true):w.cell? ⟨m i,0,none⟩=some (x.den ρ m):=by
 obtain⟨_,_,r,_,h3⟩:=h.hI i _ t hi aw;simp[pw,h3]
def Xn (fv:List Int->Prop) (w0:eV) (jY:aC) (n:Nat) (ρ:Env) (m:Nat->Nat) (tm:List V) (gB:List aH) (b9:List (Int×Int)) (k2:Nat) (tmps:Array a6) (i:Nat) (W:aC):Prop:=
 ∃zs,zs.length=k2/\ay (b9++[(0,9223372036854775807)]) (zs++[(i:Int)])/\fv (zs++[(i:Int)])/\R (narrow w0 jY []) (n+1+k2+1) (bO ρ (n+1) (zs++[(i:Int)])) m tm gB {tmps:=tmps,defers:=[]} W
theorem aJj {w0:eV} {inl:mH} {li:Nat->Option gz} {rounds:Nat} {cells:List (Nat×Nat×Int×Int)} {Br:dD} {g:Operand} {ly:Array Tmp} {assign body:Code} (o2:Xq P Br) (hm:P.follows .mixedOrders=true)
 (c8:∀r ex ro,iD S P gl ⟨w0.b,r,ex,ro,[]⟩ cal) (hg:gJ gl w0) (nY:∀r ex ro,rI S L ⟨w0.b,r,ex,ro,[]⟩ P inl)
 {n:Nat} {ρ:Env} {m:Nat->Nat} {tm:List V} {bl:List aH} {a:Act} {w:aC} {G:ft} {k:iP} {Q:Exit->Act->aC->Prop} (h:R w0 n ρ m tm bl a w) (sY:w0.ds=[])
 (ae:(adZ P gl cal inl li rounds cells Br g ly assign body n tm bl k).holds S L G ρ)
 (af:∀n' ad cE bx e7 eR D dW w',fj n bl.length ρ m n' (qP bx) ad m->gQ n G e7->Sub eR w0->¬eR.ex D->eR.r.heap[D]?=some (.deferred (some []))->w0.r.heap.size<=D->w0.b.heap.size<=D->eR.ds=[{target:= .collected D,args:=#[]}]->
   R eR n' ad m cE bx dW w'->(k n' cE bx).holds S L e7 ad->Q .normal dW w'):(Code.rangeFunc g ly assign body).wpIn I4 0 P Q a w:=by
 unfold adZ at ae;split at ae
 rotate_left
 ·exact ae.elim
 rename_i f bs vv p gB l2 b9 ar aG cm;split at ae
 rotate_left
 ·exact ae.elim
 rename_i b bE o ro len cap ts N aSr xs uj P3 aSy a1 bB cp eC;split at ae
 rotate_left
 ·exact ae.elim
 rename_i c hc;generalize lq:(aR f Br&&decide (0<c)&&decide (c<=9223372036854775807)&&aR bE 1&&pR assign&&pR body&&qq tm tm&&qp gB gB&&A.beq xs (.sl b bE o ro len cap)&&A.beq P3 (.int .i64 N)&&cd [xs]&&cd [P3])=dt at ae;cases dt with
 |false=>exact ae.elim
 |true=>
 simp only[bA,decide_eq_true_eq]at lq;obtain⟨⟨⟨⟨⟨⟨⟨⟨⟨⟨⟨c1,bN⟩,cA⟩,dr⟩,fY⟩,hK⟩,nr⟩,mq⟩,kk⟩,qf⟩,mo⟩,ou⟩:=lq;have c1:=bV c1;have dr:=bV dr;subst c1;subst dr;have kk:=A.beq_eq kk;have qf:=A.beq_eq qf;subst kk;subst qf;simp only[cond_true,T.holds]at ae;obtain⟨JW,fv,hB,aah,dm⟩:=ae;have JW:c∣len.den ρ:=by simpa [az,Mp,U.bz]using JW
 have aa8:A.ok n bl.length ρ (.sl b 1 o ro len cap):=h.b _ (fZ a1) _ (by simp);obtain⟨M9,⟨uQ,tM,al5,aRj⟩,yx⟩:=aa8;obtain⟨⟨s1,s2,bm,cr⟩,⟨dJ,ee⟩,eU,gG⟩:=yx;have azG:a.eval g= .func (.func f) #[] #[.pointer (some ⟨m bs,0,none⟩),.pointer (some ⟨m vv,0,none⟩)]:=by
  have:=(db h.t g).2;rw[ar]at this;exact this
 have aAl:ly=#[p]:=by rw[<-Array.toArray_toList (xs:=ly),aG]
 subst aAl;refine wpIn_rangeFunc ?_;intro fn Fg;obtain⟨rec,Ht⟩:∃rec:LoopState->Option Code->Loop,rec=λst FK=>{state:=st,pending:=FK,fn,tmps:=a.tmps,params:=#[p],assign,body,defers:=w.heap.size}:=⟨_,rfl⟩;obtain⟨jY,R7⟩:∃jY,(w.alloc (.deferred (some []))).alloc (.loop (rec .ready none))=jY:=⟨_,rfl⟩;have yn:jY.heap[w.heap.size+1]?=some (.loop (rec .ready none)):=by
  rw[<-R7];have:=aPA (w.alloc (.deferred (some []))) (.loop (rec .ready none));rwa [World.size_alloc]at this
 have aai:jY.heap[w.heap.size]?=some (.deferred (some [])):=by
  rw[<-R7];exact(Below.heap_alloc _ _ _ (by simp)).trans (aPA w _)
 have C8:w.heap.size+1<jY.heap.size:=(Array.getElem?_eq_some_iff.1 yn).1;have ak4:Mem w0 ρ m bl jY:=by rw[<-R7];exact h.bL.grow (((sA w).alloc _).alloc _)
 have ba:w0.b.heap.size<=w.heap.size:=h.bL.ext.size;have Sw:w0.r.heap.size<=w.heap.size:=h.bL.iW;generalize hl:w.heap.size+1=l at*;generalize q2:w.heap.size=D at*;have Hk:∀(k:Nat) (o:Obj),jY.heap[k]?=some o->o.isCells=false->¬(narrow w0 jY []).ex k:=λk o af aw ⟨_,c4,h1,h2⟩=>by
  rw[af]at h1;cases h1;rw[aw]at h2;cases h2
 have atT:R (narrow w0 jY []) n ρ m tm bl {tmps:=a.tmps,defers:=[]} jY:=⟨h.t,rfl,h.b,ak4.narrow []⟩;have SA:∀v∈tm,V.ok n bl.length ρ v:=λv hv=>by
  obtain⟨i,hi⟩:=List.getElem?_of_mem hv;exact(h.t.2 i v hi).1
 have Zm:hb cells 0 (n+1+([]:List U).length) bl=some (gB,l2,b9):=cm;obtain⟨aa0,aRf⟩:=M7 cm;have head:∀{n':Nat} {ad:Env} {m':Nat->Nat} {bx sH:List aH} {v2:List U} {zK:List (Int×Int)} {W:aC} {x:U},bl.length<=bx.length->agree n ρ ad->(∀b,b<bl.length->m' b=m b)->
  R (narrow w0 jY []) n' ad m' tm bx {tmps:=a.tmps,defers:=[]} W->hb cells 0 (n+1) (bx.take bl.length)=some (sH,v2,zK)->qp gB sH=true->
  v2.length=l2.length/\ay b9 (v2.map (·.den ad))/\R (narrow w0 jY []) (n+1+l2.length+1) (bO ρ (n+1) (v2.map (·.den ad)++[x.den ad])) m tm gB {tmps:=a.tmps,defers:=[]} W:=λ{n' ad m' bx sH v2 zK W x} k1 k2 k3 k4 tS Ap=>by
  obtain⟨fK,oE,pO,_⟩:=alF (li:={ij:=ga tm.length,ints:=[],cells:=cells}) (ext:=[x]) k1 k2 k3 SA h.b k4 (ani tm (n+1)) Zm (ani tm (n+1)) (v2:=v2) tS nr Ap;simp only[rD,A2,pv,eM,kJ,jd,dk,gZ]at fK oE pO;exact⟨fK,oE,pO⟩
 obtain⟨i0,i1,i2⟩:=head (x:= .const 0) (bS _) (agree.refl n ρ) (λ_ _=>rfl) atT (by rw[afY];exact cm) mq;have ax9:Xn fv w0 jY n ρ m tm gB b9 l2.length a.tmps 0 jY:=by
  refine⟨l2.map (·.den ρ),by simp,nA i1 ⟨by simp,by simp,trivial⟩,?_,by simpa [U.bz]using i2⟩;simpa [U.bz]using aah
 have still:∀{i:Nat} {W:aC} {k:Nat} {o:Obj},Xn fv w0 jY n ρ m tm gB b9 l2.length a.tmps i W->jY.heap[k]?=some o->o.isCells=false->W.heap[k]?=some o:=λ{i W k o} hJ af aw=>by
  obtain⟨zs,av,z2,z3,z4⟩:=hJ;exact(z4.bL.j1 k (Array.getElem?_eq_some_iff.1 af).1 (Hk k o af aw)).trans af
 obtain⟨C,jQ⟩:∃C:Nat,(C:Int)=c:=⟨c.toNat,Qj (by omega)⟩;obtain⟨sD,aam⟩:∃sD:Nat,(sD:Int)=len.den ρ:=⟨(len.den ρ).toNat,Qj (by omega)⟩;have aaH:C∣sD:=by rw[<-jQ,<-aam]at JW;exact Int.natCast_dvd_natCast.1 JW
 have aze:sD<=(cap.den ρ).toNat:=by
  by_cases h0:cap.den ρ<0
  ·have:=eU h0;omega
  ·have:=gG (by omega);omega
 have SF:∀{i:Nat} {zs:List Int},zs.length=l2.length->bO ρ (n+1) (zs++[(i:Int)]) (n+1+l2.length)=i:=λ{i zs} hz=>by
  rw[Ln _ _ _ _ (by simp[hz]),<-hz];simp
 have iU:∀{i:Nat} {zs:List Int},agree n ρ (bO ρ (n+1) (zs++[(i:Int)])):=λ{i zs}=>(agree.bO _ (n+1) ρ).mono (by omega);have main:=o2.2 l (m bs) (m vv) ((A.sl b 1 o ro len cap).den ρ m) (m b) ((o.den ρ).toNat+(ro.den ρ).toNat) sD (cap.den ρ).toNat C (Xn fv w0 jY n ρ m tm gB b9 l2.length a.tmps) jY (by omega) (by omega) aaH aze (by omega)
  (by
    simp only[A.den];by_cases h0:cap.den ρ<0
    ·rw[if_pos h0];have:=eU h0;exact .inr ⟨rfl,by omega⟩
    ·rw[if_neg h0];refine .inl ?_;rw[show(len.den ρ).toNat=sD by omega,D6])
  (λi W hJ=>by
    obtain⟨zs,av,z2,z3,z4⟩:=hJ;have an:=z4.bL.ajC cp mo;have ak:=z4.bL.ajC eC ou;have aa8:A.ok n bl.length ρ (.sl b 1 o ro len cap):=h.b _ (fZ a1) _ (by simp);have aAc:A.ok n bl.length ρ (.int .i64 N):=h.b _ (fZ bB) _ (by simp);rw[A.oA aa8 iU (λ_ _=>rfl)]at an;rw[A.oA aAc iU (λ_ _=>rfl)]at ak;refine⟨an,ak.trans ?_⟩;simp only[A.den,U.lp hc,jQ])
  (λi W hJ=>by
    obtain⟨zs,av,z2,z3,z4⟩:=hJ;exact⟨zs,av,z2,z3,z4.t,z4.d,z4.b,z4.bL.grow (V8 (sA W))⟩)
  ?_ ax9
 ·refine⟨l,[{target:= .collected D,args:=#[]}],jY,{target:= .fn (.func f) #[.pointer (some ⟨m bs,0,none⟩),.pointer (some ⟨m vv,0,none⟩)],args:=#[.func (.yield l) #[] #[]]},jY,f,
   #[.func (.yield l) #[] #[],.pointer (some ⟨m bs,0,none⟩),.pointer (some ⟨m vv,0,none⟩)],jY,?_,?_,λqo alJ=>trivial,?_,λhs=>by simp[I4]at hs,?_⟩
  ·rw[<-R7,Ht,<-hl,<-q2];exact run_enterLoop_outer _ _ _ _ _
  ·simp only[resolve,azG];simp[go_sem]
  ·simp[invoke,go_sem,o2.1]
  ·refine main.mono ?_
   rintro e at0 ⟨⟨v,rfl⟩,hJ⟩
   have Sn:=still hJ yn rfl;have aRc:=still hJ aai rfl;obtain⟨zs,av,z2,z3,z4⟩:=hJ;have z7:=(nh dm z2 z3).2;have Nx:len.den (bO ρ (n+1) (zs++[((sD/C:Nat):Int)]))=sD:=by rw[U.ch iU al5,aam]
   have ai:C*(sD/C)=sD:=Nat.mul_div_cancel' aaH;have z8:bH.den (bO ρ (n+1) (zs++[((sD/C:Nat):Int)])) (.lt ((U.var (n+1+l2.length)).smul c) len)=false:=by
    simp only[bH.den,U.nu,U.c6,SF av,Nx,decide_eq_false_iff_not];rw[<-jQ];have:(C:Int)*((sD/C:Nat):Int)=(sD:Int):=by exact_mod_cast ai
    omega
   have z7:=z7 z8;refine⟨none,_,by have:=run_endLoop (P:=P) Sn (by rw[Ht];simp);rw[Ht]at this;exact this,?_⟩;simp only;obtain⟨Xr,ax8⟩:∃o,o=Obj.loop {({state:= .ready,pending:=none,fn,tmps:=a.tmps,params:=#[p],assign,body,defers:=D}:Loop)with state:= .exhausted}:=⟨_,rfl⟩;rw[<-ax8];have atK:Mem ⟨w0.b,jY.putObj l Xr,(narrow w0 jY []).ex,w0.ro,[{target:= .collected D,args:=#[]}]⟩ (bO ρ (n+1) (zs++[((sD/C:Nat):Int)])) m gB (at0.putObj l Xr):=
    Mem.y3 z4.bL l (by omega) (Hk l _ yn rfl) C8 (BX _ _ _) (BX _ _ _) (λk af=>A4 af) (λk af=>A4 af) (by rw[Eg (Array.getElem?_eq_some_iff.1 Sn).1,Eg C8]) (λo aw=>by rw[yn]at aw;cases aw;rfl)
   refine af _ _ _ _ _ ⟨w0.b,jY.putObj l Xr,(narrow w0 jY []).ex,w0.ro,[{target:= .collected D,args:=#[]}]⟩ D _ _ ⟨by omega,iU,by omega,λ_ _=>rfl⟩ (λl' Fh=>?_) (Sub.y3 (Sub.narrow ak4 []) l (by omega) (BX _ _ _) (λk af=>A4 af)) (Hk D _ aai rfl) ((A4 (by omega)).trans aai) Sw ba rfl ⟨z4.t,?_,z4.b,atK⟩ z7
   ·unfold ft.set;cases hb:aR l' n with
    |true=>have:=bV hb;omega
    |false=>rfl
   ·show _++a.defers=_;rw[h.d,sY];rfl
 ·
  intro i W hJ hlt;have Sn:=still hJ yn rfl;obtain⟨zs,av,z2,z3,z4⟩:=hJ;have z7:=(nh dm z2 z3).1;have Nx:len.den (bO ρ (n+1) (zs++[(i:Int)]))=sD:=by rw[U.ch iU al5,aam]
  have z8:bH.den (bO ρ (n+1) (zs++[(i:Int)])) (.lt ((U.var (n+1+l2.length)).smul c) len)=true:=by
   simp only[bH.den,U.nu,U.c6,SF av,Nx,decide_eq_true_eq];rw[<-jQ];exact_mod_cast hlt
  have z7:=z7 z8;have nX:C*i+C<=sD:=by
   obtain⟨q,rfl⟩:=aaH;have:i<q:=Nat.lt_of_mul_lt_mul_left hlt;have:C*(i+1)<=C*q:=Wd C this;rw[Nat.mul_succ]at this;omega
  have aQ3:¬cap.den ρ<0:=λh0=>by have:=eU h0;omega
  have Na:=gG (by omega);have hid:(ro.add ((U.var (n+1+l2.length)).smul c)).den (bO ρ (n+1) (zs++[(i:Int)]))=ro.den ρ+(C*i:Nat):=by
   rw[U.den_add,U.nu,U.c6,SF av,U.ch iU tM,<-jQ];simp
  have al6:o.den (bO ρ (n+1) (zs++[(i:Int)]))=o.den ρ:=U.ch iU uQ;have SD:(V.w (.one (.sl b 1 o (ro.add ((U.var (n+1+l2.length)).smul c)) (.const c) (.const c)))).ok (n+1+l2.length+1) gB.length (bO ρ (n+1) (zs++[(i:Int)])):=by
   refine⟨by omega,⟨uQ.mono (by omega),U.y0 (tM.mono (by omega)) (U.xG (U.hQ (by omega))),U.dK _ _,U.dK _ _⟩,?_⟩;rw[hid,al6,U.bz];exact⟨⟨s1,by omega,by omega,by omega⟩,⟨by omega,by omega⟩,λh=>by omega,λ_=>cF _⟩
  have aA0:(V.w (.one (.sl b 1 o (ro.add ((U.var (n+1+l2.length)).smul c)) (.const c) (.const c)))).rel (bO ρ (n+1) (zs++[(i:Int)])) m (.slice (some ⟨m b,(o.den ρ).toNat+(ro.den ρ).toNat+C*i,none⟩) C C):=by
   simp only[V.rel,bX.W.den,A.den,hid,al6,U.bz,D6];rw[if_neg (by omega),show c.toNat=C by omega,show(ro.den ρ+(C*i:Nat)).toNat=(ro.den ρ).toNat+C*i by omega,Nat.add_assoc]
  have ak8:R (narrow w0 jY []) (n+1+l2.length+1) (bO ρ (n+1) (zs++[(i:Int)])) m (xI tm p (.w (.one (.sl b 1 o (ro.add ((U.var (n+1+l2.length)).smul c)) (.const c) (.const c))))) gB
   (({tmps:=a.tmps,defers:=[]}:Act).put (some p) (.slice (some ⟨m b,(o.den ρ).toNat+(ro.den ρ).toNat+C*i,none⟩) C C)) W:=
   ⟨fl.put z4.t (some p) SD aA0,z4.d,z4.b,z4.bL⟩
  have hy:=run_yield (P:=P) (args:=#[.slice (some ⟨m b,(o.den ρ).toNat+(ro.den ρ).toNat+C*i,none⟩) C C]) Sn (by rw[Ht];rfl);rw[Ht]at hy;have awL:(({tmps:=a.tmps,defers:=[]}:Act).put (some p) (.slice (some ⟨m b,(o.den ρ).toNat+(ro.den ρ).toNat+C*i,none⟩) C C))={tmps:=((#[p]:Array Tmp).zip #[Qt (some ⟨m b,(o.den ρ).toNat+(ro.den ρ).toNat+C*i,none⟩) C C]).foldl (λtmps (t,a)=>tmps.setIfInBounds t a) a.tmps,defers:=[]}:=by
   simp[Act.put]
  rw[awL]at ak8;refine⟨fn,_,assign,body,hy,roundIn_of_wpIn trivial ?_⟩;refine Jv (rd:=some l) hm (c8 _ _ _) (λg cs h=>hg g cs h) (nY _ _ _) assign (.inr fY) _ _ _ _ _ _ _ _ W _ ak8 z7 λx bk bg hZ U0 uy G1 bG eR g1 g2 g3 g4=>?_;cases x with
  |exit id=>exact g4.elim
  |ret=>exact g4.elim
  |normal=>
   simp only at g4;have alX:eR.heap[l]?=some (.loop (rec .ready none)):=(g3.bL.j1 l C8 (Hk l _ yn rfl)).trans yn;obtain⟨Gl,aaf⟩:∃o,o=Obj.loop {rec .ready none with state:= .busy}:=⟨_,rfl⟩;have ax6:Gl.isCells=false:=by rw[aaf];rfl
   have M2:Mem ⟨w0.b,jY.putObj l Gl,(narrow w0 jY []).ex,w0.ro,[]⟩ bg hZ uy (eR.putObj l Gl):=
    Mem.y3 g3.bL l (by omega) (Hk l _ yn rfl) C8 (BX _ _ _) (BX _ _ _) (λk af=>A4 af) (λk af=>A4 af) (by rw[Eg (Array.getElem?_eq_some_iff.1 alX).1,Eg C8]) (λo aw=>by rw[yn]at aw;cases aw;rfl)
   refine⟨eR.putObj l Gl,by rw[aaf];exact run_beginRound alX (by rw[Ht]),?_⟩;refine Jv (rd:=some l) hm (c8 _ _ _) (λg cs h=>hg g cs h) (nY _ _ _) body (.inr hK) bk U0 uy _ G1 bg hZ bG _ _ (⟨g3.t,g3.d,g3.b,M2⟩:R ⟨w0.b,jY.putObj l Gl,(narrow w0 jY []).ex,w0.ro,[]⟩ bk bg hZ U0 uy bG (eR.putObj l Gl)) g4 λx gF b0 e5 aLI sG QJ a2 qK k1 k2 k3 k4=>?_;cases x with
   |exit id=>exact k4.elim
   |ret=>exact k4.elim
   |normal=>
    simp only at k4;split at k4
    rotate_left
    ·exact k4.elim
    rename_i sH v2 zK iS;cases hf:qp gB sH with
    |false=>rw[hf]at k4;exact k4.elim
    |true=>
    rw[hf]at k4;simp only[cond_true,T.holds]at k4;have Sl:qK.heap[l]?=some Gl:=(k3.bL.j1 l (by rw[agh];exact C8) (Hk l _ yn rfl)).trans (Eg C8);have azW:=(Array.getElem?_eq_some_iff.1 Sl).1;rw[aaf]at Sl;refine⟨_,_,run_endRound none Sl,rfl,?_⟩;have aAt:({{rec .ready none with state:= .busy}with state:=if(none:Option Code).isNone then .ready else .done,pending:=none}:Loop)=rec .ready none:=by rw[Ht];rfl
    rw[aAt];have atJ:Mem (narrow w0 jY []) b0 e5 sG (qK.putObj l (.loop (rec .ready none))):=
     Mem.y3 k3.bL l (by omega) (Hk l _ yn rfl) (by rw[agh];exact C8) ⟨rfl,rfl,rfl,World.putObj_size.symm⟩ (BX _ _ _) (λk af=>(A4 af).symm) (λk af=>A4 af) (by rw[Eg azW,yn]) (λo aw=>by rw[Eg C8]at aw;cases aw;exact ax6)
    have aaj:fj n bl.length ρ m (n+1+l2.length+1) gB.length (bO ρ (n+1) (zs++[(i:Int)])) m:=⟨by omega,iU,by omega,λ_ _=>rfl⟩;have He:=(aaj.trans g1).trans k1;have atU:R (narrow w0 jY []) gF b0 e5 tm sG {tmps:=a.tmps,defers:=[]} (qK.putObj l (.loop (rec .ready none))):=⟨h.t.ext He.ha He.hn He.hb He.hm,rfl,k3.b,atJ⟩;obtain⟨mD,tl,Cc⟩:=head (x:=(U.var (n+1+l2.length)).add (.const 1)) He.hb He.ha He.hm atU iS hf;have amq:b0 (n+1+l2.length)=i:=by rw[(g1.trans k1).ha _ (by omega),SF av]
    have hx:((U.var (n+1+l2.length)).add (.const 1)).den b0=((i+1:Nat):Int):=by rw[U.den_add,U.c6,U.bz,amq];simp
    rw[hx]at Cc;have aag:QJ n=λvs=>fv vs/\hB vs<hB (zs++[(i:Int)]):=by
     rw[k2 n (by have:=g1.hn;omega),g2 n (by omega)];unfold ft.set;rw[show aR n n=true from IX n];rfl
    rw[aag,jd,dk,gZ,hx]at k4;have:i+1<=sD:=by
     have:=Nat.mul_le_mul_right i (show 1<=C by omega);omega
    exact⟨v2.map (·.den b0),by simp[mD],nA tl ⟨by omega,by omega,trivial⟩,k4.1,Cc⟩
noncomputable def Rc (P:bU) (gl:fO) (cal:gy) (inl:mH) (li:dD->Nat->Option gz) (rounds:Nat) (cells:List (Nat×Nat×Int×Int)) (Br:dD):mH:=
 λf n vs bl k=>match P.funcs[f]? with
  |none=> .stuck
  |some fn=>match fn.body with
   |some (.seq da (.seq (.seq c1 (.block _ (.rangeFunc g ly assign body))) cA))=>cond (!(fn.name== "runtime.NumGoroutine")&&cJ vs.length fn.ntmps)
    (qj P gl cal inl (li f) rounds da n (vs++K9 (fn.ntmps-vs.length)) bl λx n tm bl=>match x with
      | .normal=>qj P gl cal inl (li f) rounds c1 n tm bl λx n tm bl=>match x with
       | .normal=>adZ P gl cal inl (li f) rounds cells Br g ly assign body n tm bl λn tm bl=>
        qj P gl cal (λ_ _ _ _ _=> .stuck) (li f) rounds cA n tm bl λx n tm bl=>match x with
         | .exit _=> .stuck
         |_=>PN P gl fn n tm bl k
       |_=> .stuck
      |_=> .stuck) .stuck
   |_=> .stuck
theorem aBH {w0:eV}:rI S L w0 P (λ_ _ _ _ _=> .stuck):=λf n vs bl k G ρ m w xs R' _ _ _ _ ae _=>ae.elim
theorem auY {w0:eV} {inl:mH} {li:dD->Nat->Option gz} {rounds:Nat} {cells:List (Nat×Nat×Int×Int)} {Br:dD} (o2:Xq P Br) (hm:P.follows .mixedOrders=true)
 (c8:∀r ex ro,iD S P gl ⟨w0.b,r,ex,ro,[]⟩ cal) (hg:gJ gl w0) (nY:∀r ex ro,rI S L ⟨w0.b,r,ex,ro,[]⟩ P inl) (sY:w0.ds=[]):rI S L w0 P (Rc P gl cal inl li rounds cells Br):=by
 have aml:w0=⟨w0.b,w0.r,w0.ex,w0.ro,[]⟩:=by cases w0;simp at sY;subst sY;rfl
 have alu:iD S P gl w0 cal:=by rw[aml];exact c8 _ _ _
 have alP:rI S L w0 P inl:=by rw[aml];exact nY _ _ _
 intro f n vs bl k G ρ m w xs R' hb nx lO hrel ae af;unfold Rc at ae;cases hf:P.funcs[f]? with
 |none=>simp[hf,T.holds]at ae
 |some fn=>
  simp only[hf]at ae;split at ae
  rotate_left
  ·exact ae.elim
  rename_i da c1 id g ly assign body cA C1;cases hc:(!(fn.name== "runtime.NumGoroutine")&&cJ vs.length fn.ntmps)with
  |false=>simp[hc,T.holds]at ae
  |true=>
   simp only[hc,cond_true]at ae;simp only[bA,cy]at hc;have hlen:=XG hrel;refine⟨?_,?_⟩
   ·have h1:¬fn.name= "runtime.NumGoroutine" :=by have:=hc.1;simpa using this
    simp[callFunc,hf,C1,h1]
   ·refine(callsIn_wide (n:=0)).1 (callsIn_of_wp_marks hf C1 trivial ?_ rfl);have hR:R w0 n ρ m (vs++K9 (fn.ntmps-vs.length)) bl {tmps:=xs.toArray++Cu (fn.ntmps-xs.toArray.size) undef,defers:=[]} w:=by
     refine⟨?_,sY.symm,hb,nx⟩;have:=QX (XE (fn.ntmps-vs.length) lO hrel);have e:(xs++fD (fn.ntmps-vs.length) undef).toArray=xs.toArray++Cu (fn.ntmps-xs.toArray.size) undef:=by
      simp[hlen]
     rw[e]at this;exact this
    refine wpIn_seq (Jv (rd:=none) hm alu hg alP da (.inl rfl) n _ bl _ G ρ m _ w _ hR ae λx bk bg hZ U0 uy G1 bG eR h1 h2 h3 h4=>?_);cases x with
    |exit id=>exact h4.elim
    |ret=>exact h4.elim
    |normal=>
    refine wpIn_seq (wpIn_seq (Jv (rd:=none) hm alu hg alP c1 (.inl rfl) bk U0 uy _ G1 bg hZ bG eR _ h3 h4 λx gF b0 e5 aLI sG QJ a2 qK k1 k2 k3 k4=>?_));cases x with
    |exit id=>exact k4.elim
    |ret=>exact k4.elim
    |normal=>
    refine wpIn_block (aJj o2 hm c8 hg nY k3 sY k4 λtZ je aLJ auX Xu dh D a3 vj b1 bY dH h8 il ix qE KT aoV aoU=>?_);have azb:iD S P gl dh cal:=by
     have e:dh=⟨w0.b,dh.r,dh.ex,dh.ro,dh.ds⟩:=by have:=dH.b;cases dh;simp at this;subst this;rfl
     rw[e];exact(c8 _ _ _).ds
    have Hm:gJ gl dh:=λg cs h=>by rw[dH.b];exact hg g cs h
    refine Jv (rd:=none) hm azb Hm aBH cA (.inl rfl) tZ aLJ auX _ Xu je e5 a3 vj _ aoV aoU λx dA QI BO aqn Mh QK a4 b5 a1 bB cp eC=>?_;have q2:b5.heap[D]?=some (.deferred (some [])):=(cp.bL.j1 D (Array.getElem?_eq_some_iff.1 il).1 h8).trans il;have azX:=(Array.getElem?_eq_some_iff.1 q2).1;have atL:Mem ⟨dh.b,dh.r.putObj D (.deferred none),dh.ex,dh.ro,[]⟩ QI BO Mh (b5.putObj D (.deferred none)):=by
     have e:dh=⟨dh.b,dh.r,dh.ex,dh.ro,dh.ds⟩:=rfl;refine Mem.y3 (e▸cp.bL) D (by rw[dH.b];exact qE) h8 (Array.getElem?_eq_some_iff.1 il).1 (BX _ _ _) (BX _ _ _) (λk af=>A4 af) (λk af=>A4 af) (by rw[Eg azX,Eg (Array.getElem?_eq_some_iff.1 il).1]) (λo aw=>by rw[il]at aw;cases aw;rfl)
    have Gt:Sub ⟨dh.b,dh.r.putObj D (.deferred none),dh.ex,dh.ro,[]⟩ w0:=Sub.y3 (ds:=dh.ds) dH D ix (BX _ _ _) (λk af=>A4 af);have ahl:Mem w0 QI BO Mh (b5.putObj D (.deferred none)):=atL.less Gt;have atV:R w0 dA QI BO aqn Mh {a4 with defers:=[]} (b5.putObj D (.deferred none)):=⟨cp.t,sY.symm,cp.b,ahl⟩;have fin:(PN P gl fn dA aqn Mh k).holds S L QK QI->LeavesInM I4 0 P fn a4.tmps R' a4.defers .returning b5:=λhr=>by
     obtain⟨v,val,mD,tl,Cc,Vu⟩:=ad3 hg atV hr;have ej:=(((h1.trans k1).trans b1).trans a1);have aQ:=(((h2.trans k2 h1.hn).trans bY (h1.trans k1).hn).trans bB ((h1.trans k1).trans b1).hn);rw[cp.d,KT];exact⟨by simp,.inl ⟨D,_,rfl,run_takeDeferred q2,val,Cc,af dA v Mh QK QI BO _ val ej aQ mD tl cp.b ahl Vu⟩⟩
    cases x with
    |exit id=>exact eC.elim
    |normal=>exact fin eC
    |ret=>exact fin eC
end Go.bX
namespace Go.bX
open M
variable {S:Nat->List Int->List Int->Prop} {L:V->Env->Prop} {P:bU} {gl:fO} {cal:gy}
structure la where
 c:fE
 ty:bw
 nil:Bool
def FG (p:la) (g k:Nat):Array a6:=cond p.nil #[.slice (some ⟨g,0,none⟩) k k,.slice none 0 0] #[.slice (some ⟨g,0,none⟩) k k]
def la.bu (P:bU) (wb:aC) (p:la) (spec:List Int->List Int->Prop):Prop:=
 (∀args w,(callFunc p.c.f args).run P w= .ok (.enter p.c.f args) w)/\
 ∀(F:Nat->Prop) (w:aC) (vs:List a6) (zs:List Int) (g:Nat),wb.Extends w->ay (dF p.c.args) zs->KW p.c.pre zs->ni F (λ_=>False) w p.c.args zs vs->wb.heap.size<=g->¬F g->w.heap[g]?=some (.cells vs.toArray p.ty (0,0))->
  oq P p.c.f (FG p g vs.length) w λe w'=>w.Extends w'/\∃rs us,ay (dF p.c.res) rs/\spec zs rs/\ni (λg=>F g∨w.heap.size<=g) (λg=>w.heap.size<=g) w' p.c.res rs us/\e= .returned (xL us)
def Uc (nil:Bool) (vs:List V):Option (Nat×Nat×Nat):=
 match vs with
 |[.w (.one (.slc b 0 len cap))]=>cond nil none (some (b,len,cap))
 |[.w (.one (.slc b 0 len cap)),.w (.one (.con (.slice none 0 0)))]=>cond nil (some (b,len,cap)) none
 |_=>none
def nE (a:A):V:= .w (.one a)
noncomputable def la.E (p:la) (n:Nat) (vs:List V) (bl:List aH) (k:RK):T:=
 match Uc p.nil vs with
 |some (b,len,cap)=>match bl[b]? with
  |some (cs,(t,false))=>cond (cd cs&&aR len cs.length&&aR cap cs.length&&aR t p.ty&& !(((cs.map nE).flatMap qd).any (aR b))) (p.c.LY n (cs.map nE) bl k) .stuck
  |_=> .stuck
 |none=> .stuck
theorem XH {ρ:Env} {m:Nat->Nat}:∀(cs:List A),gb ρ m (cs.map nE) (cs.map (A.den ρ m))
 |[]=>trivial
 |a::r=>⟨rfl,XH r⟩
theorem aHl {p:la} {vs:List V} {b len cap:Nat} {ρ:Env} {m:Nat->Nat} {xs:List a6} (h:Uc p.nil vs=some (b,len,cap)) (hr:gb ρ m vs xs) (Nw:cap=len):xs.toArray=FG p (m b) len:=by
 subst Nw;unfold Uc at h;split at h
 ·cases hn:p.nil with
  |true=>rw[hn]at h;cases h
  |false=>
   rw[hn]at h;cases h
   match xs,hr with
   |[x],hr=>have hx:x=_:=hr.1;rw[hx];simp[FG,hn,W.den,A.den]
 ·cases hn:p.nil with
  |false=>rw[hn]at h;cases h
  |true=>
   rw[hn]at h;cases h
   match xs,hr with
   |[x,y],hr=>have hx:x=_:=hr.1;have hy:y=_:=hr.2.1;rw[hx,hy];simp[FG,hn,W.den,A.den]
 ·cases h
theorem la.L0 {w0:eV} {p:la} {spec:List Int->List Int->Prop} (hc:p.bu P w0.b spec) (iK:∀zs rs,spec zs rs->S p.c.id zs rs) (n:Nat) (vs:List V) (bl:List aH) (k:RK) (G:ft) (ρ:Env) (m:Nat->Nat) (w:aC) (xs:List a6) (R':Ending->aC->Prop)
 (hb:dg n bl.length ρ bl) (hw:Mem w0 ρ m bl w) (hv:∀v∈vs,V.ok n bl.length ρ v) (hr:gb ρ m vs xs) (ae:(p.E n vs bl k).holds S L G ρ) (af:Gs S L w0 k n bl.length ρ m G R'):
 (callFunc p.c.f xs.toArray).run P w= .ok (.enter p.c.f xs.toArray) w/\oq P p.c.f xs.toArray w R':=by
 refine⟨hc.1 _ _,?_⟩;unfold la.E at ae;split at ae
 rotate_left
 ·exact ae.elim
 rename_i b len cap hp;split at ae
 rotate_left
 ·exact ae.elim
 rename_i cs t ba;cases lq:(cd cs&&aR len cs.length&&aR cap cs.length&&aR t p.ty&& !(((cs.map nE).flatMap qd).any (aR b)))with
 |false=>rw[lq]at ae;exact ae.elim
 |true=>
 rw[lq]at ae;simp only[bA,cy]at lq;obtain⟨⟨⟨⟨c1,bN⟩,cA⟩,dr⟩,fY⟩:=lq;have bN:=bV bN;have cA:=bV cA;have dr:=bV dr;subst dr;rw[aHl hp hr (by omega),bN];obtain⟨bQ,b9,r,j4,dh⟩:=hw.hI b cs _ ba c1;have j4:=j4 rfl;subst j4;rw[iq]at dh;refine fE.ahb (f:=p.c.f) iK n (cs.map nE) bl k G ρ m w (cs.map (A.den ρ m)) R' (λzs h1 h2 h3=>?_) hb hw (λv hv=>?_) (XH cs) ae af
 ·have:=hc.2 _ w _ zs (m b) hw.ext h1 h2 h3 bQ (λhF=>?_) dh
  ·rwa [qQ]at this
  ·obtain⟨⟨b',k1,k2,q,k3,k4,_⟩,_⟩:=hF;have dz:b≠b':=λe=>by
    subst e;rw[List.any_eq_true.2 ⟨b,k1,IX b⟩]at fY;cases fY
   rcases hw.inj b b' _ q ba k3 k2.symm with h|h|h|h
   ·exact dz h
   ·have:=n6 (ρ:=ρ) c1;simp only at h;omega
   ·have:=n6 (ρ:=ρ) c1;simp only at h;omega
   ·exact k4 h
 ·obtain⟨a,ha,rfl⟩:=List.mem_map.1 hv;exact hb _ (fZ ba) a ha
def ZL (p:la) (vs:List V):Bool:=match Uc p.nil vs with
 |some (_,len,_)=>aR len p.c.args.length
 |none=>false
noncomputable def rn:List la->qT->qT
 |[],bc=>bc
 |p::r,bc=>λf=>cond (aR p.c.f f) (some λn vs bl k=>cond (ZL p vs) (p.E n vs bl k) (match rn r bc f with
  |some g=>g n vs bl k
  |none=> .stuck)) (rn r bc f)
theorem BW {w0:eV} {bc:qT} (oD:x0 S L w0 P bc):∀{l:List la},(∀p∈l,p.bu P w0.b (S p.c.id))->x0 S L w0 P (rn l bc)
 |[],_=>oD
 |p::l,h=>λf g hf=>by
  unfold rn at hf;cases hb:aR p.c.f f with
  |true=>
   rw[hb]at hf;simp only[cond_true,bp]at hf;have:=bV hb;subst this;subst hf;intro n vs bl k G ρ m w xs R' h1 h2 h3 h4 h5 h6;have h5:(cond (ZL p vs) (p.E n vs bl k) (match rn l bc p.c.f with
    |some g=>g n vs bl k
    |none=> .stuck)).holds S L G ρ:=h5
   cases ai:ZL p vs with
   |true=>
    rw[ai]at h5;exact la.L0 (h p (by simp)) (λ_ _ h=>h) n vs bl k G ρ m w xs R' h1 h2 h3 h4 h5 h6
   |false=>
    rw[ai]at h5;simp only[cond_false]at h5;cases hr:rn l bc p.c.f with
    |none=>rw[hr]at h5;exact h5.elim
    |some l6=>
     rw[hr]at h5;exact BW oD (λp hp=>h p (eS _ hp)) p.c.f l6 hr n vs bl k G ρ m w xs R' h1 h2 h3 h4 h5 h6
  |false=>
   rw[hb]at hf;exact BW oD (λp hp=>h p (eS _ hp)) f g hf
def ub:W->A
 | .one a=>a
 |_=> .con undef
noncomputable def la.tree (bc:qT) (P:bU) (gl:fO) (cal:gy) (li:dD->Nat->Option gz) (rounds d:Nat) (p:la):T:=
 cond (tv p.c.args&& !(p.c.args.any cT.tQ)) (Ug p.c.pre ((ga (dF p.c.args).length).map KF) (zI p.c.args 0 (dF p.c.args).length [] [] λn us bl=>
  cond (us.all (λu=>match u with| .one _=>true|_=>false)&&cd (us.map ub)) (Jr bc P gl cal li rounds d p.c.f n (cond p.nil [nE (.slc bl.length 0 us.length us.length),nE (.con (.slice none 0 0))] [nE (.slc bl.length 0 us.length us.length)]) (bl++[(us.map ub,(p.ty,false))]) λn' v bx=>match bx[bl.length]? with
   |some (cs,(t,false))=>cond (rK cs (us.map ub)&&aR t p.ty) (PO (eD bx bl.length hW) p.c.res v n' λos _=> .leaf (FB os)) .stuck
   |_=> .stuck) .stuck)) .stuck
theorem Mem.more {b r:aC} {ex ex' ro:Nat->Prop} {ds:List Gg} {ρ:Env} {m:Nat->Nat} {bl:List aH} {w:aC} (h:Mem ⟨b,r,ex,ro,ds⟩ ρ m bl w) (he:∀g,ex g->ex' g):Mem ⟨b,r,ex',ro,ds⟩ ρ m bl w:=
 ⟨h.ext,h.km,h.mU,h.l8,h.iW,λi hi hx=>h.j1 i hi λo7=>hx (he i o7),λi cs t hi aw=>by
  obtain⟨h1,h2,h3⟩:=h.hI i cs t hi aw;exact⟨h1,h2.imp (he _) id,h3⟩,λi sh off code cap kind t hi af=>by
  obtain⟨g1,g2⟩:=h.rws i sh off code cap kind t hi af;refine⟨g1,λhc=>?_⟩;obtain⟨k1,cells,t',fz,k2,k3,k4⟩:=g2 hc;refine⟨k1.imp (he _) id,cells,t',fz,k2,k3,λh2=>?_⟩;obtain⟨fK,oE,pO,tR,An,q9⟩:=k4 h2;exact⟨fK,oE,pO,tR,An,q9.imp (he _) id⟩,h.inj⟩
theorem Mem.drop {b r:aC} {ro:Nat->Prop} {ρ:Env} {m:Nat->Nat} {bl:List aH} {w:aC} {g i0:Nat} {cs:List A} {t:bw} (h:Mem ⟨b,r,λi=>i=g,ro,[]⟩ ρ m bl w) (hi:bl[i0]?=some (cs,(t,false))) (aw:cd cs=true) (hg:m i0=g) (hr:r.heap[g]?=some (.cells (cs.map (A.den ρ m)).toArray t (0,0))):
 Mem ⟨b,r,λ_=>False,ro,[]⟩ ρ m (eD bl i0 hW) w:=by
 have hlen:i0<bl.length:=(List.getElem?_eq_some_iff.1 hi).1;have eO:∀(i:Nat) (q:aH),(eD bl i0 hW)[i]?=some q->(i=i0/\q=hW)∨(i≠i0/\bl[i]?=some q):=λi q ai=>by
  rw[m3,wv]at ai;split at ai
  ·rename_i iV;subst iV;simp only[hlen,if_true,bp]at ai;exact .inl ⟨rfl,ai.symm⟩
  ·rename_i iV;exact .inr ⟨λe=>iV e.symm,ai⟩
 have jC:bP ρ hW.1=0:=by simp[hW,bP,U.bz]
 have o4:bP ρ cs=2:=n6 aw;have dz:∀(i:Nat) (q:aH),i≠i0->bl[i]?=some q->bP ρ q.1≠0->m i≠g:=λi q qv ai af e=>by
  rcases h.inj i i0 q _ ai hi (by rw[e,hg])with h1|h1|h1|h1
  ·exact qv h1
  ·simp only at h1;omega
  ·exact af h1
  ·simp only at h1;omega
 refine⟨h.ext,h.km,h.mU,h.l8,h.iW,λi j3 _=>?_,λi lM t' ai kE=>?_,λi sh off code cap kind t' ai=>?_,λi j p q hp ai he=>?_⟩
 ·by_cases e:i=g
  ·subst e;obtain⟨_,_,Lb,pN,h3⟩:=h.hI i0 cs _ hi aw;have pN:=pN rfl;subst pN;rw[iq,hg]at h3;rw[h3];exact hr.symm
  ·exact h.j1 i j3 e
 ·rcases eO i _ ai with⟨_,e⟩|⟨qv,ai⟩
  ·simp only[hW,eZ]at e;rw[e.1]at kE;simp[cd]at kE
  ·obtain⟨h1,h2,h3⟩:=h.hI i lM t' ai kE;refine⟨h1,?_,h3⟩;rcases h2 with h2|h2
   ·exact absurd h2 (dz i _ qv ai (by rw[n6 kE];decide))
   ·exact .inr h2
 ·rcases eO i _ ai with⟨_,e⟩|⟨qv,ai⟩
  ·simp only[hW,eZ,mh,A.rows.injEq,and_true]at e;intro af;exact absurd e.1.2.2.2.2 af
  ·intro af;obtain⟨g1,g2⟩:=h.rws i sh off code cap kind t' ai af;refine⟨g1,λhc=>?_⟩;have Hq:m i≠g:=dz i _ qv ai (by simp only[bP];rw[if_neg (by omega)];exact af);obtain⟨k1,cells,P1,fz,k2,k3,k4⟩:=g2 hc;refine⟨?_,cells,P1,fz,k2,k3,λh2=>?_⟩
   ·rcases k1 with k1|k1
    ·exact absurd k1 Hq
    ·exact .inr k1
   ·obtain⟨fK,oE,pO,tR,An,q9⟩:=k4 h2;refine⟨fK,oE,pO,tR,An,?_⟩;rcases q9 with q9|q9
    ·exact absurd q9 Hq
    ·exact .inr q9
 ·rcases eO i _ hp with⟨_,e⟩|⟨qv,hp⟩
  ·subst e;exact .inr (.inr (.inl jC))
  ·rcases eO j _ ai with⟨_,e⟩|⟨alT,ai⟩
   ·subst e;exact .inr (.inr (.inr jC))
   ·exact h.inj i j p q hp ai he
theorem la.OU {wb:aC} {gl:fO} {p:la} {bc:qT} {cal:gy} {li:dD->Nat->Option gz} {rounds d:Nat} {spec:List Int->List Int->Prop} (hm:P.follows .mixedOrders=true) (c8:∀r ex ro,iD S P gl ⟨wb,r,ex,ro,[]⟩ cal) (hg:gJ gl ⟨wb,wb,λ_=>False,λ_=>False,[]⟩)
 (oD:∀(L:V->Env->Prop) (r:aC) (ex ro:Nat->Prop),x0 S L ⟨wb,r,ex,ro,[]⟩ P bc) (hf:∀args w,(callFunc p.c.f args).run P w= .ok (.enter p.c.f args) w)
 (aA:kx (dF p.c.args) λzs=>(p.tree bc P gl cal li rounds d).holds S (zF λrs=>ay (dF p.c.res) rs/\spec zs rs) (λ_ _=>False) (bO (λ_=>0) 0 zs)):p.bu P wb spec:=by
 refine⟨hf,λF w vs zs g hw hz NJ hat aaB M0 hcell=>?_⟩;have ae:=nh aA hz;have xh:=dn hz;unfold la.tree at ae;cases ai:(tv p.c.args&& !(p.c.args.any cT.tQ))with
 |false=>rw[ai]at ae;exact ae.elim
 |true=>
  rw[ai]at ae;simp only[cond_true]at ae;have ae:=preA_holds ae (by rw[<-xh,TM];exact NJ);simp only[bA,cy]at ai;have nx:Mem ⟨wb,w,λ_=>False,F,[]⟩ (bO (λ_=>0) 0 zs) (λ_=>0) [] w:=⟨hw,rfl,rfl,rfl,bS _,λ_ _ _=>rfl,λi cs t h=>by simp at h,λi sh off code cap kind t h=>by simp at h,λi j p q h=>by simp at h⟩;have jR:(p.c.args.all λb=> !b.tQ)=true:=by
   rw[LK];intro b hb;cases iG:b.tQ with
   |false=>rfl
   |true=>rw[List.any_eq_true.2 ⟨b,hb,iG⟩]at ai;cases ai.2
  obtain⟨n',ad,m',us,bl,b1,bY,dH,h8,il,ix⟩:=GD (S:=S) (L:=_) (w0:=⟨wb,w,λ_=>False,F,[]⟩) (F:=F) (N:=λ_=>False) (λg hg=> .inr (.inl hg)) (λg hg=>hg.elim) (l:=p.c.args) (s:=0) (us:=[]) (bl:=[]) (m:=λ_=>0) ai.1 (λp hp=>by simp at hp) nx (kr.bO _ 0 zs) hz (by omega) hat (.inr λi p h=>by simp at h) (.inl jR) (λu hu=>by simp at hu) ae;cases yw:(us.all (λu=>match u with| .one _=>true|_=>false)&&cd (us.map ub))with
  |false=>rw[yw]at ix;exact ix.elim
  |true=>
  rw[yw]at ix;simp only[cond_true]at ix;simp only[bA]at yw;have amj:∀u∈us,u= .one (ub u):=λu hu=>by
   have:=List.all_eq_true.1 yw.1 u hu;cases u with
   |one a=>rfl
   |_=>simp at this
  have lO:(us.map ub).map (A.den ad m')=vs:=by
   have e:us.map (W.den ad m')=vs:=by simpa using h8
   rw[<-e,om];refine kK λu hu=>?_;rw[amj u hu];rfl
  have abm:∀a∈us.map ub,A.ok n' bl.length ad a:=λa ha=>by
   obtain⟨u,hu,rfl⟩:=List.mem_map.1 ha;have h1:=il u hu;rw[amj u hu]at h1;exact h1
  have Sf:g<w.heap.size:=(Array.getElem?_eq_some_iff.1 hcell).1;have nU:=(dH.more (ex':=λi=>i=g) λ_ h=>h.elim).push (x:=(us.map ub,(p.ty,false))) (g:=g) bY abm (λ_=>⟨aaB,.inl rfl,[],λ_=>rfl,by rw[iq,lO];exact hcell⟩) (λsh off code cap kind he=>by
   simp only at he;rw[he]at yw;simp[cd]at yw) (λi q hi he=>by
    refine .inr (.inl ?_);by_cases h0:bP ad q.1=0
    ·exact h0
    ·exfalso;obtain⟨cs,t⟩:=q;cases aw:cd cs with
     |true=>
      obtain⟨_,h2,_⟩:=dH.hI i cs t hi aw;rcases h2 with h2|h2
      ·exact h2
      ·simp only at h2;omega
     |false=>
      obtain⟨sh,off,code,cap,k,e⟩:=T9 aw;subst e;simp only[bP]at h0;split at h0
      ·exact h0 rfl
      ·rename_i hc;obtain⟨h1,_⟩:=(dH.rws i sh off code cap k t hi h0).2 (by omega);rcases h1 with h1|h1|h1
       ·exact h1
       ·rw[he]at h1;exact M0 h1
       ·simp only at h1;omega)
  have Hj:dg n' (bl++[(us.map ub,(p.ty,false))]).length ad (bl++[(us.map ub,(p.ty,false))]):=λq ai a nV=>by
   rcases List.mem_append.1 ai with ai|ai
   ·exact(bY q ai a nV).ext (agree.refl _ _) (bS _) (by simp)
   ·simp at ai;subst ai;exact(abm a nV).ext (agree.refl _ _) (bS _) (by simp)
  have aAR:us.length=vs.length:=by rw[<-lO];simp
  have aaP:gJ gl ⟨wb,w,λi=>i=g,F,[]⟩:=hg;have amf:V.ok n' (bl++[(us.map ub,(p.ty,false))]).length ad (nE (.slc bl.length 0 us.length us.length)):=by
   show bl.length<_;simp
  have yx:(nE (.slc bl.length 0 us.length us.length)).rel ad (od m' bl.length g) (.slice (some ⟨g,0,none⟩) vs.length vs.length):=by
   simp[V.rel,nE,W.den,A.den,pY,aAR]
  have tI:∀v∈(cond p.nil [nE (.slc bl.length 0 us.length us.length),nE (.con (.slice none 0 0))] [nE (.slc bl.length 0 us.length us.length)]),V.ok n' (bl++[(us.map ub,(p.ty,false))]).length ad v:=λv hv=>by
   have azk:V.ok n' (bl++[(us.map ub,(p.ty,false))]).length ad (nE (.con (.slice none 0 0))):=rfl;cases hn:p.nil with
   |true=>
    rw[hn]at hv;simp only[cond_true,pt,zu,or_false]at hv;rcases hv with rfl|rfl
    ·exact amf
    ·exact azk
   |false=>
    rw[hn]at hv;simp only[cond_false,pt,zu,or_false]at hv;subst hv;exact amf
  have hrel:gb ad (od m' bl.length g) (cond p.nil [nE (.slc bl.length 0 us.length us.length),nE (.con (.slice none 0 0))] [nE (.slc bl.length 0 us.length us.length)]) (FG p g vs.length).toList:=by
   unfold FG;cases hn:p.nil with
   |true=>simp only[cond_true];exact⟨yx,rfl,trivial⟩
   |false=>simp only[cond_false];exact⟨yx,trivial⟩
  have azc:=(Rr (S:=S) (w0:=⟨wb,w,λi=>i=g,F,[]⟩) (R':=λe w'=>w.Extends w'/\∃rs us,ay (dF p.c.res) rs/\spec zs rs/\ni (λg=>F g∨w.heap.size<=g) (λg=>w.heap.size<=g) w' p.c.res rs us/\e= .returned (xL us)) rfl hm (c8 w _ F) aaP (oD _ _ _ _) d p.c.f n' _ _ _ _ ad (od m' bl.length g) w _ Hj nU tI hrel ix ?_).2
  ·simpa using azc
  intro gF v bx e7 b0 e5 w' val h1 h2 h3 h4 h5 h6 h7;simp only at h7;split at h7
  rotate_left
  ·exact h7.elim
  rename_i cs t q3;cases lq:(rK cs (us.map ub)&&aR t p.ty)with
  |false=>rw[lq]at h7;exact h7.elim
  |true=>
  rw[lq]at h7;simp only[cond_true]at h7;simp only[bA]at lq;have awz:=GK lq.1;have EY:=bV lq.2;subst awz;subst EY;have M8:bl.length<(bl++[(us.map ub,(p.ty,false))]).length:=by simp
  have BD:e5 bl.length=g:=by rw[h1.hm _ M8,pY]
  have z8:(us.map ub).map (A.den b0 e5)=vs:=by
   rw[<-lO];refine kK λa ha=>?_;rw[A.oA (abm a ha) h1.ha (λb hb=>?_)];rw[h1.hm b (by simp;omega),pk hb]
  have q2:=h6.drop q3 yw.2 BD (by rw[z8];exact hcell);have iG:dg gF (eD bx bl.length hW).length b0 (eD bx bl.length hW):=by
   rw[mA];intro q ai a ha;rw[m3]at ai;rcases QE ai with ai|ai
   ·exact h5 q ai a ha
   ·subst ai;simp only[hW,pt,zu,or_false]at ha;subst ha;exact⟨⟨U.dK _ _,U.dK _ _,U.dK _ _⟩,by rw[U.bz];exact⟨cF _,A8⟩,by rw[U.bz];omega⟩
  obtain⟨je,tZ,os,Da,w5,⟨xs,tO,BF⟩,hl⟩:=ad4 (S:=S) (w0:=⟨wb,w,λ_=>False,F,[]⟩) (λg hg=>hg) iG q2 (by rw[mA];exact h3) h4 e7 _ h7;have hl:zF _ (FB os) je:=hl;rw[XM]at hl;refine⟨?_,os.map (O.den je),xs,hl.1,hl.2,?_,by rw[tO]⟩
  ·have uN:∀i:Nat,i<w.heap.size->w'.heap[i]?=w.heap[i]?:=λi hi=>q2.j1 i hi λh=>h;exact⟨q2.km,q2.mU,q2.l8,q2.iW,λa ha=>by simp only[pw,uN a.block ha],λa ha=>by simp only[Gd,uN a.block ha],uN⟩
  ·exact fE.OU.Jl (λg hg=>by
    rcases hg with hg|hg|hg
    ·exact hg.elim
    ·exact .inl hg
    ·exact .inr hg) (λg hg=>hg) BF
section
variable {wb:aC} {sh:Nat->List Nat×List Nat} {SB:Nat->List (List Int)->List (List Int)->Prop}
theorem HZ {p:la} {bc:qT} {cal:gy} {li:dD->Nat->Option gz} {rounds d:Nat} {lsh:Nat->List Nat} {lens:List Nat} (hm:P.follows .mixedOrders=true) (c8:∀r ex ro,iD (e1 sh SB) P gl ⟨wb,r,ex,ro,[]⟩ cal) (hg:gJ gl ⟨wb,wb,λ_=>False,λ_=>False,[]⟩)
 (oD:∀(L:V->Env->Prop) (r:aC) (ex ro:Nat->Prop),x0 (e1 sh SB) L ⟨wb,r,ex,ro,[]⟩ P bc) (hf:Bv P p.c.f=true) (hl:lens=(sh p.c.id).1) (hd:Dx p.c.res=(sh p.c.id).2)
 (hv:lY sh lsh SB (gV SB p.c.res p.c.id) lens (dF p.c.args) p.c.res (p.tree bc P gl cal li rounds d)):p.bu P wb (e1 sh SB p.c.id):=by
 refine la.OU (li:=li) (rounds:=rounds) (d:=d) hm c8 hg oD (enters hf) (uw λzs hz=>?_);have h:=nh (X4 hv) hz;simp only[gV,vf]at h;rw[hl,hd]at h;exact h
end
end Go.bX
namespace Go.bX
open M
variable {S:Nat->List Int->List Int->Prop} {L:V->Env->Prop} {P:bU} {gl:fO} {cal:gy}
inductive iO where
 |int (k:dZ) (c:Int)
 |fn (f:dD)
def iO.val:iO->a6
 |int k c=> .int k c
 |fn f=> .func (.func f) #[] #[]
def iO.A:iO->A
 |int k c=> .int k (bT.const c)
 |fn f=> .con (.func (.func f) #[] #[])
def RR:iO->A->Bool
 | .int k c,.int bD x=>decide (k=bD)&&(match x.l.e4 with|some d=>decide (d=c)|none=>false)
 | .fn f,.con v=>match v with
  | .func (.func qo) a b=>aR f qo&&aR a.size 0&&aR b.size 0
  |_=>false
 |_,_=>false
def MN:List iO->List A->Bool
 |[],[]=>true
 |r::l,a::s=>RR r a&&MN l s
 |_,_=>false
def MM:List iO->List V->Bool
 |[],[]=>true
 |r::l,.w (.one a)::s=>RR r a&&MM l s
 |_,_=>false
theorem akl {r:iO} {a:A} {ρ:Env} {m:Nat->Nat} (h:RR r a=true):a.den ρ m=r.val:=by
 unfold RR at h;split at h
 ·rename_i k c bD x;simp only[bA,decide_eq_true_eq]at h;obtain⟨h1,h2⟩:=h;cases hc:x.l.e4 with
  |none=>rw[hc]at h2;cases h2
  |some d=>
   rw[hc]at h2;have h2:=of_decide_eq_true h2;subst h1;subst h2;simp[A.den,iO.val,U.lp hc]
 ·rename_i f v;split at h
  ·rename_i qo x y;simp only[bA]at h;obtain⟨⟨h1,h2⟩,h3⟩:=h;have h1:=bV h1;have h2:=bV h2;have h3:=bV h3;rw[Ef h2,Ef h3,h1];rfl
  ·cases h
 ·cases h
theorem akm {ρ:Env} {m:Nat->Nat}:∀{l:List iO} {cs:List A},MN l cs=true->cs.map (A.den ρ m)=l.map iO.val
 |[],[],_=>rfl
 |r::l,a::s,h=>by
  simp only[MN,bA]at h;simp[akl h.1,akm h.2]
 |[],_::_,h=>by cases h
 |_::_,[],h=>by cases h
theorem akk {ρ:Env} {m:Nat->Nat}:∀{l:List iO} {vs:List V} {xs:List a6},MM l vs=true->gb ρ m vs xs->xs=l.map iO.val
 |[],[],[],_,_=>rfl
 |r::l,.w (.one a)::s,x::xs,h,hr=>by
  simp only[MM,bA]at h;have hx:x=a.den ρ m:=hr.1;rw[hx,akl h.1,akk h.2 hr.2];rfl
 |[],[],_::_,_,h=>h.elim
 |_::_,[],_,h,_=>by cases h
structure qX where
 c:fE
 cells:List iO
 ty:bw
 tail:List iO
structure ahd (g:Nat) (w w':aC):Prop where
 os:w'.os=w.os
 tape:w'.tape=w.tape
 out:w'.output=w.output
 size:w.heap.size<=w'.heap.size
 hI:∀i,i<w.heap.size->i≠g->w'.heap[i]?=w.heap[i]?
def qX.bu (P:bU) (wb:aC) (p:qX) (spec:List Int->List Int->Prop):Prop:=
 (∀args w,(callFunc p.c.f args).run P w= .ok (.enter p.c.f args) w)/\
 ∀(F:Nat->Prop) (w:aC) (vs:List a6) (zs:List Int) (g:Nat),wb.Extends w->ay (dF p.c.args) zs->KW p.c.pre zs->ni F (λ_=>False) w p.c.args zs vs->wb.heap.size<=g->¬F g->w.heap[g]?=some (.cells (p.cells.map iO.val).toArray p.ty (0,0))->
  oq P p.c.f (.pointer (some ⟨g,0,none⟩)::(vs++p.tail.map iO.val)).toArray w λe w'=>ahd g w w'/\∃rs us,ay (dF p.c.res) rs/\spec zs rs/\ni (λg=>F g∨w.heap.size<=g) (λg=>w.heap.size<=g) w' p.c.res rs us/\e= .returned (xL us)
noncomputable def qX.E (p:qX) (n:Nat) (vs:List V) (bl:List aH) (k:RK):T:=
 match vs with
 | .w (.one (.ptr b 0))::us=>match bl[b]? with
  |some (cs,(t,false))=>cond (cd cs&&MN p.cells cs&&aR t p.ty&&MM p.tail (us.drop p.c.args.length)&&cJ p.c.args.length us.length&& !(((us.take p.c.args.length).flatMap qd).any (aR b))&&tv p.c.res&& !(p.c.res.any cT.r3))
   (G7 bl p.c.args (us.take p.c.args.length) n λls bk=>adD p.c.pre ls (.call p.c.id ls bk (dF p.c.res) (zI p.c.res bk (bk+(dF p.c.res).length) [] (eD bl b hW) λgF us sG=>k gF (FW us) sG))) .stuck
  |_=> .stuck
 |_=> .stuck
theorem Mem.but {w0:eV} {ρ:Env} {m:Nat->Nat} {bl:List aH} {w w':aC} {b:Nat} {cs:List A} {t:bw×Bool} (h:Mem w0 ρ m bl w) (hi:bl[b]?=some (cs,t)) (aw:cd cs=true) (hx:ahd (m b) w w'):Mem w0 ρ m (eD bl b hW) w':=by
 have hlen:b<bl.length:=(List.getElem?_eq_some_iff.1 hi).1;have eO:∀(i:Nat) (q:aH),(eD bl b hW)[i]?=some q->(i=b/\q=hW)∨(i≠b/\bl[i]?=some q):=λi q ai=>by
  rw[m3,wv]at ai;split at ai
  ·rename_i iV;subst iV;simp only[hlen,if_true,bp]at ai;exact .inl ⟨rfl,ai.symm⟩
  ·rename_i iV;exact .inr ⟨λe=>iV e.symm,ai⟩
 have jC:bP ρ hW.1=0:=by simp[hW,bP,U.bz]
 have o4:bP ρ cs=2:=n6 aw;have dz:∀(i:Nat) (q:aH),i≠b->bl[i]?=some q->bP ρ q.1≠0->m i≠m b:=λi q qv ai af e=>by
  rcases h.inj i b q _ ai hi e with h1|h1|h1|h1
  ·exact qv h1
  ·simp only at h1;omega
  ·exact af h1
  ·simp only at h1;omega
 obtain⟨qu,q3,_⟩:=h.hI b cs t hi aw;refine⟨ZI h.ext hx.os hx.tape hx.out hx.size (λk af=>hx.hI k (IW af h.ext.size) (by omega)),hx.os.trans h.km,hx.tape.trans h.mU,hx.out.trans h.l8,nK h.iW hx.size,λi j3 hex=>?_,λi lM t' ai kE=>?_,λi sh off code cap kind t' ai=>?_,λi j p q hp ai he=>?_⟩
 ·have J5:i≠m b:=λe=>by
   subst e;rcases q3 with h2|h2
   ·exact hex h2
   ·omega
  rw[hx.hI i (IW j3 h.iW) J5];exact h.j1 i j3 hex
 ·rcases eO i _ ai with⟨_,e⟩|⟨qv,ai⟩
  ·simp only[hW,eZ]at e;rw[e.1]at kE;simp[cd]at kE
  ·obtain⟨h1,h2,r,h3,h4⟩:=h.hI i lM t' ai kE;exact⟨h1,h2,r,h3,by rw[hx.hI _ (Array.getElem?_eq_some_iff.1 h4).1 (dz i _ qv ai (by rw[n6 kE];decide))];exact h4⟩
 ·rcases eO i _ ai with⟨_,e⟩|⟨qv,ai⟩
  ·simp only[hW,eZ,mh,A.rows.injEq,and_true]at e;intro af;exact absurd e.1.2.2.2.2 af
  ·intro af;obtain⟨g1,g2⟩:=h.rws i sh off code cap kind t' ai af;refine⟨g1,λhc=>?_⟩;have Hq:=dz i _ qv ai (by simp only[bP];rw[if_neg (by omega)];exact af);obtain⟨k1,cells,P1,fz,k2,k3,k4⟩:=g2 hc;exact⟨k1,cells,P1,fz,by rw[hx.hI _ (Array.getElem?_eq_some_iff.1 k2).1 Hq];exact k2,k3,k4⟩
 ·rcases eO i _ hp with⟨_,e⟩|⟨qv,hp⟩
  ·subst e;exact .inr (.inr (.inl jC))
  ·rcases eO j _ ai with⟨_,e⟩|⟨alT,ai⟩
   ·subst e;exact .inr (.inr (.inr jC))
   ·exact h.inj i j p q hp ai he
theorem dg.dead {n nb:Nat} {ρ:Env} {bl:List aH} (h:dg n nb ρ bl) (b:Nat):dg n nb ρ (eD bl b hW):=by
 intro q ai a ha;rw[m3]at ai;rcases QE ai with ai|ai
 ·exact h q ai a ha
 ·subst ai;simp only[hW,pt,zu,or_false]at ha;subst ha;exact⟨⟨U.dK _ _,U.dK _ _,U.dK _ _⟩,by rw[U.bz];exact⟨cF _,A8⟩,by rw[U.bz];omega⟩
theorem XI {ρ:Env} {m:Nat->Nat}:∀(k:Nat) {vs:List V} {xs:List a6},gb ρ m vs xs->gb ρ m (vs.take k) (xs.take k)/\gb ρ m (vs.drop k) (xs.drop k)
 |0,vs,xs,h=>⟨by simp;trivial,by simpa using h⟩
 |k+1,[],[],_=>⟨trivial,trivial⟩
 |k+1,v::vs,x::xs,h=>⟨⟨h.1,(XI k h.2).1⟩,(XI k h.2).2⟩
 |_+1,[],_::_,h=>h.elim
 |_+1,_::_,[],h=>h.elim
theorem qX.L0 {w0:eV} {p:qX} {spec:List Int->List Int->Prop} (hc:p.bu P w0.b spec) (iK:∀zs rs,spec zs rs->S p.c.id zs rs) (n:Nat) (vs:List V) (bl:List aH) (k:RK) (G:ft) (ρ:Env) (m:Nat->Nat) (w:aC) (xs:List a6) (R':Ending->aC->Prop)
 (hb:dg n bl.length ρ bl) (hw:Mem w0 ρ m bl w) (hv:∀v∈vs,V.ok n bl.length ρ v) (hr:gb ρ m vs xs) (ae:(p.E n vs bl k).holds S L G ρ) (af:Gs S L w0 k n bl.length ρ m G R'):
 (callFunc p.c.f xs.toArray).run P w= .ok (.enter p.c.f xs.toArray) w/\oq P p.c.f xs.toArray w R':=by
 refine⟨hc.1 _ _,?_⟩;unfold qX.E at ae;split at ae
 rotate_left
 ·exact ae.elim
 rename_i b us;split at ae
 rotate_left
 ·exact ae.elim
 rename_i cs t ba
 match xs,hr with
 |x::xs,hr=>
 cases lq:(cd cs&&MN p.cells cs&&aR t p.ty&&MM p.tail (us.drop p.c.args.length)&&cJ p.c.args.length us.length&& !(((us.take p.c.args.length).flatMap qd).any (aR b))&&tv p.c.res&& !(p.c.res.any cT.r3))with
 |false=>rw[lq]at ae;exact ae.elim
 |true=>
 rw[lq]at ae;simp only[cond_true]at ae;simp only[bA,cy]at lq;obtain⟨⟨⟨⟨⟨⟨⟨c1,bN⟩,cA⟩,dr⟩,fY⟩,hK⟩,nr⟩,mq⟩:=lq;have cA:=bV cA;subst cA;obtain⟨hx,hr⟩:=hr;have hx:x= .pointer (some ⟨m b,0,none⟩):=hx;subst hx;obtain⟨r1,r2⟩:=XI p.c.args.length hr;have aAK:=akk dr r2;have jD:xs=xs.take p.c.args.length++p.tail.map iO.val:=by rw[<-aAK,oQ]
 obtain⟨bQ,b9,r,j4,dh⟩:=hw.hI b cs _ ba c1;have j4:=j4 rfl;subst j4;rw[iq,akm bN]at dh;obtain⟨bg,bk,ls,iM,hD,⟨g1,g2,g3⟩,ae⟩:=RT (S:=S) (L:=L) hb hw (λv xg=>hv v (eS _ (List.mem_of_mem_take xg))) r1 G _ ae;obtain⟨rZ,ae⟩:=preM_holds ae;simp only[T.holds]at ae;rw[jD];refine(hc.2 (vp w0 ρ m bl ((us.take p.c.args.length).flatMap qd) ((us.take p.c.args.length).flatMap y1)) w _ _ (m b) hw.ext g2 rZ (g3 _ λ_ h=>h) bQ (λhF=>?_) dh).mono ?_
 ·obtain⟨⟨b',k1,k2,q,k3,k4,_⟩,_⟩:=hF;have dz:b≠b':=λe=>by
   subst e;rw[List.any_eq_true.2 ⟨b,k1,IX b⟩]at hK;cases hK
  rcases hw.inj b b' _ q ba k3 k2.symm with h|h|h|h
  ·exact dz h
  ·have:=n6 (ρ:=ρ) c1;simp only at h;omega
  ·have:=n6 (ρ:=ρ) c1;simp only at h;omega
  ·exact k4 h
 rintro e w' ⟨he,rs,pZ,r1,r2,ig,rfl⟩
 have ae:=nh ae r1 (iK _ _ r2);have nU:=hw.but ba c1 he;have iG:=hb.dead b;have hl:(eD bl b hW).length=bl.length:=mA _ _ _;have eJ:agree bk bg (bO bg bk rs):=agree.bO rs bk bg;have Hg:=hD.trans eJ iM;have q3:dg (bk+(dF p.c.res).length) (eD bl b hW).length (bO bg bk rs) (eD bl b hW):=by rw[hl];exact iG.ext Hg (by omega) (bS _)
 have ayb:Mem w0 (bO bg bk rs) m (eD bl b hW) w':=nU.tj (by rw[hl];exact iG) Hg;have aQ:kr (bO bg bk rs) bk rs:=kr.bO bg bk rs;have aal:fj n bl.length ρ m (bk+(dF p.c.res).length) (eD bl b hW).length (bO bg bk rs) m:=⟨by omega,Hg,by rw[hl];exact bS _,λ_ _=>rfl⟩;have hF:∀g,(vp w0 ρ m bl ((us.take p.c.args.length).flatMap qd) ((us.take p.c.args.length).flatMap y1) g∨w.heap.size<=g)->w0.ex g∨w0.ro g∨w0.r.heap.size<=g:=λg hg=>by
  rcases hg with hg|hg
  ·exact hg.2
  ·exact .inr (.inr (nK hw.iW hg))
 have cB:∀g,w.heap.size<=g->w0.b.heap.size<=g/\w0.r.heap.size<=g:=λg hg=>⟨nK hw.ext.size hg,nK hw.iW hg⟩;have Ai:(p.c.res.all λb=> !b.r3)=true:=by
  rw[LK];intro b hb;cases iG:b.r3 with
  |false=>rfl
  |true=>rw[List.any_eq_true.2 ⟨b,hb,iG⟩]at mq;cases mq
 obtain⟨n',ad,m',aNB,sG,b1,bY,dH,h8,il,ix⟩:=GD (S:=S) (L:=L) hF cB (l:=p.c.res) (us:=[]) (vals:=pZ) nr q3 ayb aQ r1 (bS _) ig (.inl Ai) (.inr λi q hi sZ=>by
  by_cases h0:bP (bO bg bk rs) q.1=0
  ·exact h0
  ·exfalso;rw[m3,wv]at hi;split at hi
   ·rename_i e;subst e;split at hi
    ·cases hi;exact h0 (by simp[hW,bP,U.bz])
    ·cases hi
   ·rw[yD (hb q (fZ hi)) Hg]at h0;have:=hw.lt hi h0;omega) (λu hu=>by simp at hu) ae
 have pM:=apk (m:=m') il (by simpa using h8);exact af n' (FW aNB) sG G ad m' w' (xL pZ) (aal.trans b1) (gQ.refl _ _) pM.1 pM.2 bY dH ix
noncomputable def DM:List qX->qT->qT
 |[],bc=>bc
 |p::r,bc=>λf=>cond (aR p.c.f f) (some p.E) (DM r bc f)
theorem Uy {w0:eV} {bc:qT} (oD:x0 S L w0 P bc):∀{l:List qX},(∀p∈l,p.bu P w0.b (S p.c.id))->x0 S L w0 P (DM l bc)
 |[],_=>oD
 |p::l,h=>λf g hf=>by
  unfold DM at hf;cases hb:aR p.c.f f with
  |true=>
   rw[hb]at hf;simp only[cond_true,bp]at hf;have:=bV hb;subst this;subst hf;intro n vs bl k G ρ m w xs R' h1 h2 h3 h4 h5 h6;exact qX.L0 (h p (by simp)) (λ_ _ h=>h) n vs bl k G ρ m w xs R' h1 h2 h3 h4 h5 h6
  |false=>
   rw[hb]at hf;exact Uy oD (λp hp=>h p (eS _ hp)) f g hf
noncomputable def qX.tree (f:mH) (p:qX):T:=
 cond (tv p.c.args&& !(p.c.args.any cT.tQ)) (Ug p.c.pre ((ga (dF p.c.args).length).map KF) (zI p.c.args 0 (dF p.c.args).length [] [] λn us bl=>
  cond (cd (p.cells.map iO.A)) (f p.c.f n (nE (.ptr bl.length 0)::(us.map V.w++p.tail.map λr=>nE r.A)) (bl++[(p.cells.map iO.A,(p.ty,false))]) λn' v bx=>match bx[bl.length]? with
   |some (cs,_)=>cond (cd cs) (PO (eD bx bl.length hW) p.c.res v n' λos _=> .leaf (FB os)) .stuck
   |none=> .stuck) .stuck)) .stuck
theorem iO.agk (r:iO) (ρ:Env) (m:Nat->Nat):r.A.den ρ m=r.val:=by cases r<;>simp[iO.A,iO.val,A.den,bT.const,U.bz]
theorem iO.agl (r:iO) (n nb:Nat) (ρ:Env):r.A.ok n nb ρ:=by
 cases r with
 |int k c=>exact bT.uG _ _ _
 |fn f=>rfl
theorem ahk {ρ:Env} {m:Nat->Nat}:∀{vs us:List V} {xs iN:List a6},gb ρ m vs xs->gb ρ m us iN->gb ρ m (vs++us) (xs++iN)
 |[],_,[],_,_,h=>h
 |_::_,_,_::_,_,h,aP=>⟨h.1,ahk h.2 aP⟩
 |[],_,_::_,_,h,_=>h.elim
 |_::_,_,[],_,h,_=>h.elim
theorem Mem.av9 {b r r':aC} {ro:Nat->Prop} {ρ:Env} {m:Nat->Nat} {bl:List aH} {w:aC} {g i0:Nat} {cs:List A} {t:bw×Bool} (h:Mem ⟨b,r,λi=>i=g,ro,[]⟩ ρ m bl w) (hi:bl[i0]?=some (cs,t)) (aw:cd cs=true) (hg:m i0=g)
 (hr:r'.os=r.os/\r'.tape=r.tape/\r'.output=r.output/\r'.heap.size=r.heap.size) (h1:∀k,k≠g->r'.heap[k]?=r.heap[k]?) (h2:r'.heap[g]?=w.heap[g]?):
 Mem ⟨b,r',λ_=>False,ro,[]⟩ ρ m (eD bl i0 hW) w:=by
 have hlen:i0<bl.length:=(List.getElem?_eq_some_iff.1 hi).1;have eO:∀(i:Nat) (q:aH),(eD bl i0 hW)[i]?=some q->(i=i0/\q=hW)∨(i≠i0/\bl[i]?=some q):=λi q ai=>by
  rw[m3,wv]at ai;split at ai
  ·rename_i iV;subst iV;simp only[hlen,if_true,bp]at ai;exact .inl ⟨rfl,ai.symm⟩
  ·rename_i iV;exact .inr ⟨λe=>iV e.symm,ai⟩
 have jC:bP ρ hW.1=0:=by simp[hW,bP,U.bz]
 have o4:bP ρ cs=2:=n6 aw;have dz:∀(i:Nat) (q:aH),i≠i0->bl[i]?=some q->bP ρ q.1≠0->m i≠g:=λi q qv ai af e=>by
  rcases h.inj i i0 q _ ai hi (by rw[e,hg])with h1|h1|h1|h1
  ·exact qv h1
  ·simp only at h1;omega
  ·exact af h1
  ·simp only at h1;omega
 refine⟨h.ext,h.km.trans hr.1.symm,h.mU.trans hr.2.1.symm,h.l8.trans hr.2.2.1.symm,by have:=h.iW;simp only at this⊢;omega,λi j3 _=>?_,λi lM t' ai kE=>?_,λi sh off code cap kind t' ai=>?_,λi j p q hp ai he=>?_⟩
 ·by_cases e:i=g
  ·subst e;exact h2.symm
  ·show w.heap[i]?=r'.heap[i]?;rw[h1 i e];exact h.j1 i (by simp only at j3⊢;omega) e
 ·rcases eO i _ ai with⟨_,e⟩|⟨qv,ai⟩
  ·simp only[hW,eZ]at e;rw[e.1]at kE;simp[cd]at kE
  ·obtain⟨k1,k2,k3⟩:=h.hI i lM t' ai kE;refine⟨k1,?_,k3⟩;rcases k2 with k2|k2
   ·exact absurd k2 (dz i _ qv ai (by rw[n6 kE];decide))
   ·exact .inr (by simp only at k2⊢;omega)
 ·rcases eO i _ ai with⟨_,e⟩|⟨qv,ai⟩
  ·simp only[hW,eZ,mh,A.rows.injEq,and_true]at e;intro af;exact absurd e.1.2.2.2.2 af
  ·intro af;obtain⟨g1,g2⟩:=h.rws i sh off code cap kind t' ai af;refine⟨g1,λhc=>?_⟩;have Hq:m i≠g:=dz i _ qv ai (by simp only[bP];rw[if_neg (by omega)];exact af);obtain⟨k1,cells,P1,fz,k2,k3,k4⟩:=g2 hc;refine⟨?_,cells,P1,fz,k2,k3,λh2=>?_⟩
   ·rcases k1 with k1|k1|k1
    ·exact absurd k1 Hq
    ·exact .inr (.inl k1)
    ·exact .inr (.inr (by simp only at k1⊢;omega))
   ·obtain⟨fK,oE,pO,tR,An,q9⟩:=k4 h2;refine⟨fK,oE,pO,tR,An,?_⟩;rcases q9 with q9|q9
    ·exact absurd q9 Hq
    ·exact .inr (by simp only at q9⊢;omega)
 ·rcases eO i _ hp with⟨_,e⟩|⟨qv,hp⟩
  ·subst e;exact .inr (.inr (.inl jC))
  ·rcases eO j _ ai with⟨_,e⟩|⟨alT,ai⟩
   ·subst e;exact .inr (.inr (.inr jC))
   ·exact h.inj i j p q hp ai he
theorem qX.aDB {wb:aC} {p:qX} {inl:mH} {spec:List Int->List Int->Prop}
 (nY:∀(L:V->Env->Prop) (r:aC) (ex ro:Nat->Prop),rI S L ⟨wb,r,ex,ro,[]⟩ P inl) (hf:∀args w,(callFunc p.c.f args).run P w= .ok (.enter p.c.f args) w)
 (aA:kx (dF p.c.args) λzs=>(p.tree inl).holds S (zF λrs=>ay (dF p.c.res) rs/\spec zs rs) (λ_ _=>False) (bO (λ_=>0) 0 zs)):p.bu P wb spec:=by
 refine⟨hf,λF w vs zs g hw hz NJ hat aaB M0 hcell=>?_⟩;have ae:=nh aA hz;have xh:=dn hz;unfold qX.tree at ae;cases ai:(tv p.c.args&& !(p.c.args.any cT.tQ))with
 |false=>rw[ai]at ae;exact ae.elim
 |true=>
  rw[ai]at ae;simp only[cond_true]at ae;have ae:=preA_holds ae (by rw[<-xh,TM];exact NJ);simp only[bA,cy]at ai;have nx:Mem ⟨wb,w,λ_=>False,F,[]⟩ (bO (λ_=>0) 0 zs) (λ_=>0) [] w:=⟨hw,rfl,rfl,rfl,bS _,λ_ _ _=>rfl,λi cs t h=>by simp at h,λi sh off code cap kind t h=>by simp at h,λi j p q h=>by simp at h⟩;have jR:(p.c.args.all λb=> !b.tQ)=true:=by
   rw[LK];intro b hb;cases iG:b.tQ with
   |false=>rfl
   |true=>rw[List.any_eq_true.2 ⟨b,hb,iG⟩]at ai;cases ai.2
  obtain⟨n',ad,m',us,bl,b1,bY,dH,h8,il,ix⟩:=GD (S:=S) (L:=_) (w0:=⟨wb,w,λ_=>False,F,[]⟩) (F:=F) (N:=λ_=>False) (λg hg=> .inr (.inl hg)) (λg hg=>hg.elim) (l:=p.c.args) (s:=0) (us:=[]) (bl:=[]) (m:=λ_=>0) ai.1 (λp hp=>by simp at hp) nx (kr.bO _ 0 zs) hz (by omega) hat (.inr λi p h=>by simp at h) (.inl jR) (λu hu=>by simp at hu) ae;cases yw:cd (p.cells.map iO.A)with
  |false=>rw[yw]at ix;exact ix.elim
  |true=>
  rw[yw]at ix;simp only[cond_true]at ix;have Sf:g<w.heap.size:=(Array.getElem?_eq_some_iff.1 hcell).1;have z8:∀ρ m,(p.cells.map iO.A).map (A.den ρ m)=p.cells.map iO.val:=λρ m=>by
   rw[om];exact kK λr _=>r.agk ρ m
  have alw:∀n nb ρ,∀a∈p.cells.map iO.A,A.ok n nb ρ a:=λn nb ρ a ha=>by
   obtain⟨r,_,rfl⟩:=List.mem_map.1 ha;exact r.agl n nb ρ
  have nU:=(dH.more (ex':=λi=>i=g) λ_ h=>h.elim).push (x:=(p.cells.map iO.A,(p.ty,false))) (g:=g) bY (alw _ _ _) (λ_=>⟨aaB,.inl rfl,[],λ_=>rfl,by rw[iq,z8];exact hcell⟩) (λsh off code cap kind he=>by
   simp only at he;rw[he]at yw;simp[cd]at yw) (λi q hi he=>by
    refine .inr (.inl ?_);by_cases h0:bP ad q.1=0
    ·exact h0
    ·exfalso;obtain⟨cs,t⟩:=q;cases aw:cd cs with
     |true=>
      obtain⟨_,h2,_⟩:=dH.hI i cs t hi aw;rcases h2 with h2|h2
      ·exact h2
      ·simp only at h2;omega
     |false=>
      obtain⟨sh,off,code,cap,k,e⟩:=T9 aw;subst e;simp only[bP]at h0;split at h0
      ·exact h0 rfl
      ·rename_i hc;obtain⟨h1,_⟩:=(dH.rws i sh off code cap k t hi h0).2 (by omega);rcases h1 with h1|h1|h1
       ·exact h1
       ·rw[he]at h1;exact M0 h1
       ·simp only at h1;omega)
  have Hj:dg n' (bl++[(p.cells.map iO.A,(p.ty,false))]).length ad (bl++[(p.cells.map iO.A,(p.ty,false))]):=λq ai a nV=>by
   rcases List.mem_append.1 ai with ai|ai
   ·exact(bY q ai a nV).ext (agree.refl _ _) (bS _) (by simp)
   ·simp at ai;subst ai;exact alw _ _ _ a nV
  have tI:∀v∈(nE (.ptr bl.length 0)::(us.map V.w++p.tail.map λr=>nE r.A)),V.ok n' (bl++[(p.cells.map iO.A,(p.ty,false))]).length ad v:=λv hv=>by
   rcases List.mem_cons.1 hv with rfl|hv
   ·show bl.length<_;simp
   ·rcases List.mem_append.1 hv with hv|hv
    ·obtain⟨u,hu,rfl⟩:=List.mem_map.1 hv;exact W.ok.ext (il u hu) (agree.refl _ _) (bS _) (by simp)
    ·obtain⟨r,_,rfl⟩:=List.mem_map.1 hv;exact r.agl _ _ _
  have aAS:∀u∈us,W.den ad (od m' bl.length g) u=W.den ad m' u:=λu hu=>W.oA (il u hu) (agree.refl _ _) (λb hb=>pk hb);have hrel:gb ad (od m' bl.length g) (nE (.ptr bl.length 0)::(us.map V.w++p.tail.map λr=>nE r.A)) (.pointer (some ⟨g,0,none⟩)::(vs++p.tail.map iO.val)):=by
   refine⟨by simp[nE,V.rel,W.den,A.den,pY],ahk (XF ?_) ?_⟩
   ·rw[kK aAS];simpa using h8
   ·have:=XH (ρ:=ad) (m:=od m' bl.length g) (p.tail.map iO.A);rw[om,om]at this;have e:(A.den ad (od m' bl.length g)∘iO.A)=iO.val:=funext λr=>r.agk _ _;rw[e]at this;exact this
  refine((nY _ _ _ _ p.c.f n' _ _ _ _ ad (od m' bl.length g) w _ _ Hj nU tI hrel ix ?_).2);intro gF v bx e7 b0 e5 w' val h1 h2 h3 h4 h5 h6 h7;simp only at h7;split at h7
  rotate_left
  ·exact h7.elim
  rename_i cs t q3;cases lq:cd cs with
  |false=>rw[lq]at h7;exact h7.elim
  |true=>
  rw[lq]at h7;simp only[cond_true]at h7;have M8:bl.length<(bl++[(p.cells.map iO.A,(p.ty,false))]).length:=by simp
  have BD:e5 bl.length=g:=by rw[h1.hm _ M8,pY]
  obtain⟨ade,az9⟩:∃o,w'.heap[g]?=some o:=by
   obtain⟨_,_,r,_,b4⟩:=h6.hI bl.length cs t q3 lq;rw[BD]at b4;exact⟨_,b4⟩
  have q2:=h6.av9 (r':=w.putObj g ade) q3 lq BD (BX _ _ _) (λk af=>A4 af) (by rw[Eg Sf,az9]);have iG:dg gF (eD bx bl.length hW).length b0 (eD bx bl.length hW):=by
   rw[mA];exact h5.dead _
  obtain⟨je,tZ,os,Da,w5,⟨xs,tO,BF⟩,hl⟩:=ad4 (S:=S) (w0:=⟨wb,w.putObj g ade,λ_=>False,F,[]⟩) (λg hg=>hg) iG q2 (by rw[mA];exact h3) h4 e7 _ h7;have hl:zF _ (FB os) je:=hl;rw[XM]at hl;refine⟨⟨h6.km,h6.mU,h6.l8,h6.iW,λi hi J5=>h6.j1 i hi J5⟩,os.map (O.den je),xs,hl.1,hl.2,?_,by rw[tO]⟩;have hsz:(w.putObj g ade).heap.size=w.heap.size:=agh;exact fE.OU.Jl (λg hg=>by
   rcases hg with hg|hg|hg
   ·exact hg.elim
   ·exact .inl hg
   ·exact .inr (hsz▸hg)) (λg hg=>hsz▸hg) BF
section
variable {wb:aC} {sh:Nat->List Nat×List Nat} {SB:Nat->List (List Int)->List (List Int)->Prop}
theorem aJA {p:qX} {inl:mH} {lsh:Nat->List Nat} {lens:List Nat}
 (nY:∀(L:V->Env->Prop) (r:aC) (ex ro:Nat->Prop),rI (e1 sh SB) L ⟨wb,r,ex,ro,[]⟩ P inl) (hf:Bv P p.c.f=true) (hl:lens=(sh p.c.id).1) (hd:Dx p.c.res=(sh p.c.id).2)
 (hv:lY sh lsh SB (gV SB p.c.res p.c.id) lens (dF p.c.args) p.c.res (p.tree inl)):p.bu P wb (e1 sh SB p.c.id):=by
 refine qX.aDB nY (enters hf) (uw λzs hz=>?_);have h:=nh (X4 hv) hz;simp only[gV,vf]at h;rw[hl,hd]at h;exact h
end
end Go.bX
namespace Go.bX
abbrev DE (p:Int->Prop):Prop:=∀z:Int,0<=z->z<=9223372036854775807->p z
abbrev hk (k:Nat) (l:List Int) (p:Int->Prop):Prop:=∀z:Int,0<=z->z<=9223372036854775807->z=cR k l->p z
abbrev gM (p:Int->Prop):Prop:=∀z:Int,0<=z->z<=dN->p z
abbrev di (k:Nat) (l:List Int) (p:Int->Prop):Prop:=∀z:Int,0<=z->z<=dN->z=cR k l->p z
abbrev aq (p:Int->Prop):Prop:=∀z:Int,0<=z->z<=255->p z
abbrev adR (k:Nat) (l:List Int) (p:Int->Prop):Prop:=∀z:Int,0<=z->z<=255->z=cR k l->p z
abbrev de (p:Int->Prop):Prop:=∀z:Int,0<=z->z<=1->p z
abbrev aK (p:Int->Prop):Prop:=∀z:Int,0<=z->z<=18446744073709551615->p z
abbrev yL (k:Nat) (l:List Int) (p:Int->Prop):Prop:=∀z:Int,0<=z->z<=18446744073709551615->z=cR k l->p z
abbrev ed (p:Int->Prop):Prop:=∀z:Int,(-1)<=z->z<=9223372036854775807->p z
abbrev FO (k:Nat) (l:List Int) (p:Int->Prop):Prop:=∀z:Int,0<=z->z<=9223372036854775808->z=cR k l->p z
abbrev ec (p:Int->Prop):Prop:=∀z:Int,0<=z->p z
abbrev hP (a b:Int) (p:Int->Prop):Prop:=∀z:Int,a<=z->z<=b->p z
abbrev Um (a b:Int) (k:Nat) (l:List Int) (p:Int->Prop):Prop:=∀z:Int,a<=z->z<=b->z=cR k l->p z
abbrev bo (x m:Int) (p:Int->Prop):Prop:=∀z:Int,0<=z->z<=1->0<=x-m*z->x-m*z<m->p z
abbrev au (a b x m:Int) (p:Int->Prop):Prop:=∀z:Int,a<=z->z<=b->0<=x-m*z->x-m*z<m->p z
abbrev hO (b:Bool) (p q:Prop):Prop:=(b=true->p)/\(b=false->q)
end Go.bX
namespace Go.bX
abbrev dS (b x:Int) (p:Int->Prop):Prop:=∀z:Int,0<=z->z<=b->z=x->p z
abbrev dj (n:Nat) (S:Nat->List (List Int)->List (List Int)->Prop) (i:Nat) (a:List (List Int)) (p:List Int->Prop):Prop:=∀r:List Int,ay (aS 0 4503599627370495 n) r->S i a [r]->p r
abbrev bF (n:Nat) (p:List Int->Prop):Prop:=∀r:List Int,ay (aS 0 4503599627370495 n) r->p r
abbrev dI (n:Nat) (S:Nat->List (List Int)->List (List Int)->Prop) (i:Nat) (a:List (List Int)) (p:List Int->Prop):Prop:=∀r:List Int,ay (aS 0 18446744073709551615 n) r->S i a [r]->p r
abbrev cz (n:Nat) (p:List Int->Prop):Prop:=∀r:List Int,ay (aS 0 18446744073709551615 n) r->p r
abbrev nF (n:Nat) (S:Nat->List (List Int)->List (List Int)->Prop) (i:Nat) (a:List (List Int)) (p:List Int->Prop):Prop:=∀r:List Int,ay (aS 0 255 n) r->S i a [r]->p r
abbrev lA (n:Nat) (p:List Int->Prop):Prop:=∀r:List Int,ay (aS 0 255 n) r->p r
structure rH (p:Prop):Prop where
 h:p
theorem NW {a b:Prop} (ha:a) (hb:b):rH (a/\b):=⟨ha,hb⟩
theorem tN {a b c:Prop} (ha:a) (hb:b) (hc:c):rH (a/\b/\c):=⟨ha,hb,hc⟩
theorem ct {a b c d:Prop} (ha:a) (hb:b) (hc:c) (hd:d):rH (a/\b/\c/\d):=⟨ha,hb,hc,hd⟩
abbrev iX:Int:=16777216
abbrev iY:Int:=4294967296
abbrev iZ:Int:=1099511627776
abbrev ja:Int:=281474976710656
abbrev jt:Int:=72057594037927936
abbrev ab:Int:=-18446744073709551616
abbrev a8:Int:=18446744073709551616
abbrev r6:Int:=72057594037927935
abbrev r7:Int:=281474976710655
abbrev j6:Int:=1099511627775
abbrev r4:Int:=4294967295
abbrev r5:Int:=16777215
abbrev j5:Int:=340282366920938463426481119284349108225
abbrev ji:Int:=18446744073709551614
abbrev nB:Int:=-117067535019779019119668879883403001856
abbrev n1:Int:=-27742317777372353529505694001085284352
abbrev SQ:Int:=-1152921504606846976
abbrev xi:Int:=1152921504606846976
abbrev N6:Int:=6346243789798364140
abbrev nC:Int:=101539900636773826256
abbrev jj:Int:=6346243789798364141
abbrev N7:Int:=1503914060200516821
abbrev n2:Int:=24062624963208269152
abbrev jE:Int:=1503914060200516822
abbrev ek:Int:=-2251799813685248
abbrev xk:Int:=9223372036854775807
abbrev fL:Int:=2251799813685248
abbrev Ki:Int:=2097152
abbrev Kj:Int:=536870912
abbrev Kk:Int:=137438953472
abbrev Kl:Int:=35184372088832
abbrev SR:Int:=9007199254740992
abbrev SS:Int:=2305843009213693952
abbrev SU:Int:=590295810358705651712
abbrev abM:Int:=67108863
abbrev am4:Int:=274877906944
abbrev Km:Int:=67108864
abbrev Kn:Int:=17179869184
abbrev Ko:Int:=4398046511104
abbrev Kp:Int:=1125899906842624
abbrev SV:Int:=288230376151711744
abbrev SW:Int:=73786976294838206464
abbrev SX:Int:=18889465931478580854784
abbrev SY:Int:=4835703278458516698824704
abbrev Kq:Int:=549755813887
abbrev am5:Int:=33554432
abbrev Kr:Int:=549755813888
abbrev Ks:Int:=140737488355328
abbrev SZ:Int:=36028797018963968
abbrev S0:Int:=9223372036854775808
abbrev S1:Int:=2361183241434822606848
abbrev S2:Int:=604462909807314587353088
abbrev S3:Int:=154742504910672534362390528
abbrev S4:Int:=39614081257132168796771975168
abbrev am6:Int:=4503599627370495
abbrev abN:Int:=-18014398509481984
abbrev abO:Int:=-144115188075855872
abbrev abP:Int:=-4503599627370496
abbrev abQ:Int:=-36028797018963968
abbrev abR:Int:=8796093022207
abbrev abS:Int:=34359738367
abbrev abT:Int:=134217727
abbrev abU:Int:=70368744177663
abbrev abV:Int:=274877906943
abbrev abW:Int:=1073741823
abbrev abX:Int:=4194303
abbrev abY:Int:=562949953421311
abbrev abZ:Int:=2199023255551
abbrev ab0:Int:=8589934591
abbrev ab1:Int:=33554431
abbrev ab2:Int:=17592186044415
abbrev ab3:Int:=68719476735
abbrev ab4:Int:=268435455
abbrev am7:Int:=8388608
abbrev ab5:Int:=1048575
abbrev am8:Int:=2147483648
abbrev ab6:Int:=140737488355327
abbrev ab7:Int:=2147483647
abbrev am9:Int:=1048576
abbrev ab8:Int:=8388607
abbrev ana:Int:=268435456
abbrev anb:Int:=68719476736
abbrev anc:Int:=17592186044416
abbrev ane:Int:=9007199254740916
abbrev N8:Int:=9007199254740988
abbrev tT:Int:=20282409603651661416747996545025
abbrev Aq:Int:=385365782469381566918211934355475
abbrev Ar:Int:=20890720927743
abbrev s7:Int:=18446744073709551615
abbrev anf:Int:=18446744073709551595
abbrev S6:Int:=1152921504606846975
abbrev ab9:Int:=1718705420411056
abbrev aca:Int:=234908883556509
abbrev acb:Int:=2233514472574048
abbrev acd:Int:=2117202627021982
abbrev ace:Int:=765476049583133
abbrev N9:Int:=929955233495203
abbrev Oa:Int:=466365720129213
abbrev Ob:Int:=1662059464998953
abbrev Oc:Int:=2033849074728123
abbrev N5:Int:=1442794654840575
abbrev amM:Int:=1738742601995546
abbrev amN:Int:=1146398526822698
abbrev amO:Int:=2070867633025821
abbrev amP:Int:=562264141797630
abbrev amQ:Int:=587772402128613
abbrev amR:Int:=1801439850948184
abbrev amS:Int:=1351079888211148
abbrev amT:Int:=450359962737049
abbrev amU:Int:=900719925474099
abbrev amV:Int:=1801439850948198
abbrev amW:Int:=18446744073709551611
abbrev amX:Int:=2305843009213693951
abbrev amY:Int:=14507833142362363162
abbrev amZ:Int:=7578651490590762930
abbrev am0:Int:=13881468655802702940
abbrev am1:Int:=2407515759118799870
abbrev am2:Int:=7378697629483820632
abbrev SP:Int:=7378697629483820646
end Go.bX
namespace Go.L4
def eP (n:Nat):Prop:=1<n/\∀a,a% n≠0->∃b,a*b% n=1
def CD (n g:Nat):Prop:=1<n/\g^(n-1)% n=1/\∀a,a% n≠0->∃k,g^k% n=a% n
def pm:Nat->Nat->Nat->Nat->Nat
 |0,_,_,n=>1% n
 |f+1,b,e,n=>bif e% 2==1 then pm f (b*b% n) (e/2) n*b% n else pm f (b*b% n) (e/2) n
theorem Uf:∀(f b e n:Nat),e<2^f->pm f b e n=b^e% n
 |0,b,e,n,h=>by
  have:e=0:=by simpa using h
  subst this;rfl
 |f+1,b,e,n,h=>by
  have ih:=Uf f (b*b% n) (e/2) n (by rw[zv]at h;omega);have ar:(b*b% n)^(e/2)% n=b^(2*(e/2))% n:=by
   rw[<-Nat.pow_mod,Nat.pow_mul,Nat.pow_two]
  rw[ar]at ih;unfold pm;rw[ih];cases ae:(e% 2==1)with
  |true=>
   have h1:e% 2=1:=by simpa using ae
   simp only[cond_true]
   conv=>rhs;rw[show e=2*(e/2)+1 by omega,zv]
   rw[LJ,Nat.mod_mod,<-LJ]
  |false=>
   have h1:¬e% 2=1:=by simpa using ae
   simp only[cond_false]
   conv=>rhs;rw[show e=2*(e/2) by omega]
theorem aoY:∀(N:Nat) (f:Nat->Nat),(∀i,i<N->f i<N)->(∀i,i<N->∀j,j<N->f i=f j->i=j)->∀y,y<N->∃i,i<N/\f i=y
 |0,_,_,_,y,h=>by omega
 |N+1,f,hr,hi,y,hy=>by
  have hv:∀i,i<N->f i≠f N:=λi h e=>by have:=hi i (by omega) N (by omega) e;omega
  have key:=aoY N (λi=>if f i=N then f N else f i) (λi h=>by
   have h1:=hr i (by omega);have h2:=hr N (by omega);have h3:=hv i h;show(if f i=N then f N else f i)<N;split<;>omega) (λi h j aP e=>by
   have h3:=hv i h;have h4:=hv j aP;apply hi i (by omega) j (by omega);split at e<;>split at e<;>omega)
  by_cases aRm:y=N
  ·by_cases cB:f N=N
   ·exact⟨N,by omega,by omega⟩
   ·obtain⟨i,h1,h2⟩:=key (f N) (by have:=hr N (by omega);omega);split at h2
    ·rename_i h3;exact⟨i,by omega,by omega⟩
    ·exact absurd h2 (hv i h1)
  ·obtain⟨i,h1,h2⟩:=key y (by omega);split at h2
   ·exact⟨N,by omega,h2⟩
   ·exact⟨i,by omega,h2⟩
theorem least {p:Nat->Prop}:∀n,p n->∃m,m<=n/\p m/\∀k,k<m->¬p k:=by
 intro n;induction n using Nat.strongRecOn with
 |_ n ih=>
  intro hn;by_cases h:∃k,k<n/\p k
  ·obtain⟨k,af,hp⟩:=h;obtain⟨m,h1,h2,h3⟩:=ih k af hp;exact⟨m,by omega,h2,h3⟩
  ·exact⟨n,bS _,hn,λk af hp=>h ⟨k,af,hp⟩⟩
theorem adC {n g d:Nat} (hn:1<n) (h:g^d% n=1) (k:Nat):g^(d*k)% n=1:=by
 rw[Nat.pow_mul,Nat.pow_mod,h,Nat.one_pow,Nat.mod_eq_of_lt hn]
theorem avJ {q m:Nat} (ai:eP q) (hm:¬q∣m):Nat.Coprime m q:=by
 obtain⟨b,hb⟩:=ai.2 m (λh=>hm (aOB h));have h1:Nat.gcd m q∣m*b:=Nat.dvd_trans (Nat.gcd_dvd_left m q) (Nat.dvd_mul_right m b);have h2:Nat.gcd m q∣m*b% q:=(Nat.dvd_mod_iff (Nat.gcd_dvd_right m q)).2 h1;rw[hb]at h2;exact Nat.dvd_one.1 h2
def Uh:List Nat->Nat
 |[]=>1
 |q::r=>q*Uh r
theorem ajJ {m:Nat}:∀(fs:List Nat),(∀q∈fs,eP q)->(∀q∈fs,¬q∣m)->Nat.Coprime m (Uh fs)
 |[],_,_=>Nat.coprime_one_right m
 |q::r,h1,h2=>aS4 (avJ (h1 q (by simp)) (h2 q (by simp))) (ajJ r (λx hx=>h1 x (eS _ hx)) (λx hx=>h2 x (eS _ hx)))
theorem axN {n g:Nat} {fs:List Nat} (hn:2<n) (hp:Uh fs=n-1) (hf:∀q∈fs,eP q) (h1:g^(n-1)% n=1) (h2:∀q∈fs,g^((n-1)/q)% n≠1):CD n g:=by
 have iM:1<n:=by omega
 obtain⟨d,Fc,⟨w8,Nc⟩,Nd⟩:=least (p:=λd=>0<d/\g^d% n=1) (n-1) ⟨by omega,h1⟩;have azr:d∣n-1:=by
  have hr:g^((n-1)% d)% n=1:=by
   have e:g^(n-1)% n=g^((n-1)% d)% n:=by
    conv=>lhs;rw[<-V1 (n-1) d,D8,LJ,adC iM Nc]
    rw[Nat.one_mul,Nat.mod_mod]
   rw[<-e];exact h1
  by_cases h0:(n-1)% d=0
  ·exact aOB h0
  ·exact absurd ⟨by omega,hr⟩ (Nd ((n-1)% d) (Qm _ w8))
 obtain⟨m,hm⟩:=azr;have hd:d=n-1:=by
  by_cases Sq:m=1
  ·rw[hm,Sq,D6]
  ·exfalso;have hex:∃q,q∈fs/\q∣m:=by
    apply afU;intro mS;have hc:=ajJ fs hf (λq ai abc=>mS ⟨q,ai,abc⟩);rw[hp]at hc;have:m∣n-1:=⟨d,by rw[hm,AX]⟩;exact Sq (aS5 hc this)
   obtain⟨q,ai,x,hx⟩:=hex;have Ah:=(hf q ai).1;apply h2 q ai;have e:(n-1)/q=d*x:=by
    rw[hm,hx,show d*(q*x)=(d*x)*q by rw[AX q x,V4]];exact Nat.mul_div_cancel _ (by omega)
   rw[e];exact adC iM Nc x
 subst hd;refine⟨iM,h1,λa ha=>?_⟩;have Hr:∀i,i<=n-1->g^i% n≠0:=λi hi h0=>by
  have:g^(n-1)% n=0:=by
   rw[show n-1=i+(n-1-i) by omega,D8,LJ,h0,Nat.zero_mul,Nat.zero_mod]
  omega
 have BC:∀i j,i<j->j<n-1->g^i% n≠g^j% n:=λi j J6 aO he=>by
  have:g^(j-i)% n=1:=by
   have ar:g^(j+(n-1-i))% n=g^(i+(n-1-i))% n:=by
    rw[D8,D8,LJ,<-he,<-LJ]
   rw[show i+(n-1-i)=n-1 by omega,h1,show j+(n-1-i)=(j-i)+(n-1) by omega,D8,LJ,h1,D6,Nat.mod_mod]at ar;exact ar
  exact Nd (j-i) (by omega) ⟨by omega,this⟩
 obtain⟨i,hi,he⟩:=aoY (n-1) (λi=>g^i% n-1) (λi hi=>by
  have:=Qm (g^i) (show n>0 by omega);have:=Hr i (by omega);show g^i% n-1<n-1;omega) (λi hi j aO e=>by
  have h3:=Hr i (by omega);have h4:=Hr j (by omega);have cQ:g^i% n=g^j% n:=by omega
  rcases Nat.lt_trichotomy i j with h|h|h
  ·exact absurd cQ (BC i j h aO)
  ·exact h
  ·exact absurd cQ.symm (BC j i h hi)) (a% n-1) (by have:=Qm a (show n>0 by omega);omega)
 refine⟨i,?_⟩;have:=Hr i (by omega);omega
theorem CD.EZ {n g a:Nat} (h:CD n g) (ha:a% n≠0):a^(n-1)% n=1:=by
 obtain⟨k,af⟩:=h.2.2 a ha;rw[Nat.pow_mod,<-af,<-Nat.pow_mod,<-Nat.pow_mul,AX];exact adC h.1 h.2.1 k
theorem CD.awX {n g:Nat} (hn:2<n) (h:CD n g):eP n:=
 ⟨h.1,λa ha=>⟨a^(n-2),by
  have:=h.EZ ha;rw[show n-1=(n-2)+1 by omega,zv,AX]at this;exact this⟩⟩
theorem c3:eP 2:=⟨by decide,λa h=>⟨1,by omega⟩⟩
theorem jh:eP 3:=⟨by decide,λa h=>⟨a% 3,by
 have:a% 3=1∨a% 3=2:=by omega
 rcases this with h|h<;>rw[h]<;>omega⟩⟩
def okB (n g:Nat) (fs:List Nat):Bool:=decide (2<n)&&decide (n-1<2^256)&&decide (Uh fs=n-1)&&decide (pm 256 g (n-1) n=1)&&fs.all λq=>decide (1<q)&&decide (pm 256 g ((n-1)/q) n≠1)
theorem akM {n g:Nat} {fs:List Nat} (h:okB n g fs=true) (hf:∀q∈fs,eP q):CD n g:=by
 simp only[okB,bA,decide_eq_true_eq,LK]at h;obtain⟨⟨⟨⟨h1,h2⟩,h3⟩,h4⟩,h5⟩:=h;refine axN h1 h3 hf ?_ λq ai=>?_
 ·rw[<-Uf 256 g (n-1) n h2];exact h4
 ·have:=(h5 q ai).2
  rwa [Uf 256 g ((n-1)/q) n (Nat.lt_of_le_of_lt (aOC _ _) h2)]at this
theorem gR {n g:Nat} {fs:List Nat} (h:okB n g fs=true) (hf:∀q∈fs,eP q):eP n:=by
 have h1:2<n:=by
  simp only[okB,bA,decide_eq_true_eq]at h;exact h.1.1.1.1
 exact(akM h hf).awX h1
theorem all_nil:∀q∈([]:List Nat),eP q:=λ_ h=>by cases h
theorem all_cons {x:Nat} {l:List Nat} (h:eP x) (aP:∀q∈l,eP q):∀q∈x::l,eP q:=λq ai=>by
 rcases List.mem_cons.1 ai with rfl|ai
 ·exact h
 ·exact aP q ai
theorem Bt:eP 5:=gR (g:=2) (fs:=[2,2]) (by decide+kernel) (all_cons c3 (all_cons c3 all_nil))
theorem Bu:eP 7:=gR (g:=3) (fs:=[2,3]) (by decide+kernel) (all_cons c3 (all_cons jh all_nil))
theorem RW:eP 11:=gR (g:=2) (fs:=[2,5]) (by decide+kernel) (all_cons c3 (all_cons Bt all_nil))
theorem ZS:eP 13:=gR (g:=2) (fs:=[2,2,3]) (by decide+kernel) (all_cons c3 (all_cons c3 (all_cons jh all_nil)))
theorem ZT:eP 17:=gR (g:=3) (fs:=[2,2,2,2]) (by decide+kernel) (all_cons c3 (all_cons c3 (all_cons c3 (all_cons c3 all_nil))))
theorem ZU:eP 19:=gR (g:=2) (fs:=[2,3,3]) (by decide+kernel) (all_cons c3 (all_cons jh (all_cons jh all_nil)))
theorem akv:eP 23:=gR (g:=5) (fs:=[2,11]) (by decide+kernel) (all_cons c3 (all_cons RW all_nil))
theorem akw:eP 29:=gR (g:=2) (fs:=[2,2,7]) (by decide+kernel) (all_cons c3 (all_cons c3 (all_cons Bu all_nil)))
theorem axb:eP 31:=gR (g:=3) (fs:=[2,3,5]) (by decide+kernel) (all_cons c3 (all_cons jh (all_cons Bt all_nil)))
theorem axf:eP 37:=gR (g:=2) (fs:=[2,2,3,3]) (by decide+kernel) (all_cons c3 (all_cons c3 (all_cons jh (all_cons jh all_nil))))
theorem akx:eP 41:=gR (g:=6) (fs:=[2,2,2,5]) (by decide+kernel) (all_cons c3 (all_cons c3 (all_cons c3 (all_cons Bt all_nil))))
theorem aky:eP 43:=gR (g:=3) (fs:=[2,3,7]) (by decide+kernel) (all_cons c3 (all_cons jh (all_cons Bu all_nil)))
theorem akz:eP 47:=gR (g:=5) (fs:=[2,23]) (by decide+kernel) (all_cons c3 (all_cons akv all_nil))
theorem axn:eP 53:=gR (g:=2) (fs:=[2,2,13]) (by decide+kernel) (all_cons c3 (all_cons c3 (all_cons ZS all_nil)))
theorem axq:eP 59:=gR (g:=2) (fs:=[2,29]) (by decide+kernel) (all_cons c3 (all_cons akw all_nil))
theorem axw:eP 83:=gR (g:=2) (fs:=[2,41]) (by decide+kernel) (all_cons c3 (all_cons akx all_nil))
theorem axz:eP 97:=gR (g:=5) (fs:=[2,2,2,2,2,3]) (by decide+kernel) (all_cons c3 (all_cons c3 (all_cons c3 (all_cons c3 (all_cons c3 (all_cons jh all_nil))))))
theorem awY:eP 103:=gR (g:=5) (fs:=[2,3,17]) (by decide+kernel) (all_cons c3 (all_cons jh (all_cons ZT all_nil)))
theorem awZ:eP 107:=gR (g:=2) (fs:=[2,53]) (by decide+kernel) (all_cons c3 (all_cons axn all_nil))
theorem aw0:eP 127:=gR (g:=3) (fs:=[2,3,3,7]) (by decide+kernel) (all_cons c3 (all_cons jh (all_cons jh (all_cons Bu all_nil))))
theorem aw1:eP 131:=gR (g:=2) (fs:=[2,5,13]) (by decide+kernel) (all_cons c3 (all_cons Bt (all_cons ZS all_nil)))
theorem aw4:eP 173:=gR (g:=2) (fs:=[2,2,43]) (by decide+kernel) (all_cons c3 (all_cons c3 (all_cons aky all_nil)))
theorem aw7:eP 223:=gR (g:=3) (fs:=[2,3,37]) (by decide+kernel) (all_cons c3 (all_cons jh (all_cons axf all_nil)))
theorem aw8:eP 239:=gR (g:=7) (fs:=[2,7,17]) (by decide+kernel) (all_cons c3 (all_cons Bu (all_cons ZT all_nil)))
theorem axe:eP 353:=gR (g:=3) (fs:=[2,2,2,2,2,11]) (by decide+kernel) (all_cons c3 (all_cons c3 (all_cons c3 (all_cons c3 (all_cons c3 (all_cons RW all_nil))))))
theorem axj:eP 419:=gR (g:=2) (fs:=[2,11,19]) (by decide+kernel) (all_cons c3 (all_cons RW (all_cons ZU all_nil)))
theorem axl:eP 479:=gR (g:=13) (fs:=[2,239]) (by decide+kernel) (all_cons c3 (all_cons aw8 all_nil))
theorem axm:eP 487:=gR (g:=3) (fs:=[2,3,3,3,3,3]) (by decide+kernel) (all_cons c3 (all_cons jh (all_cons jh (all_cons jh (all_cons jh (all_cons jh all_nil))))))
theorem axA:eP 991:=gR (g:=6) (fs:=[2,3,3,5,11]) (by decide+kernel) (all_cons c3 (all_cons jh (all_cons jh (all_cons Bt (all_cons RW all_nil)))))
theorem aw3:eP 1723:=gR (g:=3) (fs:=[2,3,7,41]) (by decide+kernel) (all_cons c3 (all_cons jh (all_cons Bu (all_cons akx all_nil))))
theorem aw9:eP 2437:=gR (g:=2) (fs:=[2,2,3,7,29]) (by decide+kernel) (all_cons c3 (all_cons c3 (all_cons jh (all_cons Bu (all_cons akw all_nil)))))
theorem axg:eP 3727:=gR (g:=3) (fs:=[2,3,3,3,3,23]) (by decide+kernel) (all_cons c3 (all_cons jh (all_cons jh (all_cons jh (all_cons jh (all_cons akv all_nil))))))
theorem axi:eP 4153:=gR (g:=5) (fs:=[2,2,2,3,173]) (by decide+kernel) (all_cons c3 (all_cons c3 (all_cons c3 (all_cons jh (all_cons aw4 all_nil)))))
theorem axy:eP 9463:=gR (g:=3) (fs:=[2,3,19,83]) (by decide+kernel) (all_cons c3 (all_cons jh (all_cons ZU (all_cons axw all_nil))))
theorem axd:eP 32573:=gR (g:=2) (fs:=[2,2,17,479]) (by decide+kernel) (all_cons c3 (all_cons c3 (all_cons ZT (all_cons axl all_nil))))
theorem axh:eP 37853:=gR (g:=2) (fs:=[2,2,9463]) (by decide+kernel) (all_cons c3 (all_cons c3 (all_cons axy all_nil)))
theorem axp:eP 57467:=gR (g:=2) (fs:=[2,59,487]) (by decide+kernel) (all_cons c3 (all_cons axq (all_cons axm all_nil)))
theorem axr:eP 65147:=gR (g:=2) (fs:=[2,32573]) (by decide+kernel) (all_cons c3 (all_cons axd all_nil))
theorem axv:eP 75707:=gR (g:=2) (fs:=[2,37853]) (by decide+kernel) (all_cons c3 (all_cons axh all_nil))
theorem aw2:eP 132049:=gR (g:=26) (fs:=[2,2,2,2,3,3,7,131]) (by decide+kernel) (all_cons c3 (all_cons c3 (all_cons c3 (all_cons c3 (all_cons jh (all_cons jh (all_cons Bu (all_cons aw1 all_nil))))))))
theorem axk:eP 430751:=gR (g:=17) (fs:=[2,5,5,5,1723]) (by decide+kernel) (all_cons c3 (all_cons Bt (all_cons Bt (all_cons Bt (all_cons aw3 all_nil)))))
theorem axo:eP 569003:=gR (g:=2) (fs:=[2,7,97,419]) (by decide+kernel) (all_cons c3 (all_cons Bu (all_cons axz (all_cons axj all_nil))))
theorem aw6:eP 1923133:=gR (g:=2) (fs:=[2,2,3,43,3727]) (by decide+kernel) (all_cons c3 (all_cons c3 (all_cons jh (all_cons aky (all_cons axg all_nil)))))
theorem axx:eP 8574133:=gR (g:=2) (fs:=[2,2,3,7,103,991]) (by decide+kernel) (all_cons c3 (all_cons c3 (all_cons jh (all_cons Bu (all_cons awY (all_cons axA all_nil))))))
theorem axa:eP 2773320623:=gR (g:=5) (fs:=[2,2437,569003]) (by decide+kernel) (all_cons c3 (all_cons aw9 (all_cons axo all_nil)))
theorem axs:eP 72106336199:=gR (g:=7) (fs:=[2,13,2773320623]) (by decide+kernel) (all_cons c3 (all_cons ZS (all_cons axa all_nil)))
theorem aw5:eP 1919519569386763:=gR (g:=2) (fs:=[2,3,7,19,47,47,127,8574133]) (by decide+kernel) (all_cons c3 (all_cons jh (all_cons Bu (all_cons ZU (all_cons akz (all_cons akz (all_cons aw0 (all_cons axx all_nil))))))))
theorem axc:eP 31757755568855353:=gR (g:=10) (fs:=[2,2,2,3,31,107,223,4153,430751]) (by decide+kernel) (all_cons c3 (all_cons c3 (all_cons c3 (all_cons jh (all_cons axb (all_cons awZ (all_cons aw7 (all_cons axi (all_cons axk all_nil)))))))))
theorem axu:eP 75445702479781427272750846543864801:=gR (g:=7) (fs:=[2,2,2,2,2,3,3,5,5,75707,72106336199,1919519569386763]) (by decide+kernel) (all_cons c3 (all_cons c3 (all_cons c3 (all_cons c3 (all_cons c3 (all_cons jh (all_cons jh (all_cons Bt (all_cons Bt (all_cons axv (all_cons axs (all_cons aw5 all_nil))))))))))))
theorem axt:eP 74058212732561358302231226437062788676166966415465897661863160754340907:=gR (g:=2) (fs:=[2,3,353,57467,132049,1923133,31757755568855353,75445702479781427272750846543864801]) (by decide+kernel) (all_cons c3 (all_cons jh (all_cons axe (all_cons axp (all_cons aw2 (all_cons aw6 (all_cons axc (all_cons axu all_nil))))))))
theorem axM:CD 57896044618658097711785492504343953926634992332820282019728792003956564819949 2:=akM (fs:=[2,2,3,65147,74058212732561358302231226437062788676166966415465897661863160754340907]) (by decide+kernel) (all_cons c3 (all_cons c3 (all_cons jh (all_cons axr (all_cons axt all_nil)))))
theorem axL:CD 57896044618658097711785492504343953926634992332820282019728792003956564819949 2:=axM
end Go.L4
namespace Go.eF
open Go Go.bX
def AM:List Int:=[4794697086780616226,8158064640168781261,13096744586834688815,16840607885511220156,4131703408338449720,6480981068601479193,10538285296894168987,12329834152419229976,15566598209576043074,1334009975649890238,2608012711638119052,6128411473006802146,8268148722764581231,9286055187155687089,11230858885718282805,13951009754708518548,16472876342353939154,17275323862435702243,1135362057144423861,2597628984639134821,3308224258029322869,5365058923640841347,6679025012923562964,8573033837759648693,10970295158949994411,12119686244451234320,12683024718118986047,13788192230050041572,14330467153632333762,15395433587784984357,489312712824947311,1452737877330783856,2861767655752347644,3322285676063803686,5560940570517711597,5996557281743188959,7280758554555802590,8532644243296465576,9350256976987008742,10552545826968843579,11727347734174303076,12113106623233404929,14000437183269869457,14369950271660146224,15101387698204529176,15463397548674623760,17586052441742319658,1182934255886127544,1847814050463011016,2177327727835720531,2830643537854262169,3796741975233480872,4115178125766777443,5681478168544905931,6601373596472566643,7507060721942968483,8399075790359081724,8693463985226723168,9568029438360202098,10144078919501101548,10430055236837252648,11840083180663258601,13761210420658862357,14299343276471374635,14566680578165727644,15097957966210449927,16922976911328602910,17689382322260857208,500013540394364858,748580250866718886,1242879168328830382,1977374033974150939,2944078676154940804,3659926193048069267,4368137639120453308,4836135668995329356,5532061633213252278,6448918945643986474,6902733635092675308,7801388544844847127]
def GJ:List Int:=[7640891576956012808,13503953896175478587,4354685564936845355,11912009170470909681,5840696475078001361,11170449401992604703,2270897969802886507,6620516959819538809]
structure jr where
 k:dZ
 w:Nat
 s:Nat
 t:Nat
 a:List Nat
 b:List Nat
 c:List Nat
 d:List Nat
 n:Nat
def CI:jr:=⟨.u32,32,3,10,[2,13,22],[6,11,25],[7,18],[17,19],64⟩
def bC:jr:=⟨.u64,64,7,6,[28,34,39],[14,18,41],[1,8],[19,61],80⟩
def cH (w n:Nat) (x:Int):Int:=x/2^n+(x% 2^n)*2^(w-n)
def DO (p:jr) (l:List Nat) (x:Int):Int:=l.foldl (λy n=>ca .xor p.k y (cH p.w n x)) 0
def TO (a b c:Nat) (s x:Int):Int:=ca .xor .u64 (ca .xor .u64 (ca .xor .u64 0 (cH 64 a x)) (cH 64 b x)) (if s=1 then x/2^c else cH 64 c x)
def CP (p:jr) (x:Int):Int:=DO p p.a x
def CQ (p:jr) (x:Int):Int:=DO p p.b x
def Iz (p:jr) (x:Int):Int:=ca .xor p.k (DO p p.c x) (x/2^p.s)
def IA (p:jr) (x:Int):Int:=ca .xor p.k (DO p p.d x) (x/2^p.t)
def md (p:jr) (x:Int):Int:=x% 2^p.w
def GR (p:jr) (e f g:Int):Int:=ca .xor p.k (ca .and p.k e f) (ca .and p.k (2^p.w-1-e) g)
def KK (p:jr) (a b c:Int):Int:=ca .xor p.k (ca .xor p.k (ca .and p.k a b) (ca .and p.k a c)) (ca .and p.k b c)
def Ik (p:jr) (i:Nat):Int:=AM.getD i 0/2^(64-p.w)
def FA (p:jr) (m:List Int):Int:=md p (m.getD (m.length-16) 0+Iz p (m.getD (m.length-15) 0)+m.getD (m.length-7) 0+IA p (m.getD (m.length-2) 0))
def uI (p:jr):Nat->List Int->List Int
 |0,m=>m
 |j+1,m=>uI p j (m++[FA p m])
def sched (p:jr) (m:List Int):List Int:=uI p (p.n-16) m
def DS (p:jr) (i:Nat) (x:Int):List Int->List Int
 |[a,b,c,d,e,f,g,h]=>
  let t:=md p (h+CQ p e+GR p e f g+Ik p i+x);let u:=md p (CP p a+KK p a b c)
  [md p (t+u),a,b,c,md p (d+t),e,f,g]
 |l=>l
def yS (p:jr):Nat->List Int->List Int->List Int
 |_,[],v=>v
 |i,x::m,v=>yS p (i+1) m (DS p i x v)
def F3 (p:jr) (h m:List Int):List Int:=wx (λa b=>md p (a+b)) h (yS p 0 (sched p m) h)
def F5 (p:jr) (b:List Int) (j:Nat):Int:=(ga (p.w/8)).foldl (λy q=>y*256+b.getD (j*(p.w/8)+q) 0) 0
def DX (p:jr) (b:List Int):List Int:=(ga 16).map (F5 p b)
def CO (p:jr) (b:List Int):Nat->List Int->List Int
 |0,h=>h
 |i+1,h=>F3 p (CO p b i h) (DX p ((b.drop (2*p.w*i)).take (2*p.w)))
def wP (p:jr):List Int:=GJ.map (·/2^(64-p.w))
def wR (p:jr) (x:Int) (q:Nat):Int:=x/2^(p.w-8-8*q)% 256
def vR (p:jr) (h:List Int):List Int:=h.flatMap λx=>(ga (p.w/8)).map (wR p x)
def ux (p:jr) (b:List Int):List Int:=vR p (CO p b (b.length/(2*p.w)) (wP p))
def rm (w n:Nat):Nat:=(n+1+w/4+(2*w-1))/(2*w)*(2*w)
def Ez (n:Nat):List Int:=(ga 8).map λq=>((n/2^(56-8*q)% 256:Nat):Int)
def xt (p:jr) (b:List Int):List Int:=b++[128]++fD (rm p.w b.length-b.length-9) 0++Ez (8*b.length)
def mB (p:jr) (b:List Int):List Int:=ux p (xt p b)
def aL (z:Int):List Int:=(aj z).map λr=>r.getD 0 0
def sj (n w:Int):Int:=if n<0∨1099511627776<n∨(w≠32/\w≠64)then 0 else rm w.toNat n.toNat
def digit (n:Int):UInt8:=([48,49,50,51,52,53,54,55,56,57,97,98,99,100,101,102]:List UInt8).getD n.toNat 0
def alI (b:List Int):List UInt8:=b.flatMap λx=>[digit (x/16),digit (x% 16)]
def atX:Nat->List (List Int)->List (List Int)->Prop
 |440,[[n],[w]],rs=>rs=[[sj n w]]
 |441,[[n],[w]],rs=>rs=[[sj n w]]
 |442,[[z]],[[r]]=>aL r=xt CI (aL z)
 |443,[[z]],[[r]]=>aL r=xt bC (aL z)
 |444,[[x]],rs=>rs=[[CP CI x]]
 |445,[[x]],rs=>rs=[[CQ CI x]]
 |446,[[x]],rs=>rs=[[Iz CI x]]
 |447,[[x]],rs=>rs=[[IA CI x]]
 |448,[[x]],rs=>rs=[[CP bC x]]
 |449,[[x]],rs=>rs=[[CQ bC x]]
 |450,[[x]],rs=>rs=[[Iz bC x]]
 |451,[[x]],rs=>rs=[[IA bC x]]
 |452,[[z]],rs=>rs=[mB CI (aL z)]
 |453,[[z]],rs=>rs=[mB bC (aL z)]
 |454,[[z]],[[s]]=>cN s=alI (aL z)
 |455,[[z]],[[s]]=>cN s=alI (aL z)
 |456,[],rs=>rs=[[1]]
 |457,[_,_],[[r]]=>r=1
 |458,[_,_,_],[[r]]=>r=1
 |459,[_,_,_],[[r]]=>r=1
 |460,[[z]],[[r]]=>aj r=aj z
 |461,[[z]],[[r]]=>aj r=aj z
 |462,[[z]],[[r]]=>aj r=aj z
 |463,[[z]],[[r]]=>aj r=aj z
 |468,[[a],[b],[c],[d]],[[r]]=>aj r=aj a++(aj b++(aj c++aj d))
 |469,[[a],[b],[c]],[[r]]=>aj r=aj a++(aj b++aj c)
 |470,[[a],[b],[c],[d]],rs=>rs=[mB CI (aL a++(aL b++(aL c++aL d)))]
 |471,[[a],[b],[c]],rs=>rs=[mB bC (aL a++(aL b++aL c))]
 |476,[[x]],rs=>rs=[[x]]
 |477,[[z]],[[r]]=>aL r=mB bC (aL z)
 |478,[[z]],rs=>rs=[mB bC (aL z)]
 |479,[[x],_,[s]],rs=>rs=[[TO 28 34 39 s x]]
 |480,[[x],_,[s]],rs=>rs=[[TO 14 18 41 s x]]
 |481,[[x],_,[s]],rs=>rs=[[TO 1 8 7 s x]]
 |482,[[x],_,[s]],rs=>rs=[[TO 19 61 6 s x]]
 |701,[[x],_],rs=>rs=[[cH 64 1 x]]
 |706,[[x],_],rs=>rs=[[cH 64 6 x]]
 |707,[[x],_],rs=>rs=[[cH 64 7 x]]
 |708,[[x],_],rs=>rs=[[cH 64 8 x]]
 |714,[[x],_],rs=>rs=[[cH 64 14 x]]
 |718,[[x],_],rs=>rs=[[cH 64 18 x]]
 |719,[[x],_],rs=>rs=[[cH 64 19 x]]
 |728,[[x],_],rs=>rs=[[cH 64 28 x]]
 |734,[[x],_],rs=>rs=[[cH 64 34 x]]
 |739,[[x],_],rs=>rs=[[cH 64 39 x]]
 |741,[[x],_],rs=>rs=[[cH 64 41 x]]
 |761,[[x],_],rs=>rs=[[cH 64 61 x]]
 |466,[[i]],rs=>rs=[[Ik CI i.toNat]]
 |467,[[i]],rs=>rs=[[Ik bC i.toNat]]
 |464,[[z]],[[r]]=>aL r=ux CI (aL z)
 |465,[[z]],[[r]]=>aL r=ux bC (aL z)
 |_,_,_=>False
end Go.eF
namespace Go.eF
open Go Go.bX
def Y8 (c b:Int):Nat->Nat->List Int->(List Int->Prop)->Prop
 |0,_,acc,k=>k acc
 |n+1,i,acc,k=>az 21 [c,(b+(i:Int))]/\∀y:Int,0<=y->y<=255->y=cR 21 [c,(b+(i:Int)),0]->Y8 c b n (i+1) (acc++[y]) k
def Y7 (l:List Int):Nat->Nat->Int->(Int->Prop)->Prop
 |0,_,c,k=>k c
 |n+1,j,c,k=>∀y:Int,0<=y->y<=dN->y=cR 23 [c,((72057594037927936*I l (8*j) 0)+((281474976710656*I l (8*j+1) 0)+((1099511627776*I l (8*j+2) 0)+((4294967296*I l (8*j+3) 0)+((16777216*I l (8*j+4) 0)+((65536*I l (8*j+5) 0)+((256*I l (8*j+6) 0)+I l (8*j+7) 0)))))))]->Y7 l n (j+1) y k
def F1 (x c l k:Int) (Next:Int->Int->Int->Prop):Prop:=
 ∃(fv:List (List Int)->Prop) (hB:List (List Int)->Nat),fv [[7],[c],[l],[k]]/\(∀aT:Int,(-1)<=aT->aT<=7->∀bd:Int,0<=bd->bd<=dN->∀aX:Int,0<=aX->aX<=9223372036854775807->∀bj:Int,(-1)<=bj->bj<=9223372036854775807->fv [[aT],[bd],[aX],[bj]]->
 (((decide (0<=aT))=true->
  ∀bn:Int,0<=bn->bn<=18446744073709551615->bn=x/2^((8*aT)).toNat->
  ∀z20:Int,0<=z20->z20<=72057594037927935->0<=bn-256*z20->bn-256*z20<256->
  az 31 [bd,aX]/\
  az 23 [bd,1]/\
  ∀z21:Int,0<=z21->z21<=dN->z21=cR 23 [bd,(bn+((-256)*z20))]->
  ∀z22:Int,(-1)<=z22->z22<=9223372036854775807->
  (fv [[(aT+(-1))],[z21],[(aX+1)],[z22]]/\hB [[(aT+(-1))],[z21],[(aX+1)],[z22]]<hB [[aT],[bd],[aX],[bj]])
 )/\((decide (0<=aT))=false->Next bd aX bj)))
end Go.eF
namespace Go.eF
open Go Go.bX
def adq:List Int:=[6346243789798364141,1503914060200516822,0,1152921504606846976]
def aeX:List Int:=[6346243789798364141,1503914060200516822]
def adl:List Int:=[1,0,0,0,0]
def adk:List Int:=[929955233495203,466365720129213,1662059464998953,2033849074728123,1442794654840575]
def dX:fO:=[(0,adq.map λz=>(.u64,z)),(1,AM.map λz=>(.u64,z)),(2,GJ.map λz=>(.u64,z)),(3,GJ.map λz=>(.u64,z)),(4,AM.map λz=>(.u64,z)),(5,adl.map λz=>(.u64,z)),(6,adk.map λz=>(.u64,z)),(7,aeX.map λz=>(.u64,z))]
end Go.eF
