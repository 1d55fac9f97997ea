/- A contract out of a tree. -/
import Derived.Test.YtacpildnjohidaaDoorPab
import Derived.Laws.Externs
import Derived.ChangeMaps5
import Derived.ChangeSame
import Derived.OpenShut
import Derived.Handed
import Derived.ProofKit
import Derived.LaidMore
import Derived.Stop.Joined
import Derived.HandedShaped
import Derived.SizedLaws
import Derived.Carry
import Derived.RangeFuncOwn
import Derived.RangeFuncLeaves
import Derived.KernelRfl
import Derived.Test.YtacpildnjohidaaDoorPaa
open Array renaming replicate->Ci,eq_empty_of_size_eq_zero->D6
open Bool renaming and_eq_true->bx,not_eq_true'->cI,or_eq_true->D3
open Classical renaming byContradiction->ad3,axiomOfChoice->aO4
open Function renaming comp->Pm
open Go renaming World->aG,Value->aW,TypeId->br,Program->b4,FuncId->dL,IntKind->dW,Calls->nJ,DataW->rb,MemPlace->AB,Deferred->F5
open Go.ChangeSpec renaming post_blind->aQy,plain->aQA
open Go.DataW renaming weightsEach->UL,weightsAll->UM,weights->UN,trod->ad9,trod_int->apj,TrodAll->apA,trod_array->aI8,lit->aI9,trod_string->aJP
open Go.DataW.Whole renaming of_heap->aQx
open Go.DataW.agg renaming injEq->aO9
open Go.Extern renaming findNext->ad6,find->ad7
open Go.Extern.MathBitsCarry renaming m64->aI6,three->aO5,pair->aO6
open Go.Fence renaming wide->IJ
open Go.Frame renaming enter->aJS
open Go.Input renaming okWide->aJR
open Go.OpenSpec renaming ofChange->aep
open Go.Value renaming int->AD,cells->IF,slice->Pr,okWide->PD,bool->aI4,agg->aJQ
open Go.World renaming cell?->nK,putObj_heap_other->AJ,frozen?->D4,putObj_heap_same->D9,putObj_size->aeq,alloc_heap_new->aJW
open Go.World.Extends renaming refl->sW,drew->Uv
open Int renaming le_refl->di,mul_comm->lB,emod_eq_of_lt->mD,lt_or_le->mE,eq_ofNat_of_zero_le->oY,le_of_lt->sd,mul_emod->sU,emod_nonneg->sV,emod_lt_of_pos->wg,add_mul_emod_self_left->xW,mul_assoc->DY,le_trans->D2,mul_add->LD,toNat_of_nonneg->Pf,natCast_emod->Uo,pow_add->Ur,ediv_eq_iff_of_pos->Uz,emod_add_mul_ediv->ad0,add_mul_ediv_left->ao9
open List renaming map_cons->du,mem_cons_of_mem->eI,mem_of_getElem?->fC,replicate->fD,nil_append->gq,getD_cons_zero->gD,map_nil->gQ,length_append->gY,range->ht,append_nil->hK,getD_cons_succ->hL,cons_append->jD,map_append->jE,length_cons->ke,map_congr_left->kU,append_assoc->mF,flatten_cons->oh,take_append_drop->oi,mem_cons->oW,length_drop->oZ,map_map->pD,length->pE,getElem?_eq_getElem->pF,length_map->pG,length_nil->qo,length_take->sf,take_of_length_le->uK,getElem?_set->wh,zipWith->wi,flatMap_cons->wk,getElem?_cons_zero->xY,not_mem_nil->y9,mem_append->zf,drop_drop->Cg,replicate_succ->D8,drop_left->F3,mem_of_find?_eq_some->ID,all_eq_true->LA,map_take->LH,map_drop->LI,map_id->Pl,mem_or_eq_of_mem_set->PA,drop_of_length_le->Uq,zipWith_cons_cons->Ux,mem_cons_self->Uy,take_length->ad5,getElem?_eq_none->aei,mapM_cons->aph
open List.cons renaming injEq->qn
open Nat renaming beq->aP,le_refl->bW,eq_of_beq_eq_true->b1,ble->cO,blt->dX,le_of_ble_eq_true->gU,le_trans->nf,add_zero->oX,pow_succ->za,mul_comm->zc,zero_add->zd,succ_mul->AF,mul_one->Ch,pow_add->D0,two_pow_pos->IA,lt_of_lt_of_le->IB,beq_refl->IC,mul_mod->Lz,le_add_right->LG,div_div_eq_div_mul->Ph,mod_lt->Pj,div_add_mod->Up,mul_assoc->Us,mul_le_mul_left->UB,div_eq_of_lt->adY,mod_eq_of_lt->ad2,dvd_of_mod_eq_zero->aIY,div_le_self->aIZ
open Nat.Coprime renaming mul_right->aOP,eq_one_of_dvd->aOQ
open Option.some renaming injEq->bj,inj->jC
open Prod.mk renaming injEq->eO
set_option linter.unusedVariables false
set_option linter.unusedSimpArgs false
namespace Go.b9
open M
theorem P1:∀{b:List (Int×Int)} {P Q:List Int->Prop},(∀rs,P rs->Q rs)->kC b P->kC b Q
 |[],_,_,h,hp=>h _ hp
 |(l,u)::b,P,Q,h,hp=>λr h1 h2=>P1 (b:=b) (P:=λrs=>P (r::rs)) (Q:=λrs=>Q (r::rs)) (λrs=>h (r::rs)) (hp r h1 h2)
theorem tM:∀{b:List (Int×Int)} {P:List Int->Prop},(∀rs,ab b rs->P rs)->kC b P
 |[],_,h=>h [] trivial
 |(l,u)::b,P,h=>λr h1 h2=>tM (b:=b) (P:=λrs=>P (r::rs)) λrs hi=>h (r::rs) ⟨h1,h2,hi⟩
theorem kM {S:Nat->List Int->List Int->Prop} {L aeX:V->Env->Prop} (h:∀v ρ,L v ρ->aeX v ρ):∀(t:T) (G:fe) (ρ:Env),t.holds S L G ρ->t.holds S aeX G ρ
 | .stuck,_,_,ag=>ag
 | .leaf v,_,ρ,ag=>h v ρ ag
 | .div n x d lo hi r,G,ρ,ag=>λq h1 h2 h3 h4=>kM h r G _ (ag q h1 h2 h3 h4)
 | .mul n x y lo hi r,G,ρ,ag=>λq h1 h2 h3=>kM h r G _ (ag q h1 h2 h3)
 | .bit n op k x y r,G,ρ,ag=>λq h1 h2 h3=>kM h r G _ (ag q h1 h2 h3)
 | .shr n x y lo hi r,G,ρ,ag=>λq h1 h2 h3=>kM h r G _ (ag q h1 h2 h3)
 | .BN n cs bp lo hi r,G,ρ,ag=>λq h1 h2 h3=>kM h r G _ (ag q h1 h2 h3)
 | .uU b t e,G,ρ,ag=>⟨λhb=>kM h t G ρ (ag.1 hb),λhb=>kM h e G ρ (ag.2 hb)⟩
 | .call id args n bds r,G,ρ,ag=>P1 (λrs hr hs=>kM h r G _ (hr hs)) ag
 | .loop lM init n bds r,G,ρ,ag=>by
  obtain⟨mi,o5,h1,h2⟩:=ag;exact⟨mi,o5,h1,P1 (λzs hz eg=>kM h r _ _ (hz eg)) h2⟩
 | .again lM vals,G,ρ,ag=>ag
 | .both x y,G,ρ,ag=>⟨kM h x G ρ ag.1,kM h y G ρ ag.2⟩
 | .fn n op args lo hi r,G,ρ,ag=>λq h1 h2 h3=>kM h r G _ (ag q h1 h2 h3)
 | .s4 op args r,G,ρ,ag=>⟨ag.1,kM h r G ρ ag.2⟩
 | .vt n lo hi r,G,ρ,ag=>λz h1 h2=>kM h r G _ (ag z h1 h2)
 | .nat n r,G,ρ,ag=>λz h1=>kM h r G _ (ag z h1)
 | .x9 op args r,G,ρ,ag=>λh1=>kM h r G ρ (ag h1)
 | .ind n b r,G,ρ,ag=>λz h1 h2 h3=>kM h r G _ (ag z h1 h2 h3)
def T.plain:T->Bool
 |stuck=>true
 |leaf _=>true
 |fn _ _ _ _ _ r|s4 _ _ r|ind _ _ r|div _ _ _ _ _ r|mul _ _ _ _ _ r|bit _ _ _ _ _ r|shr _ _ _ _ _ r|BN _ _ _ _ _ r|call _ _ _ _ r=>r.plain
 |uU _ t e=>t.plain&&e.plain
 |loop .. =>false
 |again .. =>false
 |both .. =>false
 |vt .. =>false
 |nat .. =>false
 |x9 .. =>false
def Path (S:Nat->List Int->List Int->Prop):T->Env->V->Env->Prop
 | .stuck,_,_,_=>False
 | .leaf v,ρ,v',ae=>v'=v/\ae=ρ
 | .div n x d lo hi r,ρ,v,ae=>∃q,0<=x.den ρ-d*q/\x.den ρ-d*q<d/\Path S r (dI ρ n q) v ae
 | .mul n x y lo hi r,ρ,v,ae=>Path S r (dI ρ n (x.den ρ*y.den ρ)) v ae
 | .bit n op k x y r,ρ,v,ae=>Path S r (dI ρ n (eR op k (x.den ρ) (y.den ρ))) v ae
 | .shr n x y lo hi r,ρ,v,ae=>Path S r (dI ρ n (x.den ρ/2^(y.den ρ).toNat)) v ae
 | .BN n cs bp lo hi r,ρ,v,ae=>Path S r (dI ρ n ((cs.map (·.den ρ)).getD (bp.den ρ).toNat 0)) v ae
 | .uU b t e,ρ,v,ae=>(b.den ρ=true/\Path S t ρ v ae)∨(b.den ρ=false/\Path S e ρ v ae)
 | .call id args n bds r,ρ,v,ae=>∃rs,S id (args.map (·.den ρ)) rs/\Path S r (bR ρ n rs) v ae
 | .loop ..,_,_,_=>False
 | .again ..,_,_,_=>False
 | .both ..,_,_,_=>False
 | .vt ..,_,_,_=>False
 | .nat ..,_,_,_=>False
 | .x9 ..,_,_,_=>False
 | .ind n b r,ρ,v,ae=>Path S r (dI ρ n (cond (b.den ρ) 1 0)) v ae
 | .fn n op args lo hi r,ρ,v,ae=>Path S r (dI ρ n (bM op (args.map (·.den ρ)))) v ae
 | .s4 op args r,ρ,v,ae=>Path S r ρ v ae
theorem yv {S:Nat->List Int->List Int->Prop} {L:V->Env->Prop}:∀(t:T) (G:fe) (ρ:Env),t.plain=true->t.holds S L G ρ->t.holds S (λv ae=>L v ae/\Path S t ρ v ae) G ρ
 | .stuck,_,_,_,ag=>ag
 | .leaf v,_,ρ,_,ag=>⟨ag,rfl,rfl⟩
 | .div n x d lo hi r,G,ρ,hp,ag=>λq h1 h2 h3 h4=>kM (λv ae h=>⟨h.1,q,h3,h4,h.2⟩) r G _ (yv r G _ hp (ag q h1 h2 h3 h4))
 | .mul n x y lo hi r,G,ρ,hp,ag=>λq h1 h2 h3=>kM (λv ae h=>⟨h.1,by subst h3;exact h.2⟩) r G _ (yv r G _ hp (ag q h1 h2 h3))
 | .bit n op k x y r,G,ρ,hp,ag=>λq h1 h2 h3=>kM (λv ae h=>⟨h.1,by subst h3;exact h.2⟩) r G _ (yv r G _ hp (ag q h1 h2 h3))
 | .shr n x y lo hi r,G,ρ,hp,ag=>λq h1 h2 h3=>kM (λv ae h=>⟨h.1,by subst h3;exact h.2⟩) r G _ (yv r G _ hp (ag q h1 h2 h3))
 | .BN n cs bp lo hi r,G,ρ,hp,ag=>λq h1 h2 h3=>kM (λv ae h=>⟨h.1,by subst h3;exact h.2⟩) r G _ (yv r G _ hp (ag q h1 h2 h3))
 | .uU b t e,G,ρ,hp,ag=>by
  simp only[T.plain,bx]at hp;exact⟨λhb=>kM (λv ae h=>⟨h.1,.inl ⟨hb,h.2⟩⟩) t G ρ (yv t G ρ hp.1 (ag.1 hb)),λhb=>kM (λv ae h=>⟨h.1,.inr ⟨hb,h.2⟩⟩) e G ρ (yv e G ρ hp.2 (ag.2 hb))⟩
 | .call id args n bds r,G,ρ,hp,ag=>P1 (λrs hr hs=>kM (λv ae h=>⟨h.1,rs,hs,h.2⟩) r G _ (yv r G _ hp (hr hs))) ag
 | .loop ..,_,_,hp,_=>by simp[T.plain]at hp
 | .again ..,_,_,hp,_=>by simp[T.plain]at hp
 | .both ..,_,_,hp,_=>by simp[T.plain]at hp
 | .vt ..,_,_,hp,_=>by simp[T.plain]at hp
 | .nat ..,_,_,hp,_=>by simp[T.plain]at hp
 | .x9 ..,_,_,hp,_=>by simp[T.plain]at hp
 | .ind n b r,G,ρ,hp,ag=>λq h1 h2 h3=>kM (λv ae h=>⟨h.1,by
  have:q=cond (b.den ρ) 1 0:=by rw[h3];by_cases ak:q=1<;>simp[ak]<;>omega
  rw[this]at h;exact h.2⟩) r G _ (yv r G _ hp (ag q h1 h2 h3))
 | .fn n op args lo hi r,G,ρ,hp,ag=>λq h1 h2 h3=>kM (λv ae h=>⟨h.1,by subst h3;exact h.2⟩) r G _ (yv r G _ hp (ag q h1 h2 h3))
 | .s4 op args r,G,ρ,hp,ag=>⟨ag.1,kM (λv ae h=>⟨h.1,h.2⟩) r G ρ (yv r G ρ hp ag.2)⟩
theorem OJ {x d q fA:Int} (h1:0<=x-d*q) (h2:x-d*q<d) (h3:0<=x-d*fA) (h4:x-d*fA<d):q=fA:=by
 have hd:0<d:=by omega
 have az:x/d=q:=by
  rw[Uz hd];constructor<;>rw[lB]<;>(try rw[LD])<;>omega
 have aI:x/d=fA:=by
  rw[Uz hd];constructor<;>rw[lB]<;>(try rw[LD])<;>omega
 omega
theorem yI {S:Nat->List Int->List Int->Prop} (hS:∀id a rs cX,S id a rs->S id a cX->rs=cX):∀(t:T) (ρ:Env) {v v':V} {aN b5:Env},Path S t ρ v aN->Path S t ρ v' b5->v=v'/\aN=b5
 | .stuck,_,_,_,_,_,h,_=>h.elim
 | .leaf v,_,_,_,_,_,h,bm=>⟨h.1.trans bm.1.symm,h.2.trans bm.2.symm⟩
 | .div n x d lo hi r,ρ,_,_,_,_,⟨q,b7,a2,a3⟩,⟨fA,ca,cc,dm⟩=>by
  have:=OJ b7 a2 ca cc;subst this;exact yI hS r _ a3 dm
 | .mul n x y lo hi r,ρ,_,_,_,_,h,bm=>yI hS r _ h bm
 | .bit n op k x y r,ρ,_,_,_,_,h,bm=>yI hS r _ h bm
 | .shr n x y lo hi r,ρ,_,_,_,_,h,bm=>yI hS r _ h bm
 | .BN n cs bp lo hi r,ρ,_,_,_,_,h,bm=>yI hS r _ h bm
 | .uU b t e,ρ,_,_,_,_,h,bm=>by
  rcases h with⟨h1,h2⟩|⟨h1,h2⟩<;>rcases bm with⟨h3,h4⟩|⟨h3,h4⟩
  ·exact yI hS t ρ h2 h4
  ·rw[h1]at h3;cases h3
  ·rw[h1]at h3;cases h3
  ·exact yI hS e ρ h2 h4
 | .call id args n bds r,ρ,_,_,_,_,⟨rs,b7,a2⟩,⟨cX,ca,cc⟩=>by
  have:=hS _ _ _ _ b7 ca;subst this;exact yI hS r _ a2 cc
 | .loop ..,_,_,_,_,_,h,_=>h.elim
 | .again ..,_,_,_,_,_,h,_=>h.elim
 | .both ..,_,_,_,_,_,h,_=>h.elim
 | .vt ..,_,_,_,_,_,h,_=>h.elim
 | .nat ..,_,_,_,_,_,h,_=>h.elim
 | .x9 ..,_,_,_,_,_,h,_=>h.elim
 | .ind n b r,ρ,_,_,_,_,h,bm=>yI hS r _ h bm
 | .fn n op args lo hi r,ρ,_,_,_,_,h,bm=>yI hS r _ h bm
 | .s4 op args r,ρ,_,_,_,_,h,bm=>yI hS r _ h bm
inductive O where
 |l (x:I)
 |b (x:bH)
def O.den (ρ:Env):O->Int
 |l x=>x.den ρ
 |b x=>cond (x.den ρ) 1 0
def l6 (k:dW):List A->Option (List O)
 |[]=>some []
 | .int bI x::r=>cond (decide (k=bI)) (match l6 k r with|some l=>some (.l x.l::l)|none=>none) none
 |_::_=>none
def aQ.out:aQ->A->Option O
 | .int k _ _,.int bI x=>cond (decide (k=bI)) (some (.l x.l)) none
 | .str,.str l=>some (.l l)
 | .bool,.bool e=>some (.b e)
 |_,_=>none
def vj:List aQ->List A->Option (List O)
 |[],[]=>some []
 |c::d,a::r=>match c.out a,vj d r with|some o,some l=>some (o::l)|_,_=>none
 |_,_=>none
def Dp:D->W->Option (List O)
 | .int k _ _,.one (.int bI x)=>cond (decide (k=bI)) (some [.l x.l]) none
 | .bool,.one (.bool x)=>some [.b x]
 | .agg k n _ _,.agg l=>cond (aP l.length n) (l6 k l) none
 | .str,.one (.str l)=>some [.l l]
 | .mix d,.agg l=>vj d l
 |_,_=>none
def Fo:List D->List W->Option (List O)
 |[],[]=>some []
 |d::r,w::s=>match Dp d w,Fo r s with|some a,some b=>some (a++b)|_,_=>none
 |_,_=>none
def outs (ds:List D):V->Option (List O)
 | .w u=>match ds with|[d]=>Dp d u|_=>none
 | .jh l=>match ds with|[_]=>none|_=>Fo ds l
 |_=>none
def ki (ds:List D) (K:List Int->Prop) (v:V) (ρ:Env):Prop:=
 match outs ds v with
 |some os=>K (os.map (O.den ρ))
 |none=>False
theorem al6 {ρ:Env} {m:Nat->Nat} {k:dW}:∀{l:List A} {os:List O},l6 k l=some os->os.length=l.length/\l.map (A.den ρ m)=(os.map (O.den ρ)).map (.int k)
 |[],os,h=>by simp[l6]at h;subst h;exact⟨rfl,rfl⟩
 | .int bI x::r,os,h=>by
  simp only[l6]at h;by_cases af:k=bI
  ·simp only[af,decide_true,cond_true]at h;cases hr:l6 bI r with
   |none=>simp[hr]at h
   |some o=>
    simp only[hr,bj]at h;subst h;subst af;obtain⟨h1,h2⟩:=al6 (ρ:=ρ) (m:=m) hr;exact⟨by simp[h1],by simp only[du,h2,A.den,O.den]⟩
  ·simp[af]at h
 | .bool _::_,_,h=>by simp[l6]at h
 | .ptr .. ::_,_,h=>by simp[l6]at h
 | .q1 .. ::_,_,h=>by simp[l6]at h
 | .gptr .. ::_,_,h=>by simp[l6]at h
 | .slc .. ::_,_,h=>by simp[l6]at h
 | .con _::_,_,h=>by simp[l6]at h
 | .str _::_,_,h=>by simp[l6]at h
theorem aQ.aA8 {ρ:Env} {m:Nat->Nat} {c:aQ} {a:A} {o:O} (h:c.out a=some o):a.den ρ m=c.val (o.den ρ):=by
 unfold aQ.out at h;split at h
 ·rename_i k lo hi bI x;by_cases af:k=bI
  ·subst af;simp only[decide_true,cond_true,bj]at h;subst h;rfl
  ·simp[af]at h
 ·simp only[bj]at h;subst h;rfl
 ·rename_i e;simp only[bj]at h;subst h;have hb:∀b:Bool,aI4 b=aI4 (decide ((cond b 1 0:Int)=1)):=by intro b;cases b<;>rfl
  exact hb (e.den ρ)
 ·cases h
theorem al9 {ρ:Env} {m:Nat->Nat}:∀{d:List aQ} {l:List A} {os:List O},vj d l=some os->os.length=d.length/\l.map (A.den ρ m)=wi aQ.val d (os.map (O.den ρ))
 |[],[],os,h=>by simp[vj]at h;subst h;exact⟨rfl,rfl⟩
 |c::d,a::r,os,h=>by
  simp only[vj]at h;cases h1:c.out a with
  |none=>simp[h1]at h
  |some o=>
   cases hr:vj d r with
   |none=>simp[h1,hr]at h
   |some l=>
    simp only[h1,hr,bj]at h;subst h;obtain⟨cG,cC⟩:=al9 (ρ:=ρ) (m:=m) hr;exact⟨by simp[cG],by simp only[du,cC,aQ.aA8 h1,Ux]⟩
 |[],_::_,_,h=>by simp[vj]at h
 |_::_,[],_,h=>by simp[vj]at h
theorem abV {ρ:Env} {m:Nat->Nat} {d:D} {u:W} {os:List O} (h:Dp d u=some os):os.length=d.num/\∀zs,d.val (os.map (O.den ρ)++zs)=u.den ρ m:=by
 unfold Dp at h;split at h
 ·rename_i k _ _ bI x;by_cases af:k=bI
  ·subst af;simp only[decide_true,cond_true,bj]at h;subst h;exact⟨rfl,λzs=>by simp[D.val,W.den,A.den,O.den]⟩
  ·simp[af]at h
 ·rename_i x;simp only[bj]at h;subst h;exact⟨rfl,λzs=>by cases hx:x.den ρ<;>simp[D.val,W.den,A.den,O.den,hx]⟩
 ·rename_i k n' _ _ l;cases hc:aP l.length n' with
  |false=>simp[hc]at h
  |true=>
   simp only[hc,cond_true]at h;have hl:=b1 hc;subst hl;obtain⟨h1,h2⟩:=al6 (ρ:=ρ) (m:=m) h;exact⟨h1,λzs=>by simp only[D.val,W.den,h2];rw[List.take_append_of_le_length (by simp[h1]),uK (by simp[h1])]⟩
 ·simp only[bj]at h;subst h;exact⟨rfl,λzs=>rfl⟩
 ·rename_i d l;obtain⟨h1,h2⟩:=al9 (ρ:=ρ) (m:=m) h;refine⟨h1,λzs=>?_⟩;simp only[D.val,W.den,h2]
  congr 2
  have key:∀(a:List aQ) (b c:List Int),b.length=a.length->wi aQ.val a (b++c)=wi aQ.val a b:=by
   intro a;induction a with
   |nil=>intro b c _;simp
   |cons p a ih=>
    intro b c hb;cases b with
    |nil=>simp at hb
    |cons z b=>simp[ih b c (by simpa using hb)]
  exact key _ _ _ (by simp[h1])
 ·cases h
theorem al7 {ρ:Env} {m:Nat->Nat}:∀{ds:List D} {l:List W} {os:List O},Fo ds l=some os->pB ds (os.map (O.den ρ))=l.map (W.den ρ m)
 |[],[],os,h=>by simp[Fo]at h;subst h;rfl
 |d::ds,u::l,os,h=>by
  simp only[Fo]at h;cases h1:Dp d u with
  |none=>simp[h1]at h
  |some a=>
   cases h2:Fo ds l with
   |none=>simp[h1,h2]at h
   |some b=>
    simp only[h1,h2,bj]at h;subst h;obtain⟨cG,cC⟩:=abV (ρ:=ρ) (m:=m) h1;rw[jE];simp only[pB,cC,du];rw[show d.num=(a.map (O.den ρ)).length by simp[cG],F3,al7 h2]
 |[],_::_,_,h=>by simp[Fo]at h
 |_::_,[],_,h=>by simp[Fo]at h
theorem aHU (ds:List D):∀zs,(pB ds zs).length=ds.length:=by
 induction ds with
 |nil=>intro zs;rfl
 |cons d r ih=>intro zs;simp[pB,ih]
theorem Ec {ds:List D} {K:List Int->Prop} {v:V} {ρ:Env} {m:Nat->Nat} {val:aW} (h:ki ds K v ρ) (hr:v.rel ρ m val):∃rs,K rs/\val=oO ds rs:=by
 unfold ki at h;cases aA:outs ds v with
 |none=>simp[aA]at h
 |some os=>
  simp only[aA]at h;refine⟨_,h,?_⟩;unfold outs at aA;cases v with
  |any=>cases aA
  |sL _ _ _=>cases aA
  |s5 _ _=>cases aA
  |w u=>
   simp only at aA;split at aA
   ·rename_i d;obtain⟨cG,cC⟩:=abV (ρ:=ρ) (m:=m) aA;simp only[V.rel]at hr;have:=cC [];rw[hK]at this;simp[oO,pB,this,hr]
   ·cases aA
  |jh l=>
   simp only at aA;split at aA
   ·cases aA
   ·rename_i dA;have:=al7 (ρ:=ρ) (m:=m) aA;simp only[V.rel]at hr;unfold oO;split
    ·rename_i x heq;exfalso;have hl:=aHU ds (os.map (O.den ρ));rw[heq]at hl
     match ds,hl with
     |[d],_=>exact dA d rfl
    ·rw[hr,this]
noncomputable def Xs (cons:List bJ) (Bx AU BO:dL):gL:=λf=>
 cond (aP f Bx) (some abr) <| cond (aP f AU) (some WO) <| cond (aP f BO) (some adj) <|
 match cons.find? (λc=>aP f c.f)with
 |some c=>some c.M
 |none=>none
section
variable {S:Nat->List Int->List Int->Prop} {P:b4} {gl:fP} {wb:aG}
theorem ash {w0:eL} {cons:List bJ} {Bx AU BO:dL} (hm:IS P Bx) (ha:IL P AU) (hs:IV P BO) (hc:∀c∈cons,c.AM P w0.b (S c.id)):iM S P gl w0 (Xs cons Bx AU BO):=by
 intro f g kL L n ρ m bl vs xs h1 h2 h3 h4;unfold Xs at kL;cases az:aP f Bx with
 |true=>
  have:=b1 az;subst this;simp only[az,cond_true,bj]at kL;subst kL;exact azc hm h3 h4
 |false=>
  cases aI:aP f AU with
  |true=>
   have:=b1 aI;subst this;simp only[az,aI,cond_true,cond_false,bj]at kL;subst kL;exact arc ha h3 h4
  |false=>
   cases cn:aP f BO with
   |true=>
    have:=b1 cn;subst this;simp only[az,aI,cn,cond_true,cond_false,bj]at kL;subst kL;exact aFK hs h3 h4
   |false=>
    simp only[az,aI,cn,cond_false]at kL;cases iC:cons.find? (λc=>aP f c.f)with
    |none=>simp[iC]at kL
    |some c=>
     simp only[iC,bj]at kL;subst kL;have h5:=List.find?_some iC;have:=b1 h5;subst this;exact bJ.snd (hc c (ID iC)) (λ_ _ h=>h) L n ρ m bl vs xs h3 h4
noncomputable def Qs (cons:List bJ):gL:=λf=>
 match cons.filter (λc=>aP f c.f)with
 |[]=>none
 |l=>some λbl vs n k=>match l.find? (λc=>(tX c.args vs).isSome)with
  |some c=>c.M bl vs n k
  |none=>match l with
   |c::_=>c.M bl vs n k
   |[]=> .stuck
theorem ahf {w0:eL} {cons:List bJ} (hc:∀c∈cons,c.AM P w0.b (S c.id)):iM S P gl w0 (Qs cons):=by
 intro f g kL L n ρ m bl vs xs h1 h2 h3 h4;unfold Qs at kL;split at kL
 ·cases kL
 ·rename_i l hl;simp only[bj]at kL;subst kL;intro G k af;simp only at af;split at af
  ·rename_i c M8;have eS:=List.mem_filter.1 (ID M8);have Hc:=b1 eS.2;subst Hc;exact bJ.snd (hc c eS.1) (λ_ _ h=>h) L n ρ m bl vs xs h3 h4 G k af
  ·split at af
   ·rename_i c r Hg;have eS:=List.mem_filter.1 (show c∈cons.filter (λc=>aP f c.f) from by rw[Hg];exact Uy (a:=c) (l:=r));have Hc:=b1 eS.2;subst Hc;exact bJ.snd (hc c eS.1) (λ_ _ h=>h) L n ρ m bl vs xs h3 h4 G k af
   ·exact af.elim
theorem Calls.some {f:dL} {args:Array aW} {w:aG} {R:Ending->aG->Prop} (h:nJ P f args w R):∃e w',R e w':=by
 obtain⟨e,w',EM,h1,_⟩:=h [];exact⟨e,w',h1⟩
noncomputable def bJ.tree (P:b4) (gl:fP) (cal:gL) (li:dL->Nat->Option hN) (rounds d:Nat) (c:bJ):T:=
 Mk P gl cal li rounds d c.f (aY c.args).length ((vo 0 c.args).map V.w) [] λ_ v _=> .leaf v
theorem Wf {ρ:Env} {m:Nat->Nat}:∀(l:List W),fQ ρ m (l.map V.w) (l.map (W.den ρ m))
 |[]=>trivial
 |_::r=>⟨rfl,Wf r⟩
theorem bJ.calls {c:bJ} {cal:gL} {li:dL->Nat->Option hN} {rounds d:Nat} {L:V->Env->Prop} (hm:P.follows .mixedOrders=true) (dy:∀r ex ro,iM S P gl ⟨wb,r,ex,ro,[]⟩ cal) (hg:gM gl ⟨wb,wb,λ_=>False,λ_=>False,[]⟩) {zs:List Int} (hz:ab (aY c.args) zs)
 (aD:(c.tree P gl cal li rounds d).holds S L (λ_ _=>False) (bR (λ_=>0) 0 zs)) (w:aG) (hw:wb.Extends w):
 nJ P c.f (pB c.args zs).toArray w λe w'=>∃v ae m val,e= .returned val/\v.rel ae m val/\L v ae/\w.Extends w':=by
 have hs:=TJ (m:=λ_=>0) (nb:=0) (N:=(aY c.args).length) c.args hz (kf.bR (λ_=>0) 0 zs) (by omega);have:=asj (L:=L) (b:=wb) (w:=w) hm (dy w _ _) hg c.f _ _ _ ((vo 0 c.args).map (W.den (bR (λ_=>0) 0 zs) λ_=>0)) hw (λv hv=>by
  obtain⟨u,hu,rfl⟩:=List.mem_map.1 hv;exact hs.1 u hu) (Wf _) aD
 rw[hs.2]at this;refine this.mono λe w' ⟨v,ae,m,val,nb,h1,h2,_,h3,h4⟩=>⟨v,ae,m,val,h1,h2,h3,h4⟩
theorem bJ.azx {c:bJ} {cal:gL} {li:dL->Nat->Option hN} {rounds d:Nat} {spec:List Int->List Int->Prop} (hm:P.follows .mixedOrders=true) (dy:∀r ex ro,iM S P gl ⟨wb,r,ex,ro,[]⟩ cal) (hg:gM gl ⟨wb,wb,λ_=>False,λ_=>False,[]⟩)
 (hf:∀args w,(callFunc c.f args).run P w= .ok (.enter c.f args) w) (hS:∀id a rs cX,S id a rs->S id a cX->rs=cX) (hp:(c.tree P gl cal li rounds d).plain=true)
 (aD:∀zs,ab (aY c.args) zs->(c.tree P gl cal li rounds d).holds S (ki c.res λrs=>ab (aY c.res) rs/\spec zs rs) (λ_ _=>False) (bR (λ_=>0) 0 zs)):c.bD P wb spec:=by
 refine⟨hf,λzs hz=>?_⟩;have ui:=yv _ _ _ hp (aD zs hz);have h0:=bJ.calls hm dy hg hz ui wb (sW wb);obtain⟨e,w',v0,cB,m0,aOs,h1,h2,⟨h3,ES⟩,h4⟩:=Calls.some h0;obtain⟨rs,⟨hb,hs⟩,hv⟩:=Ec h3 h2;refine⟨rs,hb,hs,λw hw=>?_⟩;refine(bJ.calls hm dy hg hz ui w hw).mono λe w' ⟨v,ae,m,val,g1,g2,⟨g3,auu⟩,g4⟩=>?_;obtain⟨az,aI⟩:=yI hS _ _ auu ES;subst az;subst aI;unfold ki at g3 h3;have:val=oO c.res rs:=by
  cases aA:outs c.res v with
  |none=>simp[aA]at h3
  |some os=>
   have key:∀{m val},v.rel ae m val->val=oO c.res (os.map (O.den ae)):=λ{m val} hr=>by
    have au0:ki c.res (λrs=>rs=os.map (O.den ae)) v ae:=by unfold ki;simp[aA]
    obtain⟨cX,awO,hv⟩:=Ec au0 hr;rw[hv,awO]
   rw[key g2,<-key h2,hv]
 exact⟨by rw[g1,this],g4⟩
theorem bJ.bD.fn {c:bJ} {spec:List Int->List Int->Prop} (h:c.bD P wb spec):∃F:List Int->List Int,c.bD P wb λzs rs=>rs=F zs/\spec zs rs:=by
 have h2:∀zs,∃rs,ab (aY c.args) zs->ab (aY c.res) rs/\spec zs rs/\∀w,wb.Extends w->nJ P c.f (pB c.args zs).toArray w λe w'=>e= .returned (oO c.res rs)/\w.Extends w':=λzs=>by
  by_cases hz:ab (aY c.args) zs
  ·obtain⟨rs,h3⟩:=h.2 zs hz;exact⟨rs,λ_=>h3⟩
  ·exact⟨[],λaxo=>absurd axo hz⟩
 obtain⟨F,hF⟩:=aO4 h2;exact⟨F,h.1,λzs hz=>⟨F zs,(hF zs hz).1,⟨rfl,(hF zs hz).2.1⟩,(hF zs hz).2.2⟩⟩
end
end Go.b9
namespace Go.b9
open M
structure lk where
 f:dL
 id:Nat
 k:dW
 N:Nat
 lo:Int
 hi:Int
 ty:br
 off:Nat
 len:Nat
 cap:Nat
 args:List D
 res:List D
noncomputable def lk.bds (c:lk):List (Int×Int):=ai c.lo c.hi c.N++aY c.args
def lk.bD (P:b4) (wb:aG) (c:lk) (spec:List Int->List Int->Prop):Prop:=
 (∀args w,(callFunc c.f args).run P w= .ok (.enter c.f args) w)/\
 ∀zs,ab c.bds zs->∃rs,ab (aY c.res) rs/\spec zs rs/\∀(w:aG) (g:Nat),wb.Extends w->wb.heap.size<=g->w.heap[g]?=some (.cells ((zs.take c.N).map (.int c.k)).toArray c.ty (0,0))->
  nJ P c.f (.slice (some ⟨g,c.off,none⟩) c.len c.cap::pB c.args (zs.drop c.N)).toArray w λe w'=>e= .returned (oO c.res rs)/\w.Extends w'
noncomputable def lk.M (c:lk):List aJ->List V->M V:=λbl vs n k=>
 match vs with
 | .w (.one (.slc b off len cap))::rest=>match bl[b]? with
  |some (cs,t)=>cond (aP off c.off&&aP len c.len&&aP cap c.cap&&aP t.1 c.ty&& !t.2&&aP cs.length c.N&&cl cs) (match ow c.k c.lo c.hi cs,tX c.args rest with
   |some l1,some l2=> .call c.id (l1++l2) n (aY c.res) (k (H6 c.res n) (n+(aY c.res).length))
   |_,_=> .stuck) .stuck
  |none=> .stuck
 |_=> .stuck
section
variable {S:Nat->List Int->List Int->Prop} {P:b4} {gl:fP} {w0:eL}
theorem lk.snd {c:lk} {spec:List Int->List Int->Prop} (hc:c.bD P w0.b spec) (hS:∀zs rs,spec zs rs->S c.id zs rs) (L:V->Env->Prop) (n:Nat) (ρ:Env) (m:Nat->Nat) (bl:List aJ) (vs:List V) (xs:List aW)
 (hb:dj n bl.length ρ bl) (lu:∀v∈vs,V.ok n bl.length ρ v) (hr:fQ ρ m vs xs):aC S L (c.M bl vs) n ρ λae n' v=>v.ok n' bl.length ae/\∃val,v.rel ae m val/\∀w,Mem w0 ρ m bl w->x1 P c.f xs.toArray w val:=by
 intro G k af;unfold lk.M at af;split at af
 ·rename_i b off len cap rest;cases aZ:bl[b]? with
  |none=>simp[aZ,T.holds]at af
  |some q=>
   obtain⟨cs,t⟩:=q;simp only[aZ]at af;cases ak:(aP off c.off&&aP len c.len&&aP cap c.cap&&aP t.1 c.ty&& !t.2&&aP cs.length c.N&&cl cs)with
   |false=>rw[ak]at af;exact af.elim
   |true=>
    simp only[ak,cond_true]at af;simp only[bx]at ak;obtain⟨⟨⟨⟨⟨⟨bg,b3⟩,cy⟩,et⟩,n6⟩,j8⟩,oJ⟩:=ak;have bg:=b1 bg;have b3:=b1 b3;have cy:=b1 cy;have et:=b1 et;have j8:=b1 j8
    cases h1:ow c.k c.lo c.hi cs with
    |none=>simp[h1,T.holds]at af
    |some l1=>
     cases h2:tX c.args rest with
     |none=>simp[h1,h2,T.holds]at af
     |some l2=>
      simp only[h1,h2]at af;have dD:∀a∈cs,A.ok n bl.length ρ a:=hb (cs,t) (fC aZ);obtain⟨b7,a2,a3⟩:=QU (m:=m) h1 dD;cases xs with
      |nil=>exact hr.elim
      |cons x xs=>
       obtain⟨hx,hr⟩:=hr;obtain⟨ca,cc⟩:=QX h2 (λv hv=>lu v (eI _ hv)) hr;have eS:ab c.bds ((l1++l2).map (·.den ρ)):=by
        rw[jE];unfold lk.bds;rw[<-j8];exact m1 a2 ca
       obtain⟨rs,r1,r2,ij⟩:=hc.2 _ eS;have ag:=Qu af r1 (hS _ _ r2);have pj:=To (m:=m) (nb:=bl.length) (N:=n+(aY c.res).length) r1 (kf.bR ρ n rs) (bW _);refine⟨_,_,_,LG _ _,agree.bR rs n ρ,⟨pj.1,_,pj.2,λw hw=> .inr ⟨hc.1 _ _,?_⟩⟩,ag⟩;obtain⟨g1,g2,r0,ju,g3⟩:=hw.gZ b cs t aZ oJ;have hlen:((l1.map (·.den ρ)).length)=c.N:=by simp[b7,j8]
       have az:((l1++l2).map (·.den ρ)).take c.N=l1.map (·.den ρ):=by rw[jE,<-hlen,List.take_left]
       have aI:((l1++l2).map (·.den ρ)).drop c.N=l2.map (·.den ρ):=by rw[jE,<-hlen,F3]
       have:=ij w (m b) hw.ext g1 (by rw[az,<-a3,<-et];rw[ju (by simpa using n6),hK]at g3;exact g3);rw[aI,cc,<-bg,<-b3,<-cy]at this;simp only[V.rel,W.den,A.den]at hx;rw[hx];exact this
 ·exact af.elim
theorem amu (k:dW) (lo hi:Int) (i N:Nat):cl (xx k lo hi i N)=true:=by cases N<;>rfl
noncomputable def lk.tree (P:b4) (gl:fP) (cal:gL) (li:dL->Nat->Option hN) (rounds d:Nat) (c:lk):T:=
 Mk P gl cal li rounds d c.f (c.bds.length) (.w (.one (.slc 0 c.off c.len c.cap))::(vo c.N c.args).map V.w) [(xx c.k c.lo c.hi 0 c.N,(c.ty,false))] λ_ v bt=>match bt with
  |(cs,t)::_=>cond (rl (xx c.k c.lo c.hi 0 c.N) cs&&aP c.ty t.1&& !t.2) (.leaf v) .stuck
  |[]=> .stuck
theorem lk.calls {wb:aG} {c:lk} {cal:gL} {li:dL->Nat->Option hN} {rounds d:Nat} {L:V->Env->Prop} (hm:P.follows .mixedOrders=true) (dy:∀r ex ro,iM S P gl ⟨wb,r,ex,ro,[]⟩ cal) (hg:gM gl ⟨wb,wb,λ_=>False,λ_=>False,[]⟩) {zs:List Int} (hz:ab c.bds zs)
 (aD:(c.tree P gl cal li rounds d).holds S L (λ_ _=>False) (bR (λ_=>0) 0 zs)) (w:aG) (g:Nat) (hw:wb.Extends w) (Zf:wb.heap.size<=g) (hcell:w.heap[g]?=some (.cells ((zs.take c.N).map (.int c.k)).toArray c.ty (0,0))):
 nJ P c.f (.slice (some ⟨g,c.off,none⟩) c.len c.cap::pB c.args (zs.drop c.N)).toArray w λe w'=>∃v ae m val,e= .returned val/\v.rel ae m val/\L v ae/\w.Extends w':=by
 have hat:=kf.bR (λ_=>0) 0 zs;have wV:=Bm hz;rw[H3]at wV;have cP:c.bds.length=c.N+(aY c.args).length:=by simp[lk.bds,H3]
 have h1:=acw (ρ:=bR (λ_=>0) 0 zs) (m:=λ_=>g) (N:=c.bds.length) (nb:=1) (k:=c.k) c.N 0 zs wV.1 hat (by omega);have h2:=TJ (ρ:=bR (λ_=>0) 0 zs) (m:=λ_=>g) (N:=c.bds.length) (nb:=1) (s:=c.N) c.args wV.2 (by have:=hat.drop c.N;simpa using this) (by omega);have mY:Mem ⟨wb,w,λi=>i=g,λ_=>False,[]⟩ (bR (λ_=>0) 0 zs) (λ_=>g) [(xx c.k c.lo c.hi 0 c.N,(c.ty,false))] w:=by
  refine⟨hw,rfl,rfl,rfl,bW _,λ_ _ _=>rfl,λi cs t h _=>?_,λi sh off code cap kind t h=>?_,λi j p q hi aM _=> .inl (by have h1:=(List.getElem?_eq_some_iff.1 hi).1;have h2:=(List.getElem?_eq_some_iff.1 aM).1;simp at h1 h2;omega)⟩
  rotate_left
  ·cases i with
   |zero=>
    simp only[xY,bj,eO]at h;have:=amu c.k c.lo c.hi 0 c.N;rw[h.1]at this;cases this
   |succ i=>simp at h
  cases i with
  |zero=>simp at h;obtain⟨rfl,rfl⟩:=h;exact⟨Zf,.inl rfl,[],λ_=>rfl,by rw[h1.2,hK];exact hcell⟩
  |succ i=>simp at h
 have rF:dj c.bds.length 1 (bR (λ_=>0) 0 zs) [(xx c.k c.lo c.hi 0 c.N,(c.ty,false))]:=λp hp=>by simp at hp;subst hp;exact h1.1
 have hrel:fQ (bR (λ_=>0) 0 zs) (λ_=>g) (V.w (.one (.slc 0 c.off c.len c.cap))::(vo c.N c.args).map V.w) (Pr (some ⟨g,c.off,none⟩) c.len c.cap::(vo c.N c.args).map (W.den (bR (λ_=>0) 0 zs) λ_=>g)):=⟨rfl,Wf _⟩;have lu:∀v∈(V.w (.one (.slc 0 c.off c.len c.cap))::(vo c.N c.args).map V.w),V.ok c.bds.length 1 (bR (λ_=>0) 0 zs) v:=λv hv=>by
  rcases List.mem_cons.1 hv with rfl|hv
  ·simp[V.ok,W.ok,A.ok]
  ·obtain⟨u,hu,rfl⟩:=List.mem_map.1 hv;exact h2.1 u hu
 have key:=(Xt rfl (L:=L) (li:=li) (rounds:=rounds) hm (dy w (λi=>i=g) (λ_=>False)) hg d c.f c.bds.length _ [(xx c.k c.lo c.hi 0 c.N,(c.ty,false))] _ (λ_ _=>False) _ (λ_=>g) w _ (λe w'=>∃v ae m val,e= .returned val/\V.rel ae m v val/\L v ae/\w.Extends w') rF mY lu hrel aD ?_).2
 ·rw[h2.2]at key;exact key
 ·intro n' v bt eV ae m' w' val cG cC dE gP gW ie pt
  match bt,pt,ie,cG with
  |[],pt,_,_=>exact pt.elim
  |(cs,t)::r,pt,ie,cG=>
   simp only at pt;cases hc:(rl (xx c.k c.lo c.hi 0 c.N) cs&&aP c.ty t.1&& !t.2)with
   |false=>simp[hc,T.holds]at pt
   |true=>
    simp only[hc,cond_true,T.holds]at pt;simp only[bx]at hc;have az:=Gx hc.1.1;have aI:t=(c.ty,false):=Prod.ext (b1 hc.1.2).symm (by simpa using hc.2);subst az;subst aI;refine⟨v,ae,m',val,rfl,gP,pt,?_⟩;have awk:m' 0=g:=cG.hm 0 (by simp);have tZ:∀i:Nat,i<w.heap.size->w'.heap[i]?=w.heap[i]?:=λi hi=>by
     by_cases JQ:i=g
     ·subst JQ;obtain⟨_,_,ij,awI,h3⟩:=ie.gZ 0 _ _ rfl (amu _ _ _ _ _);rw[awk,awI rfl,hK]at h3;rw[h3,hcell,<-h1.2,yG h1.1 cG.ha (λb hb=>cG.hm b (by simpa using hb))]
     ·exact ie.jU i hi JQ
    exact⟨ie.j7,ie.mw,ie.lH,ie.ib,λa ha=>by simp only[nK,tZ a.block ha],λa ha=>by simp only[D4,tZ a.block ha],tZ⟩
noncomputable def bo (Ty:List lk) (cons:List bJ) (Bx AU BO:dL):gL:=λf=>
 match Ty.filter (λc=>aP f c.f)with
 |[]=>Xs cons Bx AU BO f
 |l=>some λbl vs n k=>match l.find? (λc=>match vs with| .w (.one (.slc b off len cap))::_=>(match bl[b]? with|some (cs,t)=>aP off c.off&&aP len c.len&&aP cap c.cap&&aP t.1 c.ty&& !t.2&&aP cs.length c.N|none=>false)|_=>false)with
  |some c=>c.M bl vs n k
  |none=> .stuck
theorem eB {Ty:List lk} {cons:List bJ} {Bx AU BO:dL} (hm:IS P Bx) (ha:IL P AU) (hs:IV P BO) (ZJ:∀c∈Ty,c.bD P w0.b (S c.id)) (hc:∀c∈cons,c.AM P w0.b (S c.id)):iM S P gl w0 (bo Ty cons Bx AU BO):=by
 intro f g kL L n ρ m bl vs xs h1 h2 h3 h4;unfold bo at kL;split at kL
 ·exact ash (gl:=gl) hm ha hs hc f g kL L n ρ m bl vs xs h1 h2 h3 h4
 ·rename_i l hl;simp only[bj]at kL;subst kL;intro G k af;simp only at af;split at af
  ·rename_i c M8;have mY:=ID M8;have eS:=List.mem_filter.1 mY;have Hc:=b1 eS.2;subst Hc;exact lk.snd (ZJ c eS.1) (λ_ _ h=>h) L n ρ m bl vs xs h1 h3 h4 G k af
  ·exact af.elim
end
end Go.b9
namespace Go.b9
theorem afE {P:b4} {f:dL} {fn:Func} (hf:P.funcs[f]?=some fn) (Zy:(fn.name== "runtime.NumGoroutine")=false) (hb:fn.body.isNone=true) (hn:ad6 fn=none) (he:ad7 fn=some add64Entry):IL P f:=by
 intro x y c hx hy hc iw w;refine .inl ?_;rw[run_callFunc_extern hf Zy hb hn he,run_add64 x y c hx hy hc iw];rfl
def ans:Array aW->Sem aW:=λargs=>do
 let(x,y,b)<-aO5 "Sub64" args
 pure (aO6 ((x+aI6-y-b)% aI6) (if x<y+b then 1 else 0))
theorem aEC {P:b4} (x y b:Nat) (hb:b<=1) (w:aG):
 (ans #[.int .u64 x,.int .u64 y,.int .u64 b]).run P w=
   .ok (.tuple #[.int .u64 (((x+18446744073709551616-y-b)% 18446744073709551616:Nat):Int),.int .u64 ((if x<y+b then 1 else 0:Nat):Int)]) w:=by
 have:b=0∨b=1:=by omega
 rcases this with rfl|rfl<;>rfl
theorem ant {P:b4} {f:dL} {fn:Func} (hf:P.funcs[f]?=some fn) (Zy:(fn.name== "runtime.NumGoroutine")=false) (hb:fn.body.isNone=true) (hn:ad6 fn=none) (he:ad7 fn=some ans):IV P f:=by
 intro x y c hx th hy Z0 hc iw w;refine .inl ?_;obtain⟨X,rfl⟩:=oY hx;obtain⟨Y,rfl⟩:=oY hy;obtain⟨C,rfl⟩:=oY hc;rw[run_callFunc_extern hf Zy hb hn he,aEC X Y C (by omega)];have az:(((X+18446744073709551616-Y-C)% 18446744073709551616:Nat):Int)=((X:Int)-Y-C)% 18446744073709551616:=by omega
 have aI:(((if X<Y+C then 1 else 0:Nat)):Int)=-(((X:Int)-Y-C)/18446744073709551616):=by split<;>omega
 rw[az,aI];rfl
def EP (P:b4) (f:dL):Bool:=match P.funcs[f]? with
 |some fn=> !(fn.name== "runtime.NumGoroutine")&&fn.body.isSome
 |none=>false
theorem enters {P:b4} {f:dL} (h:EP P f=true) (args:Array aW) (w:aG):(callFunc f args).run P w= .ok (.enter f args) w:=by
 unfold EP at h;cases hf:P.funcs[f]? with
 |none=>simp[hf]at h
 |some fn=>
  simp only[hf,bx,cI]at h;have h1:fn.name≠ "runtime.NumGoroutine" :=by simpa using h.1
  obtain⟨c,hc⟩:=Option.isSome_iff_exists.1 h.2;simp[callFunc,hf,h1,hc,Sem.run]
section
variable {S:Nat->List Int->List Int->Prop} {P:b4} {gl:fP} {wb:aG}
theorem bJ.ps {c:bJ} {cal:gL} {li:dL->Nat->Option hN} {rounds d:Nat} {spec:List Int->List Int->Prop} (hm:P.follows .mixedOrders=true) (dy:∀r ex ro,iM S P gl ⟨wb,r,ex,ro,[]⟩ cal) (hg:gM gl ⟨wb,wb,λ_=>False,λ_=>False,[]⟩)
 (hf:∀args w,(callFunc c.f args).run P w= .ok (.enter c.f args) w) (hu:∀zs rs cX,ab (aY c.args) zs->ab (aY c.res) rs->ab (aY c.res) cX->spec zs rs->spec zs cX->rs=cX)
 (aD:kC (aY c.args) λzs=>(c.tree P gl cal li rounds d).holds S (ki c.res λrs=>ab (aY c.res) rs/\spec zs rs) (λ_ _=>False) (bR (λ_=>0) 0 zs)):c.bD P wb spec:=by
 refine⟨hf,λzs hz=>?_⟩;have h0:=bJ.calls hm dy hg hz (nj aD hz) wb (sW wb);obtain⟨e,w',v,ae,m,val,h1,h2,h3,h4⟩:=Calls.some h0;obtain⟨rs,⟨hb,hs⟩,hv⟩:=Ec h3 h2;refine⟨rs,hb,hs,λw hw=>?_⟩;refine(bJ.calls hm dy hg hz (nj aD hz) w hw).mono λe w' ⟨v,ae,m,val,h1,h2,h3,h4⟩=>?_;obtain⟨cX,⟨oy,NG⟩,Bj⟩:=Ec h3 h2;rw[hu zs cX rs hz oy hb NG hs]at Bj;exact⟨by rw[h1,Bj],h4⟩
theorem lk.ps {c:lk} {cal:gL} {li:dL->Nat->Option hN} {rounds d:Nat} {spec:List Int->List Int->Prop} (hm:P.follows .mixedOrders=true) (dy:∀r ex ro,iM S P gl ⟨wb,r,ex,ro,[]⟩ cal) (hg:gM gl ⟨wb,wb,λ_=>False,λ_=>False,[]⟩)
 (hf:∀args w,(callFunc c.f args).run P w= .ok (.enter c.f args) w) (hu:∀zs rs cX,ab c.bds zs->ab (aY c.res) rs->ab (aY c.res) cX->spec zs rs->spec zs cX->rs=cX) (hex:∀zs,ab c.bds zs->∃rs,ab (aY c.res) rs/\spec zs rs)
 (aD:kC c.bds λzs=>(c.tree P gl cal li rounds d).holds S (ki c.res λrs=>ab (aY c.res) rs/\spec zs rs) (λ_ _=>False) (bR (λ_=>0) 0 zs)):c.bD P wb spec:=by
 refine⟨hf,λzs hz=>?_⟩;obtain⟨rs,hb,hs⟩:=hex zs hz;refine⟨rs,hb,hs,λw g hw Zf hcell=>?_⟩;refine(lk.calls hm dy hg hz (nj aD hz) w g hw Zf hcell).mono λe w' ⟨v,ae,m,val,h1,h2,h3,h4⟩=>?_;obtain⟨cX,⟨oy,NG⟩,Bj⟩:=Ec h3 h2;rw[hu zs cX rs hz oy hb NG hs]at Bj;exact⟨by rw[h1,Bj],h4⟩
end
def num (b:Int):List Int->Int
 |[]=>0
 |x::r=>x+b*num b r
theorem num_nonneg {b lo hi:Int} (hb:0<b) (hl:0<=lo):∀{n:Nat} {l:List Int},ab (ai lo hi n) l->0<=num b l
 |0,[],_=>di _
 |_+1,x::r,h=>by
  have:=num_nonneg hb hl h.2.2;have h2:0<=b*num b r:=Int.mul_nonneg (sd hb) this;have:=h.1;simp only[num];omega
 |0,_::_,h=>h.elim
 |_+1,[],h=>h.elim
theorem SU {b:Int} (hb:0<b):∀{n:Nat} {l:List Int},ab (ai 0 (b-1) n) l->num b l<b^n
 |0,[],_=>by simp[num]
 |n+1,x::r,h=>by
  have:=SU hb h.2.2;have h2:b*(num b r+1)<=b*b^n:=Int.mul_le_mul_of_nonneg_left (by omega) (sd hb);have:=h.2.1;simp only[num];rw[Int.pow_succ,lB _ b];have:b*(num b r+1)=b*num b r+b:=by rw[LD,Int.mul_one]
  omega
 |0,_::_,h=>h.elim
 |_+1,[],h=>h.elim
theorem Og {b:Int} (hb:0<b):∀{n:Nat} {l l':List Int},ab (ai 0 (b-1) n) l->ab (ai 0 (b-1) n) l'->num b l=num b l'->l=l'
 |0,[],[],_,_,_=>rfl
 |n+1,x::r,hI::r',h,bm,he=>by
  simp only[num]at he;have az:(x+b*num b r)% b=(hI+b*num b r')% b:=by rw[he]
  rw[xW,xW,mD h.1 (by have:=h.2.1;omega),mD bm.1 (by have:=bm.2.1;omega)]at az;subst az;have aI:b*num b r=b*num b r':=by omega
  have cn:=Int.eq_of_mul_eq_mul_left (by omega) aI;rw[Og hb h.2.2 bm.2.2 cn]
 |0,_::_,_,h,_,_=>h.elim
 |_+1,[],_,h,_,_=>h.elim
 |0,[],_::_,_,bm,_=>bm.elim
 |_+1,_::_,[],_,bm,_=>bm.elim
def Jg (b:Int):Nat->Int->List Int
 |0,_=>[]
 |n+1,x=>x% b::Jg b n (x/b)
theorem ahA {b:Int} (hb:0<b):∀(n:Nat) (x:Int),ab (ai 0 (b-1) n) (Jg b n x)
 |0,_=>trivial
 |n+1,x=>⟨sV _ (by omega),by have:=wg x hb;omega,ahA hb n _⟩
theorem alT {b:Int} (hb:0<b):∀(n:Nat) (x:Int),0<=x->x<b^n->num b (Jg b n x)=x
 |0,x,h0,h=>by simp at h;simp[Jg,num];omega
 |n+1,x,h0,h=>by
  have h1:x/b<b^n:=Int.ediv_lt_of_lt_mul hb (by rw[Int.pow_succ]at h;exact h);have h2:0<=x/b:=Int.ediv_nonneg h0 (sd hb);simp only[Jg,num,alT hb n _ h2 h1];have:=ad0 x b;omega
def abx (K:List Int->List Int->Prop):Prop:=
 ∀z0:Int,0<=z0->z0<=18446744073709551615->
 ∀aF:Int,0<=aF->aF<=18446744073709551615->
 ∀z2:Int,0<=z2->z2<=4294967295->0<=((1*z0+0)+0)-4294967296*z2->((1*z0+0)+0)-4294967296*z2<4294967296->
 ∀z3:Int,0<=z3->z3<=4294967295->0<=((1*z0+0)+0)-4294967296*z3->((1*z0+0)+0)-4294967296*z3<4294967296->
 ∀z4:Int,0<=z4->z4<=4294967295->0<=((1*aF+0)+0)-4294967296*z4->((1*aF+0)+0)-4294967296*z4<4294967296->
 ∀z5:Int,0<=z5->z5<=4294967295->0<=((1*aF+0)+0)-4294967296*z5->((1*aF+0)+0)-4294967296*z5<4294967296->
 ∀bC:Int,0<=bC->bC<=18446744065119617025->bC=((1*z0+((-4294967296)*z2+0))+0)*((1*aF+((-4294967296)*z4+0))+0)->
 ∀aX:Int,0<=aX->aX<=18446744065119617025->aX=((1*z3+0)+0)*((1*aF+((-4294967296)*z4+0))+0)->
 ∀aK:Int,0<=aK->aK<=4294967294->0<=((1*bC+0)+0)-4294967296*aK->((1*bC+0)+0)-4294967296*aK<4294967296->
 ∀z9:Int,0<=z9->z9<=4294967294->0<=((1*aX+(1*aK+0))+0)-4294967296*z9->((1*aX+(1*aK+0))+0)-4294967296*z9<4294967296->
 ∀a8:Int,0<=a8->a8<=4294967294->0<=((1*aX+(1*aK+0))+0)-4294967296*a8->((1*aX+(1*aK+0))+0)-4294967296*a8<4294967296->
 ∀aL:Int,0<=aL->aL<=18446744065119617025->aL=((1*z0+((-4294967296)*z2+0))+0)*((1*z5+0)+0)->
 ∀z12:Int,0<=z12->z12<=18446744065119617025->z12=((1*z3+0)+0)*((1*z5+0)+0)->
 ∀aq:Int,0<=aq->aq<=4294967295->0<=((1*aX+(1*aK+((-4294967296)*z9+(1*aL+0))))+0)-4294967296*aq->((1*aX+(1*aK+((-4294967296)*z9+(1*aL+0))))+0)-4294967296*aq<4294967296->
 ∀ax:Int,0<=ax->ax<=340282366920938463426481119284349108225->ax=((1*z0+0)+0)*((1*aF+0)+0)->
 ∀aT:Int,0<=aT->aT<=18446744073709551614->0<=((1*ax+0)+0)-18446744073709551616*aT->((1*ax+0)+0)-18446744073709551616*aT<18446744073709551616->
 K [z0,aF] [((1*a8+(1*z12+(1*aq+0)))+0),((1*ax+((-18446744073709551616)*aT+0))+0)]
def wd:D:= .int .u64 0 18446744073709551615
def Qr (f:dL):bJ:=⟨f,0,[wd,wd],[wd,wd]⟩
theorem aze (x y a b:Int):x*y=(x+(-4294967296)*a)*(y+(-4294967296)*b)+4294967296*(a*(y+(-4294967296)*b)+(x+(-4294967296)*a)*b)+18446744073709551616*(a*b):=by
 grind
theorem mulVC_holds:abx λzs rs=>ab (aY [wd,wd]) rs/\rs=[zs.getD 0 0*zs.getD 1 0/18446744073709551616,zs.getD 0 0*zs.getD 1 0% 18446744073709551616]:=by
 unfold abx;intro x h1 h2 y h3 h4 a h5 h6 h7 fq dT ef mV qH jV b la lb aix qI b' Jz MR zE MS p aiy aiz Q2 q Yu Yv Q3 c Yw Yx Yy Q4 d Yz YA YB ET GF p3 YC YD YE r YF YG Q6 s GZ JA JB t JC wO MU MV m G0 aiB aiC u aMT aMU aMV aMW;have az:dT=a:=by omega
 have aI:b'=b:=by omega
 have cn:GF=d:=by omega
 subst az;subst aI;subst cn;simp only[Int.one_mul,Int.add_zero]at*;have:=aze x y dT b';rw[<-aiC,<-Q2,<-Q3,<-Q6,<-JB]at this;simp only[gD,hL,<-aiC,aY,wd,D.bds,jD,gq,ab,and_true,qn];omega
theorem alz {P:b4} {f:dL} (hm:P.follows .mixedOrders=true) (hf:∀args w,(callFunc f args).run P w= .ok (.enter f args) w)
 (h:∀K,(kC (aY (Qr f).args) λzs=>((Qr f).tree P [] (λ_=>none) (λ_ _=>none) 600 6).holds (λ_ _ _=>True) (ki (Qr f).res (K zs)) (λ_ _=>False) (bR (λ_=>0) 0 zs))=abx K):IS P f:=by
 intro x y hx th hy Z0 w;have hv:=mulVC_holds;rw[<-h]at hv;have eS:ab (aY (Qr f).args) [x,y]:=⟨hx,by omega,hy,by omega,trivial⟩;refine .inr ⟨hf _ _,?_⟩;have:=bJ.calls (wb:=w) hm (λr ex ro f g kL=>by cases kL) (λg cs hg=>by cases hg) eS (nj hv eS) w (sW w);refine this.mono λe w' ⟨v,ae,m,val,h1,h2,h3,h4⟩=>?_;obtain⟨rs,⟨_,hr⟩,hv⟩:=Ec h3 h2;rw[h1,hv,hr];exact⟨rfl,h4⟩
end Go.b9
namespace Go.b9
abbrev kh:=List (Nat×Nat)
abbrev kg:=List (List Int)
def yF:kh->kg->Nat->Int
 |(s,k)::st,l::ba,i=>cond (cO s i&&dX i (s+k)) (l.getD (i-s) 0) (yF st ba i)
 |_,_,_=>0
def abe:kh->kg->Prop
 |(_,k)::st,l::ba=>l.length=k/\abe st ba
 |[],[]=>True
 |_,_=>False
def sk (ρ:Env) (st:kh) (ba:kg):Prop:=abe st ba/\∀i,ρ i=yF st ba i
def Jf (st:kh) (ba:kg):List (Int×Nat)->Int
 |[]=>0
 |(k,i)::r=>match r with
  |[]=>cond (k==1) (yF st ba i) (k*yF st ba i)
  |_=>cond (k==1) (yF st ba i) (k*yF st ba i)+Jf st ba r
def I.hh (st:kh) (ba:kg) (l:I):Int:=
 match l.ts with
 |[]=>l.c
 |ts=>cond (l.c==0) (Jf st ba ts) (Jf st ba ts+l.c)
theorem ahs {ρ:Env} {st:kh} {ba:kg} (h:∀i,ρ i=yF st ba i):∀ts,Jf st ba ts=kk ρ ts
 |[]=>rfl
 |(k,i)::[]=>by
  simp only[Jf,kk,<-h i];cases af:(k==1)with
  |true=>have:k=1:=by simpa using af
         subst this;simp
  |false=>simp
 |(k,i)::t::r=>by
  have ih:=ahs h (t::r);rw[Jf,kk,ih,<-h i]
  ·cases af:(k==1)with
   |true=>have:k=1:=by simpa using af
          subst this;simp
   |false=>simp
  ·intro hc;cases hc
theorem I.lY {ρ:Env} {st:kh} {ba:kg} (h:∀i,ρ i=yF st ba i) (l:I):l.hh st ba=l.den ρ:=by
 unfold I.hh I.den;cases hl:l.ts with
 |nil=>simp[kk]
 |cons t r=>
  simp only[ahs h];cases hc:(l.c==0)with
  |true=>have:l.c=0:=by simpa using hc
         rw[this];simp
  |false=>simp
def GR:kh->kg->Nat->Nat->Option (List Int)
 |(s,k)::st,l::ba,i,len=>cond (aP s i&&aP k len) (some l) (cond (cO (i+len) s||cO (s+k) i) (GR st ba i len) none)
 |_,_,_,_=>none
theorem ahP:∀{st:kh} {ba:kg} {i len:Nat} {l:List Int},GR st ba i len=some l->abe st ba->l.length=len/\∀j,j<len->yF st ba (i+j)=l.getD j 0
 |[],_,_,_,_,h,_=>by simp[GR]at h
 |_::_,[],_,_,_,h,_=>by simp[GR]at h
 |(s,k)::st,l'::ba,i,len,l,h,hl=>by
  unfold GR at h;cases h1:(aP s i&&aP k len)with
  |true=>
   simp only[h1,cond_true,bj]at h;subst h;simp only[bx]at h1;have az:=b1 h1.1;have aI:=b1 h1.2;subst az;subst aI;refine⟨hl.1,λj aM=>?_⟩;unfold yF;have:(cO s (s+j)&&dX (s+j) (s+k))=true:=by simp[dX];omega
   rw[this,cond_true,Nat.add_sub_cancel_left]
  |false=>
   simp only[h1,cond_false]at h;cases h2:(cO (i+len) s||cO (s+k) i)with
   |false=>simp[h2]at h
   |true=>
    simp only[h2,cond_true]at h;obtain⟨g1,g2⟩:=ahP h hl.2;refine⟨g1,λj aM=>?_⟩;rw[<-g2 j aM]
    conv=>lhs;unfold yF
    have:(cO s (i+j)&&dX (i+j) (s+k))=false:=by
     simp only[D3,Nat.ble_eq]at h2;cases h3:(cO s (i+j)&&dX (i+j) (s+k))with
     |false=>rfl
     |true=>simp[dX]at h3;omega
    rw[this,cond_false]
def NW:Nat->List I->Bool
 |_,[]=>true
 |i,l::r=>(l.c==0&&(match l.ts with|[(k,j)]=>k==1&&aP i j|_=>false))&&NW (i+1) r
def firstVar:List I->Nat
 |[]=>0
 |l::_=>match l.ts with|[(_,j)]=>j|_=>0
theorem akg {ρ:Env}:∀{ls:List I} {i:Nat},NW i ls=true->∀j,j<ls.length->(ls.map (·.den ρ)).getD j 0=ρ (i+j)
 |[],_,_,j,aM=>by simp at aM
 |l::r,i,h,j,aM=>by
  simp only[NW,bx]at h;cases j with
  |zero=>
   obtain⟨⟨h1,h2⟩,_⟩:=h;have hc:l.c=0:=by simpa using h1
   cases hl:l.ts with
   |nil=>simp[hl]at h2
   |cons t s=>
    cases s with
    |cons t' H9=>simp[hl]at h2
    |nil=>
     obtain⟨k,q⟩:=t;simp only[hl,bx]at h2;have az:k=1:=by simpa using h2.1
     have aI:=b1 h2.2;subst az;subst aI;simp[I.den,hl,kk,hc]
  |succ j=>
   have:=akg (ρ:=ρ) h.2 j (by simpa using aM);simp only[du,hL];rw[this]
   congr 1;omega
def BM (st:kh) (ba:kg) (ls:List I):List Int:=
 cond (dX 1 ls.length&&NW (firstVar ls) ls) (match GR st ba (firstVar ls) ls.length with|some l=>l|none=>ls.map (I.hh st ba)) (ls.map (I.hh st ba))
theorem akZ {l l':List Int} (hl:l.length=l'.length) (h:∀j,j<l.length->l.getD j 0=l'.getD j 0):l=l':=by
 apply List.ext_getElem hl;intro j h1 h2;have:=h j h1;simpa [List.getD_eq_getElem?_getD,pF h1,pF h2]using this
theorem Tz {ρ:Env} {st:kh} {ba:kg} (h:sk ρ st ba) (ls:List I):BM st ba ls=ls.map (·.den ρ):=by
 have gE:ls.map (I.hh st ba)=ls.map (·.den ρ):=kU λl _=>I.lY h.2 l;unfold BM;cases h1:(dX 1 ls.length&&NW (firstVar ls) ls)with
 |false=>simpa using gE
 |true=>
  simp only[cond_true];simp only[bx]at h1;cases h2:GR st ba (firstVar ls) ls.length with
  |none=>exact gE
  |some l=>
   obtain⟨g1,g2⟩:=ahP h2 h.1;show l=_;refine akZ (by simp[g1]) λj aM=>?_;rw[akg h1.2 j (by omega),h.2,g2 j (by omega)]
def rC:bH->Option (List I×List I)
 | .eq a b=>some ([a],[b])
 | .and (.eq a b) r=>match rC r with|some (x,y)=>some (a::x,b::y)|none=>none
 |_=>none
def bH.hh (st:kh) (ba:kg):bH->Bool
 |lit b=>b
 |eq a b=>decide (a.hh st ba=b.hh st ba)
 |lt a b=>decide (a.hh st ba<b.hh st ba)
 |le a b=>decide (a.hh st ba<=b.hh st ba)
 |not a=> !a.hh st ba
 |and a b=>match rC (.and a b)with
  |some (x,y)=>decide (BM st ba x=BM st ba y)
  |none=>a.hh st ba&&b.hh st ba
 |iff a b=>a.hh st ba==b.hh st ba
theorem ahK {ρ:Env}:∀{b:bH} {x y:List I},rC b=some (x,y)->b.den ρ=decide (x.map (·.den ρ)=y.map (·.den ρ))
 | .eq a b,x,y,h=>by
  simp only[rC,bj,eO]at h;obtain⟨rfl,rfl⟩:=h;simp[bH.den]
 | .and (.eq a b) r,x,y,h=>by
  simp only[rC]at h;cases hr:rC r with
  |none=>simp[hr]at h
  |some p=>
   obtain⟨hI,nH⟩:=p;simp only[hr,bj,eO]at h;obtain⟨rfl,rfl⟩:=h;have ih:=ahK (ρ:=ρ) hr;simp only[bH.den,ih,du,qn];simp
 | .lit _,_,_,h=>by simp[rC]at h
 | .lt _ _,_,_,h=>by simp[rC]at h
 | .le _ _,_,_,h=>by simp[rC]at h
 | .not _,_,_,h=>by simp[rC]at h
 | .iff _ _,_,_,h=>by simp[rC]at h
 | .and (.lit _) _,_,_,h=>by simp[rC]at h
 | .and (.lt _ _) _,_,_,h=>by simp[rC]at h
 | .and (.le _ _) _,_,_,h=>by simp[rC]at h
 | .and (.not _) _,_,_,h=>by simp[rC]at h
 | .and (.and _ _) _,_,_,h=>by simp[rC]at h
 | .and (.iff _ _) _,_,_,h=>by simp[rC]at h
theorem bH.lY {ρ:Env} {st:kh} {ba:kg} (h:sk ρ st ba):∀b:bH,b.hh st ba=b.den ρ
 |lit _=>rfl
 |eq a b=>by simp only[hh,den,I.lY h.2]
 |lt a b=>by simp only[hh,den,I.lY h.2]
 |le a b=>by simp only[hh,den,I.lY h.2]
 |not a=>by simp only[hh,den,bH.lY h a]
 |and a b=>by
  have az:=bH.lY h a;have aI:=bH.lY h b;unfold hh;cases ak:rC (.and a b)with
  |none=>simp only[den,az,aI]
  |some p=>
   obtain⟨x,y⟩:=p;simp only[ahK (ρ:=ρ) ak,Tz h]
 |iff a b=>by simp only[hh,den,bH.lY h a,bH.lY h b]
def cD {α:Type}:List Nat->List α->List (List α)
 |[],[]=>[]
 |[],x::l=>[x::l]
 |k::nC,l=>l.take k::cD nC (l.drop k)
theorem TD {α β:Type} (f:α->β):∀(nC:List Nat) (l:List α),cD nC (l.map f)=(cD nC l).map (List.map f)
 |[],[]=>rfl
 |[],_::_=>rfl
 |k::nC,l=>by simp only[cD,du,<-LH,<-LI,TD f nC]
def Ej:List Nat->Nat->List (Int×Int)->(kh->kg->List (List Int)->Prop)->kh->kg->Prop
 |[],_,[],P,st,ba=>P st ba []
 |[],_,_::_,_,_,_=>False
 |k::nC,n,bds,P,st,ba=>cond (aP k 1)
  (match bds with
  |(lo,hi)::agH=>∀z:Int,lo<=z->z<=hi->Ej nC (n+1) agH (λtC s6 ls=>P tC s6 ([z]::ls)) ((n,1)::st) ([z]::ba)
  |[]=>False)
  (cond (cO k bds.length) (∀r:List Int,ab (bds.take k) r->Ej nC (n+k) (bds.drop k) (λtC s6 ls=>P tC s6 (r::ls)) ((n,k)::st) (r::ba)) False)
theorem anY:∀(a b:List Int) (n:Nat) (ρ:Env),bR ρ n (a++b)=bR (bR ρ n a) (n+a.length) b
 |[],b,n,ρ=>rfl
 |z::a,b,n,ρ=>by
  simp only[jD,bR,ke];rw[anY a b]
  congr 1;omega
theorem anZ:∀(l:List Int) (n:Nat) (ρ:Env) (i:Nat),bR ρ n l i=cond (cO n i&&dX i (n+l.length)) (l.getD (i-n) 0) (ρ i)
 |[],n,ρ,i=>by
  have:(cO n i&&dX i (n+0))=false:=by
   cases h:(cO n i&&dX i (n+0))with
   |false=>rfl
   |true=>simp[dX]at h;omega
  simp only[bR,qo,this,cond_false]
 |z::l,n,ρ,i=>by
  simp only[bR];rw[anZ l (n+1)];by_cases h1:i=n
  ·subst h1;have az:(cO (i+1) i&&dX i (i+1+l.length))=false:=by
    have:cO (i+1) i=false:=by
     cases h:cO (i+1) i with
     |false=>rfl
     |true=>exact absurd (gU h) (by omega)
    simp[this]
   have aI:(cO i i&&dX i (i+(z::l).length))=true:=by simp[dX]
   rw[az,aI];simp[dI]
  ·have hu:dI ρ n z i=ρ i:=adH ρ z h1;by_cases h2:n<=i/\i<n+1+l.length
   ·have az:(cO (n+1) i&&dX i (n+1+l.length))=true:=by simp[dX];omega
    have aI:(cO n i&&dX i (n+(z::l).length))=true:=by simp[dX];omega
    rw[az,aI];simp only[cond_true];rw[show i-n=(i-(n+1))+1 by omega,hL]
   ·have az:(cO (n+1) i&&dX i (n+1+l.length))=false:=by
     cases h:(cO (n+1) i&&dX i (n+1+l.length))with
     |false=>rfl
     |true=>simp[dX]at h;omega
    have aI:(cO n i&&dX i (n+(z::l).length))=false:=by
     cases h:(cO n i&&dX i (n+(z::l).length))with
     |false=>rfl
     |true=>simp[dX]at h;omega
    rw[az,aI];simp[hu]
theorem sk.push {ρ:Env} {st:kh} {ba:kg} (h:sk ρ st ba) (n:Nat) (l:List Int):sk (bR ρ n l) ((n,l.length)::st) (l::ba):=
 ⟨⟨rfl,h.1⟩,λi=>by rw[anZ,yF,<-h.2 i]⟩
theorem akb:∀{bds:List (Int×Int)} {zs:List Int} (k:Nat),ab bds zs->ab (bds.take k) (zs.take k)/\ab (bds.drop k) (zs.drop k)
 |[],[],k,_=>by simp[ab]
 |[],_::_,_,h=>h.elim
 |(_,_)::_,[],_,h=>h.elim
 |(l,u)::b,z::zs,0,h=>by simpa [ab]using h
 |(l,u)::b,z::zs,k+1,h=>by
  obtain⟨h1,h2,h3⟩:=h;obtain⟨g1,g2⟩:=akb (bds:=b) (zs:=zs) k h3;exact⟨⟨h1,h2,g1⟩,g2⟩
theorem IZ:∀{nC:List Nat} {n:Nat} {bds:List (Int×Int)} {P:kh->kg->List (List Int)->Prop} {st:kh} {ba:kg} {ρ:Env} {zs:List Int},Ej nC n bds P st ba->sk ρ st ba->ab bds zs->∃tC s6,sk (bR ρ n zs) tC s6/\P tC s6 (cD nC zs)
 |[],n,[],P,st,ba,ρ,[],h,aD,_=>⟨st,ba,aD,h⟩
 |[],_,[],_,_,_,_,_::_,_,_,hi=>hi.elim
 |[],_,_::_,_,_,_,_,_,h,_,_=>h.elim
 |k::nC,n,bds,P,st,ba,ρ,zs,h,aD,hi=>by
  unfold Ej at h;cases af:aP k 1 with
  |true=>
   have e:=b1 af;subst e;simp only[af,cond_true]at h;cases bds with
   |nil=>exact h.elim
   |cons b agH=>
    obtain⟨lo,qL⟩:=b;cases zs with
    |nil=>exact hi.elim
    |cons z zs=>
     obtain⟨h1,h2,h3⟩:=hi;have:=IZ (h z h1 h2) (aD.push n [z]) h3;obtain⟨tC,s6,g1,g2⟩:=this;refine⟨tC,s6,g1,?_⟩;simpa [cD]using g2
  |false=>
   simp only[af,cond_false]at h;cases hb:cO k bds.length with
   |false=>simp only[hb,cond_false]at h
   |true=>
    simp only[hb,cond_true]at h;have oy:k<=bds.length:=by simpa using hb
    have hlen:=dR hi;obtain⟨i1,i2⟩:=akb k hi;have e:(zs.take k).length=k:=by simp;omega
    have ui:=aD.push n (zs.take k);rw[e]at ui;obtain⟨tC,s6,g1,g2⟩:=IZ (h _ i1) ui i2;refine⟨tC,s6,?_,g2⟩;have aI:=anY (zs.take k) (zs.drop k) n ρ;rw[oi,e]at aI;rw[aI];exact g1
abbrev IM:=Nat->List (List Int)->Prop
def IM.set (A:IM) (lM:Nat) (p:List (List Int)->Prop):IM:=λi=>cond (aP i lM) p (A i)
def T.p8 (sh:Nat->List Nat×List Nat) (lsh:Nat->List Nat) (S:Nat->List (List Int)->List (List Int)->Prop) (L:V->kh->kg->Prop):T->IM->kh->kg->Prop
 |stuck,_,_,_=>False
 |leaf v,_,st,ba=>L v st ba
 |div n x d lo hi r,A,st,ba=>∀q:Int,lo<=q->q<=hi->0<=x.hh st ba-d*q->x.hh st ba-d*q<d->r.p8 sh lsh S L A ((n,1)::st) ([q]::ba)
 |mul n x y lo hi r,A,st,ba=>∀p:Int,lo<=p->p<=hi->p=x.hh st ba*y.hh st ba->r.p8 sh lsh S L A ((n,1)::st) ([p]::ba)
 |bit n op k x y r,A,st,ba=>∀z:Int,0<=z->z<=k.max->z=eR op k (x.hh st ba) (y.hh st ba)->r.p8 sh lsh S L A ((n,1)::st) ([z]::ba)
 |shr n x y lo hi r,A,st,ba=>∀z:Int,lo<=z->z<=hi->z=x.hh st ba/2^(y.hh st ba).toNat->r.p8 sh lsh S L A ((n,1)::st) ([z]::ba)
 |BN n cs bp lo hi r,A,st,ba=>∀z:Int,lo<=z->z<=hi->z=(BM st ba cs).getD (bp.hh st ba).toNat 0->r.p8 sh lsh S L A ((n,1)::st) ([z]::ba)
 |uU b t e,A,st,ba=>(b.hh st ba=true->t.p8 sh lsh S L A st ba)/\(b.hh st ba=false->e.p8 sh lsh S L A st ba)
 |call id args n bds r,A,st,ba=>Ej (sh id).2 n bds (λtC s6 rs=>S id ((cD (sh id).1 args).map (BM st ba)) rs->r.p8 sh lsh S L A tC s6) st ba
 |loop lM init n bds r,A,st,ba=>∃(mi:List (List Int)->Prop) (o5:List (List Int)->Nat),mi ((cD (lsh lM) init).map (BM st ba))/\
  Ej (lsh lM) n bds (λtC s6 zs=>mi zs->r.p8 sh lsh S L (A.set lM λvs=>mi vs/\o5 vs<o5 zs) tC s6) st ba
 |again lM vals,A,st,ba=>A lM ((cD (lsh lM) vals).map (BM st ba))
 |both a b,A,st,ba=>a.p8 sh lsh S L A st ba/\b.p8 sh lsh S L A st ba
 |fn n op args lo hi r,A,st,ba=>∀z:Int,lo<=z->z<=hi->z=bM op (args.map (I.hh st ba))->r.p8 sh lsh S L A ((n,1)::st) ([z]::ba)
 |ind n b r,A,st,ba=>∀z:Int,0<=z->z<=1->b.hh st ba=decide (z=1)->r.p8 sh lsh S L A ((n,1)::st) ([z]::ba)
 |vt n lo hi r,A,st,ba=>∀z:Int,lo<=z->z<=hi->r.p8 sh lsh S L A ((n,1)::st) ([z]::ba)
 |nat n r,A,st,ba=>∀z:Int,0<=z->r.p8 sh lsh S L A ((n,1)::st) ([z]::ba)
 |x9 op args r,A,st,ba=>ay op (args.map (I.hh st ba))->r.p8 sh lsh S L A st ba
 |s4 op args r,A,st,ba=>ay op (args.map (I.hh st ba))/\r.p8 sh lsh S L A st ba
theorem acV {ρ:Env} {st:kh} {ba:kg} (h:sk ρ st ba) (nC:List Nat) (l:List I):(cD nC l).map (BM st ba)=cD nC (l.map (·.den ρ)):=by
 rw[TD];exact kU λx _=>Tz h x
def jK (sh:Nat->List Nat×List Nat) (S:Nat->List (List Int)->List (List Int)->Prop):Nat->List Int->List Int->Prop:=λid zs rs=>S id (cD (sh id).1 zs) (cD (sh id).2 rs)
theorem abn {ρ:Env} {st:kh} {ba:kg} (h:sk ρ st ba) (l:List I):l.map (I.hh st ba)=l.map (·.den ρ):=kU λx _=>I.lY h.2 x
theorem qO {sh:Nat->List Nat×List Nat} {lsh:Nat->List Nat} {S:Nat->List (List Int)->List (List Int)->Prop} {ae0:V->kh->kg->Prop} {L:V->Env->Prop} (dM:∀v ρ st ba,sk ρ st ba->ae0 v st ba->L v ρ):
 ∀(t:T) (jP:IM) (A:fe) (ρ:Env) (st:kh) (ba:kg),(∀lM vs,jP lM (cD (lsh lM) vs)->A lM vs)->sk ρ st ba->t.p8 sh lsh S ae0 jP st ba->t.holds (jK sh S) L A ρ
 | .stuck,_,_,_,_,_,_,_,h=>h
 | .leaf v,_,_,ρ,st,ba,_,aD,h=>dM v ρ st ba aD h
 | .div n x d lo hi r,jP,A,ρ,st,ba,aO,aD,h=>λq h1 h2 h3 h4=>qO dM r jP A _ _ _ aO (aD.push n [q]) (h q h1 h2 (by rw[I.lY aD.2];exact h3) (by rw[I.lY aD.2];exact h4))
 | .mul n x y lo hi r,jP,A,ρ,st,ba,aO,aD,h=>λq h1 h2 h3=>qO dM r jP A _ _ _ aO (aD.push n [q]) (h q h1 h2 (by rw[I.lY aD.2,I.lY aD.2];exact h3))
 | .bit n op k x y r,jP,A,ρ,st,ba,aO,aD,h=>λq h1 h2 h3=>qO dM r jP A _ _ _ aO (aD.push n [q]) (h q h1 h2 (by rw[I.lY aD.2,I.lY aD.2];exact h3))
 | .shr n x y lo hi r,jP,A,ρ,st,ba,aO,aD,h=>λq h1 h2 h3=>qO dM r jP A _ _ _ aO (aD.push n [q]) (h q h1 h2 (by rw[I.lY aD.2,I.lY aD.2];exact h3))
 | .BN n cs bp lo hi r,jP,A,ρ,st,ba,aO,aD,h=>λq h1 h2 h3=>qO dM r jP A _ _ _ aO (aD.push n [q]) (h q h1 h2 (by rw[Tz aD,I.lY aD.2];exact h3))
 | .uU b t e,jP,A,ρ,st,ba,aO,aD,h=>⟨λhb=>qO dM t jP A _ _ _ aO aD (h.1 (by rw[bH.lY aD];exact hb)),λhb=>qO dM e jP A _ _ _ aO aD (h.2 (by rw[bH.lY aD];exact hb))⟩
 | .call id args n bds r,jP,A,ρ,st,ba,aO,aD,h=>by
  refine tM λrs hi hs=>?_;obtain⟨tC,s6,h1,h2⟩:=IZ h aD hi;exact qO dM r jP A _ _ _ aO h1 (h2 (by rw[acV aD];exact hs))
 | .loop lM init n bds r,jP,A,ρ,st,ba,aO,aD,h=>by
  obtain⟨mi,o5,h1,h2⟩:=h;refine⟨λzs=>mi (cD (lsh lM) zs),λzs=>o5 (cD (lsh lM) zs),?_,?_⟩
  ·rw[acV aD]at h1;exact h1
  ·refine tM λzs hi eg=>?_;obtain⟨tC,s6,g1,g2⟩:=IZ h2 aD hi;refine qO dM r _ _ _ _ _ (λayM vs hv=>?_) g1 (g2 eg);unfold IM.set at hv;unfold fe.set;cases ak:aP ayM lM with
   |true=>
    rw[ak]at hv;have e:=b1 ak;subst e;exact hv
   |false=>rw[ak]at hv;exact aO _ _ hv
 | .again lM vals,jP,A,ρ,st,ba,aO,aD,h=>aO lM _ (by rw[<-acV aD];exact h)
 | .both x y,jP,A,ρ,st,ba,aO,aD,h=>⟨qO dM x jP A ρ st ba aO aD h.1,qO dM y jP A ρ st ba aO aD h.2⟩
 | .fn n op args lo hi r,jP,A,ρ,st,ba,aO,aD,h=>λq h1 h2 h3=>qO dM r jP A _ _ _ aO (aD.push n [q]) (h q h1 h2 (by rw[abn aD];exact h3))
 | .ind n b r,jP,A,ρ,st,ba,aO,aD,h=>λq h1 h2 h3=>qO dM r jP A _ _ _ aO (aD.push n [q]) (h q h1 h2 (by rw[bH.lY aD];exact h3))
 | .vt n lo hi r,jP,A,ρ,st,ba,aO,aD,h=>λq h1 h2=>qO dM r jP A _ _ _ aO (aD.push n [q]) (h q h1 h2)
 | .nat n r,jP,A,ρ,st,ba,aO,aD,h=>λq h1=>qO dM r jP A _ _ _ aO (aD.push n [q]) (h q h1)
 | .x9 op args r,jP,A,ρ,st,ba,aO,aD,h=>λh1=>qO dM r jP A ρ st ba aO aD (h (by rw[abn aD];exact h1))
 | .s4 op args r,jP,A,ρ,st,ba,aO,aD,h=>⟨by rw[<-abn aD];exact h.1,qO dM r jP A _ _ _ aO aD h.2⟩
def Fg:List O->Option (List I)
 |[]=>some []
 | .l x::r=>match Fg r with|some l=>some (x::l)|none=>none
 | .b _::_=>none
def O.hh (st:kh) (ba:kg):O->Int
 |l x=>x.hh st ba
 |b x=>cond (x.hh st ba) 1 0
def K0 (st:kh) (ba:kg) (os:List O):List Int:=
 match Fg os with
 |some ls=>BM st ba ls
 |none=>os.map (O.hh st ba)
theorem akY {ρ:Env}:∀{os:List O} {ls:List I},Fg os=some ls->ls.map (·.den ρ)=os.map (O.den ρ)
 |[],ls,h=>by simp[Fg]at h;subst h;rfl
 | .l x::r,ls,h=>by
  simp only[Fg]at h;cases hr:Fg r with
  |none=>simp[hr]at h
  |some l=>
   simp only[hr,bj]at h;subst h;simp only[du,akY hr,O.den]
 | .b _::_,_,h=>by simp[Fg]at h
theorem O.lY {ρ:Env} {st:kh} {ba:kg} (h:sk ρ st ba):∀o:O,o.hh st ba=o.den ρ
 | .l x=>I.lY h.2 x
 | .b x=>by simp only[hh,den,bH.lY h]
theorem anb {ρ:Env} {st:kh} {ba:kg} (h:sk ρ st ba) (os:List O):K0 st ba os=os.map (O.den ρ):=by
 unfold K0;cases hl:Fg os with
 |some ls=>exact(Tz h ls).trans (akY hl)
 |none=>exact kU λo _=>O.lY h o
def aza (k:Nat):List Nat:=match k with
 |12=>[4,4,4]
 |15=>[5,5,5]
 |20=>[5,5,5,5]
 |k=>[k]
def D.nums:D->List Nat
 | .mix l=>aza l.length
 | .Ai _=>[]
 | .gn .. =>[]
 |d=>[d.num]
def vh (ds:List D):List Nat:=ds.flatMap D.nums
def Wg (ds:List D) (K:List (List Int)->Prop) (v:V) (st:kh) (ba:kg):Prop:=
 match outs ds v with
 |some os=>K ((cD (vh ds) os).map (K0 st ba))
 |none=>False
theorem aqL {ds:List D} {K:List (List Int)->Prop} (v:V) (ρ:Env) (st:kh) (ba:kg) (aD:sk ρ st ba) (h:Wg ds K v st ba):ki ds (λrs=>K (cD (vh ds) rs)) v ρ:=by
 unfold Wg at h;unfold ki;cases aA:outs ds v with
 |none=>simp[aA]at h
 |some os=>
  simp only[aA]at h⊢;rw[TD]
  rwa [show(cD (vh ds) os).map (K0 st ba)=(cD (vh ds) os).map (List.map (O.den ρ)) from kU λo _=>anb aD o]at h
def fg (sh:Nat->List Nat×List Nat) (lsh:Nat->List Nat) (S:Nat->List (List Int)->List (List Int)->Prop) (K:List (List Int)->List (List Int)->Prop) (lens:List Nat) (bds:List (Int×Int)) (ds:List D) (t:T):Prop:=
 Ej lens 0 bds (λst ba zs=>t.p8 sh lsh S (Wg ds (K zs)) (λ_ _=>False) st ba) [] []
theorem L4 {sh:Nat->List Nat×List Nat} {lsh:Nat->List Nat} {S:Nat->List (List Int)->List (List Int)->Prop} {K:List (List Int)->List (List Int)->Prop} {lens:List Nat} {bds:List (Int×Int)} {ds:List D} {t:T}
 (h:fg sh lsh S K lens bds ds t):kC bds λzs=>t.holds (jK sh S) (ki ds λrs=>K (cD lens zs) (cD (vh ds) rs)) (λ_ _=>False) (bR (λ_=>0) 0 zs):=by
 refine tM λzs hi=>?_;obtain⟨st,ba,h1,h2⟩:=IZ h (show sk (λ_=>0) [] [] from⟨trivial,λ_=>rfl⟩) hi;exact qO (λv ρ st ba aD hl=>aqL v ρ st ba aD hl) t _ _ _ st ba (λ_ _ hf=>hf.elim) h1 h2
end Go.b9
namespace Go.b9
open Go.ChangeShapes Go.WideShapes Go.RowKit
variable {H:Type} {enc:br×aW->H} {P:b4}
theorem an2 {k:dW} {z:Int}:(Lit.int k z).wf=true↔k.min<=z/\z<=k.max:=by simp[Lit.wf]
theorem ahi {k:dW}:∀(cs:List aW) (xs:List (rb H×List AB)),cs.length=xs.length->
 (∀i,i<xs.length->∃z,(cs.drop i).take 1=[.int k z]/\xs[i]?=some (.lit (.int k z),[])/\(Lit.int k z).wf=true)->
 ∃zs:List Int,cs=zs.map (.int k)/\xs=zs.map (λz=>(.lit (.int k z),[]))/\∀z∈zs,(Lit.int k z).wf=true
 |[],[],_,_=>⟨[],rfl,rfl,λ_ h=>by cases h⟩
 |[],_::_,h,_=>by simp at h
 |_::_,[],h,_=>by simp at h
 |c::cs,x::xs,hl,h=>by
  obtain⟨z,h1,h2,h3⟩:=h 0 (by simp);simp at h1 h2;obtain⟨zs,az,aI,cn⟩:=ahi cs xs (by simpa using hl) λi hi=>by
   obtain⟨y,g1,g2,g3⟩:=h (i+1) (by simpa using hi);exact⟨y,by simpa using g1,by simpa using g2,g3⟩
  refine⟨z::zs,by rw[h1,az];rfl,by rw[h2,aI];rfl,λy hy=>?_⟩;rcases List.mem_cons.1 hy with rfl|hy
  ·exact h3
  ·exact cn y hy
theorem Bl:∀{b b':List (Int×Int)} {l l':List Int},ab b l->ab b' l'->ab (b++b') (l++l')
 |[],_,[],_,_,h=>h
 |_::_,_,_::_,_,h,bm=>⟨h.1,h.2.1,Bl h.2.2 bm⟩
 |[],_,_::_,_,h,_=>h.elim
 |_::_,_,[],_,h,_=>h.elim
theorem D.an0 (d:D) {zs l:List Int} (h:zs.length=d.num):d.val (zs++l)=d.val zs:=by
 cases d with
 |str=>match zs,h with|[z],_=>rfl
 |int k lo hi=>match zs,h with|[z],_=>rfl
 |bool=>match zs,h with|[z],_=>rfl
 |agg k n lo hi=>simp only[D.num]at h;simp only[D.val,<-h];simp
 |Ai p=>rfl
 |gn k c=>rfl
 |mix p=>
  simp only[D.num]at h;simp only[D.val]
  congr 2
  revert zs;induction p with
  |nil=>intro zs h;simp
  |cons a p ih=>
   intro zs h
   match zs,h with
   |z::zs,h=>simp only[jD,Ux,ih (zs:=zs) (by simpa using h)]
theorem ayp {w w':aG} (h:w.Extends w') (may:AB->Prop):w.keptBut w' may:=
 Below.frame (W:=w) ⟨h.os,h.tape,h.output,h.size,λi hi=>h.block i hi⟩ may
theorem Jv {w:aG} {name:String} {g:Nat} {t e:br} {k:dW} {n:Nat} {cs:Array aW} {fuel:Nat} {p:List AB} {zs:List Int} {spare:Nat->Bool} {held:Bool} {base:Nat} {enc:br×aW->Unit}
 (hg:P.globalNamed name=some g) (aD:P.underlying t=some (.array n e)) (he:P.underlying e=some (.int k)) (Rc:P.cellsOf e=1) (avH:P.cellsOf t=n)
 (hv:w.var? P name=some cs) (hd:ad9 enc P w base spare held fuel t cs.toList=some (.agg (zs.map λz=> .lit (.int k z)),p)):
 g<w.heap.size/\∃t' EM,w.heap[g]?=some (Obj.cells (zs.map (AD k)).toArray t' EM):=by
 obtain⟨xs,m,rfl,hx,hlen,hn,JL⟩:=aI8 aD hd;obtain⟨ix,az,aI,cn⟩:=ahi (k:=k) cs.toList xs (by rw[hlen,avH,hn]) λi hi=>by
  have:=JL i (by omega);rw[Rc,Ch]at this;cases ajS:xs[i]? with
  |none=>simp at ajS;omega
  |some y=>
   rw[ajS]at this;obtain⟨z,g1,g2,g3⟩:=apj he this;exact⟨z,g1,by rw[g2],g3⟩
 simp only[eO,aO9]at hx;have hy:ix=zs:=by
  have h1:=hx.1;rw[aI,pD]at h1;have Bi:∀a b:Int,(aI9 (.int k a):rb Unit)= .lit (.int k b)->a=b:=λa b h=>by cases h;rfl
  exact((List.map_inj_right (f:=λz:Int=>(aI9 (.int k z):rb Unit)) Bi).1 h1).symm
 subst hy;simp only[World.var?,hg,Option.bind_some]at hv;split at hv
 ·rename_i lq t' EM hb;simp only[bj]at hv;subst hv;refine⟨?_,t',EM,?_⟩
  ·exact(Array.getElem?_eq_some_iff.1 hb).1
  ·rw[hb,<-az]
 ·cases hv
end Go.b9
namespace Go.b9
open M
inductive cV where
 |d (x:D)
 |rd (sh:List aQ)
 |sM (sh:List aQ) (e:br)
def cV.num:cV->Nat
 |d x=>x.num
 |_=>1
noncomputable def cV.bds:cV->List (Int×Int)
 |d x=>x.bds
 |_=>[(0,b6)]
noncomputable def dU:List cV->List (Int×Int)
 |[]=>[]
 |x::r=>x.bds++dU r
def cV.Hy:cV->Bool
 |d _=>true
 |_=>false
def cV.tj:cV->Bool
 |sM _ _=>true
 |_=>false
def cV.rL:cV->Bool
 |rd _=>true
 |_=>false
def sY:List cV->Bool
 |[]=>true
 | .d _::r=>sY r
 | .rd _::r=>r.all (λb=> !b.tj)&&sY r
 | .sM _ _::r=>r.all cV.Hy&&sY r
def Cs (F:Nat->Prop) (w:aG) (sh:List aQ) (rows:List (List Int)) (v:aW):Prop:=
 (v= .slice none 0 0/\rows=[])∨∃(g o cap:Nat) (cells:Array aW) (t:br) (fz:Nat×Nat),v= .slice (some ⟨g,o,none⟩) rows.length cap/\(rows.length<=cap/\(cap:Int)<=9223372036854775807)/\F g/\w.heap[g]?=some (.cells cells t fz)/\o8 cells o sh rows
def Gg (N:Nat->Prop) (w:aG) (sh:List aQ) (e:br) (rows:List (List Int)) (v:aW):Prop:=
 (v= .slice none 0 0/\rows=[])∨∃(g cap:Nat) (cells:Array aW),v= .slice (some ⟨g,0,none⟩) rows.length cap/\(rows.length<=cap/\(cap:Int)<=9223372036854775807)/\N g/\w.heap[g]?=some (.cells cells e (0,0))/\o8 cells 0 sh rows/\cells.size=cap*sh.length
def cV.at (F N:Nat->Prop) (w:aG):cV->List Int->aW->Prop
 |d x,zs,v=>v=x.val zs
 |rd sh,zs,v=>Cs F w sh (ao (zs.getD 0 0)) v
 |sM sh e,zs,v=>Gg N w sh e (ao (zs.getD 0 0)) v
def mM (F N:Nat->Prop) (w:aG):List cV->List Int->List aW->Prop
 |[],_,[]=>True
 |b::r,zs,v::vs=>b.at F N w zs v/\mM F N w r (zs.drop b.num) vs
 |_,_,_=>False
def xK (us:List aW):aW:=match us with|[x]=>x|l=> .tuple l.toArray
structure gK where
 f:dL
 id:Nat
 args:List cV
 res:List cV
 pre:Nat:=0
def KC:Nat->List Int->Prop
 |0,_=>True
 |p+1,l=>ay (p+1) l
def ab6:Nat->List I->T->T
 |0,_,r=>r
 |p+1,ls,r=> .s4 (p+1) ls r
def Tc:Nat->List I->T->T
 |0,_,r=>r
 |p+1,ls,r=> .x9 (p+1) ls r
theorem preM_holds {S:Nat->List Int->List Int->Prop} {L:V->Env->Prop} {A:fe} {ρ:Env} {p:Nat} {ls:List I} {r:T} (h:(ab6 p ls r).holds S L A ρ):KC p (ls.map (·.den ρ))/\r.holds S L A ρ:=by
 cases p with
 |zero=>exact⟨trivial,h⟩
 |succ p=>exact h
theorem preA_holds {S:Nat->List Int->List Int->Prop} {L:V->Env->Prop} {A:fe} {ρ:Env} {p:Nat} {ls:List I} {r:T} (h:(Tc p ls r).holds S L A ρ) (hp:KC p (ls.map (·.den ρ))):r.holds S L A ρ:=by
 cases p with
 |zero=>exact h
 |succ p=>exact h hp
def gK.bD (P:b4) (wb:aG) (c:gK) (spec:List Int->List Int->Prop):Prop:=
 (∀args w,(callFunc c.f args).run P w= .ok (.enter c.f args) w)/\
 ∀(F:Nat->Prop) (w:aG) (vs:List aW) (zs:List Int),wb.Extends w->ab (dU c.args) zs->KC c.pre zs->mM F (λ_=>False) w c.args zs vs->
  nJ P c.f vs.toArray w λe w'=>w.Extends w'/\∃rs us,ab (dU c.res) rs/\spec zs rs/\mM (λg=>F g∨w.heap.size<=g) (λg=>w.heap.size<=g) w' c.res rs us/\e= .returned (xK us)
noncomputable def zm:List cV->Nat->Nat->List W->List aJ->(Nat->List W->List aJ->T)->T
 |[],_,n,us,bl,k=>k n us bl
 | .d x::r,s,n,us,bl,k=>zm r (s+x.num) n (us++[x.sym s]) bl k
 | .rd sh::r,s,n,us,bl,k=> .nat n (.vt (n+1) (-1) 9223372036854775807 (.fn (n+2) 20 [.var s] 0 9223372036854775807
  (zm r (s+1) (n+3) (us++[.one (.sl bl.length sh.length (.var n) (.const 0) (.var (n+2)) (.var (n+1)))]) (bl++[([.rows sh (.var n) (.var s) (.var (n+1)) 1],(0,false))]) k)))
 | .sM sh e::r,s,n,us,bl,k=> .vt n (-1) 9223372036854775807 (.fn (n+1) 20 [.var s] 0 9223372036854775807
  (zm r (s+1) (n+2) (us++[.one (.sl bl.length sh.length (.const 0) (.const 0) (.var (n+1)) (.var n))]) (bl++[([.rows sh (.const 0) (.var s) (.var n) 2],(e,false))]) k))
section
variable {S:Nat->List Int->List Int->Prop} {L:V->Env->Prop} {w0:eL} {P:b4} {gl:fP} {cal:gL}
theorem kf.agree {ρ ae:Env} {s n:Nat} {zs:List Int} (h:kf ρ s zs) (ha:agree n ρ ae) (hn:s+zs.length<=n):kf ae s zs:=λj aM=>by rw[ha (s+j) (by omega)];exact h j aM
theorem y0 {ρ:Env} {n i:Nat} {z:Int} (h:i<n):dI ρ n z i=ρ i:=adH ρ z (by omega)
theorem Gq {F N:Nat->Prop} (hF:∀g,F g->w0.ex g∨w0.ro g∨w0.r.heap.size<=g) (cP:∀g,N g->w0.b.heap.size<=g/\w0.r.heap.size<=g):∀{l:List cV} {s n:Nat} {us:List W} {bl:List aJ} {k:Nat->List W->List aJ->T} {G:fe} {ρ:Env} {m:Nat->Nat} {w:aG} {zs:List Int} {vals:List aW},
 sY l=true->dj n bl.length ρ bl->Mem w0 ρ m bl w->kf ρ s zs->ab (dU l) zs->s+(dU l).length<=n->mM F N w l zs vals->
 ((l.all λb=> !b.rL)=true∨∀(i:Nat) (p:aJ),bl[i]?=some p->F (m i)->bU ρ p.1<=1)->((l.all λb=> !b.tj)=true∨∀(i:Nat) (p:aJ),bl[i]?=some p->N (m i)->bU ρ p.1=0)->
 (∀u∈us,W.ok n bl.length ρ u)->
 (zm l s n us bl k).holds S L G ρ->∃n' ae m' pA bt,e6 n bl.length ρ m n' (pE bt) ae m'/\dj n' bt.length ae bt/\Mem w0 ae m' bt w/\pA.map (W.den ae m')=us.map (W.den ρ m)++vals/\(∀u∈pA,W.ok n' bt.length ae u)/\(k n' pA bt).holds S L G ae
 |[],s,n,us,bl,k,G,ρ,m,w,zs,vals,_,hb,hm,_,_,_,hat,_,_,wX,ag=>by
  match vals,hat with
  |[],_=>exact⟨n,ρ,m,us,bl,e6.refl _ _ _ _,hb,hm,by simp,wX,ag⟩
 | .d x::r,s,n,us,bl,k,G,ρ,m,w,zs,vals,cb,hb,hm,aO,hz,hn,hat,h1,h2,wX,ag=>by
  match vals,hat with
  |v::vs,hat=>
   obtain⟨hv,hat⟩:=hat;have hv:v=x.val zs:=hv;simp only[dU,cV.bds]at hz hn;simp only[gY]at hn;obtain⟨i1,i2⟩:=Bm hz;rw[D.Mb]at i1 i2 hn;have hs:=D.O6 (ρ:=ρ) (m:=m) (N:=n) (nb:=bl.length) x i1 aO (by omega);obtain⟨n',ae,m',pA,bt,g1,g2,g3,g4,g5,g6⟩:=Gq hF cP (l:=r) (s:=s+x.num) (us:=us++[x.sym s]) (zs:=zs.drop x.num) cb hb hm (aO.drop x.num) i2 (by omega) hat (by
    rcases h1 with h1|h1
    ·left;simpa [cV.rL]using h1
    ·exact .inr h1) (by
    rcases h2 with h2|h2
    ·left;simpa [cV.tj]using h2
    ·exact .inr h2) (λu hu=>by
    rcases List.mem_append.1 hu with hu|hu
    ·exact wX u hu
    ·simp at hu;subst hu;exact hs.1) ag
   exact⟨n',ae,m',pA,bt,g1,g2,g3,by rw[g4,jE,hv];simp[hs.2],g5,g6⟩
 | .rd sh::r,s,n,us,bl,k,G,ρ,m,w,zs,vals,cb,hb,hm,aO,hz,hn,hat,h1,h2,wX,ag=>by
  match vals,hat with
  |v::vs,hat=>
   obtain⟨hv,hat⟩:=hat
   match zs,hz with
   |z::zs,hz=>
    obtain⟨aF,z2,hz⟩:=hz;have hv:Cs F w sh (ao z) v:=hv;obtain⟨EU,YI⟩:=aO.tail;have h1:∀(i:Nat) (p:aJ),bl[i]?=some p->F (m i)->bU ρ p.1<=1:=by
     rcases h1 with h1|h1
     ·simp[cV.rL]at h1
     ·exact h1
    simp only[dU,cV.bds,gY,ke,qo]at hn;simp only[sY,bx]at cb;have hlen:(ao z).length<=9223372036854775807:=by
     rcases hv with⟨_,h⟩|⟨_,_,cap,_,_,_,_,⟨h3,h4⟩,_⟩
     ·simp[h]
     ·omega
    have qR:zs.length=(dU r).length:=dR hz;obtain⟨g,o,cap,CP,CQ,Hd,Nj,He⟩:∃(g:Nat) (o:Nat) (cap:Int),(-1<=cap/\cap<=9223372036854775807)/\(cap<0->ao z=[])/\(0<=cap->((ao z).length:Int)<=cap)/\
     (v=if cap<0 then Pr none 0 0 else .slice (some ⟨g,o,none⟩) (ao z).length cap.toNat)/\
     (0<=cap->F g/\∃cells t fz,w.heap[g]?=some (.cells cells t fz)/\o8 cells o sh (ao z)):=by
     rcases hv with⟨h3,h4⟩|⟨g,o,cap,cells,t,fz,h3,⟨h4,h5⟩,h6,h7,fq⟩
     ·exact⟨0,0,-1,by omega,λ_=>h4,λh=>by omega,by simp[h3],λh=>by omega⟩
     ·exact⟨g,o,cap,by omega,λh=>by omega,λ_=>by omega,by rw[if_neg (by omega)];simpa using h3,λ_=>⟨h6,cells,t,fz,h7,fq⟩⟩
    have Nl:=ag (o:Int) (by omega) cap CP.1 CP.2 (ao z).length (by omega) (by omega) (by
     simp only[du,gQ,bM,I.db];rw[y0 (by omega),y0 (by omega),EU])
    generalize ti:dI (dI (dI ρ n (o:Int)) (n+1) cap) (n+2) ((ao z).length:Int)=iL at Nl;have ha:agree n ρ iL:=by
     rw[<-ti];intro i hi;rw[y0 (by omega),y0 (by omega),y0 hi]
    have gE:iL n=o:=by rw[<-ti,y0 (by omega),y0 (by omega),mA]
    have az:iL (n+1)=cap:=by rw[<-ti,y0 (by omega),mA]
    have aI:iL (n+2)=(ao z).length:=by rw[<-ti,mA]
    have cn:iL s=z:=by rw[ha s (by omega)];exact EU
    have Zv:=hm.sP hb ha;have M1:=hb.ext ha (show n<=n+3 by omega) (bW bl.length);have MW:(A.rows sh (.var n) (.var s) (.var (n+1)) 1).ok (n+3) bl.length iL:=⟨⟨I.hj (by omega),I.hj (by omega),I.hj (by omega)⟩,by rw[I.db,cn];exact⟨aF,z2⟩,by rw[I.db,az];exact CP⟩;have pf:=Zv.push (x:=([.rows sh (.var n) (.var s) (.var (n+1)) 1],(0,false))) (g:=g) M1 (λy hy=>by simp at hy;subst hy;exact MW) (λaA=>by cases aA) (λhk kP code' kK sJ he=>by
     cases he;intro _;refine⟨λh=>by rw[I.db,az]at h;rw[I.db,cn];exact CQ h,λh=>?_⟩;rw[I.db,az]at h;obtain⟨MX,cells,t,fz,k1,k2⟩:=He h;exact⟨hF g MX,cells,t,fz,k1,⟨by rw[I.db,gE];omega,by rw[I.db,I.db,gE,cn];exact k2⟩,λh2=>by omega⟩) (λi p hi he=>by
      by_cases hc:0<=cap
      ·refine .inl ⟨?_,?_⟩
       ·rw[yD (hb _ (fC hi)) ha];exact h1 i p hi (by rw[he];exact(He hc).1)
       ·rw[w2 (by decide) (by rw[I.db,az];exact hc)];exact bW 1
      ·refine .inr (.inr ?_);simp only[bU,I.db,az];rw[if_pos (by omega)])
    have Zs:e6 n bl.length ρ m (n+3) (bl++[([A.rows sh (.var n) (.var s) (.var (n+1)) 1],((0:br),false))]).length iL (nG m bl.length g):=⟨by omega,ha,by simp,λb hb=>oS hb⟩;have G8:dj (n+3) (bl++[([A.rows sh (.var n) (.var s) (.var (n+1)) 1],((0:br),false))]).length iL (bl++[([.rows sh (.var n) (.var s) (.var (n+1)) 1],(0,false))]):=λp hp a nt=>by
     rcases List.mem_append.1 hp with hp|hp
     ·exact(M1 p hp a nt).ext (agree.refl _ _) (bW _) (by simp)
     ·simp at hp;subst hp;simp at nt;subst nt;exact MW.ext (agree.refl _ _) (bW _) (by simp)
    have ZP:W.ok (n+3) (bl++[([A.rows sh (.var n) (.var s) (.var (n+1)) 1],((0:br),false))]).length iL (.one (.sl bl.length sh.length (.var n) (.const 0) (.var (n+2)) (.var (n+1)))):=by
     refine⟨by simp,⟨I.hj (by omega),I.dF _ _,I.hj (by omega),I.hj (by omega)⟩,?_⟩;simp only[I.db,I.bq,gE,az,aI];exact⟨by omega,by omega,λh=>by rw[CQ h];rfl,Hd⟩
    obtain⟨n',ae,m',pA,bt,g1,g2,g3,g4,g5,g6⟩:=Gq hF cP (l:=r) (s:=s+1) (us:=us++[.one (.sl bl.length sh.length (.var n) (.const 0) (.var (n+2)) (.var (n+1)))]) (zs:=zs) (vals:=vs) cb.2 G8 pf (YI.agree ha (by omega)) hz (by omega) hat (.inr λi p hi hf=>by
     rw[List.getElem?_append]at hi;split at hi
     ·rename_i jW;rw[oS jW]at hf;rw[yD (hb _ (fC hi)) ha];exact h1 i p hi hf
     ·have:i=bl.length:=by
       have:=(List.getElem?_eq_some_iff.1 hi).1;simp at this;omega
      subst this;simp at hi;subst hi;simp only[bU];split<;>omega) (.inl cb.1) (λu hu=>by
     rcases List.mem_append.1 hu with hu|hu
     ·exact(wX u hu).ext ha (by omega) (by simp)
     ·simp at hu;subst hu;exact ZP) Nl
    refine⟨n',ae,m',pA,bt,Zs.trans g1,g2,g3,?_,g5,g6⟩;rw[g4,jE,mF]
    congr 1
    ·exact kU λu hu=>W.nW (wX u hu) ha (λb hb=>oS hb)
    ·simp only[du,gQ,jD,gq,W.den,A.den,I.db,I.bq,gE,az,aI,pz];rw[Nj];simp
 | .sM sh e::r,s,n,us,bl,k,G,ρ,m,w,zs,vals,cb,hb,hm,aO,hz,hn,hat,h1,h2,wX,ag=>by
  match vals,hat with
  |v::vs,hat=>
   obtain⟨hv,hat⟩:=hat
   match zs,hz with
   |z::zs,hz=>
    obtain⟨aF,z2,hz⟩:=hz;have hv:Gg N w sh e (ao z) v:=hv;obtain⟨EU,YI⟩:=aO.tail;simp only[dU,cV.bds,gY,ke,qo]at hn;simp only[sY,bx]at cb;have h2:∀(i:Nat) (p:aJ),bl[i]?=some p->N (m i)->bU ρ p.1=0:=by
     rcases h2 with h2|h2
     ·simp[cV.tj]at h2
     ·exact h2
    have hlen:(ao z).length<=9223372036854775807:=by
     rcases hv with⟨_,h⟩|⟨_,cap,_,_,⟨h3,h4⟩,_⟩
     ·simp[h]
     ·omega
    have qR:zs.length=(dU r).length:=dR hz;obtain⟨g,cap,CP,CQ,Hd,Nj,He⟩:∃(g:Nat) (cap:Int),(-1<=cap/\cap<=9223372036854775807)/\(cap<0->ao z=[])/\(0<=cap->((ao z).length:Int)<=cap)/\
     (v=if cap<0 then Pr none 0 0 else .slice (some ⟨g,0,none⟩) (ao z).length cap.toNat)/\
     (0<=cap->N g/\∃cells,w.heap[g]?=some (.cells cells e (0,0))/\o8 cells 0 sh (ao z)/\cells.size=cap.toNat*sh.length):=by
     rcases hv with⟨h3,h4⟩|⟨g,cap,cells,h3,⟨h4,h5⟩,h6,h7,fq,ef⟩
     ·exact⟨0,-1,by omega,λ_=>h4,λh=>by omega,by simp[h3],λh=>by omega⟩
     ·exact⟨g,cap,by omega,λh=>by omega,λ_=>by omega,by rw[if_neg (by omega)];simpa using h3,λ_=>⟨h6,cells,h7,fq,by simpa using ef⟩⟩
    have Nl:=ag cap CP.1 CP.2 (ao z).length (by omega) (by omega) (by
     simp only[du,gQ,bM,I.db];rw[y0 (by omega),EU])
    generalize ti:dI (dI ρ n cap) (n+1) ((ao z).length:Int)=iL at Nl;have ha:agree n ρ iL:=by
     rw[<-ti];intro i hi;rw[y0 (by omega),y0 hi]
    have az:iL n=cap:=by rw[<-ti,y0 (by omega),mA]
    have aI:iL (n+1)=(ao z).length:=by rw[<-ti,mA]
    have cn:iL s=z:=by rw[ha s (by omega)];exact EU
    have Zv:=hm.sP hb ha;have M1:=hb.ext ha (show n<=n+2 by omega) (bW bl.length);have MW:(A.rows sh (.const 0) (.var s) (.var n) 2).ok (n+2) bl.length iL:=⟨⟨I.dF _ _,I.hj (by omega),I.hj (by omega)⟩,by rw[I.db,cn];exact⟨aF,z2⟩,by rw[I.db,az];exact CP⟩;have pf:=Zv.push (x:=([.rows sh (.const 0) (.var s) (.var n) 2],(e,false))) (g:=g) M1 (λy hy=>by simp at hy;subst hy;exact MW) (λaA=>by cases aA) (λhk kP code' kK sJ he=>by
     cases he;intro _;refine⟨λh=>by rw[I.db,az]at h;rw[I.db,cn];exact CQ h,λh=>?_⟩;rw[I.db,az]at h;obtain⟨au3,cells,k1,k2,k3⟩:=He h;have gm:=cP g au3;exact⟨.inr (.inr gm.2),cells,e,(0,0),k1,⟨by rw[I.bq];exact di _,by rw[I.bq,I.db,cn];exact k2⟩,λ_=>⟨rfl,I.bq _ _,.N9,by rw[I.db,az];exact k3,gm.1,.inr gm.2⟩⟩) (λi p hi he=>by
      by_cases hc:0<=cap
      ·refine .inr (.inl ?_);rw[yD (hb _ (fC hi)) ha];exact h2 i p hi (by rw[he];exact(He hc).1)
      ·refine .inr (.inr ?_);simp only[bU,I.db,az];rw[if_pos (by omega)])
    have Zs:e6 n bl.length ρ m (n+2) (bl++[([A.rows sh (.const 0) (.var s) (.var n) 2],(e,false))]).length iL (nG m bl.length g):=⟨by omega,ha,by simp,λb hb=>oS hb⟩;have G8:dj (n+2) (bl++[([A.rows sh (.const 0) (.var s) (.var n) 2],(e,false))]).length iL (bl++[([.rows sh (.const 0) (.var s) (.var n) 2],(e,false))]):=λp hp a nt=>by
     rcases List.mem_append.1 hp with hp|hp
     ·exact(M1 p hp a nt).ext (agree.refl _ _) (bW _) (by simp)
     ·simp at hp;subst hp;simp at nt;subst nt;exact MW.ext (agree.refl _ _) (bW _) (by simp)
    have ZP:W.ok (n+2) (bl++[([A.rows sh (.const 0) (.var s) (.var n) 2],(e,false))]).length iL (.one (.sl bl.length sh.length (.const 0) (.const 0) (.var (n+1)) (.var n))):=by
     refine⟨by simp,⟨I.dF _ _,I.dF _ _,I.hj (by omega),I.hj (by omega)⟩,?_⟩;simp only[I.db,I.bq,az,aI];exact⟨by omega,by omega,λh=>by rw[CQ h];rfl,Hd⟩
    obtain⟨n',ae,m',pA,bt,g1,g2,g3,g4,g5,g6⟩:=afR (w0:=w0) (l:=r) (s:=s+1) (us:=us++[.one (.sl bl.length sh.length (.const 0) (.const 0) (.var (n+1)) (.var n))]) (zs:=zs) (vals:=vs) cb.1 G8 pf (YI.agree ha (by omega)) hz (by omega) hat (λu hu=>by
     rcases List.mem_append.1 hu with hu|hu
     ·exact(wX u hu).ext ha (by omega) (by simp)
     ·simp at hu;subst hu;exact ZP) Nl
    refine⟨n',ae,m',pA,bt,Zs.trans g1,g2,g3,?_,g5,g6⟩;rw[g4,jE,mF]
    congr 1
    ·exact kU λu hu=>W.nW (wX u hu) ha (λb hb=>oS hb)
    ·simp only[du,gQ,jD,gq,W.den,A.den,I.db,I.bq,az,aI,pz];rw[Nj];simp
where
 afR {w0:eL} {F N:Nat->Prop}:∀{l:List cV} {s n:Nat} {us:List W} {bl:List aJ} {k:Nat->List W->List aJ->T} {G:fe} {ρ:Env} {m:Nat->Nat} {w:aG} {zs:List Int} {vals:List aW},
  (l.all cV.Hy)=true->dj n bl.length ρ bl->Mem w0 ρ m bl w->kf ρ s zs->ab (dU l) zs->s+(dU l).length<=n->mM F N w l zs vals->
  (∀u∈us,W.ok n bl.length ρ u)->
  (zm l s n us bl k).holds S L G ρ->∃n' ae m' pA bt,e6 n bl.length ρ m n' (pE bt) ae m'/\dj n' bt.length ae bt/\Mem w0 ae m' bt w/\pA.map (W.den ae m')=us.map (W.den ρ m)++vals/\(∀u∈pA,W.ok n' bt.length ae u)/\(k n' pA bt).holds S L G ae
 |[],s,n,us,bl,k,G,ρ,m,w,zs,vals,_,hb,hm,_,_,_,hat,wX,ag=>by
  match vals,hat with
  |[],_=>exact⟨n,ρ,m,us,bl,e6.refl _ _ _ _,hb,hm,by simp,wX,ag⟩
 | .d x::r,s,n,us,bl,k,G,ρ,m,w,zs,vals,cb,hb,hm,aO,hz,hn,hat,wX,ag=>by
  match vals,hat with
  |v::vs,hat=>
   obtain⟨hv,hat⟩:=hat;have hv:v=x.val zs:=hv;simp only[dU,cV.bds]at hz hn;simp only[gY]at hn;obtain⟨i1,i2⟩:=Bm hz;rw[D.Mb]at i1 i2 hn;have hs:=D.O6 (ρ:=ρ) (m:=m) (N:=n) (nb:=bl.length) x i1 aO (by omega);obtain⟨n',ae,m',pA,bt,g1,g2,g3,g4,g5,g6⟩:=afR (l:=r) (s:=s+x.num) (us:=us++[x.sym s]) (zs:=zs.drop x.num) (by simpa [cV.Hy]using cb) hb hm (aO.drop x.num) i2 (by omega) hat (λu hu=>by
    rcases List.mem_append.1 hu with hu|hu
    ·exact wX u hu
    ·simp at hu;subst hu;exact hs.1) ag
   exact⟨n',ae,m',pA,bt,g1,g2,g3,by rw[g4,jE,hv];simp[hs.2],g5,g6⟩
 | .rd _::_,_,_,_,_,_,_,_,_,_,_,_,cb,_,_,_,_,_,_,_,_=>by simp[cV.Hy]at cb
 | .sM _ _::_,_,_,_,_,_,_,_,_,_,_,_,cb,_,_,_,_,_,_,_,_=>by simp[cV.Hy]at cb
end
end Go.b9
namespace Go.b9
open M
theorem SG (x:Nat) (r:List Nat):lc (x::r)=2^x*(2*lc r+1):=rfl
theorem ayH (x:Nat) (r:List Nat):lc r<=lc (x::r):=by
 rw[SG];have h1:1<=2^x:=Nat.one_le_two_pow;have h2:2*lc r+1<=2^x*(2*lc r+1):=Nat.le_mul_of_pos_left _ h1;omega
theorem akS:∀(a:Nat) (l:List Nat),lc (l.drop a)<=lc l
 |0,l=>by simp
 |a+1,[]=>by simp
 |a+1,x::r=>by rw[List.drop_succ_cons];exact nf (akS a r) (ayH x r)
theorem akT:∀(k:Nat) (l:List Nat),lc (l.take k)<=lc l
 |0,l=>by simp[lc]
 |k+1,[]=>by simp
 |k+1,x::r=>by
  rw[List.take_succ_cons,SG,SG];exact UB _ (by have:=akT k r;omega)
theorem amp (l:List (List Int)) (a k:Nat):rc ((l.drop a).take k)<=rc l:=by
 unfold rc;rw[LH,LI]
 exact_mod_cast nf (akT k _) (akS a _)
theorem aJZ (n:Nat):Cn (FN n)=n:=by
 unfold Cn FN;by_cases h:n% 2=0
 ·rw[if_pos h,if_pos (by omega)];omega
 ·rw[if_neg h,if_neg (by omega)];omega
theorem anI:∀(f n:Nat),0<n->n<=f->n=2^tF f n*(2*(n/2^tF f n/2)+1)
 |0,n,h,bm=>by omega
 |f+1,n,h,bm=>by
  unfold tF;by_cases hn:n% 2=0
  ·rw[if_pos hn];have ih:=anI f (n/2) (by omega) (by omega);have e:n/2^(tF f (n/2)+1)=n/2/2^tF f (n/2):=by rw[za,zc,Ph]
   rw[e,za,zc (2^_) 2,Us,<-ih];omega
  ·rw[if_neg hn];simp;omega
theorem abb:∀(f n:Nat),n<=f->lc (bV f n)=n
 |0,n,h=>by
  have:n=0:=by omega
  subst this;rfl
 |f+1,n,h=>by
  unfold bV;by_cases hn:n=0
  ·rw[if_pos hn,hn];rfl
  ·rw[if_neg hn,SG];have hp:0<2^tF n n:=IA _;have hd:n/2^tF n n/2<=f:=by
    have h1:n/2^tF n n<=n:=aIZ _ _;omega
   rw[abb f _ hd];exact(anI n n (by omega) (bW _)).symm
theorem amo {z:Int} (h:0<=z):rc (ao z)=z:=by
 unfold rc ao;rw[pD];have e:((λrow:List Int=>lc (row.map Cn))∘λn=>(bV n n).map FN)=id:=by
  funext n
  simp only[Pm,pD,id];have:(Cn∘FN)=id:=by funext k;exact aJZ k
  rw[this,Pl,abb n n (bW _)]
 rw[e,Pl,abb _ _ (bW _)];omega
def qz:V->List Nat
 | .w (.one (.sl b _ _ _ _ _))=>[b]
 | .w (.one (.slc b _ _ _))=>[b]
 |_=>[]
def Xu (cap fO:I):M Unit:=cond (I.beq cap fO) (pure ()) (h8 40 [cap,fO])
noncomputable def Tk (sh:List aQ) (bl:List aJ) (v:V):M I:=
 match v with
 | .w (.one (.con (.slice none 0 0)))=>pure (.const 0)
 | .w (.one (.sl b bG o ro len cap))=>match bl[b]? with
  |some ([.rows hk off code fO kind],_)=>cond (dX 0 kind&&tB sh hk&&I.beq o off&&aP bG sh.length) (bind (h8 22 [code,ro,ro.add len]) λ_=>bind (Xu cap fO) λ_=>gV 22 [code,ro,ro.add len] 0 b6) fail
  |_=>fail
 | .w (.one (.slc b off len cap))=>match yp bl b off (len*sh.length)with
  |some cs=>cond (qh sh&&cO len 1073741824&&cO len cap&&cO cap 9223372036854775807) (Ek sh (rv sh.length len cs) (.const 0)) fail
  |none=>fail
 |_=>fail
noncomputable def abW (sh:List aQ) (e:br) (bl:List aJ) (v:V):M I:=
 match v with
 | .w (.one (.con (.slice none 0 0)))=>pure (.const 0)
 | .w (.one (.sl b bG o ro len cap))=>match bl[b]? with
  |some ([.rows hk off code fO kind],t)=>cond (aP kind 2&&tB sh hk&&I.beq o (.const 0)&&I.beq off (.const 0)&&I.beq ro (.const 0)&&I.beq cap fO&&aP bG sh.length&&aP t.1 e) (bind (h8 22 [code,.const 0,len]) λ_=>gV 22 [code,.const 0,len] 0 b6) fail
  |_=>fail
 | .w (.one (.slc b off len cap))=>match bl[b]? with
  |some (C,t)=>match yp bl b off (len*sh.length)with
   |some cs=>cond (qh sh&&cO len 1073741824&&cO len cap&&cO cap 9223372036854775807&&aP off 0&&aP C.length (cap*sh.length)&& !t.2&&aP t.1 e) (Ek sh (rv sh.length len cs) (.const 0)) fail
   |none=>fail
  |none=>fail
 |_=>fail
def yX:V->List Nat
 | .w (.one (.slc b _ _ _))=>[b]
 |_=>[]
def uM (w0:eL) (ρ:Env) (m:Nat->Nat) (bl:List aJ) (bs os:List Nat) (g:Nat):Prop:=
 (∃b∈bs,m b=g/\∃p,bl[b]?=some p/\bU ρ p.1≠0/\(cl p.1=true->b∈os))/\(w0.ex g∨w0.ro g∨w0.r.heap.size<=g)
section
variable {S:Nat->List Int->List Int->Prop} {L:V->Env->Prop} {n:Nat} {ρ:Env} {m:Nat->Nat} {bl:List aJ} {gl:fP} {w0:eL} {P:b4} {w:aG}
theorem Cs.mono {F Eb:Nat->Prop} {sh:List aQ} {rows:List (List Int)} {v:aW} (h:Cs F w sh rows v) (hF:∀g,F g->Eb g):Cs Eb w sh rows v:=by
 rcases h with h|⟨g,o,cap,cells,t,fz,h1,h2,h3,h4⟩
 ·exact .inl h
 ·exact .inr ⟨g,o,cap,cells,t,fz,h1,h2,hF g h3,h4⟩
theorem ani {b off len:Nat} {C:List A} {t:br×Bool} {cs:List A} {sh:List aQ} {rows:List (List Int)} (hb:dj n bl.length ρ bl) (hw:Mem w0 ρ m bl w) (aZ:bl[b]?=some (C,t)) (dD:yp bl b off (len*sh.length)=some cs)
 (lI:∀row∈rows,cM sh row) (lG:cj sh rows=cs.map (A.den ρ m)):w0.b.heap.size<=m b/\(w0.ex (m b)∨w0.r.heap.size<=m b)/\∃cells:Array aW,w.heap[m b]?=some (.cells cells t.1 (0,0))/\o8 cells off sh rows/\(t.2=false->cells.size=C.length):=by
 unfold yp at dD;rw[aZ]at dD;simp only at dD;cases hc:(cO (off+len*sh.length) C.length&&cl C)with
 |false=>rw[hc]at dD;cases dD
 |true=>
  rw[hc]at dD;simp only[cond_true,bj]at dD;simp only[bx]at hc;have hle:=gU hc.1;obtain⟨g1,g2,r,hr,g3⟩:=hw.gZ b C t aZ hc.2;refine⟨g1,g2,_,g3,⟨lI,(C.take off).map (A.den ρ m),((C.drop off).drop (len*sh.length)).map (A.den ρ m)++r,?_,by simp;omega⟩,λaD=>by rw[hr aD];simp⟩;rw[lG,<-dD];show C.map (A.den ρ m)++r=_;have e:C=C.take off++((C.drop off).take (len*sh.length)++(C.drop off).drop (len*sh.length)):=by rw[oi,oi]
  conv=>lhs;rw[e]
  simp only[jE,mF]
theorem OR:ao ((I.const 0).den ρ)=[]:=by rw[I.bq];exact oa
theorem AO:(0:Int)<=b6:=D2 (kc []) (uP (l:=[]) (by simp) (by simp))
theorem anh {sh:List aQ} {len:Nat} {cs:List A} (l3:qh sh=true) (hl:len<=1073741824) (cb:∀a∈cs,A.ok n bl.length ρ a) (n1:cs.length=len*sh.length):
 aC S L (Ek sh (rv sh.length len cs) (.const 0)) n ρ λae n' l=>l.bN n'/\(0<=l.den ae/\l.den ae<=b6)/\(ao (l.den ae)).length=len/\(∀row∈ao (l.den ae),cM sh row)/\cj sh (ao (l.den ae))=cs.map (A.den ρ m):=by
 have oz:=Mm (w:=sh.length) (k:=len) n1;refine(L8 (nb:=bl.length) (m:=m) l3 (rs:=rv sh.length len cs) (c:= .const 0) (λrow hr a ha=>cb a (Mn row hr a ha)) (I.dF _ _) (by rw[I.bq];exact⟨di _,AO⟩) (by rw[OR];intro _ h;simp at h) (by rw[OR,oz.1];simpa using hl)).mono λaN a6 l hn ha ⟨cG,cC,eF,dE,gP,gW,ie⟩=>?_;rw[OR,gq]at dE;rw[dE];exact⟨cG,cC,by rw[gP,oz.1],gW,by rw[ie,oz.2]⟩
theorem asl {cap fO:I} {α:Type} {x:M α} {R:Env->Nat->α->Prop} (h:(0<=cap.den ρ->0<=fO.den ρ)->aC S L x n ρ R):aC S L (bind (Xu cap fO) λ_=>x) n ρ R:=by
 unfold Xu;cases hc:I.beq cap fO with
 |true=>exact h (by rw[I.beq_eq hc];exact id)
 |false=>exact jS h
theorem amq {sh:List aQ} {v:V} {X:aW} (hb:dj n bl.length ρ bl) (hw:Mem w0 ρ m bl w) (hv:v.ok n bl.length ρ) (cg:v.rel ρ m X):
 aC S L (Tk sh bl v) n ρ λae n' l=>l.bN n'/\(0<=l.den ae/\l.den ae<=b6)/\Cs (uM w0 ρ m bl (qz v) (yX v)) w sh (ao (l.den ae)) X:=by
 unfold Tk;split
 ·refine aC.pure ⟨I.dF _ _,by rw[I.bq];exact⟨di _,AO⟩,.inl ⟨cg,OR⟩⟩
 ·rename_i b bG o ro len cap;split
  ·rename_i hk off code fO kind t aZ;refine eM λhc=>jS λaf=>?_;simp only[bx]at hc;obtain⟨⟨⟨c1,bQ⟩,cF⟩,dk⟩:=hc;have c1:0<kind:=gU c1;have bQ:=FJ bQ;have cF:=I.beq_eq cF;have dk:=b1 dk
   subst bQ;subst cF;subst dk;simp only[du,gQ,ay,I.den_add]at af;have NL:(A.sl b sh.length o ro len cap).ok n bl.length ρ:=hv;obtain⟨ptr,az,aI,cn⟩:=xH (m:=m) NL;have cg:X=(A.sl b sh.length o ro len cap).den ρ m:=cg;obtain⟨aj,⟨ah,au,de,iK⟩,⟨jz,mc,me,mf⟩,⟨mB,mb⟩,hW,jy⟩:=NL;have hD:(A.rows sh o code fO kind).ok n bl.length ρ:=hb _ (fC aZ) _ (by simp);have hf:bM 22 ([code,ro,ro.add len].map (·.den ρ))=rc (((ao (code.den ρ)).drop (ro.den ρ).toNat).take (len.den ρ).toNat):=by
    simp only[du,gQ,bM,I.den_add]
    congr 2;omega
   have iR:rc (((ao (code.den ρ)).drop (ro.den ρ).toNat).take (len.den ρ).toNat)<=b6:=by
    have h1:=amp (ao (code.den ρ)) (ro.den ρ).toNat (len.den ρ).toNat;rw[amo hD.2.1.1]at h1;exact D2 h1 hD.2.1.2
   refine asl λG9=>?_;refine(iQ (by rw[hf];exact kc _) (by rw[hf];exact iR)).mono λaN a6 l hn ha ⟨k1,k2⟩=>?_;rw[hf]at k2;refine⟨k1,by rw[k2];exact⟨kc _,iR⟩,?_⟩;rw[k2,kS];have hlen:(((ao (code.den ρ)).drop (ro.den ρ).toNat).take (len.den ρ).toNat).length=(len.den ρ).toNat:=by simp;omega
   rcases mE (cap.den ρ) 0 with dC|dC
   ·left
    have:=hW dC;refine⟨by rw[cg,az,aI dC,if_pos dC,this];rfl,by rw[this];simp⟩
   ·right
    clear iR;rcases mE (fO.den ρ) 0 with CM|CM
    ·have:=G9 dC;omega
    ·obtain⟨eJ,cells,ma,fz,bg,⟨b3,cy⟩,_⟩:=(hw.rws b sh o code fO kind t aZ (by omega)).2 CM;refine⟨m b,(o.den ρ).toNat+(ro.den ρ).toNat*sh.length,(cap.den ρ).toNat,cells,ma,fz,?_,⟨by rw[hlen];have:=jy dC;omega,by omega⟩,⟨⟨b,by simp[qz],rfl,_,aZ,by rw[w2 (by omega) CM];omega,λh=>by cases h⟩,eJ⟩,bg,?_⟩
     ·rw[cg,az,cn dC,hlen,if_neg (by omega)]
     ·exact cy.sub _ _ (by omega)
  ·exact aC.fail
 ·rename_i b off len cap;split
  ·rename_i cs dD;refine eM λhc=>?_;simp only[bx]at hc;obtain⟨⟨⟨c1,bQ⟩,cF⟩,dk⟩:=hc;have bQ:=gU bQ;have cF:=gU cF;have dk:=gU dk
   obtain⟨d1,d2,d3⟩:=JI hw hb dD;refine(anh (m:=m) c1 bQ d2 d1).mono λaN a6 l hn ha ⟨k1,k2,k3,k4,tl⟩=>⟨k1,k2,.inr ?_⟩;have cg:X= .slice (some ⟨m b,off,none⟩) len cap:=cg;cases aZ:bl[b]? with
   |none=>unfold yp at dD;rw[aZ]at dD;cases dD
   |some q=>
    obtain⟨C,t⟩:=q;obtain⟨g1,g2,cells,g3,g4,_⟩:=ani hb hw aZ dD k4 tl;have oA:cl C=true:=by
     unfold yp at dD;rw[aZ]at dD;simp only at dD;cases hc:(cO (off+len*sh.length) C.length&&cl C)with
     |false=>rw[hc]at dD;cases dD
     |true=>simp only[bx]at hc;exact hc.2
    exact⟨m b,off,cap,cells,t.1,(0,0),by rw[cg,k3],⟨by omega,by omega⟩,⟨⟨b,by simp[qz],rfl,_,aZ,by rw[nA oA];decide,λ_=>by simp[yX]⟩,g2.elim .inl λh=> .inr (.inr h)⟩,g3,g4⟩
  ·exact aC.fail
 ·exact aC.fail
theorem aA9 {sh:List aQ} {e:br} {v:V} {X:aW} (hex:∀g,¬w0.ex g) (hb:dj n bl.length ρ bl) (hw:Mem w0 ρ m bl w) (hv:v.ok n bl.length ρ) (cg:v.rel ρ m X):
 aC S L (abW sh e bl v) n ρ λae n' l=>l.bN n'/\(0<=l.den ae/\l.den ae<=b6)/\Gg (λg=>w0.r.heap.size<=g) w sh e (ao (l.den ae)) X:=by
 unfold abW;split
 ·refine aC.pure ⟨I.dF _ _,by rw[I.bq];exact⟨di _,AO⟩,.inl ⟨cg,OR⟩⟩
 ·rename_i b bG o ro len cap;split
  ·rename_i hk off code fO kind t aZ;refine eM λhc=>jS λaf=>?_;simp only[bx]at hc;obtain⟨⟨⟨⟨⟨⟨⟨c1,bQ⟩,cF⟩,Qi⟩,Xq⟩,hQ⟩,dk⟩,fN⟩:=hc;have c1:=b1 c1;have bQ:=FJ bQ;have cF:=I.beq_eq cF;have Qi:=I.beq_eq Qi;have Xq:=I.beq_eq Xq;have hQ:=I.beq_eq hQ;have dk:=b1 dk;have fN:=b1 fN
   subst bQ;subst cF;subst dk;subst Qi;subst Xq;subst hQ;subst fN;subst c1;simp only[du,gQ,ay,I.bq]at af;have NL:(A.sl b sh.length (.const 0) (.const 0) len cap).ok n bl.length ρ:=hv;obtain⟨ptr,az,aI,cn⟩:=xH (m:=m) NL;have cg:X=(A.sl b sh.length (.const 0) (.const 0) len cap).den ρ m:=cg;obtain⟨aj,⟨ah,au,de,iK⟩,⟨jz,mc,me,mf⟩,⟨mB,mb⟩,hW,jy⟩:=NL;rw[I.bq]at mb;have hD:(A.rows sh (.const 0) code cap 2).ok n bl.length ρ:=hb _ (fC aZ) _ (by simp);have hf:bM 22 ([code,.const 0,len].map (·.den ρ))=rc (((ao (code.den ρ)).drop 0).take (len.den ρ).toNat):=by
    simp only[du,gQ,bM,I.bq]
    congr 2
   have iR:rc (((ao (code.den ρ)).drop 0).take (len.den ρ).toNat)<=b6:=by
    have h1:=amp (ao (code.den ρ)) 0 (len.den ρ).toNat;rw[amo hD.2.1.1]at h1;exact D2 h1 hD.2.1.2
   refine(iQ (by rw[hf];exact kc _) (by rw[hf];exact iR)).mono λaN a6 l hn ha ⟨k1,k2⟩=>?_;rw[hf]at k2;refine⟨k1,by rw[k2];exact⟨kc _,iR⟩,?_⟩;rw[k2,kS];have hlen:(((ao (code.den ρ)).drop 0).take (len.den ρ).toNat).length=(len.den ρ).toNat:=by simp;omega
   rcases mE (cap.den ρ) 0 with dC|dC
   ·left
    have:=hW dC;refine⟨by rw[cg,az,aI dC,if_pos dC,this];rfl,by rw[this];simp⟩
   ·right
    clear iR;obtain⟨eJ,cells,ma,fz,bg,⟨b3,cy⟩,et⟩:=(hw.rws b sh (.const 0) code cap 2 t aZ (by omega)).2 dC;obtain⟨p0,cG,cC,dE,gP,gW⟩:=et (by omega);have cC:=cC.two;subst p0;subst cC;rw[I.bq]at cy;refine⟨m b,(cap.den ρ).toNat,cells,?_,⟨by rw[hlen];have:=jy dC;omega,by omega⟩,gW.elim (λh=>absurd h (hex _)) id,bg,?_,dE⟩
    ·rw[cg,az,cn dC,hlen,if_neg (by omega)];simp[I.bq]
    ·have:=cy.sub 0 (len.den ρ).toNat (by omega);simpa using this
  ·exact aC.fail
 ·rename_i b off len cap;split
  ·rename_i C t aZ;split
   ·rename_i cs dD;refine eM λhc=>?_;simp only[bx]at hc;obtain⟨⟨⟨⟨⟨⟨⟨c1,bQ⟩,cF⟩,dk⟩,fN⟩,hQ⟩,nT⟩,lX⟩:=hc;have bQ:=gU bQ;have cF:=gU cF;have dk:=gU dk
    have fN:=b1 fN;have hQ:=b1 hQ;have lX:=b1 lX
    subst fN;subst lX;obtain⟨d1,d2,d3⟩:=JI hw hb dD;refine(anh (m:=m) c1 bQ d2 d1).mono λaN a6 l hn ha ⟨k1,k2,k3,k4,tl⟩=>⟨k1,k2,.inr ?_⟩;have cg:X= .slice (some ⟨m b,0,none⟩) len cap:=cg;obtain⟨g1,g2,cells,g3,g4,g5⟩:=ani hb hw aZ dD k4 tl;exact⟨m b,cap,cells,by rw[cg,k3],⟨by omega,by omega⟩,g2.elim (λh=>absurd h (hex _)) id,g3,g4,by rw[g5 (by simpa using nT),hQ]⟩
   ·exact aC.fail
  ·exact aC.fail
 ·exact aC.fail
end
def Yh (d:D) (v:V):M (List I):=
 match d,v with
 | .bool,.w (.one (.bool e))=>match e with
  | .lit v=>pure [.const (cond v 1 0)]
  |e=>bind (Hv e) λl=>pure [l]
 | .int k lo hi,.w (.one (.int bI x))=>cond (decide (k=bI)) (cond (tW lo hi x) (pure [x.l]) (bind (h8 39 [x.l,.const lo,.const hi]) λ_=>pure [x.l])) fail
 | .mix l,.w (.agg s)=>DF l s
 | .str,.w (.one (.str l))=>pure [l]
 | .Ai l,.w (.one (.str x))=>match x.eT with|some c=>cond (decide (c=kJ (yB l))) (pure []) fail|none=>fail
 | .gn k c,.w (.one (.int bI x))=>match x.l.eT with|some d=>cond (decide (k=bI)&&decide (d=c)) (pure []) fail|none=>fail
 | .agg k n lo hi,.w (.agg l)=>cond (aP l.length n) (match ow k lo hi l with|some r=>pure r|none=>fail) fail
 |_,_=>fail
noncomputable def GU (bl:List aJ):List cV->List V->M (List I)
 |[],[]=>pure []
 | .d x::r,v::s=>bind (Yh x v) λa=>bind (GU bl r s) λb=>pure (a++b)
 | .rd sh::r,v::s=>bind (Tk sh bl v) λa=>bind (GU bl r s) λb=>pure (a::b)
 |_,_=>fail
section
variable {S:Nat->List Int->List Int->Prop} {L:V->Env->Prop} {w0:eL} {P:b4} {w:aG}
theorem acC:∀{sh:List aQ} {zs:List Int},cM sh zs->ab (sh.map aQ.hA) zs/\wi aQ.val sh zs=dS sh zs
 |[],[],_=>⟨trivial,rfl⟩
 |c::sh,z::zs,h=>⟨⟨h.1.1,h.1.2,(acC h.2).1⟩,by simp[dS,(acC h.2).2]⟩
 |[],_::_,h=>h.elim
 |_::_,[],h=>h.elim
theorem atF {d:D} {v:V} {X:aW} {n nb:Nat} {ρ:Env} {m:Nat->Nat} (hv:v.ok n nb ρ) (cg:v.rel ρ m X):aC S L (Yh d v) n ρ λae n' ls=>(∀x∈ls,I.bN n' x)/\ab d.bds (ls.map (·.den ae))/\X=d.val (ls.map (·.den ae)):=by
 unfold Yh;split
 ·rename_i e;have cg:X= .bool (e.den ρ):=cg;have key:aC S L (bind (Hv e) λl=>pure [l]) n ρ λae n' ls=>(∀x∈ls,I.bN n' x)/\ab D.bool.bds (ls.map (·.den ae))/\X=D.bool.val (ls.map (·.den ae)):=
   RL.bind λaN a6 l hn ha ⟨g1,g2,g3⟩=>aC.pure ⟨λx hx=>by simp at hx;subst hx;exact g1,⟨g2.1,g2.2,trivial⟩,by rw[cg,g3];rfl⟩
  cases e with
  |lit b=>
   refine aC.pure ⟨λx hx=>by simp at hx;subst hx;exact I.dF _ _,?_,?_⟩
   ·simp only[du,gQ,I.bq,D.bds];cases b<;>exact⟨by decide,by decide,trivial⟩
   ·rw[cg];simp only[du,gQ,I.bq];cases b<;>rfl
  |_=>exact key
 ·rename_i k lo hi bI x;refine eM λaf=>?_;have af:k=bI:=by simpa using af
  subst af;have hv:x.ok n ρ:=hv;have cg:X= .int k (x.l.den ρ):=cg;cases hf:tW lo hi x with
  |true=>
   have:=MH hf hv;exact aC.pure ⟨λy hy=>by simp at hy;subst hy;exact hv.1,⟨this.1,this.2,trivial⟩,cg⟩
  |false=>
   refine jS λaf=>aC.pure ?_;simp only[du,gQ,ay,I.bq]at af;exact⟨λy hy=>by simp at hy;subst hy;exact hv.1,⟨af.1,af.2,trivial⟩,cg⟩
 ·rename_i l s;have cg:X= .agg (s.map (A.den ρ m)).toArray:=cg;refine(KU (nb:=nb) (m:=m) hv).mono λaN a6 ls hn ha ⟨g1,g2,g3⟩=>?_;have:=acC g2;refine⟨g1,this.1,?_⟩;rw[cg,<-g3];simp only[D.val,this.2]
 ·rename_i l;have cg:X= .string (en (bF (l.den ρ))):=cg;have hv:l.bN n/\0<=l.den ρ/\l.den ρ<=qu:=hv;exact aC.pure ⟨λy hy=>by simp at hy;subst hy;exact hv.1,⟨hv.2.1,hv.2.2,trivial⟩,cg⟩
 ·rename_i l x;have cg:X= .string (en (bF (x.den ρ))):=cg;cases hc:x.eT with
  |none=>exact aC.fail
  |some c=>
   refine eM λhd=>aC.pure ⟨λy hy=>by simp at hy,trivial,?_⟩;rw[cg,anr (n:=n) hc (by simpa using hd)];rfl
 ·rename_i k c bI x;have cg:X= .int bI (x.l.den ρ):=cg;cases hc:x.l.eT with
  |none=>exact aC.fail
  |some d=>
   refine eM λhd=>aC.pure ⟨λy hy=>by simp at hy,trivial,?_⟩;simp only[bx,decide_eq_true_eq]at hd;rw[cg,I.k9 hc,<-hd.1,hd.2];rfl
 ·rename_i k n' lo hi l;refine eM λaf=>?_;have af:=b1 af;have cg:X= .agg (l.map (A.den ρ m)).toArray:=cg;cases hf:ow k lo hi l with
  |none=>exact aC.fail
  |some r=>
   obtain⟨g1,g2,g3⟩:=QU (m:=m) hf hv;rw[af]at g2;refine aC.pure ⟨Yf hf hv,g2,?_⟩;rw[cg,g3];simp only[D.val];rw[uK (by simp[g1,af])]
 ·exact aC.fail
theorem alm {n:Nat} {ρ ae:Env} {ls:List I} (h:∀x∈ls,I.bN n x) (ha:agree n ρ ae):ls.map (·.den ae)=ls.map (·.den ρ):=kU λx hx=>I.cf ha (h x hx)
theorem uM.later {n nb:Nat} {ρ ae:Env} {m:Nat->Nat} {bl:List aJ} {bs os:List Nat} {g:Nat} (hb:dj n nb ρ bl) (ha:agree n ρ ae) (h:uM w0 ae m bl bs os g):uM w0 ρ m bl bs os g:=by
 obtain⟨⟨b,h1,h2,p,h3,h4,h6⟩,h5⟩:=h;exact⟨⟨b,h1,h2,p,h3,by rw[<-yD (hb p (fC h3)) ha];exact h4,h6⟩,h5⟩
theorem QV {bl:List aJ} {m:Nat->Nat}:∀{ds:List cV} {vs:List V} {xs:List aW} {n:Nat} {ρ:Env},dj n bl.length ρ bl->Mem w0 ρ m bl w->(∀v∈vs,V.ok n bl.length ρ v)->fQ ρ m vs xs->
 aC S L (GU bl ds vs) n ρ λae n' ls=>(∀x∈ls,I.bN n' x)/\ab (dU ds) (ls.map (·.den ae))/\∀F:Nat->Prop,(∀g,uM w0 ρ m bl (vs.flatMap qz) (vs.flatMap yX) g->F g)->mM F (λ_=>False) w ds (ls.map (·.den ae)) xs
 |[],[],[],n,ρ,_,_,_,_=>aC.pure ⟨λ_ h=>by simp at h,trivial,λ_ _=>trivial⟩
 | .d x::r,v::s,X::xs,n,ρ,hb,hw,hv,hr=>by
  unfold GU;refine(atF (hv v (by simp)) hr.1).bind λaN a6 a hn ha ⟨g1,g2,g3⟩=>?_;refine(QV (ds:=r) (vs:=s) (xs:=xs) (hb.ext ha hn (bW _)) (hw.sP hb ha) (λu hu=>(hv u (eI _ hu)).ext ha hn (bW _)) (fQ.later (λu hu=>hv u (eI _ hu)) ha hr.2)).bind λb5 gd b gm eb ⟨k1,k2,k3⟩=>aC.pure ⟨λy hy=>?_,?_,λF hF=>?_⟩
  ·rcases List.mem_append.1 hy with hy|hy
   ·exact(g1 y hy).mono gm
   ·exact k1 y hy
  ·rw[jE,alm g1 eb];exact m1 g2 k2
  ·have hl:(a.map (·.den aN)).length=x.num:=by rw[dR g2,D.Mb]
   rw[jE,alm g1 eb];refine⟨?_,?_⟩
   ·show X=x.val _;rw[D.an0 x hl];exact g3
   ·show mM F _ w r (List.drop x.num _) xs;rw[<-hl,F3];exact k3 F λg hg=>hF g (by
     have:=uM.later hb ha hg;obtain⟨⟨b',h1,h2,p,h4,h5,h6⟩,h3⟩:=this;exact⟨⟨b',by simp only[wk,zf];exact .inr h1,h2,p,h4,h5,λh=>by simp only[wk,zf];exact .inr (h6 h)⟩,h3⟩)
 | .rd sh::r,v::s,X::xs,n,ρ,hb,hw,hv,hr=>by
  unfold GU;refine(amq hb hw (hv v (by simp)) hr.1).bind λaN a6 a hn ha ⟨g1,g2,g3⟩=>?_;refine(QV (ds:=r) (vs:=s) (xs:=xs) (hb.ext ha hn (bW _)) (hw.sP hb ha) (λu hu=>(hv u (eI _ hu)).ext ha hn (bW _)) (fQ.later (λu hu=>hv u (eI _ hu)) ha hr.2)).bind λb5 gd b gm eb ⟨k1,k2,k3⟩=>aC.pure ⟨λy hy=>?_,?_,λF hF=>?_⟩
  ·rcases List.mem_cons.1 hy with rfl|hy
   ·exact g1.mono gm
   ·exact k1 y hy
  ·simp only[du,I.cf eb g1];exact⟨g2.1,g2.2,k2⟩
  ·simp only[du,I.cf eb g1];refine⟨?_,?_⟩
   ·show Cs F w sh (ao _) X;exact g3.mono λg hg=>hF g (by
     obtain⟨⟨b',h1,h2,p,h4,h5,h6⟩,h3⟩:=hg;exact⟨⟨b',by simp only[wk,zf];exact .inl h1,h2,p,h4,h5,λh=>by simp only[wk,zf];exact .inl (h6 h)⟩,h3⟩)
   ·exact k3 F λg hg=>hF g (by
     have:=uM.later hb ha hg;obtain⟨⟨b',h1,h2,p,h4,h5,h6⟩,h3⟩:=this;exact⟨⟨b',by simp only[wk,zf];exact .inr h1,h2,p,h4,h5,λh=>by simp only[wk,zf];exact .inr (h6 h)⟩,h3⟩)
 |[],_::_,_,_,_,_,_,_,_=>aC.fail
 | .d _::_,[],_,_,_,_,_,_,_=>aC.fail
 | .rd _::_,[],_,_,_,_,_,_,_=>aC.fail
 | .sM _ _::_,[],_,_,_,_,_,_,_=>aC.fail
 | .sM _ _::_,_::_,_,_,_,_,_,_,_=>aC.fail
 |_,[],_::_,_,_,_,_,_,hr=>hr.elim
 |_,_::_,[],_,_,_,_,_,hr=>hr.elim
where
 fQ.later {n nb:Nat} {ρ ae:Env} {m:Nat->Nat}:∀{vs:List V} {xs:List aW},(∀v∈vs,V.ok n nb ρ v)->agree n ρ ae->fQ ρ m vs xs->fQ ae m vs xs
 |[],[],_,_,_=>trivial
 |v::vs,x::xs,hv,ha,hr=>⟨V.rel.ext hr.1 (hv v (by simp)) ha (λ_ _=>rfl),fQ.later (λu hu=>hv u (eI _ hu)) ha hr.2⟩
 |[],_::_,_,_,hr=>hr.elim
 |_::_,[],_,_,hr=>hr.elim
end
end Go.b9
namespace Go.b9
open M
def EN:List Nat->List aJ->List aJ
 |[],bl=>bl
 |b::r,bl=>match bl[b]? with
  |some ([.rows sh off code cap (k+1)],t)=>EN r (ei bl b ([.rows sh off code cap 1],t))
  |_=>EN r bl
def FG (us:List W):V:=match us with|[u]=> .w u|l=> .jh l
def By:List V->Bool
 |[]=>true
 | .w (.one (.slc ..))::_=>false
 |_::r=>By r
noncomputable def gK.LS (c:gK) (n:Nat) (vs:List V) (bl:List aJ) (k:RK):T:=
 GU bl c.args vs n λls a6=>cond (sY c.res&&(!(c.res.any cV.rL)||By vs)) (ab6 c.pre ls (.call c.id ls a6 (dU c.res) (zm c.res a6 (a6+(dU c.res).length) [] (cond (c.res.any cV.rL) (EN (vs.flatMap qz) bl) bl) λgd us sn=>k gd (FG us) sn))) .stuck
def apE (sh:List aQ) (b:Nat):V:= .w (.one (.sl b sh.length (.const 0) (.const 0) (.const 0) (.const 0)))
def adW (rd:Bool) (sh:List aQ) (b:Nat) (bl:List aJ):Option (List aJ):=
 match bl[b]? with
 |some ([],(t,false))=>cond rd (some (ei bl b ([.rows sh (.const 0) (.const 0) (.const 0) 1],(t,false)))) none
 |some ([.rows hk off code cap kind],t)=>cond (tB sh hk&&I.beq off (.const 0)&&I.beq cap (.const 0)&&dX 0 kind) (some bl) none
 |_=>none
def og (rd:Bool):List cV->List V->List aJ->List V×List aJ
 | .rd sh::r,v::s,bl=>match v with
  | .w (.one (.slc b 0 0 0))=>match adW rd sh b bl with
   |some tN=>(apE sh b::(og rd r s tN).1,(og rd r s tN).2)
   |none=>(v::(og rd r s bl).1,(og rd r s bl).2)
  |_=>(v::(og rd r s bl).1,(og rd r s bl).2)
 |_::r,v::s,bl=>(v::(og rd r s bl).1,(og rd r s bl).2)
 |_,vs,bl=>(vs,bl)
noncomputable def gK.E (c:gK) (n:Nat) (vs:List V) (bl:List aJ) (k:RK):T:=
 c.LS n (og (c.res.any cV.rL) c.args vs bl).1 (og (c.res.any cV.rL) c.args vs bl).2 k
section
variable {S:Nat->List Int->List Int->Prop} {L:V->Env->Prop} {w0:eL} {P:b4}
theorem Mem.zero {ρ:Env} {m:Nat->Nat} {bl:List aJ} {w:aG} {b:Nat} {sh:List aQ} {t:br} (h:Mem w0 ρ m bl w) (aZ:bl[b]?=some ([],(t,false))):Mem w0 ρ m (ei bl b ([.rows sh (.const 0) (.const 0) (.const 0) 1],(t,false))) w:=by
 have tY:b<bl.length:=(List.getElem?_eq_some_iff.1 aZ).1;obtain⟨bg,b3,r,hr,cy⟩:=h.gZ b [] (t,false) aZ rfl;have hr:=hr rfl;subst hr;have eC:∀(i:Nat) (p:aJ),(ei bl b ([.rows sh (.const 0) (.const 0) (.const 0) 1],(t,false)))[i]?=some p->(i=b/\p=([.rows sh (.const 0) (.const 0) (.const 0) 1],(t,false)))∨(i≠b/\bl[i]?=some p):=λi p hi=>by
  rw[mz,wh]at hi;split at hi
  ·rename_i iE;subst iE;simp only[tY,if_true,bj]at hi;exact .inl ⟨rfl,hi.symm⟩
  ·rename_i iE;exact .inr ⟨λe=>iE e.symm,hi⟩
 have hold:bU ρ ([]:List A)=2:=nA rfl;refine⟨h.ext,h.j7,h.mw,h.lH,h.ib,h.jU,λi lq t' hi kl=>?_,λi hk kP code' kK sJ t' hi=>?_,λi j p q hi aM he=>?_⟩
 ·rcases eC i _ hi with⟨rfl,eo⟩|⟨dA,hi⟩
  ·cases eo;cases kl
  ·exact h.gZ i lq t' hi kl
 ·rcases eC i _ hi with⟨rfl,eo⟩|⟨dA,hi⟩
  ·cases eo;intro _;simp only[I.bq];exact⟨λh0=>by omega,λ_=>⟨b3.elim .inl λh=> .inr (.inr h),_,_,_,cy,⟨di _,by rw[oa];intro _ h;simp at h,[],[],by simp[oa,cj],rfl⟩,λef=>by omega⟩⟩
  ·exact h.rws i hk kP _ kK sJ t' hi
 ·rcases eC i _ hi with⟨rfl,eo⟩|⟨dA,qL⟩
  ·rcases eC j _ aM with⟨rfl,yq⟩|⟨awm,aM⟩
   ·exact .inl rfl
   ·rcases h.inj i j _ q aZ aM he with h1|h1|h1|h1
    ·exact .inl h1
    ·simp only[hold]at h1;omega
    ·simp only[hold]at h1;omega
    ·exact .inr (.inr (.inr h1))
  ·rcases eC j _ aM with⟨Hf,yq⟩|⟨awm,aM⟩
   ·subst Hf;rcases h.inj i j p _ qL aZ he with h1|h1|h1|h1
    ·exact .inl h1
    ·simp only[hold]at h1;omega
    ·exact .inr (.inr (.inl h1))
    ·simp only[hold]at h1;omega
   ·exact h.inj i j p q qL aM he
theorem aIN {n:Nat} {ρ:Env} {m:Nat->Nat} {w:aG} {rd:Bool} {sh:List aQ} {b:Nat} {bl tN:List aJ} (h:adW rd sh b bl=some tN) (hm:Mem w0 ρ m bl w) (hb:dj n bl.length ρ bl):Mem w0 ρ m tN w/\dj n tN.length ρ tN/\tN.length=bl.length/\b<bl.length:=by
 unfold adW at h;split at h
 ·rename_i t aZ;cases rd with
  |false=>cases h
  |true=>
   simp only[cond_true,bj]at h;subst h;refine⟨hm.zero aZ,hb.set (λa ha=>?_),lz _ _ _,(List.getElem?_eq_some_iff.1 aZ).1⟩;have ha:a= .rows sh (.const 0) (.const 0) (.const 0) 1:=by simpa using ha
   subst ha;refine⟨⟨I.dF _ _,I.dF _ _,I.dF _ _⟩,?_,?_⟩
   ·simp only[I.bq];exact⟨di _,AO⟩
   ·simp only[I.bq];omega
 ·rename_i hk off code cap kind t aZ;cases hc:(tB sh hk&&I.beq off (.const 0)&&I.beq cap (.const 0)&&dX 0 kind)with
  |false=>rw[hc]at h;cases h
  |true=>
   rw[hc]at h;simp only[cond_true,bj]at h;subst h;exact⟨hm,hb,rfl,(List.getElem?_eq_some_iff.1 aZ).1⟩
 ·cases h
theorem adX {n:Nat} {ρ:Env} {m:Nat->Nat} {w:aG} {rd:Bool}:∀{ds:List cV} {vs:List V} {bl:List aJ} {xs:List aW},Mem w0 ρ m bl w->dj n bl.length ρ bl->(∀v∈vs,V.ok n bl.length ρ v)->fQ ρ m vs xs->
 Mem w0 ρ m (og rd ds vs bl).2 w/\dj n (og rd ds vs bl).2.length ρ (og rd ds vs bl).2/\(og rd ds vs bl).2.length=bl.length/\(∀v∈(og rd ds vs bl).1,V.ok n bl.length ρ v)/\fQ ρ m (og rd ds vs bl).1 xs
 |[],vs,bl,xs,hm,hb,hv,hr=>⟨hm,hb,rfl,hv,hr⟩
 |d::r,[],bl,xs,hm,hb,hv,hr=>by
  cases d<;>exact⟨hm,hb,rfl,hv,hr⟩
 |d::r,v::s,bl,xs,hm,hb,hv,hr=>by
  match xs,hr with
  |x::xs,hr=>
  have hT:Mem w0 ρ m (og rd r s bl).2 w/\dj n (og rd r s bl).2.length ρ (og rd r s bl).2/\(og rd r s bl).2.length=bl.length/\(∀u∈(v::(og rd r s bl).1),V.ok n bl.length ρ u)/\fQ ρ m (v::(og rd r s bl).1) (x::xs):=by
   obtain⟨g1,g2,g3,g4,g5⟩:=adX (rd:=rd) (ds:=r) (vs:=s) hm hb (λu hu=>hv u (eI _ hu)) hr.2;exact⟨g1,g2,g3,λu hu=>by
    rcases List.mem_cons.1 hu with rfl|hu
    ·exact hv u (by simp)
    ·exact g4 u hu,hr.1,g5⟩
  cases d with
  |d y=>exact hT
  |sM sh e=>exact hT
  |rd sh=>
   unfold og;split
   ·rename_i b _;split
    ·rename_i tN hz;obtain⟨bg,b3,cy,et⟩:=aIN hz hm hb;obtain⟨g1,g2,g3,g4,g5⟩:=adX (rd:=rd) (ds:=r) (vs:=s) bg b3 (λu hu=>by rw[cy];exact hv u (eI _ hu)) hr.2;refine⟨g1,g2,by rw[g3,cy],λu hu=>?_,?_,g5⟩
     ·rcases List.mem_cons.1 hu with rfl|hu
      ·refine⟨et,⟨I.dF _ _,I.dF _ _,I.dF _ _,I.dF _ _⟩,?_⟩;simp only[I.bq];exact⟨⟨by omega,by omega,by omega,by omega⟩,⟨by omega,by omega⟩,λh=>by omega,λ_=>by omega⟩
      ·rw[<-cy];exact g4 u hu
     ·have h0:x= .slice (some ⟨m b,0,none⟩) 0 0:=hr.1;rw[h0];simp[apE,V.rel,W.den,A.den,I.bq]
    ·exact hT
   ·exact hT
theorem Mem.low {ρ:Env} {m:Nat->Nat} {bl:List aJ} {w:aG} {b k:Nat} {sh:List aQ} {off code cap:I} {t:br×Bool} (h:Mem w0 ρ m bl w) (aZ:bl[b]?=some ([.rows sh off code cap (k+1)],t)):Mem w0 ρ m (ei bl b ([.rows sh off code cap 1],t)) w:=by
 have tY:b<bl.length:=(List.getElem?_eq_some_iff.1 aZ).1;have eC:∀(i:Nat) (p:aJ),(ei bl b ([.rows sh off code cap 1],t))[i]?=some p->(i=b/\p=([.rows sh off code cap 1],t))∨(i≠b/\bl[i]?=some p):=λi p hi=>by
  rw[mz,wh]at hi;split at hi
  ·rename_i iE;subst iE;simp only[tY,if_true,bj]at hi;exact .inl ⟨rfl,hi.symm⟩
  ·rename_i iE;exact .inr ⟨λe=>iE e.symm,hi⟩
 have af:∀(i:Nat) (p:aJ),(ei bl b ([.rows sh off code cap 1],t))[i]?=some p->∃dH,bl[i]?=some dH/\bU ρ p.1<=bU ρ dH.1/\(bU ρ dH.1≠0->True):=λi p hi=>by
  rcases eC i p hi with⟨rfl,rfl⟩|⟨dA,hi⟩
  ·refine⟨_,aZ,?_,λ_=>trivial⟩;simp only[bU];split<;>omega
  ·exact⟨p,hi,bW _,λ_=>trivial⟩
 refine⟨h.ext,h.j7,h.mw,h.lH,h.ib,h.jU,λi lq t' hi aA=>?_,λi hk kP code' kK sJ t' hi=>?_,λi j p q hi aM he=>?_⟩
 ·rcases eC i _ hi with⟨rfl,eo⟩|⟨dA,hi⟩
  ·cases eo;cases aA
  ·exact h.gZ i lq t' hi aA
 ·rcases eC i _ hi with⟨rfl,eo⟩|⟨dA,hi⟩
  ·cases eo;intro _;obtain⟨g1,g2⟩:=h.rws i _ _ _ _ (k+1) _ aZ (by omega);refine⟨g1,λhc=>?_⟩;obtain⟨g3,cells,ma,fz,g4,g5,_⟩:=g2 hc;exact⟨g3,cells,ma,fz,g4,g5,λh2=>by omega⟩
  ·exact h.rws i hk kP _ kK sJ t' hi
 ·obtain⟨dH,h1,h2,_⟩:=af i p hi;obtain⟨fA,h3,h4,_⟩:=af j q aM;rcases h.inj i j dH fA h1 h3 he with h5|h5|h5|h5
  ·exact .inl h5
  ·exact .inr (.inl ⟨by omega,by omega⟩)
  ·exact .inr (.inr (.inl (by omega)))
  ·exact .inr (.inr (.inr (by omega)))
theorem Yp {n nb:Nat} {ρ:Env} {m:Nat->Nat} {w:aG}:∀{bs:List Nat} {bl:List aJ},Mem w0 ρ m bl w->dj n nb ρ bl->Mem w0 ρ m (EN bs bl) w/\dj n nb ρ (EN bs bl)/\(EN bs bl).length=bl.length/\
 ∀(i:Nat) (p:aJ),(EN bs bl)[i]?=some p->∃dH,bl[i]?=some dH/\bU ρ p.1<=bU ρ dH.1/\(i∈bs->cl dH.1=false->bU ρ p.1<=1)
 |[],bl,h,hb=>⟨h,hb,rfl,λi p hi=>⟨p,hi,bW _,λh=>by simp at h⟩⟩
 |b::r,bl,h,hb=>by
  unfold EN;split
  ·rename_i sh off code cap k t aZ;have tY:b<bl.length:=(List.getElem?_eq_some_iff.1 aZ).1;have oy:dj n nb ρ (ei bl b ([.rows sh off code cap 1],t)):=λp hp a ha=>by
    rw[mz]at hp;rcases PA hp with hp|hp
    ·exact hb p hp a ha
    ·subst hp;simp at ha;subst ha;have h0:A.ok n nb ρ (.rows sh off code cap (k+1)):=hb _ (fC aZ) _ (by simp);exact h0
   obtain⟨g1,g2,g3,g4⟩:=Yp (bs:=r) (h.low aZ) oy;refine⟨g1,g2,by rw[g3,lz],λi p hp=>?_⟩;obtain⟨dH,h1,h2,h3⟩:=g4 i p hp;by_cases lr:i=b
   ·subst lr;rw[mz,List.getElem?_set_self tY]at h1;cases h1;refine⟨_,aZ,nf h2 (by simp only[bU];split<;>omega),λ_ _=>nf h2 (by simp only[bU];split<;>omega)⟩
   ·rw[mz,List.getElem?_set_ne (λe=>lr e.symm)]at h1;exact⟨dH,h1,h2,λhi aA=>h3 (by simpa [lr]using hi) aA⟩
  ·rename_i mv;obtain⟨g1,g2,g3,g4⟩:=Yp (bs:=r) h hb;refine⟨g1,g2,g3,λi p hp=>?_⟩;obtain⟨dH,h1,h2,h3⟩:=g4 i p hp;refine⟨dH,h1,h2,λhi aA=>?_⟩;rcases List.mem_cons.1 hi with rfl|hi
   ·obtain⟨C,t⟩:=dH;obtain⟨sh,off,code,cap,k,rfl⟩:=S5 aA;cases k with
    |zero=>
     have:bU ρ [A.rows sh off code cap 0]=0:=by simp[bU]
     simp only[this]at h2;omega
    |succ k=>exact absurd h1 (mv _ _ _ _ _ _)
   ·exact h3 hi aA
theorem amB {n nb:Nat} {ρ:Env} {m:Nat->Nat} {us:List W} {vals:List aW} (h:∀u∈us,W.ok n nb ρ u) (hm:us.map (W.den ρ m)=vals):(FG us).ok n nb ρ/\(FG us).rel ρ m (xK vals):=by
 subst hm;unfold FG xK;split
 ·exact⟨h _ (by simp),rfl⟩
 ·rename_i dA;refine⟨h,?_⟩;split
  ·rename_i x hx
   match us,dA,hx with
   |[u],dA,_=>exact absurd rfl (dA u)
  ·rfl
theorem alP:∀{vs:List V},By vs=true->vs.flatMap yX=[]
 |[],_=>rfl
 |v::r,h=>by
  unfold By at h;split at h
  ·rename_i heq;cases heq
  ·cases h
  ·rename_i dA heq;cases heq;rw[wk,alP h,hK];unfold yX;split
   ·exact(dA _ _ _ _ rfl).elim
   ·rfl
theorem alQ:∀{vs:List V} {b:Nat},By vs=true->b∈vs.flatMap qz->∃bG o ro len cap,V.w (.one (.sl b bG o ro len cap))∈vs
 |[],b,_,h=>by simp at h
 |v::r,b,h,hb=>by
  simp only[wk,zf]at hb;rcases hb with hb|hb
  ·unfold qz at hb;split at hb
   ·simp at hb;subst hb;exact⟨_,_,_,_,_,Uy ..⟩
   ·simp[By]at h
   ·simp at hb
  ·have bm:By r=true:=by
    unfold By at h;split at h
    ·rename_i heq;cases heq
    ·cases h
    ·rename_i heq;cases heq;exact h
   obtain⟨bG,o,ro,len,cap,h1⟩:=alQ bm hb;exact⟨bG,o,ro,len,cap,eI _ h1⟩
theorem gK.aeU {c:gK} {spec:List Int->List Int->Prop} {f:dL} {afS:Array aW} (hS:∀zs rs,spec zs rs->S c.id zs rs) (n:Nat) (vs:List V) (bl:List aJ) (k:RK) (G:fe) (ρ:Env) (m:Nat->Nat) (w:aG) (xs:List aW) (R':Ending->aG->Prop)
 (hc:∀zs,ab (dU c.args) zs->KC c.pre zs->mM (uM w0 ρ m bl (vs.flatMap qz) (vs.flatMap yX)) (λ_=>False) w c.args zs xs->
   nJ P f afS w λe w'=>w.Extends w'/\∃rs us,ab (dU c.res) rs/\spec zs rs/\mM (λg=>uM w0 ρ m bl (vs.flatMap qz) (vs.flatMap yX) g∨w.heap.size<=g) (λg=>w.heap.size<=g) w' c.res rs us/\e= .returned (xK us))
 (hb:dj n bl.length ρ bl) (hw:Mem w0 ρ m bl w) (hv:∀v∈vs,V.ok n bl.length ρ v) (hr:fQ ρ m vs xs) (ag:(c.LS n vs bl k).holds S L G ρ) (af:Ge S L w0 k n bl.length ρ m G R'):
 nJ P f afS w R':=by
 unfold gK.LS at ag;obtain⟨aN,a6,ls,ia,gk,⟨g1,g2,g3⟩,ag⟩:=QV (S:=S) (L:=L) hb hw hv hr G _ ag;cases ak:(sY c.res&&(!(c.res.any cV.rL)||By vs))with
 |false=>rw[ak]at ag;exact ag.elim
 |true=>
  rw[ak]at ag;simp only[cond_true]at ag;obtain⟨rJ,ag⟩:=preM_holds ag;simp only[T.holds]at ag;simp only[bx,D3,cI]at ak;refine(hc _ g2 rJ (g3 _ λ_ h=>h)).mono ?_
  rintro e w' ⟨he,rs,us,r1,r2,ij,rfl⟩
  have ag:=nj ag r1 (hS _ _ r2);have p4:=hb.ext gk ia (bW bl.length);have axj:=(hw.grow he).sP hb gk;have eb:agree a6 aN (bR aN a6 rs):=agree.bR rs a6 aN;have qK:=p4.ext eb (LG a6 (dU c.res).length) (bW bl.length);have ZU:=axj.sP p4 eb;have aO:kf (bR aN a6 rs) a6 rs:=kf.bR aN a6 rs;have Rx:rs.length=(dU c.res).length:=dR r1;have G5:=gk.trans eb ia;have YP:e6 n bl.length ρ m (a6+(dU c.res).length) bl.length (bR aN a6 rs) m:=⟨by omega,G5,bW _,λ_ _=>rfl⟩;have jt:∀(i:Nat) (p:aJ),bl[i]?=some p->bU (bR aN a6 rs) p.1=bU ρ p.1:=λi p hi=>yD (hb p (fC hi)) G5;have Y9:∀(i:Nat) (p:aJ),bl[i]?=some p->w.heap.size<=m i->bU ρ p.1=0:=λi p hi td=>by
   by_cases h0:bU ρ p.1=0
   ·exact h0
   ·have:=hw.lt hi h0;omega
  have fin:∀bt:List aJ,dj (a6+(dU c.res).length) bt.length (bR aN a6 rs) bt->Mem w0 (bR aN a6 rs) m bt w'->bt.length=bl.length->
   (∀(i:Nat) (p:aJ),bt[i]?=some p->(uM w0 ρ m bl (vs.flatMap qz) (vs.flatMap yX) (m i)∨w.heap.size<=m i)->(c.res.any cV.rL)=true->bU (bR aN a6 rs) p.1<=1)->
   (∀(i:Nat) (p:aJ),bt[i]?=some p->w.heap.size<=m i->bU (bR aN a6 rs) p.1=0)->
   (zm c.res a6 (a6+(dU c.res).length) [] bt λgd us sn=>k gd (FG us) sn).holds S L G (bR aN a6 rs)->R' (.returned (xK us)) w':=λbt oy yy hlen gG avs ag=>by
   have hF:∀g,(uM w0 ρ m bl (vs.flatMap qz) (vs.flatMap yX) g∨w.heap.size<=g)->w0.ex g∨w0.ro g∨w0.r.heap.size<=g:=λg hg=>by
    rcases hg with hg|hg
    ·exact hg.2
    ·exact .inr (.inr (nf hw.ib hg))
   have cP:∀g,w.heap.size<=g->w0.b.heap.size<=g/\w0.r.heap.size<=g:=λg hg=>⟨nf hw.ext.size hg,nf hw.ib hg⟩;have h1:(c.res.all λb=> !b.rL)=true∨∀(i:Nat) (p:aJ),bt[i]?=some p->(uM w0 ρ m bl (vs.flatMap qz) (vs.flatMap yX) (m i)∨w.heap.size<=m i)->bU (bR aN a6 rs) p.1<=1:=by
    cases zQ:c.res.any cV.rL with
    |true=>exact .inr λi p hi hf=>gG i p hi hf zQ
    |false=>
     left
     rw[LA];intro b hb;cases iR:b.rL with
     |false=>rfl
     |true=>rw[List.any_eq_true.2 ⟨b,hb,iR⟩]at zQ;cases zQ
   obtain⟨n',ae,m',pA,sn,cG,cC,dE,gP,gW,ie⟩:=Gq (S:=S) (L:=L) hF cP (l:=c.res) (us:=[]) (vals:=us) ak.1 oy yy aO r1 (bW _) ij h1 (.inr avs) (λu hu=>by simp at hu) ag;have pj:=amB (m:=m') gW (by simpa using gP);exact af n' (FG pA) sn G ae m' w' (xK us) (YP.trans (hlen▸cG)) (gr.refl _ _) pj.1 pj.2 cC dE ie
  cases zQ:c.res.any cV.rL with
  |false=>
   rw[zQ]at ag;exact fin bl qK ZU rfl (λ_ _ _ _ h=>by rw[zQ]at h;cases h) (λi p hi td=>by rw[jt i p hi];exact Y9 i p hi td) ag
  |true=>
   rw[zQ]at ag ak;obtain⟨f1,f2,f3,f4⟩:=Yp (bs:=vs.flatMap qz) ZU qK;have yt:By vs=true:=by
    rcases ak.2 with h|h
    ·cases h
    ·exact h
   refine fin _ (by rw[f3];exact f2) f1 f3 (λi p hi hf _=>?_) (λi p hi td=>?_) ag
   ·obtain⟨dH,h1,h2,h3⟩:=f4 i p hi;rw[jt i dH h1]at h2;rcases hf with⟨⟨b,ai1,avt,q,zP,wU,awH⟩,_⟩|td
    ·obtain⟨bG,o,ro,len,cap,mY⟩:=alQ yt ai1;rcases hw.inj i b dH q h1 zP (by rw[avt])with h5|h5|h5|h5
     ·subst h5;rw[h1]at zP;cases zP;cases aA:cl dH.1 with
      |false=>exact h3 ai1 aA
      |true=>
       have:=awH aA;rw[alP yt]at this;simp at this
     ·omega
     ·omega
     ·exact absurd h5 wU
    ·have:=Y9 i dH h1 td;omega
   ·obtain⟨dH,h1,h2,_⟩:=f4 i p hi;rw[jt i dH h1]at h2;have:=Y9 i dH h1 td;omega
theorem gK.apU {c:gK} {spec:List Int->List Int->Prop} (hc:c.bD P w0.b spec) (hS:∀zs rs,spec zs rs->S c.id zs rs) (n:Nat) (vs:List V) (bl:List aJ) (k:RK) (G:fe) (ρ:Env) (m:Nat->Nat) (w:aG) (xs:List aW) (R':Ending->aG->Prop)
 (hb:dj n bl.length ρ bl) (hw:Mem w0 ρ m bl w) (hv:∀v∈vs,V.ok n bl.length ρ v) (hr:fQ ρ m vs xs) (ag:(c.LS n vs bl k).holds S L G ρ) (af:Ge S L w0 k n bl.length ρ m G R'):
 (callFunc c.f xs.toArray).run P w= .ok (.enter c.f xs.toArray) w/\nJ P c.f xs.toArray w R':=by
 exact⟨hc.1 _ _,gK.aeU hS n vs bl k G ρ m w xs R' (λzs h1 h2 h3=>hc.2 _ w xs zs hw.ext h1 h2 h3) hb hw hv hr ag af⟩
theorem gK.LV {c:gK} {spec:List Int->List Int->Prop} (hc:c.bD P w0.b spec) (hS:∀zs rs,spec zs rs->S c.id zs rs) (n:Nat) (vs:List V) (bl:List aJ) (k:RK) (G:fe) (ρ:Env) (m:Nat->Nat) (w:aG) (xs:List aW) (R':Ending->aG->Prop)
 (hb:dj n bl.length ρ bl) (hw:Mem w0 ρ m bl w) (hv:∀v∈vs,V.ok n bl.length ρ v) (hr:fQ ρ m vs xs) (ag:(c.E n vs bl k).holds S L G ρ) (af:Ge S L w0 k n bl.length ρ m G R'):
 (callFunc c.f xs.toArray).run P w= .ok (.enter c.f xs.toArray) w/\nJ P c.f xs.toArray w R':=by
 obtain⟨g1,g2,g3,g4,g5⟩:=adX (rd:=c.res.any cV.rL) (ds:=c.args) hw hb hv hr;exact c.apU hc hS n _ _ k G ρ m w xs R' g2 g1 (λv hv=>by rw[g3];exact g4 v hv) g5 ag (by rw[g3];exact af)
end
end Go.b9
namespace Go.b9
open M
def O.bN (n:Nat):O->Prop
 |l x=>x.bN n
 |b x=>x.bN n
theorem O.cf {n:Nat} {ρ ae:Env} (ha:agree n ρ ae):∀{o:O},o.bN n->o.den ae=o.den ρ
 | .l x,h=>I.cf ha h
 | .b x,h=>by simp only[O.den];rw[bH.cf ha h]
theorem al5 {k:dW} {n nb:Nat} {ρ:Env}:∀{l:List A} {os:List O},l6 k l=some os->(∀a∈l,A.ok n nb ρ a)->∀o∈os,O.bN n o
 |[],os,h,_=>by simp[l6]at h;subst h;intro x hx;simp at hx
 | .int bI x::s,os,h,cb=>by
  simp only[l6]at h;cases hc:decide (k=bI)with
  |false=>simp[hc]at h
  |true=>
   cases hr:l6 k s with
   |none=>simp[hc,hr]at h
   |some r'=>
    simp only[hc,hr,cond_true,bj]at h;subst h;intro y hy;rcases List.mem_cons.1 hy with hy|hy
    ·rw[hy];have h0:A.ok n nb ρ (.int bI x):=cb _ (Uy ..);have h0:x.ok n ρ:=h0;exact h0.1
    ·exact al5 hr (λa ha=>cb a (eI _ ha)) y hy
 | .bool _::_,_,h,_=>by simp[l6]at h
 | .ptr .. ::_,_,h,_=>by simp[l6]at h
 | .q1 .. ::_,_,h,_=>by simp[l6]at h
 | .gptr .. ::_,_,h,_=>by simp[l6]at h
 | .slc .. ::_,_,h,_=>by simp[l6]at h
 | .con _::_,_,h,_=>by simp[l6]at h
 | .str _::_,_,h,_=>by simp[l6]at h
 | .rows .. ::_,_,h,_=>by simp[l6]at h
 | .sl .. ::_,_,h,_=>by simp[l6]at h
 | .ep .. ::_,_,h,_=>by simp[l6]at h
theorem aQ.aA7 {c:aQ} {a:A} {o:O} {n nb:Nat} {ρ:Env} (h:c.out a=some o) (ha:a.ok n nb ρ):o.bN n:=by
 unfold aQ.out at h;split at h
 ·rename_i k _ _ bI x;cases af:decide (k=bI)with
  |false=>simp[af]at h
  |true=>
   simp only[af,cond_true,bj]at h;subst h;have ha:x.ok n ρ:=ha;exact ha.1
 ·simp only[bj]at h;subst h;exact ha.1
 ·simp only[bj]at h;subst h;exact ha
 ·cases h
theorem al8 {n nb:Nat} {ρ:Env}:∀{d:List aQ} {l:List A} {os:List O},vj d l=some os->(∀a∈l,A.ok n nb ρ a)->∀o∈os,O.bN n o
 |[],[],os,h,_=>by simp[vj]at h;subst h;intro x hx;simp at hx
 |c::d,a::s,os,h,cb=>by
  simp only[vj]at h;cases h1:c.out a with
  |none=>simp[h1]at h
  |some o=>
   cases h2:vj d s with
   |none=>simp[h1,h2]at h
   |some al3=>
    simp only[h1,h2,bj]at h;subst h;intro y hy;rcases List.mem_cons.1 hy with hy|hy
    ·rw[hy];exact aQ.aA7 h1 (cb a (Uy ..))
    ·exact al8 h2 (λb hb=>cb b (eI _ hb)) y hy
 |[],_::_,_,h,_=>by simp[vj]at h
 |_::_,[],_,h,_=>by simp[vj]at h
theorem aA6 {d:D} {u:W} {os:List O} {n nb:Nat} {ρ:Env} (h:Dp d u=some os) (hu:u.ok n nb ρ):∀o∈os,O.bN n o:=by
 unfold Dp at h;split at h
 ·rename_i k _ _ bI x;cases af:decide (k=bI)with
  |false=>simp[af]at h
  |true=>
   simp only[af,cond_true,bj]at h;subst h;have hu:x.ok n ρ:=hu;intro o aA;simp at aA;subst aA;exact hu.1
 ·simp only[bj]at h;subst h;intro o aA;simp at aA;subst aA;exact hu
 ·rename_i k n' _ _ l;cases af:aP l.length n' with
  |false=>simp[af]at h
  |true=>
   simp only[af,cond_true]at h;exact al5 h hu
 ·simp only[bj]at h;subst h;intro o aA;simp at aA;subst aA;exact hu.1
 ·exact al8 h hu
 ·cases h
noncomputable def KS (bl:List aJ):cV->W->M (List O)
 | .d x,u=>match Dp x u with|some os=>pure os|none=>fail
 | .rd sh,u=>bind (Tk sh bl (.w u)) λl=>pure [.l l]
 | .sM sh e,u=>bind (abW sh e bl (.w u)) λl=>pure [.l l]
noncomputable def Tn (bl:List aJ):List cV->List W->M (List O)
 |[],[]=>pure []
 |b::r,u::s=>bind (KS bl b u) λa=>bind (Tn bl r s) λc=>pure (a++c)
 |_,_=>fail
noncomputable def OU (bl:List aJ) (ds:List cV) (v:V):M (List O):=
 match v with
 | .w u=>match ds with|[d]=>KS bl d u|_=>fail
 | .jh l=>match ds with|[_]=>fail|_=>Tn bl ds l
 |_=>fail
def O.toW:O->W
 |l x=> .one (.int .u8 ⟨x,0,0⟩)
 |b x=> .one (.bool x)
def W.toO:W->O
 | .one (.int _ x)=> .l x.l
 | .one (.bool e)=> .b e
 |_=> .l (.const 0)
theorem O.toW_toO (o:O):o.toW.toO=o:=by cases o<;>rfl
def Fm (os:List O):V:= .jh (os.map O.toW)
def zi (K:List Int->Prop) (v:V) (ρ:Env):Prop:=
 match v with
 | .jh l=>K (l.map λu=>u.toO.den ρ)
 |_=>False
theorem Wi {K:List Int->Prop} {os:List O} {ρ:Env}:zi K (Fm os) ρ=K (os.map (O.den ρ)):=by
 unfold zi Fm;simp only[pD]
 congr 1
 exact kU λo _=>by simp[Pm,O.toW_toO]
section
variable {S:Nat->List Int->List Int->Prop} {L:V->Env->Prop} {w0:eL} {P:b4} {w:aG}
theorem Gg.mono {N LY:Nat->Prop} {sh:List aQ} {e:br} {rows:List (List Int)} {v:aW} (h:Gg N w sh e rows v) (cP:∀g,N g->LY g):Gg LY w sh e rows v:=by
 rcases h with h|⟨g,cap,cells,h1,h2,h3,h4⟩
 ·exact .inl h
 ·exact .inr ⟨g,cap,cells,h1,h2,cP g h3,h4⟩
def VP (w0:eL) (g:Nat):Prop:=w0.ex g∨w0.ro g∨w0.r.heap.size<=g
theorem amz {d:cV} {u:W} {n:Nat} {ρ:Env} {m:Nat->Nat} {bl:List aJ} (hex:∀g,¬w0.ex g) (hb:dj n bl.length ρ bl) (hw:Mem w0 ρ m bl w) (hu:u.ok n bl.length ρ):
 aC S L (KS bl d u) n ρ λae n' os=>(∀o∈os,O.bN n' o)/\os.length=d.num/\(d.Hy=false->ab d.bds (os.map (O.den ae)))/\∀zs,d.at (VP w0) (λg=>w0.r.heap.size<=g) w (os.map (O.den ae)++zs) (u.den ρ m):=by
 cases d with
 |d x=>
  unfold KS;cases aA:Dp x u with
  |none=>simp only[aA];exact aC.fail
  |some os=>
   simp only[aA];have:=abV (ρ:=ρ) (m:=m) aA;exact aC.pure ⟨aA6 aA hu,this.1,λh=>(by simp[cV.Hy]at h),λzs=>(this.2 zs).symm⟩
 |rd sh=>
  unfold KS;refine(amq (v:= .w u) hb hw hu rfl).bind λaN a6 l hn ha ⟨g1,g2,g3⟩=>aC.pure ⟨λo aA=>by simp at aA;subst aA;exact g1,rfl,λ_=>⟨g2.1,g2.2,trivial⟩,λzs=>?_⟩;exact g3.mono λg hg=>hg.2
 |sM sh e=>
  unfold KS;refine(aA9 (v:= .w u) hex hb hw hu rfl).bind λaN a6 l hn ha ⟨g1,g2,g3⟩=>aC.pure ⟨λo aA=>by simp at aA;subst aA;exact g1,rfl,λ_=>⟨g2.1,g2.2,trivial⟩,λzs=>g3⟩
theorem ay5 {n:Nat} {ρ ae:Env} {os:List O} (h:∀x∈os,O.bN n x) (ha:agree n ρ ae):os.map (O.den ae)=os.map (O.den ρ):=kU λx hx=>O.cf ha (h x hx)
theorem amA {m:Nat->Nat} {bl:List aJ} (hex:∀g,¬w0.ex g):∀{ds:List cV} {us:List W} {n:Nat} {ρ:Env},dj n bl.length ρ bl->Mem w0 ρ m bl w->(∀u∈us,W.ok n bl.length ρ u)->
 aC S L (Tn bl ds us) n ρ λae n' os=>(∀o∈os,O.bN n' o)/\mM (VP w0) (λg=>w0.r.heap.size<=g) w ds (os.map (O.den ae)) (us.map (W.den ρ m))
 |[],[],n,ρ,_,_,_=>aC.pure ⟨λ_ h=>by simp at h,trivial⟩
 |b::r,u::s,n,ρ,hb,hw,hu=>by
  unfold Tn;refine(amz hex hb hw (hu u (by simp))).bind λaN a6 a hn ha ⟨g1,g2,_,g3⟩=>?_;refine(amA (ds:=r) (us:=s) hex (hb.ext ha hn (bW _)) (hw.sP hb ha) (λx hx=>(hu x (eI _ hx)).ext ha hn (bW _))).bind λb5 gd c gm eb ⟨k1,k2⟩=>aC.pure ⟨λo aA=>?_,?_⟩
  ·rcases List.mem_append.1 aA with aA|aA
   ·have:=g1 o aA;cases o with
    |l x=>exact I.bN.mono this gm
    |b x=>exact bH.bN.mono gm this
   ·exact k1 o aA
  ·rw[jE,ay5 g1 eb];refine⟨g3 _,?_⟩;rw[<-g2,<-pG (f:=O.den aN) (as:=a),F3];have e:s.map (W.den ρ m)=s.map (W.den aN m):=kU λx hx=>(W.nW (hu x (eI _ hx)) ha (λ_ _=>rfl)).symm;rw[e];exact k2
 |[],_::_,_,_,_,_,_=>aC.fail
 |_::_,[],_,_,_,_,_=>aC.fail
theorem acy {ds:List cV} {v:V} {val:aW} {n:Nat} {ρ:Env} {m:Nat->Nat} {bl:List aJ} (hex:∀g,¬w0.ex g) (hb:dj n bl.length ρ bl) (hw:Mem w0 ρ m bl w) (hv:v.ok n bl.length ρ) (hr:v.rel ρ m val):
 aC S L (OU bl ds v) n ρ λae n' os=>∃us,val=xK us/\mM (VP w0) (λg=>w0.r.heap.size<=g) w ds (os.map (O.den ae)) us:=by
 unfold OU;split
 ·rename_i u;split
  ·rename_i d;refine(amz hex hb hw hv).mono λaN a6 os hn ha ⟨g1,g2,_,g3⟩=>⟨[u.den ρ m],hr,?_,trivial⟩;have:=g3 []
   rwa [hK]at this
  ·exact aC.fail
 ·rename_i l;split
  ·exact aC.fail
  ·rename_i dA;refine(amA (ds:=ds) hex hb hw hv).mono λaN a6 os hn ha ⟨g1,g2⟩=>⟨l.map (W.den ρ m),?_,g2⟩;have hr:val= .tuple (l.map (W.den ρ m)).toArray:=hr;rw[hr];unfold xK;split
   ·rename_i x hx;exfalso;have hl:l.length=1:=by have:=congrArg pE hx;simpa using this
    match ds,l,hl,g2,dA with
    |[d],[u],_,_,dA=>exact dA d rfl
    |[],[u],_,g2,_=>simp[mM]at g2
    |_::_::_,[u],_,g2,_=>simp[mM]at g2
   ·rfl
 ·exact aC.fail
def N7 (i:Nat):I:=⟨0,[(1,i)]⟩
theorem abl (ρ:Env) (zs:List Int):((ht zs.length).map N7).map (·.den (bR ρ 0 zs))=zs:=by
 refine akZ (by simp) λj aM=>?_;have aM:j<zs.length:=by simpa using aM
 have:=kf.bR ρ 0 zs j aM;rw[zd]at this;simp[N7,I.den,kk,List.getD,aM]at this⊢;exact this
noncomputable def gK.tree (bc:qq) (P:b4) (gl:fP) (cal:gL) (li:dL->Nat->Option hN) (rounds d:Nat) (c:gK):T:=
 cond (sY c.args&& !(c.args.any cV.tj)) (Tc c.pre ((ht (dU c.args).length).map N7) (zm c.args 0 (dU c.args).length [] [] λn us bl=>I9 bc P gl cal li rounds d c.f n (us.map V.w) bl λn' v bt=>OU bt c.res v n' λos _=> .leaf (Fm os))) .stuck
theorem Wb {ρ:Env} {m:Nat->Nat}:∀{us:List W} {xs:List aW},us.map (W.den ρ m)=xs->fQ ρ m (us.map V.w) xs
 |[],[],_=>trivial
 |u::us,x::xs,h=>by
  simp only[du,qn]at h;exact⟨h.1.symm,Wb h.2⟩
 |[],_::_,h=>by simp at h
 |_::_,[],h=>by simp at h
noncomputable def lV:List gK->qq
 |[],_=>none
 |c::r,f=>cond (aP c.f f) (some c.E) (lV r f)
theorem sm {wb:aG} {r:aG} {ex ro:Nat->Prop}:∀{l:List gK},(∀c∈l,c.bD P wb (S c.id))->xZ S L ⟨wb,r,ex,ro,[]⟩ P (lV l)
 |[],_=>λf g h=>by cases h
 |c::l,h=>λf g hf=>by
  unfold lV at hf;cases hb:aP c.f f with
  |true=>
   rw[hb]at hf;simp only[cond_true,bj]at hf;have:=b1 hb;subst this;subst hf;intro n vs bl k G ρ m w xs R' h1 h2 h3 h4 h5 h6;exact gK.LV (w0:=⟨wb,r,ex,ro,[]⟩) (h c (by simp)) (λ_ _ h=>h) n vs bl k G ρ m w xs R' h1 h2 h3 h4 h5 h6
  |false=>
   rw[hb]at hf;exact sm (λc hc=>h c (eI _ hc)) f g hf
theorem gK.Oj {wb:aG} {gl:fP} {c:gK} {bc:qq} {cal:gL} {li:dL->Nat->Option hN} {rounds d:Nat} {spec:List Int->List Int->Prop} (hm:P.follows .mixedOrders=true) (dy:∀r ex ro,iM S P gl ⟨wb,r,ex,ro,[]⟩ cal) (hg:gM gl ⟨wb,wb,λ_=>False,λ_=>False,[]⟩)
 (n0:∀(L:V->Env->Prop) (r:aG) (ro:Nat->Prop),xZ S L ⟨wb,r,λ_=>False,ro,[]⟩ P bc) (hf:∀args w,(callFunc c.f args).run P w= .ok (.enter c.f args) w)
 (aD:kC (dU c.args) λzs=>(c.tree bc P gl cal li rounds d).holds S (zi λrs=>ab (dU c.res) rs/\spec zs rs) (λ_ _=>False) (bR (λ_=>0) 0 zs)):c.bD P wb spec:=by
 refine⟨hf,λF w vs zs hw hz Nz hat=>?_⟩;have ag:=nj aD hz;have qR:=dR hz;unfold gK.tree at ag;cases ak:(sY c.args&& !(c.args.any cV.tj))with
 |false=>rw[ak]at ag;exact ag.elim
 |true=>
  rw[ak]at ag;simp only[cond_true]at ag;have ag:=preA_holds ag (by rw[<-qR,abl];exact Nz);simp only[bx,cI]at ak;have mY:Mem ⟨wb,w,λ_=>False,F,[]⟩ (bR (λ_=>0) 0 zs) (λ_=>0) [] w:=⟨hw,rfl,rfl,rfl,bW _,λ_ _ _=>rfl,λi cs t h=>by simp at h,λi sh off code cap kind t h=>by simp at h,λi j p q h=>by simp at h⟩;have jM:(c.args.all λb=> !b.tj)=true:=by
   rw[LA];intro b hb;cases iR:b.tj with
   |false=>rfl
   |true=>rw[List.any_eq_true.2 ⟨b,hb,iR⟩]at ak;cases ak.2
  obtain⟨n',ae,m',us,bl,cG,cC,dE,gP,gW,ie⟩:=Gq (S:=S) (L:=_) (w0:=⟨wb,w,λ_=>False,F,[]⟩) (F:=F) (N:=λ_=>False) (λg hg=> .inr (.inl hg)) (λg hg=>hg.elim) (l:=c.args) (s:=0) (us:=[]) (bl:=[]) (m:=λ_=>0) ak.1 (λp hp=>by simp at hp) mY (kf.bR _ 0 zs) hz (by omega) hat (.inr λi p h=>by simp at h) (.inl jM) (λu hu=>by simp at hu) ag;have Zi:gM gl ⟨wb,w,λ_=>False,F,[]⟩:=hg;refine(Qt (S:=S) (w0:=⟨wb,w,λ_=>False,F,[]⟩) rfl hm (dy w (λ_=>False) F) Zi (n0 _ _ _) d c.f n' (us.map V.w) bl _ _ ae m' w vs _ cC dE (λv hv=>by
   obtain⟨u,hu,rfl⟩:=List.mem_map.1 hv;exact gW u hu) (Wb (by simpa using gP)) ie ?_).2
  intro gd v bt eV b5 gw w' val h1 h2 h3 h4 h5 h6 h7;obtain⟨iL,ur,os,CV,wR,⟨xs,th,Bk⟩,hl⟩:=acy (S:=S) (w0:=⟨wb,w,λ_=>False,F,[]⟩) (λg hg=>hg) h5 h6 h3 h4 eV _ h7;have hl:zi _ (Fm os) iL:=hl;rw[Wi]at hl;refine⟨?_,os.map (O.den iL),xs,hl.1,hl.2,?_,by rw[th]⟩
  ·have tZ:∀i:Nat,i<w.heap.size->w'.heap[i]?=w.heap[i]?:=λi hi=>h6.jU i hi λh=>h;exact⟨h6.j7,h6.mw,h6.lH,h6.ib,λa ha=>by simp only[nK,tZ a.block ha],λa ha=>by simp only[D4,tZ a.block ha],tZ⟩
  ·exact I1 (λg hg=>by
    rcases hg with hg|hg|hg
    ·exact hg.elim
    ·exact .inl hg
    ·exact .inr hg) (λg hg=>hg) Bk
where
 I1 {F Eb N LY:Nat->Prop} {w:aG} (hF:∀g,F g->Eb g) (cP:∀g,N g->LY g):∀{ds:List cV} {zs:List Int} {vs:List aW},mM F N w ds zs vs->mM Eb LY w ds zs vs
 |[],_,[],_=>trivial
 | .d x::r,zs,v::vs,h=>⟨h.1,I1 hF cP h.2⟩
 | .rd sh::r,zs,v::vs,h=>⟨Cs.mono h.1 hF,I1 hF cP h.2⟩
 | .sM sh e::r,zs,v::vs,h=>⟨Gg.mono h.1 cP,I1 hF cP h.2⟩
 |[],_,_::_,h=>h.elim
 |_::_,_,[],h=>by simp[mM]at h
end
def cV.nums:cV->List Nat
 | .d x=>x.nums
 |_=>[1]
def Dl (ds:List cV):List Nat:=ds.flatMap cV.nums
def Wh (ds:List cV) (K:List (List Int)->Prop) (v:V) (st:kh) (ba:kg):Prop:=
 match v with
 | .jh l=>K ((cD (Dl ds) (l.map W.toO)).map (K0 st ba))
 |_=>False
theorem aqM {ds:List cV} {K:List (List Int)->Prop} (v:V) (ρ:Env) (st:kh) (ba:kg) (aD:sk ρ st ba) (h:Wh ds K v st ba):zi (λrs=>K (cD (Dl ds) rs)) v ρ:=by
 unfold Wh at h;unfold zi;split at h
 ·rename_i l;have e:l.map (λu=>u.toO.den ρ)=(l.map W.toO).map (O.den ρ):=by simp
  simp only[e];rw[TD]
  rwa [show(cD (Dl ds) (l.map W.toO)).map (K0 st ba)=(cD (Dl ds) (l.map W.toO)).map (List.map (O.den ρ)) from kU λo _=>anb aD o]at h
 ·exact h.elim
def o9 (sh:Nat->List Nat×List Nat) (lsh:Nat->List Nat) (S:Nat->List (List Int)->List (List Int)->Prop) (K:List (List Int)->List (List Int)->Prop) (lens:List Nat) (bds:List (Int×Int)) (ds:List cV) (t:T):Prop:=
 Ej lens 0 bds (λst ba zs=>t.p8 sh lsh S (Wh ds (K zs)) (λ_ _=>False) st ba) [] []
theorem WA {sh:Nat->List Nat×List Nat} {lsh:Nat->List Nat} {S:Nat->List (List Int)->List (List Int)->Prop} {K:List (List Int)->List (List Int)->Prop} {lens:List Nat} {bds:List (Int×Int)} {ds:List cV} {t:T}
 (h:o9 sh lsh S K lens bds ds t):kC bds λzs=>t.holds (jK sh S) (zi λrs=>K (cD lens zs) (cD (Dl ds) rs)) (λ_ _=>False) (bR (λ_=>0) 0 zs):=by
 refine tM λzs hi=>?_;obtain⟨st,ba,h1,h2⟩:=IZ h (show sk (λ_=>0) [] [] from⟨trivial,λ_=>rfl⟩) hi;exact qO (λv ρ st ba aD hl=>aqM v ρ st ba aD hl) t _ _ _ st ba (λ_ _ hf=>hf.elim) h1 h2
end Go.b9
namespace Go.b9
open M
structure AN where
 c:bJ
 pre:Nat
def AN.bD (P:b4) (wb:aG) (q:AN) (spec:List Int->List Int->Prop):Prop:=
 ∀zs,ab (aY q.c.args) zs->ay q.pre zs->∃rs,ab (aY q.c.res) rs/\spec zs rs/\∀w,wb.Extends w->x1 P q.c.f (pB q.c.args zs).toArray w (oO q.c.res rs)
noncomputable def AN.M (q:AN):List aJ->List V->M V:=λ_ vs n k=>
 match tX q.c.args vs with
 |some l=> .s4 q.pre l (.call q.c.id l n (aY q.c.res) (k (H6 q.c.res n) (n+(aY q.c.res).length)))
 |none=> .stuck
noncomputable def jR (KG:List AN) (cons:List bJ):gL:=λf=>
 match KG.filter (λq=>aP f q.c.f)with
 |[]=>Qs cons f
 |l=>some λbl vs n k=>match l.find? (λq=>(tX q.c.args vs).isSome)with
  |some q=>q.M bl vs n k
  |none=>match Qs cons f with
   |some g=>g bl vs n k
   |none=> .stuck
section
variable {S:Nat->List Int->List Int->Prop} {P:b4} {gl:fP} {w0:eL}
theorem AN.snd {q:AN} {spec:List Int->List Int->Prop} (hc:q.bD P w0.b spec) (hS:∀zs rs,spec zs rs->S q.c.id zs rs) (L:V->Env->Prop) (n:Nat) (ρ:Env) (m:Nat->Nat) (bl:List aJ) (vs:List V) (xs:List aW)
 (lu:∀v∈vs,V.ok n bl.length ρ v) (hr:fQ ρ m vs xs):aC S L (q.M bl vs) n ρ λae n' v=>v.ok n' bl.length ae/\∃val,v.rel ae m val/\∀w,Mem w0 ρ m bl w->x1 P q.c.f xs.toArray w val:=by
 intro G k af;unfold AN.M at af;cases hl:tX q.c.args vs with
 |none=>simp[hl,T.holds]at af
 |some l=>
  simp only[hl]at af;obtain⟨mW,af⟩:=af;obtain⟨h1,h2⟩:=QX hl lu hr;obtain⟨rs,r1,r2,ij⟩:=hc _ h1 mW;have ag:=Qu af r1 (hS _ _ r2);have hlen:=dR r1;have pj:=To (m:=m) (nb:=bl.length) (N:=n+(aY q.c.res).length) r1 (kf.bR ρ n rs) (bW _);refine⟨_,_,_,LG _ _,agree.bR rs n ρ,⟨pj.1,_,pj.2,λw hw=>?_⟩,ag⟩;rw[h2]at ij;exact ij w hw.ext
theorem nU {KG:List AN} {cons:List bJ} (ak:∀q∈KG,q.bD P w0.b (S q.c.id)) (hc:∀c∈cons,c.AM P w0.b (S c.id)):iM S P gl w0 (jR KG cons):=by
 intro f g kL L n ρ m bl vs xs h1 h2 h3 h4;unfold jR at kL;split at kL
 ·exact ahf (gl:=gl) hc f g kL L n ρ m bl vs xs h1 h2 h3 h4
 ·rename_i l hl;simp only[bj]at kL;subst kL;intro G k af;simp only at af;split at af
  ·rename_i q M8;have eS:=List.mem_filter.1 (ID M8);have Hc:=b1 eS.2;subst Hc;exact AN.snd (ak q eS.1) (λ_ _ h=>h) L n ρ m bl vs xs h3 h4 G k af
  ·split at af
   ·rename_i ns Bh;exact ahf (gl:=gl) hc f ns Bh L n ρ m bl vs xs h1 h2 h3 h4 G k af
   ·exact af.elim
end
end Go.b9
namespace Go.b9
section
variable {S:Nat->List Int->List Int->Prop} {P:b4} {gl:fP} {wb:aG}
def zj (args res:List D) (spec:List Int->List Int->Prop):Prop:=∀zs rs cX,ab (aY args) zs->ab (aY res) rs->ab (aY res) cX->spec zs rs->spec zs cX->oO res rs=oO res cX
theorem bJ.azy {c:bJ} {cal:gL} {li:dL->Nat->Option hN} {rounds d:Nat} {spec:List Int->List Int->Prop} (hm:P.follows .mixedOrders=true) (dy:∀r ex ro,iM S P gl ⟨wb,r,ex,ro,[]⟩ cal) (hg:gM gl ⟨wb,wb,λ_=>False,λ_=>False,[]⟩)
 (hf:∀args w,(callFunc c.f args).run P w= .ok (.enter c.f args) w) (hu:zj c.args c.res spec)
 (aD:kC (aY c.args) λzs=>(c.tree P gl cal li rounds d).holds S (ki c.res λrs=>ab (aY c.res) rs/\spec zs rs) (λ_ _=>False) (bR (λ_=>0) 0 zs)):c.bD P wb spec:=by
 refine⟨hf,λzs hz=>?_⟩;have h0:=bJ.calls hm dy hg hz (nj aD hz) wb (sW wb);obtain⟨e,w',v,ae,m,val,h1,h2,h3,h4⟩:=Calls.some h0;obtain⟨rs,⟨hb,hs⟩,hv⟩:=Ec h3 h2;refine⟨rs,hb,hs,λw hw=>?_⟩;refine(bJ.calls hm dy hg hz (nj aD hz) w hw).mono λe w' ⟨v,ae,m,val,h1,h2,h3,h4⟩=>?_;obtain⟨cX,⟨oy,NG⟩,Bj⟩:=Ec h3 h2;rw[hu zs cX rs hz oy hb NG hs]at Bj;exact⟨by rw[h1,Bj],h4⟩
end
theorem uD {α:Type}:∀(nC:List Nat) (l:List α),(cD nC l).flatten=l
 |[],[]=>rfl
 |[],_::_=>by simp[cD]
 |k::nC,l=>by simp only[cD,oh,uD nC,oi]
section
variable {P:b4} {gl:fP} {wb:aG} {sh:Nat->List Nat×List Nat} {SB:Nat->List (List Int)->List (List Int)->Prop}
def x3 (SB:Nat->List (List Int)->List (List Int)->Prop) (res:List D) (id:Nat):List (List Int)->List (List Int)->Prop:=λzs rs=>ab (aY res) rs.flatten/\SB id zs rs
theorem aHV {lsh:Nat->List Nat} {id:Nat} {lens:List Nat} {bds:List (Int×Int)} {ds:List D} {t:T} (hl:lens=(sh id).1) (hd:vh ds=(sh id).2) (h:fg sh lsh SB (x3 SB ds id) lens bds ds t):
 kC bds λzs=>t.holds (jK sh SB) (ki ds λrs=>ab (aY ds) rs/\jK sh SB id zs rs) (λ_ _=>False) (bR (λ_=>0) 0 zs):=by
 refine tM λzs hz=>?_;have h:=nj (L4 h) hz;simp only[x3,uD]at h;rw[hl,hd]at h;exact h
theorem aAV {c:bJ} {cal:gL} {li:dL->Nat->Option hN} {rounds d:Nat} {lsh:Nat->List Nat} {lens:List Nat} (hm:P.follows .mixedOrders=true) (dy:∀r ex ro,iM (jK sh SB) P gl ⟨wb,r,ex,ro,[]⟩ cal) (hg:gM gl ⟨wb,wb,λ_=>False,λ_=>False,[]⟩)
 (hf:EP P c.f=true) (hu:zj c.args c.res (jK sh SB c.id)) (hl:lens=(sh c.id).1) (hd:vh c.res=(sh c.id).2)
 (hv:fg sh lsh SB (x3 SB c.res c.id) lens (aY c.args) c.res (c.tree P gl cal li rounds d)):c.bD P wb (jK sh SB c.id):=
 bJ.azy hm dy hg (enters hf) hu (aHV hl hd hv)
end
end Go.b9
namespace Go.b9
open Go.ChangeShapes Go.WideShapes Go.RowKit
variable {H:Type} {enc:br×aW->H} {P:b4}
def K1 (g:br->Option (List aQ)) (cells:br->Nat):List Field->Nat->Option (List aQ)
 |[],_=>some []
 |f::r,o=>match g f.type,K1 g cells r (o+cells f.type)with
  |some l,some m=>cond (aP f.offset o&&aP (cells f.type) l.length) (some (l++m)) none
  |_,_=>none
def DI (P:b4):Nat->br->Option (List aQ)
 |0,_=>none
 |d+1,t=>match P.underlying t with
  |some (.int k)=>some [.int k k.min k.max]
  |some .string=>some [.str]
  |some .bool=>some [.bool]
  |some (.struct fs)=>K1 (DI P d) P.cellsOf fs.toList 0
  |some (.array n e)=>match DI P d e with
   |some l=>cond (aP (P.cellsOf e) l.length) (some (fD n l).flatten) none
   |none=>none
  |_=>none
theorem cM.append:∀{a b:List aQ} {x y:List Int},cM a x->cM b y->cM (a++b) (x++y)/\dS (a++b) (x++y)=dS a x++dS b y
 |[],_,[],_,_,h=>⟨h,rfl⟩
 |_::_,_,_::_,_,h,bm=>by
  have:=cM.append h.2 bm;exact⟨⟨h.1,this.1⟩,by simp only[jD,dS,this.2]⟩
 |[],_,_::_,_,h,_=>h.elim
 |_::_,_,[],_,h,_=>h.elim
def Wl (enc:br×aW->H) (P:b4) (w:aG) (base:Nat) (spare:Nat->Bool) (held:Bool) (t:br) (sh:List aQ):Prop:=
 ∀(n:Nat) (cs:List aW) (x:rb H×List AB),ad9 enc P w base spare held n t cs=some x->cs.length=sh.length->(∀m∈x.1.weights P t,m<=reachBytes)->
  ∃zs,cM sh zs/\cs=dS sh zs/\x.2=[]
theorem al1 {base n:Nat} {w:aG} {spare:Nat->Bool} {held:Bool} {g:br->Option (List aQ)} (hg:∀t sh,g t=some sh->Wl enc P w base spare held t sh) {cs:List aW}:∀(fs:List Field) (o:Nat) (sh:List aQ) (xs:List (rb H×List AB)),K1 g P.cellsOf fs o=some sh->cs.length=o+sh.length->xs.length=fs.length->
 (∀(j:Nat) (f:Field),fs[j]?=some f->ad9 enc P w base spare held n f.type ((cs.drop f.offset).take (P.cellsOf f.type))=xs[j]?)->
 (∀m∈UL P (fs.map (·.type)) (xs.map (·.1)),m<=reachBytes)->
 ∃zs,cM sh zs/\cs.drop o=dS sh zs/\xs.flatMap (·.2)=[]
 |[],o,sh,xs,h,hl,hx,_,_=>by
  simp only[K1,bj]at h;subst h;have:xs=[]:=List.length_eq_zero_iff.1 (by simpa using hx);subst this;exact⟨[],trivial,Uq (by simp at hl;omega),rfl⟩
 |f::fs,o,sh,[],_,_,hx,_,_=>by simp at hx
 |f::fs,o,sh,x::xs,h,hl,hx,hf,hw=>by
  unfold K1 at h;cases h1:g f.type with
  |none=>simp[h1]at h
  |some l=>
   cases h2:K1 g P.cellsOf fs (o+P.cellsOf f.type)with
   |none=>simp[h1,h2]at h
   |some m=>
    simp only[h1,h2]at h;cases hc:(aP f.offset o&&aP (P.cellsOf f.type) l.length)with
    |false=>simp[hc]at h
    |true=>
     simp only[hc,cond_true,bj]at h;subst h;simp only[bx]at hc;have az:=b1 hc.1;have aI:=b1 hc.2;have h0:=hf 0 f rfl;simp only[xY]at h0;simp only[du,UL,zf]at hw;simp only[gY]at hl;obtain⟨zs,b7,a2,a3⟩:=hg f.type l h1 n ((cs.drop f.offset).take (P.cellsOf f.type)) x h0 (by rw[sf,oZ,az,aI];omega) λm' hm=>hw m' (.inl hm);obtain⟨ix,ca,cc,dm⟩:=al1 (cs:=cs) hg fs (o+P.cellsOf f.type) m xs h2 (by omega) (by simpa using hx) (λj ta aM=>by simpa using hf (j+1) ta (by simpa using aM)) λm' hm=>hw m' (.inr hm);have M0:=cM.append b7 ca;refine⟨zs++ix,M0.1,?_,by simp[a3,dm]⟩;rw[M0.2,<-a2,<-cc,az,<-Cg];exact(oi _ _).symm
theorem al0 {base n:Nat} {w:aG} {spare:Nat->Bool} {held:Bool} {e:br} {l:List aQ} (hg:Wl enc P w base spare held e l) (hc:P.cellsOf e=l.length) {cs:List aW}:∀(k i:Nat) (xs:List (rb H×List AB)),cs.length=(i+k)*l.length->xs.length=k->
 (∀j,j<k->ad9 enc P w base spare held n e ((cs.drop ((i+j)*P.cellsOf e)).take (P.cellsOf e))=xs[j]?)->
 (∀m∈UM P e (xs.map (·.1)),m<=reachBytes)->
 ∃zs,cM (fD k l).flatten zs/\cs.drop (i*l.length)=dS (fD k l).flatten zs/\xs.flatMap (·.2)=[]
 |0,i,xs,hl,hx,_,_=>by
  have:xs=[]:=List.length_eq_zero_iff.1 hx;subst this;exact⟨[],trivial,Uq (by rw[hl];exact bW _),rfl⟩
 |k+1,i,[],_,hx,_,_=>by simp at hx
 |k+1,i,x::xs,hl,hx,hf,hw=>by
  have h0:=hf 0 (Nat.succ_pos k);simp only[xY,oX]at h0;simp only[du,UM,zf]at hw;have Hg:cs.length=i*l.length+(l.length+k*l.length):=by rw[hl,Nat.add_mul,AF];omega
  obtain⟨zs,b7,a2,a3⟩:=hg n _ x h0 (by rw[sf,oZ,hc];omega) λm' hm=>hw m' (.inl hm);obtain⟨ix,ca,cc,dm⟩:=al0 hg hc k (i+1) xs (by rw[hl];congr 1;omega) (by simpa using hx) (λj aM=>by
   have:=hf (j+1) (by omega);rw[show i+(j+1)=i+1+j by omega]at this;simpa using this) λm' hm=>hw m' (.inr hm)
  have M0:=cM.append b7 ca;refine⟨zs++ix,by rw[D8,oh];exact M0.1,?_,by simp[a3,dm]⟩;rw[D8,oh,M0.2,<-a2,<-cc,hc,AF,<-Cg];exact(oi _ _).symm
theorem S2 {base:Nat} {w:aG} {spare:Nat->Bool} {held:Bool}:∀(d:Nat) (t:br) (sh:List aQ),DI P d t=some sh->Wl enc P w base spare held t sh
 |0,t,sh,h=>by simp[DI]at h
 |d+1,t,sh,h=>by
  have ih:=S2 (base:=base) (w:=w) (spare:=spare) (held:=held) d;intro n cs x hx hl hw;unfold DI at h;split at h
  ·rename_i k hu;simp only[bj]at h;subst h;obtain⟨z,rfl,rfl,ZV⟩:=apj hu hx;have:=an2.1 ZV;exact⟨[z],⟨this,trivial⟩,rfl,rfl⟩
  ·rename_i hu;simp only[bj]at h;subst h;obtain⟨s,rfl,rfl,hs⟩:=aJP hu hx;have hb:s.data.toList.length<=m4:=hw _ (by simp[UN]);refine⟨[kJ s.data.toList],⟨⟨zv _,x2 hb⟩,trivial⟩,?_,rfl⟩;simp[dS,aQ.val,BK,en]
  ·rename_i hu;simp only[bj]at h;subst h;obtain⟨b,rfl,rfl⟩:=DataW.trod_bool hu hx;refine⟨[cond b 1 0],⟨?_,trivial⟩,?_,rfl⟩
   ·cases b<;>simp[aQ.hA]
   ·cases b<;>simp[dS,aQ.val]
  ·rename_i fs hu;obtain⟨xs,m,rfl,rfl,hlen,hn,JL⟩:=DataW.trod_struct hu hx;simp only[UN,hu]at hw;obtain⟨zs,b7,a2,a3⟩:=al1 (n:=m) ih fs.toList 0 sh xs h (by omega) (by rw[hn];simp) (λj f aM=>JL j f (by simpa using aM)) hw;exact⟨zs,b7,by simpa using a2,a3⟩
  ·rename_i k e hu;cases h1:DI P d e with
   |none=>simp[h1]at h
   |some l=>
    simp only[h1]at h;cases hc:aP (P.cellsOf e) l.length with
    |false=>simp[hc]at h
    |true=>
     simp only[hc,cond_true,bj]at h;subst h;have hc:=b1 hc;obtain⟨xs,m,rfl,rfl,hlen,hn,JL⟩:=aI8 hu hx;simp only[UN,hu]at hw;have lG:(fD k l).flatten.length=k*l.length:=by simp
     obtain⟨zs,b7,a2,a3⟩:=al0 (n:=m) (ih e l h1) hc k 0 xs (by rw[hl,lG];simp) hn (λj aM=>by
      have:=JL j aM;simpa using this) hw
     exact⟨zs,b7,by simpa using a2,a3⟩
  ·cases h
theorem aEt {fits:br->Bool}:∀(d:Nat) (e:br) (count off n:Nat),rowAt P fits d e count off n=true->off<=count*P.cellsOf e
 |0,_,_,_,_,h=>by simp[rowAt]at h
 |d+1,e,count,off,n,h=>by
  unfold rowAt at h
  dsimp only at h
  split at h
  ·cases h
  ·rename_i hs;have avL:=Up off (P.cellsOf e);have hlt:=Pj off (Nat.pos_of_ne_zero hs);rw[D3]at h;rcases h with h|h
   ·simp only[bx,beq_iff_eq,decide_eq_true_eq]at h;have h1:off/P.cellsOf e<=count:=by omega
    have:=UB (P.cellsOf e) h1;rw[zc count];omega
   ·rw[bx]at h;have h1:off/P.cellsOf e<count:=by simpa using h.1
    have h1:off/P.cellsOf e+1<=count:=h1;have:=UB (P.cellsOf e) h1;rw[Nat.mul_add,Ch]at this;rw[zc count];omega
theorem akX:∀(d:Nat) (e:br) (count off:Nat) (u:br) (n:Nat),liesAt P d e count off u n=true->off<=count*P.cellsOf e
 |0,_,_,_,_,_,h=>by simp[liesAt]at h
 |d+1,e,count,off,u,n,h=>by
  unfold liesAt at h;rw[D3]at h;rcases h with h|h
  ·exact aEt _ _ _ _ _ h
  ·split at h
   ·exact akX d e count off _ _ h
   ·cases h
theorem asA {base:Nat} {w:aG} {a:Addr} {n:Nat} {cs:List aW} (h:w.cells? base a n=some cs):cs.length=n/\∀j,j<n->w.cell? (a.add j)=cs[j]?:=by
 unfold World.cells? at h;split at h
 ·have hl:=List.akU h;refine⟨by simpa using hl,λj aM=>?_⟩;have:=List.aiq h j j (by simp[aM]);exact this
 ·cases h
where
 List.akU {α β:Type} {f:α->Option β}:∀{l:List α} {r:List β},l.mapM f=some r->r.length=l.length
  |[],r,h=>by simp at h;subst h;rfl
  |x::l,r,h=>by
   rw[aph]at h;cases hx:f x with
   |none=>simp[hx]at h
   |some y=>
    cases hl:l.mapM f with
    |none=>simp[hx,hl]at h
    |some s=>
     simp[hx,hl]at h;subst h;simp[List.akU hl]
 List.aiq {α β:Type} {f:α->Option β}:∀{l:List α} {r:List β},l.mapM f=some r->∀(j:Nat) (x:α),l[j]?=some x->f x=r[j]?
  |[],r,h,j,x,hx=>by simp at hx
  |y::l,r,h,j,x,hx=>by
   rw[aph]at h;cases hy:f y with
   |none=>simp[hy]at h
   |some z=>
    cases hl:l.mapM f with
    |none=>simp[hy,hl]at h
    |some s=>
     simp[hy,hl]at h;subst h;cases j with
     |zero=>simp at hx;subst hx;simp[hy]
     |succ j=>simpa using List.aiq hl j x (by simpa using hx)
theorem amK {cells:Array aW} {sh:List aQ}:∀(len o:Nat),o<=cells.size->(∀i,i<len->∃zs,cM sh zs/\∀j,j<sh.length->cells[o+i*sh.length+j]?=(dS sh zs)[j]?)->(0<len->0<sh.length)->
 ∃rows:List (List Int),rows.length=len/\o8 cells o sh rows
 |0,o,aA,_,_=>⟨[],rfl,λ_ h=>by simp at h,cells.toList.take o,cells.toList.drop o,by simp[cj],by simp;omega⟩
 |len+1,o,aA,h,hp=>by
  obtain⟨zs,b7,a2⟩:=h 0 (Nat.succ_pos _);have hp:=hp (Nat.succ_pos _);have hv:=H8 b7;have Zr:=a2 (sh.length-1) (by omega);have hsz:o+sh.length<=cells.size:=by
   have:(dS sh zs)[sh.length-1]?≠none:=by rw[pF (by omega)];simp
   rw[<-Zr]at this;have:=Array.auF.1 this;omega
  obtain⟨rows,ca,cc,pre,post,dm,mm⟩:=amK len (o+sh.length) hsz (λi hi=>by
   obtain⟨ix,c1,bQ⟩:=h (i+1) (by omega);refine⟨ix,c1,λj aM=>?_⟩;rw[<-bQ j aM]
   congr 1
   rw[AF];omega) λ_=>hp
  refine⟨zs::rows,by simp[ca],λrow hr=>?_,cells.toList.take o,post,?_,by simp;omega⟩
  ·rcases List.mem_cons.1 hr with rfl|hr
   ·exact b7
   ·exact cc row hr
  ·have az:pre=cells.toList.take (o+sh.length):=by
    rw[dm,mF,List.take_left' mm]
   have aI:pre=cells.toList.take o++dS sh zs:=by
    rw[az,List.take_add]
    congr 1
    refine List.ext_getElem? λj=>?_;by_cases aM:j<sh.length
    ·have:=a2 j aM;rw[List.getElem?_take,if_pos aM,List.getElem?_drop,<-this];simp
    ·rw[aei (by simp;omega),aei (by omega)]
   have cn:cells.toList=cells.toList.take o++dS sh zs++cj sh rows++post:=by rw[<-aI];exact dm
   have iC:cj sh (zs::rows)=dS sh zs++cj sh rows:=by simp[cj]
   rw[iC,<-mF];exact cn
where
 Array.auF {α:Type} {a:Array α} {i:Nat}:a[i]?≠none↔i<a.size:=by simp
def PF (P:b4) (t:br):cV->Prop
 | .d (.int k lo hi)=>P.underlying t=some (.int k)/\lo=k.min/\hi=k.max
 | .d .bool=>P.underlying t=some .bool
 | .d .str=>P.underlying t=some .string
 | .d (.agg k n lo hi)=>∃e,P.underlying t=some (.array n e)/\DI P 8 t=some (fD n (.int k lo hi))/\P.cellsOf t=n
 | .d (.mix l)=>((∃fs,P.underlying t=some (.struct fs))∨∃n e,P.underlying t=some (.array n e))/\DI P 8 t=some l/\P.cellsOf t=l.length
 | .d (.Ai _)=>False
 | .d (.gn ..)=>False
 | .rd sh=>∃e,P.underlying t=some (.slice e)/\DI P 8 e=some sh/\P.cellsOf e=sh.length/\qh sh=true
 | .sM _ _=>False
theorem cM.ab:∀{sh:List aQ} {zs:List Int},cM sh zs->ab (sh.map aQ.hA) zs
 |[],[],_=>trivial
 |_::_,_::_,h=>⟨h.1.1,h.1.2,cM.ab h.2⟩
 |[],_::_,h=>h.elim
 |_::_,[],h=>h.elim
theorem amF:∀(sh:List aQ) (zs:List Int),dS sh zs=wi aQ.val sh zs
 |[],_=>by simp[dS]
 |_::_,[]=>by simp[dS]
 |c::sh,z::zs=>by simp only[dS,Ux,amF sh zs]
theorem amE (k:dW) (lo hi:Int):∀(n:Nat) (zs:List Int),zs.length=n->dS (fD n (.int k lo hi)) zs=zs.map (AD k)
 |0,[],_=>rfl
 |n+1,z::zs,h=>by
  rw[D8];simp only[dS,du,amE k lo hi n zs (by simpa using h)];rfl
 |0,_::_,h=>by simp at h
 |n+1,[],h=>by simp at h
theorem aln (k:dW) (lo hi:Int):∀n:Nat,(fD n (aQ.int k lo hi)).map aQ.hA=ai lo hi n
 |0=>rfl
 |n+1=>by rw[D8,du,aln k lo hi n];rfl
theorem aA1 {fV:Nat} {w:aG} {t:br} {b:cV} {v:aW} {x:rb H} {lh:List AB} (aD:PF P t b) (qQ:PD P w .any fV t v) (hd:DataW.Trod enc P w 0 (λ_=>true) true t v x lh) (hw:∀m∈x.weights P t,m<=reachBytes):
 ∃zs,ab b.bds zs/\zs.length=b.num/\b.at (λg=>g<w.heap.size) (λ_=>False) w zs v:=by
 obtain⟨fuel,hf⟩:=hd;have agg:((∃fs,P.underlying t=some (.struct fs))∨∃n e,P.underlying t=some (.array n e))->∃cs,v= .agg cs/\cs.size=P.cellsOf t:=λh=>by
  unfold PD at qQ;rcases h with⟨fs,h⟩|⟨n,e,h⟩
  ·rw[h]at qQ;obtain⟨cs,a,b,_⟩:=qQ;exact⟨cs,a,b⟩
  ·rw[h]at qQ;obtain⟨cs,a,b,_⟩:=qQ;exact⟨cs,a,b⟩
 cases b with
 |sM _ _=>exact aD.elim
 |d y=>
  cases y with
  |Ai l=>exact aD.elim
  |gn k c=>exact aD.elim
  |int k lo hi=>
   obtain⟨h1,rfl,rfl⟩:=aD;obtain⟨n,rfl⟩:=okWide_int h1 qQ;obtain⟨n',h,hx,ZV⟩:=apj h1 hf;simp[IF]at h;subst h;have:=an2.1 ZV;exact⟨[n],⟨this.1,this.2,trivial⟩,rfl,rfl⟩
  |bool=>
   obtain⟨c,rfl⟩:=okWide_bool aD qQ;refine⟨[cond c 1 0],?_,rfl,?_⟩
   ·cases c<;>simp[cV.bds,D.bds,ab]
   ·cases c<;>simp[cV.at,D.val]
  |str=>
   obtain⟨s,rfl⟩:=okWide_string aD qQ;obtain⟨H9,h,hx,hs⟩:=aJP aD hf;simp[IF]at h;subst h;simp only[eO]at hx;have hb:s.data.toList.length<=m4:=hw _ (by rw[hx.1];simp[UN]);exact⟨[kJ s.data.toList],⟨zv _,x2 hb,trivial⟩,rfl,by simp[cV.at,D.val,BK,en]⟩
  |agg k n lo hi=>
   obtain⟨e,h1,h2,h3⟩:=aD;obtain⟨cs,rfl,hsz⟩:=agg (.inr ⟨n,e,h1⟩);obtain⟨zs,b7,a2,_⟩:=S2 8 t _ h2 fuel _ _ hf (by show cs.toList.length=_;simp[hsz,h3]) hw;have hl:zs.length=n:=by have:=b7.len;simpa using this
   have dD:cs=(dS (fD n (.int k lo hi)) zs).toArray:=by rw[<-a2];simp[IF]
   refine⟨zs,?_,hl,?_⟩
   ·have:=b7.ab;rw[aln]at this;exact this
   ·show aJQ cs=_;rw[dD,amE k lo hi n zs hl];simp only[D.val,<-hl,ad5]
  |mix l=>
   obtain⟨h1,h2,h3⟩:=aD;obtain⟨cs,rfl,hsz⟩:=agg h1;obtain⟨zs,b7,a2,_⟩:=S2 8 t _ h2 fuel _ _ hf (by show cs.toList.length=_;simp[hsz,h3]) hw;have hl:zs.length=l.length:=b7.len;have dD:cs=(dS l zs).toArray:=by rw[<-a2];simp[IF]
   refine⟨zs,b7.ab,hl,?_⟩;show aJQ cs=_;rw[dD,amF];rfl
 |rd sh=>
  obtain⟨e,h1,h2,h3,Hp⟩:=aD;have h4:0<sh.length:=by
   unfold qh at Hp;simp only[bx,Nat.blt_eq]at Hp;exact Hp.1.2
  obtain⟨a,len,cap,rfl⟩:=okWide_slice h1 qQ;rcases DataW.trod_slice h1 hf with⟨h,_⟩|⟨afD,qY,kK,elems,rest,n,rfl,h,hx,_,Nr,EX,JL,avR,wV,yt⟩
  ·simp[IF]at h;obtain⟨rfl,rfl,rfl⟩:=h;exact⟨[0],⟨di _,AO,trivial⟩,rfl,.inl ⟨rfl,oa⟩⟩
  ·simp[IF]at h;obtain⟨rfl,rfl,rfl⟩:=h;have av1:w.has P .any fV afD e cap:=by
    unfold PD at qQ;rw[h1]at qQ;simp only[Cell.okWide,Cell.ok,h1]at qQ;exact qQ.2.2
   obtain⟨_,ajN,row,Xy,l3,awd⟩:=av1;obtain⟨g,o,sp⟩:=afD;simp only at ajN;subst ajN;obtain⟨cells,Il,fz,CR,ub⟩:∃cells Il fz,w.heap[g]?=some (.cells cells Il fz)/\cells.size=Xy/\Il=row:=by
    unfold World.shape? at l3;split at l3
    ·rename_i c el fz hb;simp only[bj,eO]at l3;exact⟨c,el,fz,hb,l3.2,l3.1⟩
    ·cases l3
   have aA:o<=cells.size:=by
    have:=akX _ _ _ _ _ _ awd;have h6:=Nat.div_mul_le_self Xy (P.cellsOf row);have h7:o<=Xy/P.cellsOf row*P.cellsOf row:=this;omega
   simp only[eO]at hx;obtain⟨th,Bk⟩:=hx;rw[th]at hw;simp only[UN,h1,oW,zf]at hw;obtain⟨rows,r1,r2⟩:=amK (cells:=cells) (sh:=sh) len o aA (λi hi=>by
    have:=avR i hi;cases hy:elems[i]? with
    |none=>rw[List.getElem?_eq_none_iff]at hy;omega
    |some y=>
     rw[hy,Option.bind_eq_some_iff]at this;obtain⟨cs,g1,g2⟩:=this;obtain⟨l1,l2⟩:=asA g1;obtain⟨zs,aF,z2,_⟩:=S2 8 e sh h2 n cs y g2 (by rw[l1,h3]) λm hm=>by
      refine hw m (.inr (.inl ?_));exact alp hy hm
     refine⟨zs,aF,λj aM=>?_⟩;have:=l2 j (by rw[h3];exact aM);rw[kX,kX]at this;simp only[nK,CR,Option.isSome_none,Bool.false_eq_true,if_false]at this;rw[<-z2,<-this,h3]) λ_=>h4
   have dC:(cap:Int)<=9223372036854775807:=by unfold maxLen at EX;omega
   have Rx:rows.length<=maxLen:=by omega
   have au5:rc rows<=b6:=uP Rx λr hr=>(r2.1 r hr).row Hp;refine⟨[rc rows],⟨kc _,au5,trivial⟩,rfl,.inr ⟨g,o,cap,cells,Il,fz,?_,?_,?_,CR,?_⟩⟩
   ·simp[kS,r1]
   ·simp only[gD,kS,r1];exact⟨Nr,dC⟩
   ·exact(Array.getElem?_eq_some_iff.1 CR).1
   ·simp only[gD,kS];exact r2
where
 alp {e:br}:∀{l:List (rb H×List AB)} {i:Nat} {y:rb H×List AB} {m:Nat},l[i]?=some y->m∈y.1.weights P e->m∈UM P e (l.map (·.1))
  |x::l,0,y,m,h,hm=>by
   simp only[xY,bj]at h;subst h;simp only[du,UM,zf];exact .inl hm
  |x::l,i+1,y,m,h,hm=>by
   simp only[du,UM,zf];exact .inr (alp (by simpa using h) hm)
  |[],_,_,_,h,_=>by simp at h
def UU (P:b4):List br->List cV->Prop
 |[],[]=>True
 |t::ts,b::bs=>PF P t b/\UU P ts bs
 |_,_=>False
theorem cV.arC {F N:Nat->Prop} {w:aG} (b:cV) {zs l:List Int} {v:aW} (h:zs.length=b.num) (ha:b.at F N w zs v):b.at F N w (zs++l) v:=by
 cases b with
 |d x=>
  show v=x.val (zs++l);rw[D.an0 x (l:=l) h];exact ha
 |rd sh=>match zs,h with|[z],_=>exact ha
 |sM sh e=>match zs,h with|[z],_=>exact ha
theorem alZ {fV:Nat} {w:aG}:∀{ts:List br} {bs:List cV} {vs:List aW} {xs:List (rb H)} {lh:List AB},UU P ts bs->(∀(j:Nat) t v,ts[j]?=some t->vs[j]?=some v->PD P w .any fV t v)->apA enc P w 0 (λ_=>true) true ts vs xs lh->
 (∀m∈UL P ts xs,m<=reachBytes)->∃zs,ab (dU bs) zs/\mM (λg=>g<w.heap.size) (λ_=>False) w bs zs vs/\xs.length=bs.length
 |[],[],[],[],lh,_,_,h,_=>⟨[],trivial,trivial,rfl⟩
 |[],[],_::_,_,_,_,_,h,_=>h.elim
 |[],[],[],_::_,_,_,_,h,_=>h.elim
 |[],_::_,_,_,_,h,_,_,_=>h.elim
 |_::_,[],_,_,_,h,_,_,_=>h.elim
 |_::_,_::_,[],_,_,_,_,h,_=>by cases h
 |_::_,_::_,_::_,[],_,_,_,h,_=>by cases h
 |t::ts,b::bs,v::vs,x::xs,lh,aD,hv,h,hw=>by
  obtain⟨p,q,h1,h2,rfl⟩:=h;simp only[UL,zf]at hw;obtain⟨zs,b7,a2,a3⟩:=aA1 aD.1 (hv 0 t v rfl rfl) h1 λm hm=>hw m (.inl hm);obtain⟨ix,ca,cc,dm⟩:=alZ aD.2 (λj t v h1 h2=>hv (j+1) t v (by simpa using h1) (by simpa using h2)) h2 λm hm=>hw m (.inr hm);refine⟨zs++ix,Bl b7 ca,⟨cV.arC b a2 a3,?_⟩,by simp[dm]⟩;rw[<-a2,F3];exact cc
theorem anF (hl:laidOutB P=true) {W W':aG} (hb:Below W.heap.size W W'):∀{ts:List br} {vs:List aW} {xs:List (rb H)} {lh:List AB},(∀t∈ts,P.readableRec t=true/\t<P.types.size)->apA enc P W 0 (λ_=>true) true ts vs xs lh->(∀x∈lh,x.block<W.heap.size)->
 apA enc P W' 0 (λb=>decide (b<W.heap.size)) true ts vs xs lh
 |[],[],[],_,_,h,_=>h
 |[],_::_,_,_,_,h,_=>h.elim
 |[],[],_::_,_,_,h,_=>h.elim
 |_::_,[],_,_,_,h,_=>by cases h
 |_::_,_::_,[],_,_,h,_=>by cases h
 |t::ts,v::vs,x::xs,lh,hr,h,hlt=>by
  obtain⟨p,q,h1,h2,rfl⟩:=h;exact⟨p,q,Below.trod hl (hr t (by simp)).1 (hr t (by simp)).2 h1 hb λx hx=>hlt x (List.mem_append.2 (.inl hx)),anF hl hb (λt aD=>hr t (eI _ aD)) h2 λx hx=>hlt x (List.mem_append.2 (.inr hx)),rfl⟩
theorem asB {C:Checked} {os:Os} {f:dL} {fn:Func} {s:ChangeSpec} {apart:Bool} {X:aG->Array aW->Prop}
 (cg:∀(w w':aG) (args:Array aW),w.heap=w'.heap->X w args->X w' args)
 (own:ownKnob C.prog.godebug=none) (started:os.Started) (abD:C.prog.inits.idxOf? f=none) (E1:C.prog.funcs[f]?=some fn)
 (witness:∃(w:aG) (tape:Tape) (i:Input),w.os=os/\(w.forCall tape i).Shaped C.prog/\i.vars=[]/\aJR C.prog (w.forCall tape i) .any w.heap.size f i/\
   ((s.pre enc C.prog fn [] apart (w.forCall tape i).memory i.args/\X (w.forCall tape i).memory i.args)/\sizedMet enc C.prog fn (aep s) apart (w.forCall tape i).memory i.args)/\({}:Assume).holds C.prog (lone (aJS C.prog f i.args .normal) [] (w.forCall tape i)))
 (XE:∀(W:aG) (base:Nat) (args:Array aW) (ds gs:List (rb H)) (before:List AB),
   (∀(j:Nat) t v,fn.params[j]?=some t->args[j]?=some v->PD C.prog W .any base t v)->
   DataW.Whole enc C.prog fn.params.toList s.vars apart W args.toList ds gs before->(UL C.prog (fn.params.toList++s.plain.varTypes C.prog) (ds++gs)).all (·<=reachBytes)=true->X W args->W.ShapedOpen C.prog->
   nJ C.prog f args W λe W'=>∃v,e= .returned v/\s.post enc C.prog fn apart true false false W args v W'):
 ReturnsInHanded {} C os f .any (λw args=>(s.pre enc C.prog fn [] apart w args/\X w args)/\sizedMet enc C.prog fn (aep s) apart w args) (s.post enc C.prog fn apart true false false):=by
 refine returnsInHanded_of_calls own started abD witness ?_;intro w tape i _ l3 _ cb rJ aM4;obtain⟨_,_,_,aur,Nh,_,_,_,_,qQ⟩:=cb;have e:aur=fn:=jC (Nh.symm.trans E1);subst e;obtain⟨⟨⟨ds,gs,before,hw,hc⟩,hx⟩,hz⟩:=rJ;have yy:=aQx (w':=w.forCall tape i) (by rfl) hw;refine(XE (w.forCall tape i) w.heap.size i.args ds gs before qQ yy (hz.weights hw) (cg _ _ _ (by rfl) hx) l3).mono λe W' ⟨v,he,hp⟩=>?_;subst he;exact aQy hp
theorem ayG {C:Checked} {os:Os} {f:dL} {fn:Func} {s:ChangeSpec} {X:aG->Array aW->Prop} {apart:Bool} {ts:List br} {tb:br} {bs:List cV}
 (cg:∀(w w':aG) (args:Array aW),w.heap=w'.heap->X w args->X w' args)
 (own:ownKnob C.prog.godebug=none) (started:os.Started) (abD:C.prog.inits.idxOf? f=none) (E1:C.prog.funcs[f]?=some fn)
 (witness:∃(w:aG) (tape:Tape) (i:Input),w.os=os/\(w.forCall tape i).Shaped C.prog/\i.vars=[]/\aJR C.prog (w.forCall tape i) .any w.heap.size f i/\
   ((s.pre enc C.prog fn [] apart (w.forCall tape i).memory i.args/\X (w.forCall tape i).memory i.args)/\sizedMet enc C.prog fn (aep s) apart (w.forCall tape i).memory i.args)/\({}:Assume).holds C.prog (lone (aJS C.prog f i.args .normal) [] (w.forCall tape i)))
 (hp:fn.params.toList=ts) (hr:fn.resultTypes.toList=[tb]) (hO:fn.resultTypes.size=1) (aw0:C.prog.underlying tb=some .bool) (NJ:UU C.prog ts bs) (zM:laidOutB C.prog=true) (zQ:(ts.all λt=>C.prog.readableRec t&&decide (t<C.prog.types.size))=true) (ZS:s.vars=[])
 (hs:∀xs:List (rb H),xs.length=bs.length->s.fn H xs={results:=[.lit (.bool true)],args:=xs,vars:=[]})
 (XE:∀(W:aG) (zs:List Int) (vs:List aW),ab (dU bs) zs->mM (λg=>g<W.heap.size) (λ_=>False) W bs zs vs->X W vs.toArray->W.ShapedOpen C.prog->nJ C.prog f vs.toArray W λe W'=>e= .returned (.bool true)/\W.Extends W'):
 ReturnsInHanded {} C os f .any (λw args=>(s.pre enc C.prog fn [] apart w args/\X w args)/\sizedMet enc C.prog fn (aep s) apart w args) (s.post enc C.prog fn apart true false false):=by
 refine asB cg own started abD E1 witness ?_;intro W base args xs gs before axe CI hsz hx l3;have au7:=CI;have hlt:=CI.lt;obtain⟨p,q,aO,YT,rfl,Ze,aNd⟩:=CI;rw[hp]at aO;rw[ZS]at YT;obtain⟨rfl,rfl⟩:gs=[]/\q=[]:=by
  cases gs with
  |nil=>exact⟨rfl,YT⟩
  |cons g r=>exact absurd YT (by intro h;cases h)
 have qQ:∀(j:Nat) t v,ts[j]?=some t->args.toList[j]?=some v->PD C.prog W .any base t v:=λj t v h1 h2=>axe j t v (by rw[<-hp]at h1;simpa using h1) (by simpa using h2);have e:(fn.params.toList++s.plain.varTypes C.prog)=ts:=by rw[hp];simp[DataSpec.varTypes,aQA,ZS]
 rw[e,hK,LA]at hsz;obtain⟨zs,hz,hat,hlen⟩:=alZ NJ qQ aO λn hn=>by simpa using hsz n hn
 have tc:args=args.toList.toArray:=by simp
 rw[tc]at hx;have Y5:nJ C.prog f args W λe W'=>e= .returned (.bool true)/\W.Extends W':=by
  have:=XE W zs args.toList hz hat hx l3
  rwa [<-tc]at this
 refine Y5.mono λe W' ⟨he,hw⟩=>?_;subst he;have Nh:=hs (xs++[]) (by simp[hlen]);have avu:Below W.heap.size W W':=⟨hw.os,hw.tape,hw.output,hw.size,λi hi=>hw.block i hi⟩;refine⟨_,rfl,_,_,_,[],p,[],au7,?_,?_,?_,ayp hw _,λh=>by cases h⟩
 ·rw[Nh,hr,hO];exact trodAll_mk1 (shut_bool aw0 true)
 ·rw[Nh,hp,hK];exact anF zM avu (λt aD=>by
   have:=List.all_eq_true.1 zQ t aD;simpa using this) aO λx hx=>hlt x (by simp[hx])
 ·rw[Nh,ZS];rfl
section
variable {gl:fP} {wb:aG} {sh:Nat->List Nat×List Nat} {SB:Nat->List (List Int)->List (List Int)->Prop}
def hM (SB:Nat->List (List Int)->List (List Int)->Prop) (res:List cV) (id:Nat):List (List Int)->List (List Int)->Prop:=λzs rs=>ab (dU res) rs.flatten/\SB id zs rs
theorem ar2 {c:gK} {bc:qq} {cal:gL} {li:dL->Nat->Option hN} {rounds d:Nat} {lsh:Nat->List Nat} {lens:List Nat} (hm:P.follows .mixedOrders=true) (dy:∀r ex ro,iM (jK sh SB) P gl ⟨wb,r,ex,ro,[]⟩ cal) (hg:gM gl ⟨wb,wb,λ_=>False,λ_=>False,[]⟩)
 (n0:∀(L:V->Env->Prop) (r:aG) (ro:Nat->Prop),xZ (jK sh SB) L ⟨wb,r,λ_=>False,ro,[]⟩ P bc) (hf:EP P c.f=true) (hl:lens=(sh c.id).1) (hd:Dl c.res=(sh c.id).2)
 (hv:o9 sh lsh SB (hM SB c.res c.id) lens (dU c.args) c.res (c.tree bc P gl cal li rounds d)):c.bD P wb (jK sh SB c.id):=by
 refine gK.Oj (li:=li) (rounds:=rounds) (d:=d) hm dy hg n0 (enters hf) (tM λzs hz=>?_);have h:=nj (WA hv) hz;simp only[hM,uD]at h;rw[hl,hd]at h;exact h
theorem ayF {c:gK} {W:aG} {vs:List aW} {zs:List Int} (hc:c.bD P W (jK sh SB c.id)) (pj:c.res=[.d .bool]) (rJ:c.pre=0) (hz:ab (dU c.args) zs) (hat:mM (λg=>g<W.heap.size) (λ_=>False) W c.args zs vs) (h1:∀a z,SB c.id a [[z]]->z=1) (h2:(sh c.id).2=[1]):
 nJ P c.f vs.toArray W λe W'=>e= .returned (.bool true)/\W.Extends W':=by
 refine(hc.2 _ W vs zs (sW W) hz (by rw[rJ];trivial) hat).mono λe W' ⟨hx,rs,us,hb,hs,hr,he⟩=>⟨?_,hx⟩;rw[pj]at hb hr
 match rs,hb,us,hr,hs,he with
 |[z],hb,[u],hr,hs,he=>
  unfold jK at hs;rw[h2]at hs;have az:z=1:=h1 _ z hs;subst az;have:u= .bool true:=hr.1;subst this;rw[he];rfl
 |[z],hb,[],hr,hs,he=>exact hr.elim
 |[z],hb,_::_::_,hr,hs,he=>exact hr.2.elim
 |[],hb,_,_,_,_=>exact hb.elim
 |_::_::_,hb,_,_,_,_=>exact hb.2.2.elim
end
end Go.b9
namespace Go.b9
open M
structure aJ0 where
 f:dL
 id:Nat
 sh:List aQ
 e:br
 args:List cV
 pre:Nat:=0
section
variable {S:Nat->List Int->List Int->Prop} {L:V->Env->Prop} {w0:eL} {P:b4}
end
end Go.b9
namespace Go.b9
open M Go.RowKit
variable {S:Nat->List Int->List Int->Prop} {L:V->Env->Prop} {P:b4} {gl:fP} {cal:gL}
def VN (P:b4) (f:dL):Prop:=
 (∀args w,(callFunc f args).run P w= .ok (.enter f args) w)/\
 ∀(l bs uS:Nat) (sv:aW) (g off len cap c:Nat) (J:Nat->aG->Prop) (W:aG),
  0<c->len<=9223372036854775807->c∣len->len<=cap->c<=9223372036854775807->
  (sv= .slice (some ⟨g,off,none⟩) len cap∨(sv= .slice none 0 0/\len=0))->
  (∀i W,J i W->W.cell? ⟨bs,0,none⟩=some sv/\W.cell? ⟨uS,0,none⟩=some (.int .i64 c))->
  (∀i W,J i W->J i W.drew)->
  (∀i W,J i W->c*i<len->YieldAt IJ 0 P l #[.slice (some ⟨g,off+c*i,none⟩) c c] W λe W'=>e= .returned (.bool true)/\J (i+1) W')->
  J 0 W->CallsIn IJ 0 P f #[.func (.yield l) #[] #[],.pointer (some ⟨bs,0,none⟩),.pointer (some ⟨uS,0,none⟩)] W λe W'=>(∃v,e= .returned v)/\J (len/c) W'
theorem Yb {b w w':aG} (h:b.Extends w) (h1:w'.os=w.os) (h2:w'.tape=w.tape) (h3:w'.output=w.output) (h4:w.heap.size<=w'.heap.size) (h5:∀k,k<b.heap.size->w'.heap[k]?=w.heap[k]?):b.Extends w':=
 ⟨h1.trans h.os,h2.trans h.tape,h3.trans h.output,nf h.size h4,λa ha=>(World.cell?_of_block (h5 _ ha)).trans (h.cell a ha),λa ha=>(World.frozen?_of_block (h5 _ ha)).trans (h.frozen a ha),λi hi=>(h5 i hi).trans (h.block i hi)⟩
theorem Mem.yZ {b r r':aG} {ex ro:Nat->Prop} {ds GH:List F5} {ρ:Env} {m:Nat->Nat} {bl:List aJ} {w w':aG} (h:Mem ⟨b,r,ex,ro,ds⟩ ρ m bl w) (l:Nat) (hl:b.heap.size<=l) (hex:¬ex l) (hlt:l<r.heap.size)
 (hr:r'.os=r.os/\r'.tape=r.tape/\r'.output=r.output/\r'.heap.size=r.heap.size) (hw:w'.os=w.os/\w'.tape=w.tape/\w'.output=w.output/\w'.heap.size=w.heap.size)
 (h1:∀k,k≠l->r'.heap[k]?=r.heap[k]?) (h2:∀k,k≠l->w'.heap[k]?=w.heap[k]?) (h3:w'.heap[l]?=r'.heap[l]?) (hc:∀o:Obj,r.heap[l]?=some o->o.isCells=false):Mem ⟨b,r',ex,ro,GH⟩ ρ m bl w':=by
 have axk:w.heap[l]?=r.heap[l]?:=h.jU l hlt hex;have ne:∀{g:Nat} {cs:Array aW} {t:br} {fz:Nat×Nat},w.heap[g]?=some (.cells cs t fz)->g≠l:=λ{g cs t fz} hg e=>by
  subst e;rw[axk]at hg;have:=hc _ hg;simp[Obj.isCells]at this
 refine⟨Yb h.ext hw.1 hw.2.1 hw.2.2.1 (by omega) (λk af=>h2 k (by simp only at hl af;omega)),by rw[hw.1,h.j7];exact hr.1.symm,by rw[hw.2.1,h.mw];exact hr.2.1.symm,by rw[hw.2.2.1,h.lH];exact hr.2.2.1.symm,by have:=h.ib;simp only at this⊢;omega,λi hi hx=>?_,λi cs t hi aA=>?_,λi sh off code cap kind t hi=>?_,h.inj⟩
 ·by_cases e:i=l
  ·subst e;exact h3
  ·rw[h2 i e,h1 i e];exact h.jU i (by simp only at hi⊢;omega) hx
 ·obtain⟨g1,g2,KV,E5,g3⟩:=h.gZ i cs t hi aA;refine⟨g1,g2.imp id λh=>?_,KV,E5,by rw[h2 _ (ne g3)];exact g3⟩;simp only at h⊢;omega
 ·intro af;obtain⟨g1,g2⟩:=h.rws i sh off code cap kind t hi af;refine⟨g1,λdC=>?_⟩;obtain⟨k1,cells,t',fz,k2,k3,k4⟩:=g2 dC;refine⟨k1.imp id (·.imp id λh=>by simp only at h⊢;omega),cells,t',fz,by rw[h2 _ (ne k2)];exact k2,k3,λMT=>?_⟩;obtain⟨jc,p9,rM,tk,zV,qS⟩:=k4 MT;exact⟨jc,p9,rM,tk,zV,qS.imp id λh=>by simp only at h⊢;omega⟩
structure Sub (eN w0:eL):Prop where
 b:eN.b=w0.b
 os:eN.r.os=w0.r.os
 tape:eN.r.tape=w0.r.tape
 out:eN.r.output=w0.r.output
 size:w0.r.heap.size<=eN.r.heap.size
 ex:∀g,eN.ex g∨eN.r.heap.size<=g->w0.ex g∨w0.r.heap.size<=g
 ro:∀g,eN.ro g->w0.ro g
 jU:∀i,i<w0.r.heap.size->¬w0.ex i->eN.r.heap[i]?=w0.r.heap[i]?
theorem Mem.less {eN w0:eL} {ρ:Env} {m:Nat->Nat} {bl:List aJ} {w:aG} (h:Mem eN ρ m bl w) (s:Sub eN w0):Mem w0 ρ m bl w:=by
 refine⟨s.b▸h.ext,h.j7.trans s.os,h.mw.trans s.tape,h.lH.trans s.out,nf s.size h.ib,λi hi hx=>?_,λi cs t hi aA=>?_,λi sh off code cap kind t hi=>?_,h.inj⟩
 ·have dA:¬eN.ex i:=λe=>by
   rcases s.ex i (.inl e)with e|e
   ·exact hx e
   ·omega
  exact(h.jU i (IB hi s.size) dA).trans (s.jU i hi hx)
 ·obtain⟨g1,g2,g3⟩:=h.gZ i cs t hi aA;exact⟨s.b▸g1,s.ex _ g2,g3⟩
 ·intro af;obtain⟨g1,g2⟩:=h.rws i sh off code cap kind t hi af;refine⟨g1,λdC=>?_⟩;obtain⟨k1,cells,t',fz,k2,k3,k4⟩:=g2 dC;refine⟨?_,cells,t',fz,k2,k3,λMT=>?_⟩
  ·rcases k1 with k1|k1|k1
   ·exact(s.ex _ (.inl k1)).imp id .inr
   ·exact .inr (.inl (s.ro _ k1))
   ·exact(s.ex _ (.inr k1)).imp id .inr
  ·obtain⟨jc,p9,rM,tk,zV,qS⟩:=k4 MT;exact⟨jc,p9,rM,tk,s.b▸zV,s.ex _ qS⟩
def narrow (w0:eL) (W:aG) (ds:List F5):eL:=⟨w0.b,W,λg=>(w0.ex g∨w0.r.heap.size<=g)/\∃o:Obj,W.heap[g]?=some o/\o.isCells=true,w0.ro,ds⟩
theorem Mem.narrow {w0:eL} {ρ:Env} {m:Nat->Nat} {bl:List aJ} {w:aG} (h:Mem w0 ρ m bl w) (ds:List F5):Mem (narrow w0 w ds) ρ m bl w:=by
 refine⟨h.ext,rfl,rfl,rfl,bW _,λ_ _ _=>rfl,λi cs t hi aA=>?_,λi sh off code cap kind t hi=>?_,h.inj⟩
 ·obtain⟨g1,g2,KV,E5,g3⟩:=h.gZ i cs t hi aA;exact⟨g1,.inl ⟨g2,_,g3,rfl⟩,KV,E5,g3⟩
 ·intro af;obtain⟨g1,g2⟩:=h.rws i sh off code cap kind t hi af;refine⟨g1,λdC=>?_⟩;obtain⟨k1,cells,t',fz,k2,k3,k4⟩:=g2 dC;refine⟨?_,cells,t',fz,k2,k3,λMT=>?_⟩
  ·rcases k1 with k1|k1|k1
   ·exact .inl ⟨.inl k1,_,k2,rfl⟩
   ·exact .inr (.inl k1)
   ·exact .inl ⟨.inr k1,_,k2,rfl⟩
  ·obtain⟨jc,p9,rM,tk,zV,qS⟩:=k4 MT;exact⟨jc,p9,rM,tk,zV,.inl ⟨qS,_,k2,rfl⟩⟩
theorem Sub.narrow {w0:eL} {ρ:Env} {m:Nat->Nat} {bl:List aJ} {w:aG} (h:Mem w0 ρ m bl w) (ds:List F5):Sub (narrow w0 w ds) w0:=
 ⟨rfl,h.j7,h.mw,h.lH,h.ib,λg hg=>by
  rcases hg with hg|hg
  ·exact hg.1
  ·exact .inr (nf h.ib hg),λ_ h=>h,λi hi hx=>h.jU i hi hx⟩
theorem Sub.yZ {w0:eL} {b r r':aG} {ex ro:Nat->Prop} {ds GH:List F5} (s:Sub ⟨b,r,ex,ro,ds⟩ w0) (l:Nat) (hl:w0.r.heap.size<=l) (hr:r'.os=r.os/\r'.tape=r.tape/\r'.output=r.output/\r'.heap.size=r.heap.size)
 (h1:∀k,k≠l->r'.heap[k]?=r.heap[k]?):Sub ⟨b,r',ex,ro,GH⟩ w0:=
 ⟨s.b,hr.1.trans s.os,hr.2.1.trans s.tape,hr.2.2.1.trans s.out,by have:=s.size;simp only at this⊢;omega,λg hg=>s.ex g (hg.imp id λh=>by simp only at h⊢;omega),s.ro,λi hi hx=>by
  rw[h1 i (by omega)];exact s.jU i hi hx⟩
theorem Mem.ds {b r:aG} {ex ro:Nat->Prop} {ds GH:List F5} {ρ:Env} {m:Nat->Nat} {bl:List aJ} {w:aG} (h:Mem ⟨b,r,ex,ro,ds⟩ ρ m bl w):Mem ⟨b,r,ex,ro,GH⟩ ρ m bl w:=
 ⟨h.ext,h.j7,h.mw,h.lH,h.ib,h.jU,h.gZ,h.rws,h.inj⟩
theorem iM.ds {b r:aG} {ex ro:Nat->Prop} {ds GH:List F5} (h:iM S P gl ⟨b,r,ex,ro,ds⟩ cal):iM S P gl ⟨b,r,ex,ro,GH⟩ cal:=λf g hf L n ρ m bl vs xs h1 h2 h3 h4=>by
 obtain⟨w,hw⟩:=h2
 exactλG IK ag=>by
  obtain⟨ae,n',v,k1,k2,⟨k3,val,k4,tl⟩,zX⟩:=h f g hf L n ρ m bl vs xs h1 ⟨w,hw.ds⟩ h3 h4 G IK ag;exact⟨ae,n',v,k1,k2,⟨k3,val,k4,λw hw=>tl w hw.ds⟩,zX⟩
noncomputable def acv (P:b4) (gl:fP) (cal:gL) (inl:mj) (li:Nat->Option hN) (rounds:Nat) (cells:List (Nat×Nat×Int×Int)) (Ba:dL) (g:Operand) (lh:Array Tmp) (assign body:Code) (n:Nat) (tm:List V) (bl:List aJ) (k:iz):T:=
 match cp tm g,lh.toList,hb cells 0 (n+1) bl with
 | .s5 f [.ptr bs 0,.ptr uS 0],[p],some (gv,l2,cc)=>match bl[bs]?,bl[uS]?,gv[bs]?,gv[uS]? with
  |some ([.sl b bG o ro len cap],_),some ([.int .i64 N],_),some ([xs],_),some ([Pa],_)=>match N.l.eT with
   |some c=>cond (aP f Ba&&decide (0<c)&&decide (c<=9223372036854775807)&&aP bG 1&&pr assign&&pr body&&p2 tm tm&&p1 gv gv&&A.beq xs (.sl b bG o ro len cap)&&A.beq Pa (.int .i64 N)&&cl [xs]&&cl [Pa])
    (.s4 70 [len,.const c] (.loop n (l2++[.const 0]) (n+1) (cc++[(0,9223372036854775807)])
      (.uU (.lt ((I.var (n+1+l2.length)).smul c) len)
        (pU P gl cal inl li rounds assign (n+1+l2.length+1) (xF tm p (.w (.one (.sl b 1 o (ro.add ((I.var (n+1+l2.length)).smul c)) (.const c) (.const c))))) gv λx n' cK bt=>match x with
          | .normal=>pU P gl cal inl li rounds body n' cK bt λx n' cK bt=>match x with
           | .normal=>match hb cells 0 (n+1) (bt.take bl.length)with
            |some (so,v2,_)=>cond (p1 gv so) (.again n (v2++[(I.var (n+1+l2.length)).add (.const 1)])) .stuck
            |none=> .stuck
           |_=> .stuck
          |_=> .stuck)
        (k (n+1+l2.length+1) tm gv)))) .stuck
   |none=> .stuck
  |_,_,_,_=> .stuck
 |_,_,_=> .stuck
theorem ajJ {hT:List Nat}:∀(tm:List V) (i s:Nat),(∀j,i<=j->j<i+tm.length->hT.any (aP j)=true)->hs hT [] i s tm=some (tm,[],[])
 |[],_,_,_=>rfl
 |v::r,i,s,h=>by
  unfold hs;rw[h i (bW _) (by simp),ajJ r (i+1) s λj h1 h2=>h j (by omega) (by simp only[ke];omega)];rfl
theorem akz (tm:List V) (s:Nat):hs (ht tm.length) [] 0 s tm=some (tm,[],[]):=
 ajJ tm 0 s λj _ h=>List.any_eq_true.2 ⟨j,List.mem_range.2 (by omega),IC j⟩
theorem BC (w:aG) (l:Nat) (o:Obj):(w.putObj l o).os=w.os/\(w.putObj l o).tape=w.tape/\(w.putObj l o).output=w.output/\(w.putObj l o).heap.size=w.heap.size:=⟨rfl,rfl,rfl,aeq⟩
theorem Mem.ahh {w0:eL} {ρ:Env} {m:Nat->Nat} {bl:List aJ} {w:aG} (h:Mem w0 ρ m bl w) {i:Nat} {x:A} {t:br×Bool} (hi:bl[i]?=some ([x],t)) (aA:cl [x]=true):w.cell? ⟨m i,0,none⟩=some (x.den ρ m):=by
 obtain⟨_,_,r,_,h3⟩:=h.gZ i _ t hi aA;simp[nK,h3]
def VK (mi:List Int->Prop) (w0:eL) (jQ:aG) (n:Nat) (ρ:Env) (m:Nat->Nat) (tm:List V) (gv:List aJ) (cc:List (Int×Int)) (k2:Nat) (tmps:Array aW) (i:Nat) (W:aG):Prop:=
 ∃zs,zs.length=k2/\ab (cc++[(0,9223372036854775807)]) (zs++[(i:Int)])/\mi (zs++[(i:Int)])/\R (narrow w0 jQ []) (n+1+k2+1) (bR ρ (n+1) (zs++[(i:Int)])) m tm gv {tmps:=tmps,defers:=[]} W
theorem aEg {w0:eL} {inl:mj} {li:Nat->Option hN} {rounds:Nat} {cells:List (Nat×Nat×Int×Int)} {Ba:dL} {g:Operand} {lh:Array Tmp} {assign body:Code} (oz:VN P Ba) (hm:P.follows .mixedOrders=true)
 (dy:∀r ex ro,iM S P gl ⟨w0.b,r,ex,ro,[]⟩ cal) (hg:gM gl w0) (nu:∀r ex ro,ri S L ⟨w0.b,r,ex,ro,[]⟩ P inl)
 {n:Nat} {ρ:Env} {m:Nat->Nat} {tm:List V} {bl:List aJ} {a:Act} {w:aG} {G:fe} {k:iz} {Q:Exit->Act->aG->Prop} (h:R w0 n ρ m tm bl a w) (sF:w0.ds=[])
 (ag:(acv P gl cal inl li rounds cells Ba g lh assign body n tm bl k).holds S L G ρ)
 (af:∀n' ae cK bt eV eN D dT w',e6 n bl.length ρ m n' (pE bt) ae m->gr n G eV->Sub eN w0->¬eN.ex D->eN.r.heap[D]?=some (.deferred (some []))->w0.r.heap.size<=D->w0.b.heap.size<=D->eN.ds=[{target:= .collected D,args:=#[]}]->
   R eN n' ae m cK bt dT w'->(k n' cK bt).holds S L eV ae->Q .normal dT w'):(Code.rangeFunc g lh assign body).wpIn IJ 0 P Q a w:=by
 unfold acv at ag;split at ag
 rotate_left
 ·exact ag.elim
 rename_i f bs uS p gv l2 cc az aI cn;split at ag
 rotate_left
 ·exact ag.elim
 rename_i b bG o ro len cap ts N aOe xs tE Pa aOl bg b3 cy et;split at ag
 rotate_left
 ·exact ag.elim
 rename_i c hc;generalize ld:(aP f Ba&&decide (0<c)&&decide (c<=9223372036854775807)&&aP bG 1&&pr assign&&pr body&&p2 tm tm&&p1 gv gv&&A.beq xs (.sl b bG o ro len cap)&&A.beq Pa (.int .i64 N)&&cl [xs]&&cl [Pa])=dv at ag;cases dv with
 |false=>exact ag.elim
 |true=>
 simp only[bx,decide_eq_true_eq]at ld;obtain⟨⟨⟨⟨⟨⟨⟨⟨⟨⟨⟨c1,bQ⟩,cF⟩,dk⟩,fN⟩,hQ⟩,nT⟩,lX⟩,j5⟩,pQ⟩,lW⟩,nO⟩:=ld;have c1:=b1 c1;have dk:=b1 dk;subst c1;subst dk;have j5:=A.beq_eq j5;have pQ:=A.beq_eq pQ;subst j5;subst pQ;simp only[cond_true,T.holds]at ag;obtain⟨JH,mi,o5,YL,ea⟩:=ag;have JH:c∣len.den ρ:=by simpa [ay,Ml,I.bq]using JH
 have ZC:A.ok n bl.length ρ (.sl b 1 o ro len cap):=h.b _ (fC bg) _ (by simp);obtain⟨M5,⟨uf,tf,ajD,aNf⟩,yx⟩:=ZC;obtain⟨⟨s1,s2,bn,cz⟩,⟨dO,ec⟩,eK,gy⟩:=yx;have av0:a.eval g= .func (.func f) #[] #[.pointer (some ⟨m bs,0,none⟩),.pointer (some ⟨m uS,0,none⟩)]:=by
  have:=(cS h.t g).2;rw[az]at this;exact this
 have awF:lh=#[p]:=by rw[<-Array.toArray_toList (xs:=lh),aI]
 subst awF;refine wpIn_rangeFunc ?_;intro fn E1;obtain⟨rec,Hl⟩:∃rec:LoopState->Option Code->Loop,rec=λst Fw=>{state:=st,pending:=Fw,fn,tmps:=a.tmps,params:=#[p],assign,body,defers:=w.heap.size}:=⟨_,rfl⟩;obtain⟨jQ,Q9⟩:∃jQ,(w.alloc (.deferred (some []))).alloc (.loop (rec .ready none))=jQ:=⟨_,rfl⟩;have yo:jQ.heap[w.heap.size+1]?=some (.loop (rec .ready none)):=by
  rw[<-Q9];have:=aJW (w.alloc (.deferred (some []))) (.loop (rec .ready none));rwa [World.size_alloc]at this
 have YM:jQ.heap[w.heap.size]?=some (.deferred (some [])):=by
  rw[<-Q9];exact(Below.heap_alloc _ _ _ (by simp)).trans (aJW w _)
 have CT:w.heap.size+1<jQ.heap.size:=(Array.getElem?_eq_some_iff.1 yo).1;have aiF:Mem w0 ρ m bl jQ:=by rw[<-Q9];exact h.bK.grow (((sW w).alloc _).alloc _)
 have aZ:w0.b.heap.size<=w.heap.size:=h.bK.ext.size;have Rx:w0.r.heap.size<=w.heap.size:=h.bK.ib;generalize hl:w.heap.size+1=l at*;generalize qJ:w.heap.size=D at*;have Ha:∀(k:Nat) (o:Obj),jQ.heap[k]?=some o->o.isCells=false->¬(narrow w0 jQ []).ex k:=λk o af aA ⟨_,cL,h1,h2⟩=>by
  rw[af]at h1;cases h1;rw[aA]at h2;cases h2
 have aqX:R (narrow w0 jQ []) n ρ m tm bl {tmps:=a.tmps,defers:=[]} jQ:=⟨h.t,rfl,h.b,aiF.narrow []⟩;have RB:∀v∈tm,V.ok n bl.length ρ v:=λv hv=>by
  obtain⟨i,hi⟩:=List.getElem?_of_mem hv;exact(h.t.2 i v hi).1
 have XQ:hb cells 0 (n+1+([]:List I).length) bl=some (gv,l2,cc):=cn;obtain⟨Zu,aNb⟩:=M3 cn;have head:∀{n':Nat} {ae:Env} {m':Nat->Nat} {bt so:List aJ} {v2:List I} {zo:List (Int×Int)} {W:aG} {x:I},bl.length<=bt.length->agree n ρ ae->(∀b,b<bl.length->m' b=m b)->
  R (narrow w0 jQ []) n' ae m' tm bt {tmps:=a.tmps,defers:=[]} W->hb cells 0 (n+1) (bt.take bl.length)=some (so,v2,zo)->p1 gv so=true->
  v2.length=l2.length/\ab cc (v2.map (·.den ae))/\R (narrow w0 jQ []) (n+1+l2.length+1) (bR ρ (n+1) (v2.map (·.den ae)++[x.den ae])) m tm gv {tmps:=a.tmps,defers:=[]} W:=λ{n' ae m' bt so v2 zo W x} k1 k2 k3 k4 tl zX=>by
  obtain⟨jc,p9,rM,_⟩:=ajc (li:={hT:=ht tm.length,ints:=[],cells:=cells}) (ext:=[x]) k1 k2 k3 RB h.b k4 (akz tm (n+1)) XQ (akz tm (n+1)) (v2:=v2) tl nT zX;simp only[qo,zd,oX,gq,ke,jE,du,gQ]at jc p9 rM;exact⟨jc,p9,rM⟩
 obtain⟨i0,i1,i2⟩:=head (x:= .const 0) (bW _) (agree.refl n ρ) (λ_ _=>rfl) aqX (by rw[ad5];exact cn) lX;have auY:VK mi w0 jQ n ρ m tm gv cc l2.length a.tmps 0 jQ:=by
  refine⟨l2.map (·.den ρ),by simp,m1 i1 ⟨by simp,by simp,trivial⟩,?_,by simpa [I.bq]using i2⟩;simpa [I.bq]using YL
 have still:∀{i:Nat} {W:aG} {k:Nat} {o:Obj},VK mi w0 jQ n ρ m tm gv cc l2.length a.tmps i W->jQ.heap[k]?=some o->o.isCells=false->W.heap[k]?=some o:=λ{i W k o} hJ af aA=>by
  obtain⟨zs,aF,z2,z3,z4⟩:=hJ;exact(z4.bK.jU k (Array.getElem?_eq_some_iff.1 af).1 (Ha k o af aA)).trans af
 obtain⟨C,jL⟩:∃C:Nat,(C:Int)=c:=⟨c.toNat,Pf (by omega)⟩;obtain⟨si,YQ⟩:∃si:Nat,(si:Int)=len.den ρ:=⟨(len.den ρ).toNat,Pf (by omega)⟩;have Za:C∣si:=by rw[<-jL,<-YQ]at JH;exact Int.natCast_dvd_natCast.1 JH
 have avA:si<=(cap.den ρ).toNat:=by
  by_cases h0:cap.den ρ<0
  ·have:=eK h0;omega
  ·have:=gy (by omega);omega
 have RE:∀{i:Nat} {zs:List Int},zs.length=l2.length->bR ρ (n+1) (zs++[(i:Int)]) (n+1+l2.length)=i:=λ{i zs} hz=>by
  rw[Le _ _ _ _ (by simp[hz]),<-hz];simp
 have iD:∀{i:Nat} {zs:List Int},agree n ρ (bR ρ (n+1) (zs++[(i:Int)])):=λ{i zs}=>(agree.bR _ (n+1) ρ).mono (by omega);have main:=oz.2 l (m bs) (m uS) ((A.sl b 1 o ro len cap).den ρ m) (m b) ((o.den ρ).toNat+(ro.den ρ).toNat) si (cap.den ρ).toNat C (VK mi w0 jQ n ρ m tm gv cc l2.length a.tmps) jQ (by omega) (by omega) Za avA (by omega)
  (by
    simp only[A.den];by_cases h0:cap.den ρ<0
    ·rw[if_pos h0];have:=eK h0;exact .inr ⟨rfl,by omega⟩
    ·rw[if_neg h0];refine .inl ?_;rw[show(len.den ρ).toNat=si by omega,Ch])
  (λi W hJ=>by
    obtain⟨zs,aF,z2,z3,z4⟩:=hJ;have ar:=z4.bK.ahh cy lW;have an:=z4.bK.ahh et nO;have ZC:A.ok n bl.length ρ (.sl b 1 o ro len cap):=h.b _ (fC bg) _ (by simp);have aww:A.ok n bl.length ρ (.int .i64 N):=h.b _ (fC b3) _ (by simp);rw[A.nW ZC iD (λ_ _=>rfl)]at ar;rw[A.nW aww iD (λ_ _=>rfl)]at an;refine⟨ar,an.trans ?_⟩;simp only[A.den,I.k9 hc,jL])
  (λi W hJ=>by
    obtain⟨zs,aF,z2,z3,z4⟩:=hJ;exact⟨zs,aF,z2,z3,z4.t,z4.d,z4.b,z4.bK.grow (Uv (sW W))⟩)
  ?_ auY
 ·refine⟨l,[{target:= .collected D,args:=#[]}],jQ,{target:= .fn (.func f) #[.pointer (some ⟨m bs,0,none⟩),.pointer (some ⟨m uS,0,none⟩)],args:=#[.func (.yield l) #[] #[]]},jQ,f,
   #[.func (.yield l) #[] #[],.pointer (some ⟨m bs,0,none⟩),.pointer (some ⟨m uS,0,none⟩)],jQ,?_,?_,λta ajg=>trivial,?_,λhs=>by simp[IJ]at hs,?_⟩
  ·rw[<-Q9,Hl,<-hl,<-qJ];exact run_enterLoop_outer _ _ _ _ _
  ·simp only[resolve,av0];simp[go_sem]
  ·simp[invoke,go_sem,oz.1]
  ·refine main.mono ?_
   rintro e aq4 ⟨⟨v,rfl⟩,hJ⟩
   have Rn:=still hJ yo rfl;have aM9:=still hJ YM rfl;obtain⟨zs,aF,z2,z3,z4⟩:=hJ;have zG:=(nj ea z2 z3).2;have Ns:len.den (bR ρ (n+1) (zs++[((si/C:Nat):Int)]))=si:=by rw[I.cf iD ajD,YQ]
   have ak:C*(si/C)=si:=Nat.mul_div_cancel' Za;have zI:bH.den (bR ρ (n+1) (zs++[((si/C:Nat):Int)])) (.lt ((I.var (n+1+l2.length)).smul c) len)=false:=by
    simp only[bH.den,I.mU,I.db,RE aF,Ns,decide_eq_false_iff_not];rw[<-jL];have:(C:Int)*((si/C:Nat):Int)=(si:Int):=by exact_mod_cast ak
    omega
   have zG:=zG zI;refine⟨none,_,by have:=run_endLoop (P:=P) Rn (by rw[Hl];simp);rw[Hl]at this;exact this,?_⟩;simp only;obtain⟨VO,auX⟩:∃o,o=Obj.loop {({state:= .ready,pending:=none,fn,tmps:=a.tmps,params:=#[p],assign,body,defers:=D}:Loop)with state:= .exhausted}:=⟨_,rfl⟩;rw[<-auX];have aqP:Mem ⟨w0.b,jQ.putObj l VO,(narrow w0 jQ []).ex,w0.ro,[{target:= .collected D,args:=#[]}]⟩ (bR ρ (n+1) (zs++[((si/C:Nat):Int)])) m gv (aq4.putObj l VO):=
    Mem.yZ z4.bK l (by omega) (Ha l _ yo rfl) CT (BC _ _ _) (BC _ _ _) (λk af=>AJ af) (λk af=>AJ af) (by rw[D9 (Array.getElem?_eq_some_iff.1 Rn).1,D9 CT]) (λo aA=>by rw[yo]at aA;cases aA;rfl)
   refine af _ _ _ _ _ ⟨w0.b,jQ.putObj l VO,(narrow w0 jQ []).ex,w0.ro,[{target:= .collected D,args:=#[]}]⟩ D _ _ ⟨by omega,iD,by omega,λ_ _=>rfl⟩ (λl' E2=>?_) (Sub.yZ (Sub.narrow aiF []) l (by omega) (BC _ _ _) (λk af=>AJ af)) (Ha D _ YM rfl) ((AJ (by omega)).trans YM) Rx aZ rfl ⟨z4.t,?_,z4.b,aqP⟩ zG
   ·unfold fe.set;cases hb:aP l' n with
    |true=>have:=b1 hb;omega
    |false=>rfl
   ·show _++a.defers=_;rw[h.d,sF];rfl
 ·
  intro i W hJ hlt;have Rn:=still hJ yo rfl;obtain⟨zs,aF,z2,z3,z4⟩:=hJ;have zG:=(nj ea z2 z3).1;have Ns:len.den (bR ρ (n+1) (zs++[(i:Int)]))=si:=by rw[I.cf iD ajD,YQ]
  have zI:bH.den (bR ρ (n+1) (zs++[(i:Int)])) (.lt ((I.var (n+1+l2.length)).smul c) len)=true:=by
   simp only[bH.den,I.mU,I.db,RE aF,Ns,decide_eq_true_eq];rw[<-jL];exact_mod_cast hlt
  have zG:=zG zI;have n1:C*i+C<=si:=by
   obtain⟨q,rfl⟩:=Za;have:i<q:=Nat.lt_of_mul_lt_mul_left hlt;have:C*(i+1)<=C*q:=UB C this;rw[Nat.mul_succ]at this;omega
  have aM0:¬cap.den ρ<0:=λh0=>by have:=eK h0;omega
  have M7:=gy (by omega);have hid:(ro.add ((I.var (n+1+l2.length)).smul c)).den (bR ρ (n+1) (zs++[(i:Int)]))=ro.den ρ+(C*i:Nat):=by
   rw[I.den_add,I.mU,I.db,RE aF,I.cf iD tf,<-jL];simp
  have ajE:o.den (bR ρ (n+1) (zs++[(i:Int)]))=o.den ρ:=I.cf iD uf;have axf:(V.w (.one (.sl b 1 o (ro.add ((I.var (n+1+l2.length)).smul c)) (.const c) (.const c)))).ok (n+1+l2.length+1) gv.length (bR ρ (n+1) (zs++[(i:Int)])):=by
   refine⟨by omega,⟨uf.mono (by omega),I.yW (tf.mono (by omega)) (I.xD (I.hj (by omega))),I.dF _ _,I.dF _ _⟩,?_⟩;rw[hid,ajE,I.bq];exact⟨⟨s1,by omega,by omega,by omega⟩,⟨by omega,by omega⟩,λh=>by omega,λ_=>di _⟩
  have axh:(V.w (.one (.sl b 1 o (ro.add ((I.var (n+1+l2.length)).smul c)) (.const c) (.const c)))).rel (bR ρ (n+1) (zs++[(i:Int)])) m (.slice (some ⟨m b,(o.den ρ).toNat+(ro.den ρ).toNat+C*i,none⟩) C C):=by
   simp only[V.rel,b9.W.den,A.den,hid,ajE,I.bq,Ch];rw[if_neg (by omega),show c.toNat=C by omega,show(ro.den ρ+(C*i:Nat)).toNat=(ro.den ρ).toNat+C*i by omega,Nat.add_assoc]
  have aiJ:R (narrow w0 jQ []) (n+1+l2.length+1) (bR ρ (n+1) (zs++[(i:Int)])) m (xF tm p (.w (.one (.sl b 1 o (ro.add ((I.var (n+1+l2.length)).smul c)) (.const c) (.const c))))) gv
   (({tmps:=a.tmps,defers:=[]}:Act).put (some p) (.slice (some ⟨m b,(o.den ρ).toNat+(ro.den ρ).toNat+C*i,none⟩) C C)) W:=
   ⟨eW.put z4.t (some p) axf axh,z4.d,z4.b,z4.bK⟩
  have hy:=run_yield (P:=P) (args:=#[.slice (some ⟨m b,(o.den ρ).toNat+(ro.den ρ).toNat+C*i,none⟩) C C]) Rn (by rw[Hl];rfl);rw[Hl]at hy;have atx:(({tmps:=a.tmps,defers:=[]}:Act).put (some p) (.slice (some ⟨m b,(o.den ρ).toNat+(ro.den ρ).toNat+C*i,none⟩) C C))={tmps:=((#[p]:Array Tmp).zip #[Pr (some ⟨m b,(o.den ρ).toNat+(ro.den ρ).toNat+C*i,none⟩) C C]).foldl (λtmps (t,a)=>tmps.setIfInBounds t a) a.tmps,defers:=[]}:=by
   simp[Act.put]
  rw[atx]at aiJ;refine⟨fn,_,assign,body,hy,roundIn_of_wpIn trivial ?_⟩;refine Jc (rd:=some l) hm (dy _ _ _) (λg cs h=>hg g cs h) (nu _ _ _) assign (.inr fN) _ _ _ _ _ _ _ _ W _ aiJ zG λx a6 aN ir TK tN G1 b7 eN g1 g2 g3 g4=>?_;cases x with
  |exit id=>exact g4.elim
  |ret=>exact g4.elim
  |normal=>
   simp only at g4;have aju:eN.heap[l]?=some (.loop (rec .ready none)):=(g3.bK.jU l CT (Ha l _ yo rfl)).trans yo;obtain⟨F7,YJ⟩:∃o,o=Obj.loop {rec .ready none with state:= .busy}:=⟨_,rfl⟩;have auV:F7.isCells=false:=by rw[YJ];rfl
   have M2:Mem ⟨w0.b,jQ.putObj l F7,(narrow w0 jQ []).ex,w0.ro,[]⟩ aN ir tN (eN.putObj l F7):=
    Mem.yZ g3.bK l (by omega) (Ha l _ yo rfl) CT (BC _ _ _) (BC _ _ _) (λk af=>AJ af) (λk af=>AJ af) (by rw[D9 (Array.getElem?_eq_some_iff.1 aju).1,D9 CT]) (λo aA=>by rw[yo]at aA;cases aA;rfl)
   refine⟨eN.putObj l F7,by rw[YJ];exact run_beginRound aju (by rw[Hl]),?_⟩;refine Jc (rd:=some l) hm (dy _ _ _) (λg cs h=>hg g cs h) (nu _ _ _) body (.inr hQ) a6 TK tN _ G1 aN ir b7 _ _ (⟨g3.t,g3.d,g3.b,M2⟩:R ⟨w0.b,jQ.putObj l F7,(narrow w0 jQ []).ex,w0.ro,[]⟩ a6 aN ir TK tN b7 (eN.putObj l F7)) g4 λx gd b5 gw aGf sn PG a2 qj k1 k2 k3 k4=>?_;cases x with
   |exit id=>exact k4.elim
   |ret=>exact k4.elim
   |normal=>
    simp only at k4;split at k4
    rotate_left
    ·exact k4.elim
    rename_i so v2 zo iC;cases hf:p1 gv so with
    |false=>rw[hf]at k4;exact k4.elim
    |true=>
    rw[hf]at k4;simp only[cond_true,T.holds]at k4;have Rl:qj.heap[l]?=some F7:=(k3.bK.jU l (by rw[aeq];exact CT) (Ha l _ yo rfl)).trans (D9 CT);have awg:=(Array.getElem?_eq_some_iff.1 Rl).1;rw[YJ]at Rl;refine⟨_,_,run_endRound none Rl,rfl,?_⟩;have awN:({{rec .ready none with state:= .busy}with state:=if(none:Option Code).isNone then .ready else .done,pending:=none}:Loop)=rec .ready none:=by rw[Hl];rfl
    rw[awN];have aqO:Mem (narrow w0 jQ []) b5 gw sn (qj.putObj l (.loop (rec .ready none))):=
     Mem.yZ k3.bK l (by omega) (Ha l _ yo rfl) (by rw[aeq];exact CT) ⟨rfl,rfl,rfl,World.putObj_size.symm⟩ (BC _ _ _) (λk af=>(AJ af).symm) (λk af=>AJ af) (by rw[D9 awg,yo]) (λo aA=>by rw[D9 CT]at aA;cases aA;exact auV)
    have YN:e6 n bl.length ρ m (n+1+l2.length+1) gv.length (bR ρ (n+1) (zs++[(i:Int)])) m:=⟨by omega,iD,by omega,λ_ _=>rfl⟩;have G2:=(YN.trans g1).trans k1;have aqY:R (narrow w0 jQ []) gd b5 gw tm sn {tmps:=a.tmps,defers:=[]} (qj.putObj l (.loop (rec .ready none))):=⟨h.t.ext G2.ha G2.hn G2.hb G2.hm,rfl,k3.b,aqO⟩;obtain⟨oR,sR,BQ⟩:=head (x:=(I.var (n+1+l2.length)).add (.const 1)) G2.hb G2.ha G2.hm aqY iC hf;have ajW:b5 (n+1+l2.length)=i:=by rw[(g1.trans k1).ha _ (by omega),RE aF]
    have hx:((I.var (n+1+l2.length)).add (.const 1)).den b5=((i+1:Nat):Int):=by rw[I.den_add,I.db,I.bq,ajW];simp
    rw[hx]at BQ;have YK:PG n=λvs=>mi vs/\o5 vs<o5 (zs++[(i:Int)]):=by
     rw[k2 n (by have:=g1.hn;omega),g2 n (by omega)];unfold fe.set;rw[show aP n n=true from IC n];rfl
    rw[YK,jE,du,gQ,hx]at k4;have:i+1<=si:=by
     have:=Nat.mul_le_mul_right i (show 1<=C by omega);omega
    exact⟨v2.map (·.den b5),by simp[oR],m1 sR ⟨by omega,by omega,trivial⟩,k4.1,BQ⟩
noncomputable def Qd (P:b4) (gl:fP) (cal:gL) (inl:mj) (li:dL->Nat->Option hN) (rounds:Nat) (cells:List (Nat×Nat×Int×Int)) (Ba:dL):mj:=
 λf n vs bl k=>match P.funcs[f]? with
  |none=> .stuck
  |some fn=>match fn.body with
   |some (.seq e4 (.seq (.seq c1 (.block _ (.rangeFunc g lh assign body))) cF))=>cond (!(fn.name== "runtime.NumGoroutine")&&cO vs.length fn.ntmps)
    (pU P gl cal inl (li f) rounds e4 n (vs++KR (fn.ntmps-vs.length)) bl λx n tm bl=>match x with
      | .normal=>pU P gl cal inl (li f) rounds c1 n tm bl λx n tm bl=>match x with
       | .normal=>acv P gl cal inl (li f) rounds cells Ba g lh assign body n tm bl λn tm bl=>
        pU P gl cal (λ_ _ _ _ _=> .stuck) (li f) rounds cF n tm bl λx n tm bl=>match x with
         | .exit _=> .stuck
         |_=>OT P gl fn n tm bl k
       |_=> .stuck
      |_=> .stuck) .stuck
   |_=> .stuck
theorem ax2 {w0:eL}:ri S L w0 P (λ_ _ _ _ _=> .stuck):=λf n vs bl k G ρ m w xs R' _ _ _ _ ag _=>ag.elim
theorem ar1 {w0:eL} {inl:mj} {li:dL->Nat->Option hN} {rounds:Nat} {cells:List (Nat×Nat×Int×Int)} {Ba:dL} (oz:VN P Ba) (hm:P.follows .mixedOrders=true)
 (dy:∀r ex ro,iM S P gl ⟨w0.b,r,ex,ro,[]⟩ cal) (hg:gM gl w0) (nu:∀r ex ro,ri S L ⟨w0.b,r,ex,ro,[]⟩ P inl) (sF:w0.ds=[]):ri S L w0 P (Qd P gl cal inl li rounds cells Ba):=by
 have ajR:w0=⟨w0.b,w0.r,w0.ex,w0.ro,[]⟩:=by cases w0;simp at sF;subst sF;rfl
 have ai3:iM S P gl w0 cal:=by rw[ajR];exact dy _ _ _
 have ajm:ri S L w0 P inl:=by rw[ajR];exact nu _ _ _
 intro f n vs bl k G ρ m w xs R' hb mY lu hrel ag af;unfold Qd at ag;cases hf:P.funcs[f]? with
 |none=>simp[hf,T.holds]at ag
 |some fn=>
  simp only[hf]at ag;split at ag
  rotate_left
  ·exact ag.elim
  rename_i e4 c1 id g lh assign body cF CL;cases hc:(!(fn.name== "runtime.NumGoroutine")&&cO vs.length fn.ntmps)with
  |false=>simp[hc,T.holds]at ag
  |true=>
   simp only[hc,cond_true]at ag;simp only[bx,cI]at hc;have hlen:=Wc hrel;refine⟨?_,?_⟩
   ·have h1:¬fn.name= "runtime.NumGoroutine" :=by have:=hc.1;simpa using this
    simp[callFunc,hf,CL,h1]
   ·refine(callsIn_wide (n:=0)).1 (callsIn_of_wp_marks hf CL trivial ?_ rfl);have hR:R w0 n ρ m (vs++KR (fn.ntmps-vs.length)) bl {tmps:=xs.toArray++Ci (fn.ntmps-xs.toArray.size) undef,defers:=[]} w:=by
     refine⟨?_,sF.symm,hb,mY⟩;have:=PV (Wa (fn.ntmps-vs.length) lu hrel);have e:(xs++fD (fn.ntmps-vs.length) undef).toArray=xs.toArray++Ci (fn.ntmps-xs.toArray.size) undef:=by
      simp[hlen]
     rw[e]at this;exact this
    refine wpIn_seq (Jc (rd:=none) hm ai3 hg ajm e4 (.inl rfl) n _ bl _ G ρ m _ w _ hR ag λx a6 aN ir TK tN G1 b7 eN h1 h2 h3 h4=>?_);cases x with
    |exit id=>exact h4.elim
    |ret=>exact h4.elim
    |normal=>
    refine wpIn_seq (wpIn_seq (Jc (rd:=none) hm ai3 hg ajm c1 (.inl rfl) a6 TK tN _ G1 aN ir b7 eN _ h3 h4 λx gd b5 gw aGf sn PG a2 qj k1 k2 k3 k4=>?_));cases x with
    |exit id=>exact k4.elim
    |ret=>exact k4.elim
    |normal=>
    refine wpIn_block (aEg oz hm dy hg nu k3 sF k4 λur iL aGg arZ VR dm D a3 uH cG cC dE gP gW ie pt Kz amc amb=>?_);have avy:iM S P gl dm cal:=by
     have e:dm=⟨w0.b,dm.r,dm.ex,dm.ro,dm.ds⟩:=by have:=dE.b;cases dm;simp at this;subst this;rfl
     rw[e];exact(dy _ _ _).ds
    have Hd:gM gl dm:=λg cs h=>by rw[dE.b];exact hg g cs h
    refine Jc (rd:=none) hm avy Hd ax2 cF (.inl rfl) ur aGg arZ _ VR iL gw a3 uH _ amc amb λx ez PE Bt anB Md PH a4 ch bg b3 cy et=>?_;have qJ:ch.heap[D]?=some (.deferred (some [])):=(cy.bK.jU D (Array.getElem?_eq_some_iff.1 gW).1 gP).trans gW;have awh:=(Array.getElem?_eq_some_iff.1 qJ).1;have aqQ:Mem ⟨dm.b,dm.r.putObj D (.deferred none),dm.ex,dm.ro,[]⟩ PE Bt Md (ch.putObj D (.deferred none)):=by
     have e:dm=⟨dm.b,dm.r,dm.ex,dm.ro,dm.ds⟩:=rfl;refine Mem.yZ (e▸cy.bK) D (by rw[dE.b];exact pt) gP (Array.getElem?_eq_some_iff.1 gW).1 (BC _ _ _) (BC _ _ _) (λk af=>AJ af) (λk af=>AJ af) (by rw[D9 awh,D9 (Array.getElem?_eq_some_iff.1 gW).1]) (λo aA=>by rw[gW]at aA;cases aA;rfl)
    have Gf:Sub ⟨dm.b,dm.r.putObj D (.deferred none),dm.ex,dm.ro,[]⟩ w0:=Sub.yZ (ds:=dm.ds) dE D ie (BC _ _ _) (λk af=>AJ af);have ae3:Mem w0 PE Bt Md (ch.putObj D (.deferred none)):=aqQ.less Gf;have aqZ:R w0 ez PE Bt anB Md {a4 with defers:=[]} (ch.putObj D (.deferred none)):=⟨cy.t,sF.symm,cy.b,ae3⟩;have fin:(OT P gl fn ez anB Md k).holds S L PH PE->LeavesInM IJ 0 P fn a4.tmps R' a4.defers .returning ch:=λhr=>by
     obtain⟨v,val,oR,sR,BQ,Lc⟩:=acx hg aqZ hr;have dM:=(((h1.trans k1).trans cG).trans bg);have aO:=(((h2.trans k2 h1.hn).trans cC (h1.trans k1).hn).trans b3 ((h1.trans k1).trans cG).hn);rw[cy.d,Kz];exact⟨by simp,.inl ⟨D,_,rfl,run_takeDeferred qJ,val,BQ,af ez v Md PH PE Bt _ val dM aO oR sR cy.b ae3 Lc⟩⟩
    cases x with
    |exit id=>exact et.elim
    |normal=>exact fin et
    |ret=>exact fin et
end Go.b9
namespace Go.b9
open M
variable {S:Nat->List Int->List Int->Prop} {L:V->Env->Prop} {P:b4} {gl:fP} {cal:gL}
structure kV where
 c:gK
 ty:br
 nil:Bool
def Fs (p:kV) (g k:Nat):Array aW:=cond p.nil #[.slice (some ⟨g,0,none⟩) k k,.slice none 0 0] #[.slice (some ⟨g,0,none⟩) k k]
def kV.bD (P:b4) (wb:aG) (p:kV) (spec:List Int->List Int->Prop):Prop:=
 (∀args w,(callFunc p.c.f args).run P w= .ok (.enter p.c.f args) w)/\
 ∀(F:Nat->Prop) (w:aG) (vs:List aW) (zs:List Int) (g:Nat),wb.Extends w->ab (dU p.c.args) zs->KC p.c.pre zs->mM F (λ_=>False) w p.c.args zs vs->wb.heap.size<=g->¬F g->w.heap[g]?=some (.cells vs.toArray p.ty (0,0))->
  nJ P p.c.f (Fs p g vs.length) w λe w'=>w.Extends w'/\∃rs us,ab (dU p.c.res) rs/\spec zs rs/\mM (λg=>F g∨w.heap.size<=g) (λg=>w.heap.size<=g) w' p.c.res rs us/\e= .returned (xK us)
def S8 (nil:Bool) (vs:List V):Option (Nat×Nat×Nat):=
 match vs with
 |[.w (.one (.slc b 0 len cap))]=>cond nil none (some (b,len,cap))
 |[.w (.one (.slc b 0 len cap)),.w (.one (.con (.slice none 0 0)))]=>cond nil (some (b,len,cap)) none
 |_=>none
def m7 (a:A):V:= .w (.one a)
noncomputable def kV.E (p:kV) (n:Nat) (vs:List V) (bl:List aJ) (k:RK):T:=
 match S8 p.nil vs with
 |some (b,len,cap)=>match bl[b]? with
  |some (cs,(t,false))=>cond (cl cs&&aP len cs.length&&aP cap cs.length&&aP t p.ty&& !(((cs.map m7).flatMap qz).any (aP b))) (p.c.LS n (cs.map m7) bl k) .stuck
  |_=> .stuck
 |none=> .stuck
theorem Wd {ρ:Env} {m:Nat->Nat}:∀(cs:List A),fQ ρ m (cs.map m7) (cs.map (A.den ρ m))
 |[]=>trivial
 |a::r=>⟨rfl,Wd r⟩
theorem aCm {p:kV} {vs:List V} {b len cap:Nat} {ρ:Env} {m:Nat->Nat} {xs:List aW} (h:S8 p.nil vs=some (b,len,cap)) (hr:fQ ρ m vs xs) (Nr:cap=len):xs.toArray=Fs p (m b) len:=by
 subst Nr;unfold S8 at h;split at h
 ·cases hn:p.nil with
  |true=>rw[hn]at h;cases h
  |false=>
   rw[hn]at h;cases h
   match xs,hr with
   |[x],hr=>have hx:x=_:=hr.1;rw[hx];simp[Fs,hn,W.den,A.den]
 ·cases hn:p.nil with
  |false=>rw[hn]at h;cases h
  |true=>
   rw[hn]at h;cases h
   match xs,hr with
   |[x,y],hr=>have hx:x=_:=hr.1;have hy:y=_:=hr.2.1;rw[hx,hy];simp[Fs,hn,W.den,A.den]
 ·cases h
theorem kV.LV {w0:eL} {p:kV} {spec:List Int->List Int->Prop} (hc:p.bD P w0.b spec) (hS:∀zs rs,spec zs rs->S p.c.id zs rs) (n:Nat) (vs:List V) (bl:List aJ) (k:RK) (G:fe) (ρ:Env) (m:Nat->Nat) (w:aG) (xs:List aW) (R':Ending->aG->Prop)
 (hb:dj n bl.length ρ bl) (hw:Mem w0 ρ m bl w) (hv:∀v∈vs,V.ok n bl.length ρ v) (hr:fQ ρ m vs xs) (ag:(p.E n vs bl k).holds S L G ρ) (af:Ge S L w0 k n bl.length ρ m G R'):
 (callFunc p.c.f xs.toArray).run P w= .ok (.enter p.c.f xs.toArray) w/\nJ P p.c.f xs.toArray w R':=by
 refine⟨hc.1 _ _,?_⟩;unfold kV.E at ag;split at ag
 rotate_left
 ·exact ag.elim
 rename_i b len cap hp;split at ag
 rotate_left
 ·exact ag.elim
 rename_i cs t aZ;cases ld:(cl cs&&aP len cs.length&&aP cap cs.length&&aP t p.ty&& !(((cs.map m7).flatMap qz).any (aP b)))with
 |false=>rw[ld]at ag;exact ag.elim
 |true=>
 rw[ld]at ag;simp only[bx,cI]at ld;obtain⟨⟨⟨⟨c1,bQ⟩,cF⟩,dk⟩,fN⟩:=ld;have bQ:=b1 bQ;have cF:=b1 cF;have dk:=b1 dk;subst dk;rw[aCm hp hr (by omega),bQ];obtain⟨ca,cc,r,ju,dm⟩:=hw.gZ b cs _ aZ c1;have ju:=ju rfl;subst ju;rw[hK]at dm;refine gK.aeU (f:=p.c.f) hS n (cs.map m7) bl k G ρ m w (cs.map (A.den ρ m)) R' (λzs h1 h2 h3=>?_) hb hw (λv hv=>?_) (Wd cs) ag af
 ·have:=hc.2 _ w _ zs (m b) hw.ext h1 h2 h3 ca (λhF=>?_) dm
  ·rwa [pG]at this
  ·obtain⟨⟨b',k1,k2,q,k3,k4,_⟩,_⟩:=hF;have dA:b≠b':=λe=>by
    subst e;rw[List.any_eq_true.2 ⟨b,k1,IC b⟩]at fN;cases fN
   rcases hw.inj b b' _ q aZ k3 k2.symm with h|h|h|h
   ·exact dA h
   ·have:=nA (ρ:=ρ) c1;simp only at h;omega
   ·have:=nA (ρ:=ρ) c1;simp only at h;omega
   ·exact k4 h
 ·obtain⟨a,ha,rfl⟩:=List.mem_map.1 hv;exact hb _ (fC aZ) a ha
def Yd (p:kV) (vs:List V):Bool:=match S8 p.nil vs with
 |some (_,len,_)=>aP len p.c.args.length
 |none=>false
noncomputable def q0:List kV->qq->qq
 |[],bc=>bc
 |p::r,bc=>λf=>cond (aP p.c.f f) (some λn vs bl k=>cond (Yd p vs) (p.E n vs bl k) (match q0 r bc f with
  |some g=>g n vs bl k
  |none=> .stuck)) (q0 r bc f)
theorem BB {w0:eL} {bc:qq} (n0:xZ S L w0 P bc):∀{l:List kV},(∀p∈l,p.bD P w0.b (S p.c.id))->xZ S L w0 P (q0 l bc)
 |[],_=>n0
 |p::l,h=>λf g hf=>by
  unfold q0 at hf;cases hb:aP p.c.f f with
  |true=>
   rw[hb]at hf;simp only[cond_true,bj]at hf;have:=b1 hb;subst this;subst hf;intro n vs bl k G ρ m w xs R' h1 h2 h3 h4 h5 h6;have h5:(cond (Yd p vs) (p.E n vs bl k) (match q0 l bc p.c.f with
    |some g=>g n vs bl k
    |none=> .stuck)).holds S L G ρ:=h5
   cases ak:Yd p vs with
   |true=>
    rw[ak]at h5;exact kV.LV (h p (by simp)) (λ_ _ h=>h) n vs bl k G ρ m w xs R' h1 h2 h3 h4 h5 h6
   |false=>
    rw[ak]at h5;simp only[cond_false]at h5;cases hr:q0 l bc p.c.f with
    |none=>rw[hr]at h5;exact h5.elim
    |some ns=>
     rw[hr]at h5;exact BB n0 (λp hp=>h p (eI _ hp)) p.c.f ns hr n vs bl k G ρ m w xs R' h1 h2 h3 h4 h5 h6
  |false=>
   rw[hb]at hf;exact BB n0 (λp hp=>h p (eI _ hp)) f g hf
def tu:W->A
 | .one a=>a
 |_=> .con undef
noncomputable def kV.tree (bc:qq) (P:b4) (gl:fP) (cal:gL) (li:dL->Nat->Option hN) (rounds d:Nat) (p:kV):T:=
 cond (sY p.c.args&& !(p.c.args.any cV.tj)) (Tc p.c.pre ((ht (dU p.c.args).length).map N7) (zm p.c.args 0 (dU p.c.args).length [] [] λn us bl=>
  cond (us.all (λu=>match u with| .one _=>true|_=>false)&&cl (us.map tu)) (I9 bc P gl cal li rounds d p.c.f n (cond p.nil [m7 (.slc bl.length 0 us.length us.length),m7 (.con (.slice none 0 0))] [m7 (.slc bl.length 0 us.length us.length)]) (bl++[(us.map tu,(p.ty,false))]) λn' v bt=>match bt[bl.length]? with
   |some (cs,(t,false))=>cond (rl cs (us.map tu)&&aP t p.ty) (OU (ei bt bl.length hB) p.c.res v n' λos _=> .leaf (Fm os)) .stuck
   |_=> .stuck) .stuck)) .stuck
theorem Mem.more {b r:aG} {ex ex' ro:Nat->Prop} {ds:List F5} {ρ:Env} {m:Nat->Nat} {bl:List aJ} {w:aG} (h:Mem ⟨b,r,ex,ro,ds⟩ ρ m bl w) (he:∀g,ex g->ex' g):Mem ⟨b,r,ex',ro,ds⟩ ρ m bl w:=
 ⟨h.ext,h.j7,h.mw,h.lH,h.ib,λi hi hx=>h.jU i hi λoC=>hx (he i oC),λi cs t hi aA=>by
  obtain⟨h1,h2,h3⟩:=h.gZ i cs t hi aA;exact⟨h1,h2.imp (he _) id,h3⟩,λi sh off code cap kind t hi af=>by
  obtain⟨g1,g2⟩:=h.rws i sh off code cap kind t hi af;refine⟨g1,λhc=>?_⟩;obtain⟨k1,cells,t',fz,k2,k3,k4⟩:=g2 hc;refine⟨k1.imp (he _) id,cells,t',fz,k2,k3,λh2=>?_⟩;obtain⟨jc,p9,rM,tk,zV,qS⟩:=k4 h2;exact⟨jc,p9,rM,tk,zV,qS.imp (he _) id⟩,h.inj⟩
theorem Mem.drop {b r:aG} {ro:Nat->Prop} {ρ:Env} {m:Nat->Nat} {bl:List aJ} {w:aG} {g i0:Nat} {cs:List A} {t:br} (h:Mem ⟨b,r,λi=>i=g,ro,[]⟩ ρ m bl w) (hi:bl[i0]?=some (cs,(t,false))) (aA:cl cs=true) (hg:m i0=g) (hr:r.heap[g]?=some (.cells (cs.map (A.den ρ m)).toArray t (0,0))):
 Mem ⟨b,r,λ_=>False,ro,[]⟩ ρ m (ei bl i0 hB) w:=by
 have hlen:i0<bl.length:=(List.getElem?_eq_some_iff.1 hi).1;have eC:∀(i:Nat) (q:aJ),(ei bl i0 hB)[i]?=some q->(i=i0/\q=hB)∨(i≠i0/\bl[i]?=some q):=λi q ak=>by
  rw[mz,wh]at ak;split at ak
  ·rename_i iE;subst iE;simp only[hlen,if_true,bj]at ak;exact .inl ⟨rfl,ak.symm⟩
  ·rename_i iE;exact .inr ⟨λe=>iE e.symm,ak⟩
 have jt:bU ρ hB.1=0:=by simp[hB,bU,I.bq]
 have mW:bU ρ cs=2:=nA aA;have dA:∀(i:Nat) (q:aJ),i≠i0->bl[i]?=some q->bU ρ q.1≠0->m i≠g:=λi q p5 ak af e=>by
  rcases h.inj i i0 q _ ak hi (by rw[e,hg])with h1|h1|h1|h1
  ·exact p5 h1
  ·simp only at h1;omega
  ·exact af h1
  ·simp only at h1;omega
 refine⟨h.ext,h.j7,h.mw,h.lH,h.ib,λi jW _=>?_,λi lq t' ak kl=>?_,λi sh off code cap kind t' ak=>?_,λi j p q hp ak he=>?_⟩
 ·by_cases e:i=g
  ·subst e;obtain⟨_,_,KV,pk,h3⟩:=h.gZ i0 cs _ hi aA;have pk:=pk rfl;subst pk;rw[hK,hg]at h3;rw[h3];exact hr.symm
  ·exact h.jU i jW e
 ·rcases eC i _ ak with⟨_,e⟩|⟨p5,ak⟩
  ·simp only[hB,eO]at e;rw[e.1]at kl;simp[cl]at kl
  ·obtain⟨h1,h2,h3⟩:=h.gZ i lq t' ak kl;refine⟨h1,?_,h3⟩;rcases h2 with h2|h2
   ·exact absurd h2 (dA i _ p5 ak (by rw[nA kl];decide))
   ·exact .inr h2
 ·rcases eC i _ ak with⟨_,e⟩|⟨p5,ak⟩
  ·simp only[hB,eO,qn,A.rows.injEq,and_true]at e;intro af;exact absurd e.1.2.2.2.2 af
  ·intro af;obtain⟨g1,g2⟩:=h.rws i sh off code cap kind t' ak af;refine⟨g1,λhc=>?_⟩;have Hi:m i≠g:=dA i _ p5 ak (by simp only[bU];rw[if_neg (by omega)];exact af);obtain⟨k1,cells,O7,fz,k2,k3,k4⟩:=g2 hc;refine⟨?_,cells,O7,fz,k2,k3,λh2=>?_⟩
   ·rcases k1 with k1|k1
    ·exact absurd k1 Hi
    ·exact .inr k1
   ·obtain⟨jc,p9,rM,tk,zV,qS⟩:=k4 h2;refine⟨jc,p9,rM,tk,zV,?_⟩;rcases qS with qS|qS
    ·exact absurd qS Hi
    ·exact .inr qS
 ·rcases eC i _ hp with⟨_,e⟩|⟨p5,hp⟩
  ·subst e;exact .inr (.inr (.inl jt))
  ·rcases eC j _ ak with⟨_,e⟩|⟨ajq,ak⟩
   ·subst e;exact .inr (.inr (.inr jt))
   ·exact h.inj i j p q hp ak he
theorem kV.Oj {wb:aG} {gl:fP} {p:kV} {bc:qq} {cal:gL} {li:dL->Nat->Option hN} {rounds d:Nat} {spec:List Int->List Int->Prop} (hm:P.follows .mixedOrders=true) (dy:∀r ex ro,iM S P gl ⟨wb,r,ex,ro,[]⟩ cal) (hg:gM gl ⟨wb,wb,λ_=>False,λ_=>False,[]⟩)
 (n0:∀(L:V->Env->Prop) (r:aG) (ex ro:Nat->Prop),xZ S L ⟨wb,r,ex,ro,[]⟩ P bc) (hf:∀args w,(callFunc p.c.f args).run P w= .ok (.enter p.c.f args) w)
 (aD:kC (dU p.c.args) λzs=>(p.tree bc P gl cal li rounds d).holds S (zi λrs=>ab (dU p.c.res) rs/\spec zs rs) (λ_ _=>False) (bR (λ_=>0) 0 zs)):p.bD P wb spec:=by
 refine⟨hf,λF w vs zs g hw hz Nz hat Y3 MX hcell=>?_⟩;have ag:=nj aD hz;have qR:=dR hz;unfold kV.tree at ag;cases ak:(sY p.c.args&& !(p.c.args.any cV.tj))with
 |false=>rw[ak]at ag;exact ag.elim
 |true=>
  rw[ak]at ag;simp only[cond_true]at ag;have ag:=preA_holds ag (by rw[<-qR,abl];exact Nz);simp only[bx,cI]at ak;have mY:Mem ⟨wb,w,λ_=>False,F,[]⟩ (bR (λ_=>0) 0 zs) (λ_=>0) [] w:=⟨hw,rfl,rfl,rfl,bW _,λ_ _ _=>rfl,λi cs t h=>by simp at h,λi sh off code cap kind t h=>by simp at h,λi j p q h=>by simp at h⟩;have jM:(p.c.args.all λb=> !b.tj)=true:=by
   rw[LA];intro b hb;cases iR:b.tj with
   |false=>rfl
   |true=>rw[List.any_eq_true.2 ⟨b,hb,iR⟩]at ak;cases ak.2
  obtain⟨n',ae,m',us,bl,cG,cC,dE,gP,gW,ie⟩:=Gq (S:=S) (L:=_) (w0:=⟨wb,w,λ_=>False,F,[]⟩) (F:=F) (N:=λ_=>False) (λg hg=> .inr (.inl hg)) (λg hg=>hg.elim) (l:=p.c.args) (s:=0) (us:=[]) (bl:=[]) (m:=λ_=>0) ak.1 (λp hp=>by simp at hp) mY (kf.bR _ 0 zs) hz (by omega) hat (.inr λi p h=>by simp at h) (.inl jM) (λu hu=>by simp at hu) ag;cases yw:(us.all (λu=>match u with| .one _=>true|_=>false)&&cl (us.map tu))with
  |false=>rw[yw]at ie;exact ie.elim
  |true=>
  rw[yw]at ie;simp only[cond_true]at ie;simp only[bx]at yw;have ajP:∀u∈us,u= .one (tu u):=λu hu=>by
   have:=List.all_eq_true.1 yw.1 u hu;cases u with
   |one a=>rfl
   |_=>simp at this
  have lu:(us.map tu).map (A.den ae m')=vs:=by
   have e:us.map (W.den ae m')=vs:=by simpa using gP
   rw[<-e,pD];refine kU λu hu=>?_;rw[ajP u hu];rfl
  have ZR:∀a∈us.map tu,A.ok n' bl.length ae a:=λa ha=>by
   obtain⟨u,hu,rfl⟩:=List.mem_map.1 ha;have h1:=gW u hu;rw[ajP u hu]at h1;exact h1
  have Rg:g<w.heap.size:=(Array.getElem?_eq_some_iff.1 hcell).1;have pf:=(dE.more (ex':=λi=>i=g) λ_ h=>h.elim).push (x:=(us.map tu,(p.ty,false))) (g:=g) cC ZR (λ_=>⟨Y3,.inl rfl,[],λ_=>rfl,by rw[hK,lu];exact hcell⟩) (λsh off code cap kind he=>by
   simp only at he;rw[he]at yw;simp[cl]at yw) (λi q hi he=>by
    refine .inr (.inl ?_);by_cases h0:bU ae q.1=0
    ·exact h0
    ·exfalso;obtain⟨cs,t⟩:=q;cases aA:cl cs with
     |true=>
      obtain⟨_,h2,_⟩:=dE.gZ i cs t hi aA;rcases h2 with h2|h2
      ·exact h2
      ·simp only at h2;omega
     |false=>
      obtain⟨sh,off,code,cap,k,e⟩:=S5 aA;subst e;simp only[bU]at h0;split at h0
      ·exact h0 rfl
      ·rename_i hc;obtain⟨h1,_⟩:=(dE.rws i sh off code cap k t hi h0).2 (by omega);rcases h1 with h1|h1|h1
       ·exact h1
       ·rw[he]at h1;exact MX h1
       ·simp only at h1;omega)
  have G8:dj n' (bl++[(us.map tu,(p.ty,false))]).length ae (bl++[(us.map tu,(p.ty,false))]):=λq ak a nt=>by
   rcases List.mem_append.1 ak with ak|ak
   ·exact(cC q ak a nt).ext (agree.refl _ _) (bW _) (by simp)
   ·simp at ak;subst ak;exact(ZR a nt).ext (agree.refl _ _) (bW _) (by simp)
  have aw9:us.length=vs.length:=by rw[<-lu];simp
  have Zi:gM gl ⟨wb,w,λi=>i=g,F,[]⟩:=hg;have ajL:V.ok n' (bl++[(us.map tu,(p.ty,false))]).length ae (m7 (.slc bl.length 0 us.length us.length)):=by
   show bl.length<_;simp
  have yx:(m7 (.slc bl.length 0 us.length us.length)).rel ae (nG m' bl.length g) (.slice (some ⟨g,0,none⟩) vs.length vs.length):=by
   simp[V.rel,m7,W.den,A.den,pz,aw9]
  have tc:∀v∈(cond p.nil [m7 (.slc bl.length 0 us.length us.length),m7 (.con (.slice none 0 0))] [m7 (.slc bl.length 0 us.length us.length)]),V.ok n' (bl++[(us.map tu,(p.ty,false))]).length ae v:=λv hv=>by
   have avF:V.ok n' (bl++[(us.map tu,(p.ty,false))]).length ae (m7 (.con (.slice none 0 0))):=rfl;cases hn:p.nil with
   |true=>
    rw[hn]at hv;simp only[cond_true,oW,y9,or_false]at hv;rcases hv with rfl|rfl
    ·exact ajL
    ·exact avF
   |false=>
    rw[hn]at hv;simp only[cond_false,oW,y9,or_false]at hv;subst hv;exact ajL
  have hrel:fQ ae (nG m' bl.length g) (cond p.nil [m7 (.slc bl.length 0 us.length us.length),m7 (.con (.slice none 0 0))] [m7 (.slc bl.length 0 us.length us.length)]) (Fs p g vs.length).toList:=by
   unfold Fs;cases hn:p.nil with
   |true=>simp only[cond_true];exact⟨yx,rfl,trivial⟩
   |false=>simp only[cond_false];exact⟨yx,trivial⟩
  have avz:=(Qt (S:=S) (w0:=⟨wb,w,λi=>i=g,F,[]⟩) (R':=λe w'=>w.Extends w'/\∃rs us,ab (dU p.c.res) rs/\spec zs rs/\mM (λg=>F g∨w.heap.size<=g) (λg=>w.heap.size<=g) w' p.c.res rs us/\e= .returned (xK us)) rfl hm (dy w _ F) Zi (n0 _ _ _ _) d p.c.f n' _ _ _ _ ae (nG m' bl.length g) w _ G8 pf tc hrel ie ?_).2
  ·simpa using avz
  intro gd v bt eV b5 gw w' val h1 h2 h3 h4 h5 h6 h7;simp only at h7;split at h7
  rotate_left
  ·exact h7.elim
  rename_i cs t qK;cases ld:(rl cs (us.map tu)&&aP t p.ty)with
  |false=>rw[ld]at h7;exact h7.elim
  |true=>
  rw[ld]at h7;simp only[cond_true]at h7;simp only[bx]at ld;have atn:=Gx ld.1;have Jp:=b1 ld.2;subst atn;subst Jp;have M4:bl.length<(bl++[(us.map tu,(p.ty,false))]).length:=by simp
  have Rr:gw bl.length=g:=by rw[h1.hm _ M4,pz]
  have zI:(us.map tu).map (A.den b5 gw)=vs:=by
   rw[<-lu];refine kU λa ha=>?_;rw[A.nW (ZR a ha) h1.ha (λb hb=>?_)];rw[h1.hm b (by simp;omega),oS hb]
  have qJ:=h6.drop qK yw.2 Rr (by rw[zI];exact hcell);have iR:dj gd (ei bt bl.length hB).length b5 (ei bt bl.length hB):=by
   rw[lz];intro q ak a ha;rw[mz]at ak;rcases PA ak with ak|ak
   ·exact h5 q ak a ha
   ·subst ak;simp only[hB,oW,y9,or_false]at ha;subst ha;exact⟨⟨I.dF _ _,I.dF _ _,I.dF _ _⟩,by rw[I.bq];exact⟨di _,AO⟩,by rw[I.bq];omega⟩
  obtain⟨iL,ur,os,CV,wR,⟨xs,th,Bk⟩,hl⟩:=acy (S:=S) (w0:=⟨wb,w,λ_=>False,F,[]⟩) (λg hg=>hg) iR qJ (by rw[lz];exact h3) h4 eV _ h7;have hl:zi _ (Fm os) iL:=hl;rw[Wi]at hl;refine⟨?_,os.map (O.den iL),xs,hl.1,hl.2,?_,by rw[th]⟩
  ·have tZ:∀i:Nat,i<w.heap.size->w'.heap[i]?=w.heap[i]?:=λi hi=>qJ.jU i hi λh=>h;exact⟨qJ.j7,qJ.mw,qJ.lH,qJ.ib,λa ha=>by simp only[nK,tZ a.block ha],λa ha=>by simp only[D4,tZ a.block ha],tZ⟩
  ·exact gK.Oj.I1 (λg hg=>by
    rcases hg with hg|hg|hg
    ·exact hg.elim
    ·exact .inl hg
    ·exact .inr hg) (λg hg=>hg) Bk
section
variable {wb:aG} {sh:Nat->List Nat×List Nat} {SB:Nat->List (List Int)->List (List Int)->Prop}
theorem HS {p:kV} {bc:qq} {cal:gL} {li:dL->Nat->Option hN} {rounds d:Nat} {lsh:Nat->List Nat} {lens:List Nat} (hm:P.follows .mixedOrders=true) (dy:∀r ex ro,iM (jK sh SB) P gl ⟨wb,r,ex,ro,[]⟩ cal) (hg:gM gl ⟨wb,wb,λ_=>False,λ_=>False,[]⟩)
 (n0:∀(L:V->Env->Prop) (r:aG) (ex ro:Nat->Prop),xZ (jK sh SB) L ⟨wb,r,ex,ro,[]⟩ P bc) (hf:EP P p.c.f=true) (hl:lens=(sh p.c.id).1) (hd:Dl p.c.res=(sh p.c.id).2)
 (hv:o9 sh lsh SB (hM SB p.c.res p.c.id) lens (dU p.c.args) p.c.res (p.tree bc P gl cal li rounds d)):p.bD P wb (jK sh SB p.c.id):=by
 refine kV.Oj (li:=li) (rounds:=rounds) (d:=d) hm dy hg n0 (enters hf) (tM λzs hz=>?_);have h:=nj (WA hv) hz;simp only[hM,uD]at h;rw[hl,hd]at h;exact h
end
end Go.b9
namespace Go.b9
open M
variable {S:Nat->List Int->List Int->Prop} {L:V->Env->Prop} {P:b4} {gl:fP} {cal:gL}
inductive iy where
 |int (k:dW) (c:Int)
 |fn (f:dL)
def iy.val:iy->aW
 |int k c=> .int k c
 |fn f=> .func (.func f) #[] #[]
def iy.A:iy->A
 |int k c=> .int k (b0.const c)
 |fn f=> .con (.func (.func f) #[] #[])
def QT:iy->A->Bool
 | .int k c,.int bI x=>decide (k=bI)&&(match x.l.eT with|some d=>decide (d=c)|none=>false)
 | .fn f,.con v=>match v with
  | .func (.func ta) a b=>aP f ta&&aP a.size 0&&aP b.size 0
  |_=>false
 |_,_=>false
def MK:List iy->List A->Bool
 |[],[]=>true
 |r::l,a::s=>QT r a&&MK l s
 |_,_=>false
def MJ:List iy->List V->Bool
 |[],[]=>true
 |r::l,.w (.one a)::s=>QT r a&&MJ l s
 |_,_=>false
theorem ahT {r:iy} {a:A} {ρ:Env} {m:Nat->Nat} (h:QT r a=true):a.den ρ m=r.val:=by
 unfold QT at h;split at h
 ·rename_i k c bI x;simp only[bx,decide_eq_true_eq]at h;obtain⟨h1,h2⟩:=h;cases hc:x.l.eT with
  |none=>rw[hc]at h2;cases h2
  |some d=>
   rw[hc]at h2;have h2:=of_decide_eq_true h2;subst h1;subst h2;simp[A.den,iy.val,I.k9 hc]
 ·rename_i f v;split at h
  ·rename_i ta x y;simp only[bx]at h;obtain⟨⟨h1,h2⟩,h3⟩:=h;have h1:=b1 h1;have h2:=b1 h2;have h3:=b1 h3;rw[D6 h2,D6 h3,h1];rfl
  ·cases h
 ·cases h
theorem ahU {ρ:Env} {m:Nat->Nat}:∀{l:List iy} {cs:List A},MK l cs=true->cs.map (A.den ρ m)=l.map iy.val
 |[],[],_=>rfl
 |r::l,a::s,h=>by
  simp only[MK,bx]at h;simp[ahT h.1,ahU h.2]
 |[],_::_,h=>by cases h
 |_::_,[],h=>by cases h
theorem ahS {ρ:Env} {m:Nat->Nat}:∀{l:List iy} {vs:List V} {xs:List aW},MJ l vs=true->fQ ρ m vs xs->xs=l.map iy.val
 |[],[],[],_,_=>rfl
 |r::l,.w (.one a)::s,x::xs,h,hr=>by
  simp only[MJ,bx]at h;have hx:x=a.den ρ m:=hr.1;rw[hx,ahT h.1,ahS h.2 hr.2];rfl
 |[],[],_::_,_,h=>h.elim
 |_::_,[],_,h,_=>by cases h
structure qw where
 c:gK
 cells:List iy
 ty:br
 tail:List iy
structure aeW (g:Nat) (w w':aG):Prop where
 os:w'.os=w.os
 tape:w'.tape=w.tape
 out:w'.output=w.output
 size:w.heap.size<=w'.heap.size
 gZ:∀i,i<w.heap.size->i≠g->w'.heap[i]?=w.heap[i]?
def qw.bD (P:b4) (wb:aG) (p:qw) (spec:List Int->List Int->Prop):Prop:=
 (∀args w,(callFunc p.c.f args).run P w= .ok (.enter p.c.f args) w)/\
 ∀(F:Nat->Prop) (w:aG) (vs:List aW) (zs:List Int) (g:Nat),wb.Extends w->ab (dU p.c.args) zs->KC p.c.pre zs->mM F (λ_=>False) w p.c.args zs vs->wb.heap.size<=g->¬F g->w.heap[g]?=some (.cells (p.cells.map iy.val).toArray p.ty (0,0))->
  nJ P p.c.f (.pointer (some ⟨g,0,none⟩)::(vs++p.tail.map iy.val)).toArray w λe w'=>aeW g w w'/\∃rs us,ab (dU p.c.res) rs/\spec zs rs/\mM (λg=>F g∨w.heap.size<=g) (λg=>w.heap.size<=g) w' p.c.res rs us/\e= .returned (xK us)
noncomputable def qw.E (p:qw) (n:Nat) (vs:List V) (bl:List aJ) (k:RK):T:=
 match vs with
 | .w (.one (.ptr b 0))::us=>match bl[b]? with
  |some (cs,(t,false))=>cond (cl cs&&MK p.cells cs&&aP t p.ty&&MJ p.tail (us.drop p.c.args.length)&&cO p.c.args.length us.length&& !(((us.take p.c.args.length).flatMap qz).any (aP b))&&sY p.c.res&& !(p.c.res.any cV.rL))
   (GU bl p.c.args (us.take p.c.args.length) n λls a6=>ab6 p.c.pre ls (.call p.c.id ls a6 (dU p.c.res) (zm p.c.res a6 (a6+(dU p.c.res).length) [] (ei bl b hB) λgd us sn=>k gd (FG us) sn))) .stuck
  |_=> .stuck
 |_=> .stuck
theorem Mem.but {w0:eL} {ρ:Env} {m:Nat->Nat} {bl:List aJ} {w w':aG} {b:Nat} {cs:List A} {t:br×Bool} (h:Mem w0 ρ m bl w) (hi:bl[b]?=some (cs,t)) (aA:cl cs=true) (hx:aeW (m b) w w'):Mem w0 ρ m (ei bl b hB) w':=by
 have hlen:b<bl.length:=(List.getElem?_eq_some_iff.1 hi).1;have eC:∀(i:Nat) (q:aJ),(ei bl b hB)[i]?=some q->(i=b/\q=hB)∨(i≠b/\bl[i]?=some q):=λi q ak=>by
  rw[mz,wh]at ak;split at ak
  ·rename_i iE;subst iE;simp only[hlen,if_true,bj]at ak;exact .inl ⟨rfl,ak.symm⟩
  ·rename_i iE;exact .inr ⟨λe=>iE e.symm,ak⟩
 have jt:bU ρ hB.1=0:=by simp[hB,bU,I.bq]
 have mW:bU ρ cs=2:=nA aA;have dA:∀(i:Nat) (q:aJ),i≠b->bl[i]?=some q->bU ρ q.1≠0->m i≠m b:=λi q p5 ak af e=>by
  rcases h.inj i b q _ ak hi e with h1|h1|h1|h1
  ·exact p5 h1
  ·simp only at h1;omega
  ·exact af h1
  ·simp only at h1;omega
 obtain⟨p4,qK,_⟩:=h.gZ b cs t hi aA;refine⟨Yb h.ext hx.os hx.tape hx.out hx.size (λk af=>hx.gZ k (IB af h.ext.size) (by omega)),hx.os.trans h.j7,hx.tape.trans h.mw,hx.out.trans h.lH,nf h.ib hx.size,λi jW hex=>?_,λi lq t' ak kl=>?_,λi sh off code cap kind t' ak=>?_,λi j p q hp ak he=>?_⟩
 ·have JQ:i≠m b:=λe=>by
   subst e;rcases qK with h2|h2
   ·exact hex h2
   ·omega
  rw[hx.gZ i (IB jW h.ib) JQ];exact h.jU i jW hex
 ·rcases eC i _ ak with⟨_,e⟩|⟨p5,ak⟩
  ·simp only[hB,eO]at e;rw[e.1]at kl;simp[cl]at kl
  ·obtain⟨h1,h2,r,h3,h4⟩:=h.gZ i lq t' ak kl;exact⟨h1,h2,r,h3,by rw[hx.gZ _ (Array.getElem?_eq_some_iff.1 h4).1 (dA i _ p5 ak (by rw[nA kl];decide))];exact h4⟩
 ·rcases eC i _ ak with⟨_,e⟩|⟨p5,ak⟩
  ·simp only[hB,eO,qn,A.rows.injEq,and_true]at e;intro af;exact absurd e.1.2.2.2.2 af
  ·intro af;obtain⟨g1,g2⟩:=h.rws i sh off code cap kind t' ak af;refine⟨g1,λhc=>?_⟩;have Hi:=dA i _ p5 ak (by simp only[bU];rw[if_neg (by omega)];exact af);obtain⟨k1,cells,O7,fz,k2,k3,k4⟩:=g2 hc;exact⟨k1,cells,O7,fz,by rw[hx.gZ _ (Array.getElem?_eq_some_iff.1 k2).1 Hi];exact k2,k3,k4⟩
 ·rcases eC i _ hp with⟨_,e⟩|⟨p5,hp⟩
  ·subst e;exact .inr (.inr (.inl jt))
  ·rcases eC j _ ak with⟨_,e⟩|⟨ajq,ak⟩
   ·subst e;exact .inr (.inr (.inr jt))
   ·exact h.inj i j p q hp ak he
theorem dj.dead {n nb:Nat} {ρ:Env} {bl:List aJ} (h:dj n nb ρ bl) (b:Nat):dj n nb ρ (ei bl b hB):=by
 intro q ak a ha;rw[mz]at ak;rcases PA ak with ak|ak
 ·exact h q ak a ha
 ·subst ak;simp only[hB,oW,y9,or_false]at ha;subst ha;exact⟨⟨I.dF _ _,I.dF _ _,I.dF _ _⟩,by rw[I.bq];exact⟨di _,AO⟩,by rw[I.bq];omega⟩
theorem We {ρ:Env} {m:Nat->Nat}:∀(k:Nat) {vs:List V} {xs:List aW},fQ ρ m vs xs->fQ ρ m (vs.take k) (xs.take k)/\fQ ρ m (vs.drop k) (xs.drop k)
 |0,vs,xs,h=>⟨by simp;trivial,by simpa using h⟩
 |k+1,[],[],_=>⟨trivial,trivial⟩
 |k+1,v::vs,x::xs,h=>⟨⟨h.1,(We k h.2).1⟩,(We k h.2).2⟩
 |_+1,[],_::_,h=>h.elim
 |_+1,_::_,[],h=>h.elim
theorem qw.LV {w0:eL} {p:qw} {spec:List Int->List Int->Prop} (hc:p.bD P w0.b spec) (hS:∀zs rs,spec zs rs->S p.c.id zs rs) (n:Nat) (vs:List V) (bl:List aJ) (k:RK) (G:fe) (ρ:Env) (m:Nat->Nat) (w:aG) (xs:List aW) (R':Ending->aG->Prop)
 (hb:dj n bl.length ρ bl) (hw:Mem w0 ρ m bl w) (hv:∀v∈vs,V.ok n bl.length ρ v) (hr:fQ ρ m vs xs) (ag:(p.E n vs bl k).holds S L G ρ) (af:Ge S L w0 k n bl.length ρ m G R'):
 (callFunc p.c.f xs.toArray).run P w= .ok (.enter p.c.f xs.toArray) w/\nJ P p.c.f xs.toArray w R':=by
 refine⟨hc.1 _ _,?_⟩;unfold qw.E at ag;split at ag
 rotate_left
 ·exact ag.elim
 rename_i b us;split at ag
 rotate_left
 ·exact ag.elim
 rename_i cs t aZ
 match xs,hr with
 |x::xs,hr=>
 cases ld:(cl cs&&MK p.cells cs&&aP t p.ty&&MJ p.tail (us.drop p.c.args.length)&&cO p.c.args.length us.length&& !(((us.take p.c.args.length).flatMap qz).any (aP b))&&sY p.c.res&& !(p.c.res.any cV.rL))with
 |false=>rw[ld]at ag;exact ag.elim
 |true=>
 rw[ld]at ag;simp only[cond_true]at ag;simp only[bx,cI]at ld;obtain⟨⟨⟨⟨⟨⟨⟨c1,bQ⟩,cF⟩,dk⟩,fN⟩,hQ⟩,nT⟩,lX⟩:=ld;have cF:=b1 cF;subst cF;obtain⟨hx,hr⟩:=hr;have hx:x= .pointer (some ⟨m b,0,none⟩):=hx;subst hx;obtain⟨r1,r2⟩:=We p.c.args.length hr;have aw2:=ahS dk r2;have hE:xs=xs.take p.c.args.length++p.tail.map iy.val:=by rw[<-aw2,oi]
 obtain⟨ca,cc,r,ju,dm⟩:=hw.gZ b cs _ aZ c1;have ju:=ju rfl;subst ju;rw[hK,ahU bQ]at dm;obtain⟨aN,a6,ls,ia,gk,⟨g1,g2,g3⟩,ag⟩:=QV (S:=S) (L:=L) hb hw (λv Bj=>hv v (eI _ (List.mem_of_mem_take Bj))) r1 G _ ag;obtain⟨rJ,ag⟩:=preM_holds ag;simp only[T.holds]at ag;rw[hE];refine(hc.2 (uM w0 ρ m bl ((us.take p.c.args.length).flatMap qz) ((us.take p.c.args.length).flatMap yX)) w _ _ (m b) hw.ext g2 rJ (g3 _ λ_ h=>h) ca (λhF=>?_) dm).mono ?_
 ·obtain⟨⟨b',k1,k2,q,k3,k4,_⟩,_⟩:=hF;have dA:b≠b':=λe=>by
   subst e;rw[List.any_eq_true.2 ⟨b,k1,IC b⟩]at hQ;cases hQ
  rcases hw.inj b b' _ q aZ k3 k2.symm with h|h|h|h
  ·exact dA h
  ·have:=nA (ρ:=ρ) c1;simp only at h;omega
  ·have:=nA (ρ:=ρ) c1;simp only at h;omega
  ·exact k4 h
 rintro e w' ⟨he,rs,pA,r1,r2,ij,rfl⟩
 have ag:=nj ag r1 (hS _ _ r2);have pf:=hw.but aZ c1 he;have iR:=hb.dead b;have hl:(ei bl b hB).length=bl.length:=lz _ _ _;have eb:agree a6 aN (bR aN a6 rs):=agree.bR rs a6 aN;have G5:=gk.trans eb ia;have qK:dj (a6+(dU p.c.res).length) (ei bl b hB).length (bR aN a6 rs) (ei bl b hB):=by rw[hl];exact iR.ext G5 (by omega) (bW _)
 have au1:Mem w0 (bR aN a6 rs) m (ei bl b hB) w':=pf.sP (by rw[hl];exact iR) G5;have aO:kf (bR aN a6 rs) a6 rs:=kf.bR aN a6 rs;have YP:e6 n bl.length ρ m (a6+(dU p.c.res).length) (ei bl b hB).length (bR aN a6 rs) m:=⟨by omega,G5,by rw[hl];exact bW _,λ_ _=>rfl⟩;have hF:∀g,(uM w0 ρ m bl ((us.take p.c.args.length).flatMap qz) ((us.take p.c.args.length).flatMap yX) g∨w.heap.size<=g)->w0.ex g∨w0.ro g∨w0.r.heap.size<=g:=λg hg=>by
  rcases hg with hg|hg
  ·exact hg.2
  ·exact .inr (.inr (nf hw.ib hg))
 have cP:∀g,w.heap.size<=g->w0.b.heap.size<=g/\w0.r.heap.size<=g:=λg hg=>⟨nf hw.ext.size hg,nf hw.ib hg⟩;have zQ:(p.c.res.all λb=> !b.rL)=true:=by
  rw[LA];intro b hb;cases iR:b.rL with
  |false=>rfl
  |true=>rw[List.any_eq_true.2 ⟨b,hb,iR⟩]at lX;cases lX
 obtain⟨n',ae,m',aHE,sn,cG,cC,dE,gP,gW,ie⟩:=Gq (S:=S) (L:=L) hF cP (l:=p.c.res) (us:=[]) (vals:=pA) nT qK au1 aO r1 (bW _) ij (.inl zQ) (.inr λi q hi td=>by
  by_cases h0:bU (bR aN a6 rs) q.1=0
  ·exact h0
  ·exfalso;rw[mz,wh]at hi;split at hi
   ·rename_i e;subst e;split at hi
    ·cases hi;exact h0 (by simp[hB,bU,I.bq])
    ·cases hi
   ·rw[yD (hb q (fC hi)) G5]at h0;have:=hw.lt hi h0;omega) (λu hu=>by simp at hu) ag
 have pj:=amB (m:=m') gW (by simpa using gP);exact af n' (FG aHE) sn G ae m' w' (xK pA) (YP.trans cG) (gr.refl _ _) pj.1 pj.2 cC dE ie
noncomputable def DE:List qw->qq->qq
 |[],bc=>bc
 |p::r,bc=>λf=>cond (aP p.c.f f) (some p.E) (DE r bc f)
theorem Ti {w0:eL} {bc:qq} (n0:xZ S L w0 P bc):∀{l:List qw},(∀p∈l,p.bD P w0.b (S p.c.id))->xZ S L w0 P (DE l bc)
 |[],_=>n0
 |p::l,h=>λf g hf=>by
  unfold DE at hf;cases hb:aP p.c.f f with
  |true=>
   rw[hb]at hf;simp only[cond_true,bj]at hf;have:=b1 hb;subst this;subst hf;intro n vs bl k G ρ m w xs R' h1 h2 h3 h4 h5 h6;exact qw.LV (h p (by simp)) (λ_ _ h=>h) n vs bl k G ρ m w xs R' h1 h2 h3 h4 h5 h6
  |false=>
   rw[hb]at hf;exact Ti n0 (λp hp=>h p (eI _ hp)) f g hf
noncomputable def qw.tree (f:mj) (p:qw):T:=
 cond (sY p.c.args&& !(p.c.args.any cV.tj)) (Tc p.c.pre ((ht (dU p.c.args).length).map N7) (zm p.c.args 0 (dU p.c.args).length [] [] λn us bl=>
  cond (cl (p.cells.map iy.A)) (f p.c.f n (m7 (.ptr bl.length 0)::(us.map V.w++p.tail.map λr=>m7 r.A)) (bl++[(p.cells.map iy.A,(p.ty,false))]) λn' v bt=>match bt[bl.length]? with
   |some (cs,_)=>cond (cl cs) (OU (ei bt bl.length hB) p.c.res v n' λos _=> .leaf (Fm os)) .stuck
   |none=> .stuck) .stuck)) .stuck
theorem iy.aes (r:iy) (ρ:Env) (m:Nat->Nat):r.A.den ρ m=r.val:=by cases r<;>simp[iy.A,iy.val,A.den,b0.const,I.bq]
theorem iy.aet (r:iy) (n nb:Nat) (ρ:Env):r.A.ok n nb ρ:=by
 cases r with
 |int k c=>exact b0.qD _ _ _
 |fn f=>rfl
theorem ae2 {ρ:Env} {m:Nat->Nat}:∀{vs us:List V} {xs ix:List aW},fQ ρ m vs xs->fQ ρ m us ix->fQ ρ m (vs++us) (xs++ix)
 |[],_,[],_,_,h=>h
 |_::_,_,_::_,_,h,bm=>⟨h.1,ae2 h.2 bm⟩
 |[],_,_::_,_,h,_=>h.elim
 |_::_,_,[],_,h,_=>h.elim
theorem Mem.as0 {b r r':aG} {ro:Nat->Prop} {ρ:Env} {m:Nat->Nat} {bl:List aJ} {w:aG} {g i0:Nat} {cs:List A} {t:br×Bool} (h:Mem ⟨b,r,λi=>i=g,ro,[]⟩ ρ m bl w) (hi:bl[i0]?=some (cs,t)) (aA:cl cs=true) (hg:m i0=g)
 (hr:r'.os=r.os/\r'.tape=r.tape/\r'.output=r.output/\r'.heap.size=r.heap.size) (h1:∀k,k≠g->r'.heap[k]?=r.heap[k]?) (h2:r'.heap[g]?=w.heap[g]?):
 Mem ⟨b,r',λ_=>False,ro,[]⟩ ρ m (ei bl i0 hB) w:=by
 have hlen:i0<bl.length:=(List.getElem?_eq_some_iff.1 hi).1;have eC:∀(i:Nat) (q:aJ),(ei bl i0 hB)[i]?=some q->(i=i0/\q=hB)∨(i≠i0/\bl[i]?=some q):=λi q ak=>by
  rw[mz,wh]at ak;split at ak
  ·rename_i iE;subst iE;simp only[hlen,if_true,bj]at ak;exact .inl ⟨rfl,ak.symm⟩
  ·rename_i iE;exact .inr ⟨λe=>iE e.symm,ak⟩
 have jt:bU ρ hB.1=0:=by simp[hB,bU,I.bq]
 have mW:bU ρ cs=2:=nA aA;have dA:∀(i:Nat) (q:aJ),i≠i0->bl[i]?=some q->bU ρ q.1≠0->m i≠g:=λi q p5 ak af e=>by
  rcases h.inj i i0 q _ ak hi (by rw[e,hg])with h1|h1|h1|h1
  ·exact p5 h1
  ·simp only at h1;omega
  ·exact af h1
  ·simp only at h1;omega
 refine⟨h.ext,h.j7.trans hr.1.symm,h.mw.trans hr.2.1.symm,h.lH.trans hr.2.2.1.symm,by have:=h.ib;simp only at this⊢;omega,λi jW _=>?_,λi lq t' ak kl=>?_,λi sh off code cap kind t' ak=>?_,λi j p q hp ak he=>?_⟩
 ·by_cases e:i=g
  ·subst e;exact h2.symm
  ·show w.heap[i]?=r'.heap[i]?;rw[h1 i e];exact h.jU i (by simp only at jW⊢;omega) e
 ·rcases eC i _ ak with⟨_,e⟩|⟨p5,ak⟩
  ·simp only[hB,eO]at e;rw[e.1]at kl;simp[cl]at kl
  ·obtain⟨k1,k2,k3⟩:=h.gZ i lq t' ak kl;refine⟨k1,?_,k3⟩;rcases k2 with k2|k2
   ·exact absurd k2 (dA i _ p5 ak (by rw[nA kl];decide))
   ·exact .inr (by simp only at k2⊢;omega)
 ·rcases eC i _ ak with⟨_,e⟩|⟨p5,ak⟩
  ·simp only[hB,eO,qn,A.rows.injEq,and_true]at e;intro af;exact absurd e.1.2.2.2.2 af
  ·intro af;obtain⟨g1,g2⟩:=h.rws i sh off code cap kind t' ak af;refine⟨g1,λhc=>?_⟩;have Hi:m i≠g:=dA i _ p5 ak (by simp only[bU];rw[if_neg (by omega)];exact af);obtain⟨k1,cells,O7,fz,k2,k3,k4⟩:=g2 hc;refine⟨?_,cells,O7,fz,k2,k3,λh2=>?_⟩
   ·rcases k1 with k1|k1|k1
    ·exact absurd k1 Hi
    ·exact .inr (.inl k1)
    ·exact .inr (.inr (by simp only at k1⊢;omega))
   ·obtain⟨jc,p9,rM,tk,zV,qS⟩:=k4 h2;refine⟨jc,p9,rM,tk,zV,?_⟩;rcases qS with qS|qS
    ·exact absurd qS Hi
    ·exact .inr (by simp only at qS⊢;omega)
 ·rcases eC i _ hp with⟨_,e⟩|⟨p5,hp⟩
  ·subst e;exact .inr (.inr (.inl jt))
  ·rcases eC j _ ak with⟨_,e⟩|⟨ajq,ak⟩
   ·subst e;exact .inr (.inr (.inr jt))
   ·exact h.inj i j p q hp ak he
theorem qw.azw {wb:aG} {p:qw} {inl:mj} {spec:List Int->List Int->Prop}
 (nu:∀(L:V->Env->Prop) (r:aG) (ex ro:Nat->Prop),ri S L ⟨wb,r,ex,ro,[]⟩ P inl) (hf:∀args w,(callFunc p.c.f args).run P w= .ok (.enter p.c.f args) w)
 (aD:kC (dU p.c.args) λzs=>(p.tree inl).holds S (zi λrs=>ab (dU p.c.res) rs/\spec zs rs) (λ_ _=>False) (bR (λ_=>0) 0 zs)):p.bD P wb spec:=by
 refine⟨hf,λF w vs zs g hw hz Nz hat Y3 MX hcell=>?_⟩;have ag:=nj aD hz;have qR:=dR hz;unfold qw.tree at ag;cases ak:(sY p.c.args&& !(p.c.args.any cV.tj))with
 |false=>rw[ak]at ag;exact ag.elim
 |true=>
  rw[ak]at ag;simp only[cond_true]at ag;have ag:=preA_holds ag (by rw[<-qR,abl];exact Nz);simp only[bx,cI]at ak;have mY:Mem ⟨wb,w,λ_=>False,F,[]⟩ (bR (λ_=>0) 0 zs) (λ_=>0) [] w:=⟨hw,rfl,rfl,rfl,bW _,λ_ _ _=>rfl,λi cs t h=>by simp at h,λi sh off code cap kind t h=>by simp at h,λi j p q h=>by simp at h⟩;have jM:(p.c.args.all λb=> !b.tj)=true:=by
   rw[LA];intro b hb;cases iR:b.tj with
   |false=>rfl
   |true=>rw[List.any_eq_true.2 ⟨b,hb,iR⟩]at ak;cases ak.2
  obtain⟨n',ae,m',us,bl,cG,cC,dE,gP,gW,ie⟩:=Gq (S:=S) (L:=_) (w0:=⟨wb,w,λ_=>False,F,[]⟩) (F:=F) (N:=λ_=>False) (λg hg=> .inr (.inl hg)) (λg hg=>hg.elim) (l:=p.c.args) (s:=0) (us:=[]) (bl:=[]) (m:=λ_=>0) ak.1 (λp hp=>by simp at hp) mY (kf.bR _ 0 zs) hz (by omega) hat (.inr λi p h=>by simp at h) (.inl jM) (λu hu=>by simp at hu) ag;cases yw:cl (p.cells.map iy.A)with
  |false=>rw[yw]at ie;exact ie.elim
  |true=>
  rw[yw]at ie;simp only[cond_true]at ie;have Rg:g<w.heap.size:=(Array.getElem?_eq_some_iff.1 hcell).1;have zI:∀ρ m,(p.cells.map iy.A).map (A.den ρ m)=p.cells.map iy.val:=λρ m=>by
   rw[pD];exact kU λr _=>r.aes ρ m
  have ai5:∀n nb ρ,∀a∈p.cells.map iy.A,A.ok n nb ρ a:=λn nb ρ a ha=>by
   obtain⟨r,_,rfl⟩:=List.mem_map.1 ha;exact r.aet n nb ρ
  have pf:=(dE.more (ex':=λi=>i=g) λ_ h=>h.elim).push (x:=(p.cells.map iy.A,(p.ty,false))) (g:=g) cC (ai5 _ _ _) (λ_=>⟨Y3,.inl rfl,[],λ_=>rfl,by rw[hK,zI];exact hcell⟩) (λsh off code cap kind he=>by
   simp only at he;rw[he]at yw;simp[cl]at yw) (λi q hi he=>by
    refine .inr (.inl ?_);by_cases h0:bU ae q.1=0
    ·exact h0
    ·exfalso;obtain⟨cs,t⟩:=q;cases aA:cl cs with
     |true=>
      obtain⟨_,h2,_⟩:=dE.gZ i cs t hi aA;rcases h2 with h2|h2
      ·exact h2
      ·simp only at h2;omega
     |false=>
      obtain⟨sh,off,code,cap,k,e⟩:=S5 aA;subst e;simp only[bU]at h0;split at h0
      ·exact h0 rfl
      ·rename_i hc;obtain⟨h1,_⟩:=(dE.rws i sh off code cap k t hi h0).2 (by omega);rcases h1 with h1|h1|h1
       ·exact h1
       ·rw[he]at h1;exact MX h1
       ·simp only at h1;omega)
  have G8:dj n' (bl++[(p.cells.map iy.A,(p.ty,false))]).length ae (bl++[(p.cells.map iy.A,(p.ty,false))]):=λq ak a nt=>by
   rcases List.mem_append.1 ak with ak|ak
   ·exact(cC q ak a nt).ext (agree.refl _ _) (bW _) (by simp)
   ·simp at ak;subst ak;exact ai5 _ _ _ a nt
  have tc:∀v∈(m7 (.ptr bl.length 0)::(us.map V.w++p.tail.map λr=>m7 r.A)),V.ok n' (bl++[(p.cells.map iy.A,(p.ty,false))]).length ae v:=λv hv=>by
   rcases List.mem_cons.1 hv with rfl|hv
   ·show bl.length<_;simp
   ·rcases List.mem_append.1 hv with hv|hv
    ·obtain⟨u,hu,rfl⟩:=List.mem_map.1 hv;exact W.ok.ext (gW u hu) (agree.refl _ _) (bW _) (by simp)
    ·obtain⟨r,_,rfl⟩:=List.mem_map.1 hv;exact r.aet _ _ _
  have axa:∀u∈us,W.den ae (nG m' bl.length g) u=W.den ae m' u:=λu hu=>W.nW (gW u hu) (agree.refl _ _) (λb hb=>oS hb);have hrel:fQ ae (nG m' bl.length g) (m7 (.ptr bl.length 0)::(us.map V.w++p.tail.map λr=>m7 r.A)) (.pointer (some ⟨g,0,none⟩)::(vs++p.tail.map iy.val)):=by
   refine⟨by simp[m7,V.rel,W.den,A.den,pz],ae2 (Wb ?_) ?_⟩
   ·rw[kU axa];simpa using gP
   ·have:=Wd (ρ:=ae) (m:=nG m' bl.length g) (p.tail.map iy.A);rw[pD,pD]at this;have e:(A.den ae (nG m' bl.length g)∘iy.A)=iy.val:=funext λr=>r.aes _ _;rw[e]at this;exact this
  refine((nu _ _ _ _ p.c.f n' _ _ _ _ ae (nG m' bl.length g) w _ _ G8 pf tc hrel ie ?_).2);intro gd v bt eV b5 gw w' val h1 h2 h3 h4 h5 h6 h7;simp only at h7;split at h7
  rotate_left
  ·exact h7.elim
  rename_i cs t qK;cases ld:cl cs with
  |false=>rw[ld]at h7;exact h7.elim
  |true=>
  rw[ld]at h7;simp only[cond_true]at h7;have M4:bl.length<(bl++[(p.cells.map iy.A,(p.ty,false))]).length:=by simp
  have Rr:gw bl.length=g:=by rw[h1.hm _ M4,pz]
  obtain⟨abH,awt⟩:∃o,w'.heap[g]?=some o:=by
   obtain⟨_,_,r,_,fq⟩:=h6.gZ bl.length cs t qK ld;rw[Rr]at fq;exact⟨_,fq⟩
  have qJ:=h6.as0 (r':=w.putObj g abH) qK ld Rr (BC _ _ _) (λk af=>AJ af) (by rw[D9 Rg,awt]);have iR:dj gd (ei bt bl.length hB).length b5 (ei bt bl.length hB):=by
   rw[lz];exact h5.dead _
  obtain⟨iL,ur,os,CV,wR,⟨xs,th,Bk⟩,hl⟩:=acy (S:=S) (w0:=⟨wb,w.putObj g abH,λ_=>False,F,[]⟩) (λg hg=>hg) iR qJ (by rw[lz];exact h3) h4 eV _ h7;have hl:zi _ (Fm os) iL:=hl;rw[Wi]at hl;refine⟨⟨h6.j7,h6.mw,h6.lH,h6.ib,λi hi JQ=>h6.jU i hi JQ⟩,os.map (O.den iL),xs,hl.1,hl.2,?_,by rw[th]⟩;have hsz:(w.putObj g abH).heap.size=w.heap.size:=aeq;exact gK.Oj.I1 (λg hg=>by
   rcases hg with hg|hg|hg
   ·exact hg.elim
   ·exact .inl hg
   ·exact .inr (hsz▸hg)) (λg hg=>hsz▸hg) Bk
section
variable {wb:aG} {sh:Nat->List Nat×List Nat} {SB:Nat->List (List Int)->List (List Int)->Prop}
theorem aEr {p:qw} {inl:mj} {lsh:Nat->List Nat} {lens:List Nat}
 (nu:∀(L:V->Env->Prop) (r:aG) (ex ro:Nat->Prop),ri (jK sh SB) L ⟨wb,r,ex,ro,[]⟩ P inl) (hf:EP P p.c.f=true) (hl:lens=(sh p.c.id).1) (hd:Dl p.c.res=(sh p.c.id).2)
 (hv:o9 sh lsh SB (hM SB p.c.res p.c.id) lens (dU p.c.args) p.c.res (p.tree inl)):p.bD P wb (jK sh SB p.c.id):=by
 refine qw.azw nu (enters hf) (tM λzs hz=>?_);have h:=nj (WA hv) hz;simp only[hM,uD]at h;rw[hl,hd]at h;exact h
end
end Go.b9
namespace Go.b9
abbrev Ac (p:Int->Prop):Prop:=∀z:Int,0<=z->z<=9223372036854775807->p z
abbrev Dt (k:Nat) (l:List Int) (p:Int->Prop):Prop:=∀z:Int,0<=z->z<=9223372036854775807->z=bM k l->p z
abbrev r3 (p:Int->Prop):Prop:=∀z:Int,0<=z->z<=b6->p z
abbrev iX (k:Nat) (l:List Int) (p:Int->Prop):Prop:=∀z:Int,0<=z->z<=b6->z=bM k l->p z
abbrev av (p:Int->Prop):Prop:=∀z:Int,0<=z->z<=255->p z
abbrev bf (k:Nat) (l:List Int) (p:Int->Prop):Prop:=∀z:Int,0<=z->z<=255->z=bM k l->p z
abbrev gp (p:Int->Prop):Prop:=∀z:Int,0<=z->z<=1->p z
abbrev a7 (p:Int->Prop):Prop:=∀z:Int,0<=z->z<=18446744073709551615->p z
abbrev OD (k:Nat) (l:List Int) (p:Int->Prop):Prop:=∀z:Int,0<=z->z<=18446744073709551615->z=bM k l->p z
abbrev lx (p:Int->Prop):Prop:=∀z:Int,(-1)<=z->z<=9223372036854775807->p z
abbrev m8 (p:Int->Prop):Prop:=∀z:Int,0<=z->p z
abbrev oL (a b:Int) (p:Int->Prop):Prop:=∀z:Int,a<=z->z<=b->p z
abbrev Tg (a b:Int) (k:Nat) (l:List Int) (p:Int->Prop):Prop:=∀z:Int,a<=z->z<=b->z=bM k l->p z
abbrev bz (x m:Int) (p:Int->Prop):Prop:=∀z:Int,0<=z->z<=1->0<=x-m*z->x-m*z<m->p z
abbrev aB (a b x m:Int) (p:Int->Prop):Prop:=∀z:Int,a<=z->z<=b->0<=x-m*z->x-m*z<m->p z
abbrev rZ (b:Bool) (p q:Prop):Prop:=(b=true->p)/\(b=false->q)
end Go.b9
namespace Go.b9
abbrev dK (b x:Int) (p:Int->Prop):Prop:=∀z:Int,0<=z->z<=b->z=x->p z
structure sX (p:Prop):Prop where
 h:p
theorem ZU {a b:Prop} (ha:a) (hb:b):sX (a/\b):=⟨ha,hb⟩
theorem tg {a b c:Prop} (ha:a) (hb:b) (hc:c):sX (a/\b/\c):=⟨ha,hb,hc⟩
theorem cv {a b c d:Prop} (ha:a) (hb:b) (hc:c) (hd:d):sX (a/\b/\c/\d):=⟨ha,hb,hc,hd⟩
abbrev iF:Int:=16777216
abbrev iG:Int:=4294967296
abbrev iH:Int:=1099511627776
abbrev iI:Int:=281474976710656
abbrev jd:Int:=72057594037927936
abbrev aa:Int:=-18446744073709551616
abbrev a1:Int:=18446744073709551616
abbrev rP:Int:=72057594037927935
abbrev rQ:Int:=281474976710655
abbrev jY:Int:=1099511627775
abbrev rN:Int:=4294967295
abbrev rO:Int:=16777215
abbrev jX:Int:=340282366920938463426481119284349108225
abbrev iS:Int:=18446744073709551614
abbrev m2:Int:=-117067535019779019119668879883403001856
abbrev nx:Int:=-27742317777372353529505694001085284352
abbrev RO:Int:=-1152921504606846976
abbrev wY:Int:=1152921504606846976
abbrev NX:Int:=6346243789798364140
abbrev m3:Int:=101539900636773826256
abbrev iT:Int:=6346243789798364141
abbrev NY:Int:=1503914060200516821
abbrev ny:Int:=24062624963208269152
abbrev jw:Int:=1503914060200516822
abbrev eh:Int:=-2251799813685248
abbrev zW:Int:=9223372036854775807
abbrev fy:Int:=2251799813685248
abbrev J5:Int:=2097152
abbrev J6:Int:=536870912
abbrev J7:Int:=137438953472
abbrev J8:Int:=35184372088832
abbrev RP:Int:=9007199254740992
abbrev RQ:Int:=2305843009213693952
abbrev RR:Int:=590295810358705651712
abbrev aag:Int:=67108863
abbrev akj:Int:=274877906944
abbrev J9:Int:=67108864
abbrev Ka:Int:=17179869184
abbrev Kb:Int:=4398046511104
abbrev Kc:Int:=1125899906842624
abbrev RS:Int:=288230376151711744
abbrev RT:Int:=73786976294838206464
abbrev RU:Int:=18889465931478580854784
abbrev RV:Int:=4835703278458516698824704
abbrev Kd:Int:=549755813887
abbrev akk:Int:=33554432
abbrev Ke:Int:=549755813888
abbrev Kf:Int:=140737488355328
abbrev RW:Int:=36028797018963968
abbrev RX:Int:=9223372036854775808
abbrev RY:Int:=2361183241434822606848
abbrev RZ:Int:=604462909807314587353088
abbrev R0:Int:=154742504910672534362390528
abbrev R1:Int:=39614081257132168796771975168
abbrev bE:Int:=4503599627370495
abbrev aah:Int:=-18014398509481984
abbrev aai:Int:=-144115188075855872
abbrev aaj:Int:=-4503599627370496
abbrev aak:Int:=-36028797018963968
abbrev aal:Int:=8796093022207
abbrev aam:Int:=34359738367
abbrev aan:Int:=134217727
abbrev aao:Int:=70368744177663
abbrev aap:Int:=274877906943
abbrev aaq:Int:=1073741823
abbrev aar:Int:=4194303
abbrev aas:Int:=562949953421311
abbrev aat:Int:=2199023255551
abbrev aau:Int:=8589934591
abbrev aav:Int:=33554431
abbrev aaw:Int:=17592186044415
abbrev aax:Int:=68719476735
abbrev aay:Int:=268435455
abbrev akl:Int:=8388608
abbrev aaz:Int:=1048575
abbrev akm:Int:=2147483648
abbrev aaA:Int:=140737488355327
abbrev aaB:Int:=2147483647
abbrev akn:Int:=1048576
abbrev aaC:Int:=8388607
abbrev ako:Int:=268435456
abbrev akp:Int:=68719476736
abbrev akq:Int:=17592186044416
abbrev tn:Int:=20282409603651661416747996545025
abbrev zY:Int:=385365782469381566918211934355475
abbrev zZ:Int:=20890720927743
abbrev bP:Int:=18446744073709551615
abbrev R3:Int:=1152921504606846975
abbrev aaD:Int:=1718705420411056
abbrev aaE:Int:=234908883556509
abbrev aaF:Int:=2233514472574048
abbrev aaG:Int:=2117202627021982
abbrev aaH:Int:=765476049583133
abbrev akr:Int:=929955233495203
abbrev aks:Int:=466365720129213
abbrev akt:Int:=1662059464998953
abbrev aku:Int:=2033849074728123
abbrev akv:Int:=1442794654840575
abbrev akw:Int:=18446744073709551611
abbrev akx:Int:=2305843009213693951
end Go.b9
namespace Go.L0
def eE (n:Nat):Prop:=1<n/\∀a,a% n≠0->∃b,a*b% n=1
def Cp (n g:Nat):Prop:=1<n/\g^(n-1)% n=1/\∀a,a% n≠0->∃k,g^k% n=a% n
def pm:Nat->Nat->Nat->Nat->Nat
 |0,_,_,n=>1% n
 |f+1,b,e,n=>bif e% 2==1 then pm f (b*b% n) (e/2) n*b% n else pm f (b*b% n) (e/2) n
theorem Tb:∀(f b e n:Nat),e<2^f->pm f b e n=b^e% n
 |0,b,e,n,h=>by
  have:e=0:=by simpa using h
  subst this;rfl
 |f+1,b,e,n,h=>by
  have ih:=Tb f (b*b% n) (e/2) n (by rw[za]at h;omega);have az:(b*b% n)^(e/2)% n=b^(2*(e/2))% n:=by
   rw[<-Nat.pow_mod,Nat.pow_mul,Nat.pow_two]
  rw[az]at ih;unfold pm;rw[ih];cases ag:(e% 2==1)with
  |true=>
   have h1:e% 2=1:=by simpa using ag
   simp only[cond_true]
   conv=>rhs;rw[show e=2*(e/2)+1 by omega,za]
   rw[Lz,Nat.mod_mod,<-Lz]
  |false=>
   have h1:¬e% 2=1:=by simpa using ag
   simp only[cond_false]
   conv=>rhs;rw[show e=2*(e/2) by omega]
theorem amf:∀(N:Nat) (f:Nat->Nat),(∀i,i<N->f i<N)->(∀i,i<N->∀j,j<N->f i=f j->i=j)->∀y,y<N->∃i,i<N/\f i=y
 |0,_,_,_,y,h=>by omega
 |N+1,f,hr,hi,y,hy=>by
  have hv:∀i,i<N->f i≠f N:=λi h e=>by have:=hi i (by omega) N (by omega) e;omega
  have key:=amf N (λi=>if f i=N then f N else f i) (λi h=>by
   have h1:=hr i (by omega);have h2:=hr N (by omega);have h3:=hv i h;show(if f i=N then f N else f i)<N;split<;>omega) (λi h j bm e=>by
   have h3:=hv i h;have h4:=hv j bm;apply hi i (by omega) j (by omega);split at e<;>split at e<;>omega)
  by_cases aNi:y=N
  ·by_cases cP:f N=N
   ·exact⟨N,by omega,by omega⟩
   ·obtain⟨i,h1,h2⟩:=key (f N) (by have:=hr N (by omega);omega);split at h2
    ·rename_i h3;exact⟨i,by omega,by omega⟩
    ·exact absurd h2 (hv i h1)
  ·obtain⟨i,h1,h2⟩:=key y (by omega);split at h2
   ·exact⟨N,by omega,h2⟩
   ·exact⟨i,by omega,h2⟩
theorem least {p:Nat->Prop}:∀n,p n->∃m,m<=n/\p m/\∀k,k<m->¬p k:=by
 intro n;induction n using Nat.strongRecOn with
 |_ n ih=>
  intro hn;by_cases h:∃k,k<n/\p k
  ·obtain⟨k,af,hp⟩:=h;obtain⟨m,h1,h2,h3⟩:=ih k af hp;exact⟨m,by omega,h2,h3⟩
  ·exact⟨n,bW _,hn,λk af hp=>h ⟨k,af,hp⟩⟩
theorem ab5 {n g d:Nat} (hn:1<n) (h:g^d% n=1) (k:Nat):g^(d*k)% n=1:=by
 rw[Nat.pow_mul,Nat.pow_mod,h,Nat.one_pow,ad2 hn]
theorem asL {q m:Nat} (ak:eE q) (hm:¬q∣m):Nat.Coprime m q:=by
 obtain⟨b,hb⟩:=ak.2 m (λh=>hm (aIY h));have h1:Nat.gcd m q∣m*b:=Nat.dvd_trans (Nat.gcd_dvd_left m q) (Nat.dvd_mul_right m b);have h2:Nat.gcd m q∣m*b% q:=(Nat.dvd_mod_iff (Nat.gcd_dvd_right m q)).2 h1;rw[hb]at h2;exact Nat.dvd_one.1 h2
def Td:List Nat->Nat
 |[]=>1
 |q::r=>q*Td r
theorem ahl {m:Nat}:∀(fs:List Nat),(∀q∈fs,eE q)->(∀q∈fs,¬q∣m)->Nat.Coprime m (Td fs)
 |[],_,_=>Nat.coprime_one_right m
 |q::r,h1,h2=>aOP (asL (h1 q (by simp)) (h2 q (by simp))) (ahl r (λx hx=>h1 x (eI _ hx)) (λx hx=>h2 x (eI _ hx)))
theorem auD {n g:Nat} {fs:List Nat} (hn:2<n) (hp:Td fs=n-1) (hf:∀q∈fs,eE q) (h1:g^(n-1)% n=1) (h2:∀q∈fs,g^((n-1)/q)% n≠1):Cp n g:=by
 have ia:1<n:=by omega
 obtain⟨d,EZ,⟨zH,M9⟩,Na⟩:=least (p:=λd=>0<d/\g^d% n=1) (n-1) ⟨by omega,h1⟩;have avM:d∣n-1:=by
  have hr:g^((n-1)% d)% n=1:=by
   have e:g^(n-1)% n=g^((n-1)% d)% n:=by
    conv=>lhs;rw[<-Up (n-1) d,D0,Lz,ab5 ia M9]
    rw[Nat.one_mul,Nat.mod_mod]
   rw[<-e];exact h1
  by_cases h0:(n-1)% d=0
  ·exact aIY h0
  ·exact absurd ⟨by omega,hr⟩ (Na ((n-1)% d) (Pj _ zH))
 obtain⟨m,hm⟩:=avM;have hd:d=n-1:=by
  by_cases Rq:m=1
  ·rw[hm,Rq,Ch]
  ·exfalso;have hex:∃q,q∈fs/\q∣m:=by
    apply ad3;intro mv;have hc:=ahl fs hf (λq ak ZG=>mv ⟨q,ak,ZG⟩);rw[hp]at hc;have:m∣n-1:=⟨d,by rw[hm,zc]⟩;exact Rq (aOQ hc this)
   obtain⟨q,ak,x,hx⟩:=hex;have zP:=(hf q ak).1;apply h2 q ak;have e:(n-1)/q=d*x:=by
    rw[hm,hx,show d*(q*x)=(d*x)*q by rw[zc q x,Us]];exact Nat.mul_div_cancel _ (by omega)
   rw[e];exact ab5 ia M9 x
 subst hd;refine⟨ia,h1,λa ha=>?_⟩;have Hj:∀i,i<=n-1->g^i% n≠0:=λi hi h0=>by
  have:g^(n-1)% n=0:=by
   rw[show n-1=i+(n-1-i) by omega,D0,Lz,h0,Nat.zero_mul,Nat.zero_mod]
  omega
 have Bi:∀i j,i<j->j<n-1->g^i% n≠g^j% n:=λi j JR aM he=>by
  have:g^(j-i)% n=1:=by
   have az:g^(j+(n-1-i))% n=g^(i+(n-1-i))% n:=by
    rw[D0,D0,Lz,<-he,<-Lz]
   rw[show i+(n-1-i)=n-1 by omega,h1,show j+(n-1-i)=(j-i)+(n-1) by omega,D0,Lz,h1,Ch,Nat.mod_mod]at az;exact az
  exact Na (j-i) (by omega) ⟨by omega,this⟩
 obtain⟨i,hi,he⟩:=amf (n-1) (λi=>g^i% n-1) (λi hi=>by
  have:=Pj (g^i) (show n>0 by omega);have:=Hj i (by omega);show g^i% n-1<n-1;omega) (λi hi j aM e=>by
  have h3:=Hj i (by omega);have h4:=Hj j (by omega);have cW:g^i% n=g^j% n:=by omega
  rcases Nat.lt_trichotomy i j with h|h|h
  ·exact absurd cW (Bi i j h aM)
  ·exact h
  ·exact absurd cW.symm (Bi j i h hi)) (a% n-1) (by have:=Pj a (show n>0 by omega);omega)
 refine⟨i,?_⟩;have:=Hj i (by omega);omega
theorem Cp.EK {n g a:Nat} (h:Cp n g) (ha:a% n≠0):a^(n-1)% n=1:=by
 obtain⟨k,af⟩:=h.2.2 a ha;rw[Nat.pow_mod,<-af,<-Nat.pow_mod,<-Nat.pow_mul,zc];exact ab5 h.1 h.2.1 k
theorem Cp.atI {n g:Nat} (hn:2<n) (h:Cp n g):eE n:=
 ⟨h.1,λa ha=>⟨a^(n-2),by
  have:=h.EK ha;rw[show n-1=(n-2)+1 by omega,za,zc]at this;exact this⟩⟩
theorem da:eE 2:=⟨by decide,λa h=>⟨1,by omega⟩⟩
theorem iP:eE 3:=⟨by decide,λa h=>⟨a% 3,by
 have:a% 3=1∨a% 3=2:=by omega
 rcases this with h|h<;>rw[h]<;>omega⟩⟩
def okB (n g:Nat) (fs:List Nat):Bool:=decide (2<n)&&decide (n-1<2^256)&&decide (Td fs=n-1)&&decide (pm 256 g (n-1) n=1)&&fs.all λq=>decide (1<q)&&decide (pm 256 g ((n-1)/q) n≠1)
theorem aik {n g:Nat} {fs:List Nat} (h:okB n g fs=true) (hf:∀q∈fs,eE q):Cp n g:=by
 simp only[okB,bx,decide_eq_true_eq,LA]at h;obtain⟨⟨⟨⟨h1,h2⟩,h3⟩,h4⟩,h5⟩:=h;refine auD h1 h3 hf ?_ λq ak=>?_
 ·rw[<-Tb 256 g (n-1) n h2];exact h4
 ·have:=(h5 q ak).2
  rwa [Tb 256 g ((n-1)/q) n (Nat.lt_of_le_of_lt (aIZ _ _) h2)]at this
theorem gF {n g:Nat} {fs:List Nat} (h:okB n g fs=true) (hf:∀q∈fs,eE q):eE n:=by
 have h1:2<n:=by
  simp only[okB,bx,decide_eq_true_eq]at h;exact h.1.1.1.1
 exact(aik h hf).atI h1
theorem all_nil:∀q∈([]:List Nat),eE q:=λ_ h=>by cases h
theorem all_cons {x:Nat} {l:List Nat} (h:eE x) (bm:∀q∈l,eE q):∀q∈x::l,eE q:=λq ak=>by
 rcases List.mem_cons.1 ak with rfl|ak
 ·exact h
 ·exact bm q ak
theorem Bc:eE 5:=gF (g:=2) (fs:=[2,2]) (by decide+kernel) (all_cons da (all_cons da all_nil))
theorem Bd:eE 7:=gF (g:=3) (fs:=[2,3]) (by decide+kernel) (all_cons da (all_cons iP all_nil))
theorem QY:eE 11:=gF (g:=2) (fs:=[2,5]) (by decide+kernel) (all_cons da (all_cons Bc all_nil))
theorem Yl:eE 13:=gF (g:=2) (fs:=[2,2,3]) (by decide+kernel) (all_cons da (all_cons da (all_cons iP all_nil)))
theorem Ym:eE 17:=gF (g:=3) (fs:=[2,2,2,2]) (by decide+kernel) (all_cons da (all_cons da (all_cons da (all_cons da all_nil))))
theorem Yn:eE 19:=gF (g:=2) (fs:=[2,3,3]) (by decide+kernel) (all_cons da (all_cons iP (all_cons iP all_nil)))
theorem ah4:eE 23:=gF (g:=5) (fs:=[2,11]) (by decide+kernel) (all_cons da (all_cons QY all_nil))
theorem ah5:eE 29:=gF (g:=2) (fs:=[2,2,7]) (by decide+kernel) (all_cons da (all_cons da (all_cons Bd all_nil)))
theorem atX:eE 31:=gF (g:=3) (fs:=[2,3,5]) (by decide+kernel) (all_cons da (all_cons iP (all_cons Bc all_nil)))
theorem at1:eE 37:=gF (g:=2) (fs:=[2,2,3,3]) (by decide+kernel) (all_cons da (all_cons da (all_cons iP (all_cons iP all_nil))))
theorem ah6:eE 41:=gF (g:=6) (fs:=[2,2,2,5]) (by decide+kernel) (all_cons da (all_cons da (all_cons da (all_cons Bc all_nil))))
theorem ah7:eE 43:=gF (g:=3) (fs:=[2,3,7]) (by decide+kernel) (all_cons da (all_cons iP (all_cons Bd all_nil)))
theorem ah8:eE 47:=gF (g:=5) (fs:=[2,23]) (by decide+kernel) (all_cons da (all_cons ah4 all_nil))
theorem aub:eE 53:=gF (g:=2) (fs:=[2,2,13]) (by decide+kernel) (all_cons da (all_cons da (all_cons Yl all_nil)))
theorem aue:eE 59:=gF (g:=2) (fs:=[2,29]) (by decide+kernel) (all_cons da (all_cons ah5 all_nil))
theorem auk:eE 83:=gF (g:=2) (fs:=[2,41]) (by decide+kernel) (all_cons da (all_cons ah6 all_nil))
theorem aun:eE 97:=gF (g:=5) (fs:=[2,2,2,2,2,3]) (by decide+kernel) (all_cons da (all_cons da (all_cons da (all_cons da (all_cons da (all_cons iP all_nil))))))
theorem atJ:eE 103:=gF (g:=5) (fs:=[2,3,17]) (by decide+kernel) (all_cons da (all_cons iP (all_cons Ym all_nil)))
theorem atK:eE 107:=gF (g:=2) (fs:=[2,53]) (by decide+kernel) (all_cons da (all_cons aub all_nil))
theorem atL:eE 127:=gF (g:=3) (fs:=[2,3,3,7]) (by decide+kernel) (all_cons da (all_cons iP (all_cons iP (all_cons Bd all_nil))))
theorem atM:eE 131:=gF (g:=2) (fs:=[2,5,13]) (by decide+kernel) (all_cons da (all_cons Bc (all_cons Yl all_nil)))
theorem atP:eE 173:=gF (g:=2) (fs:=[2,2,43]) (by decide+kernel) (all_cons da (all_cons da (all_cons ah7 all_nil)))
theorem atT:eE 223:=gF (g:=3) (fs:=[2,3,37]) (by decide+kernel) (all_cons da (all_cons iP (all_cons at1 all_nil)))
theorem atU:eE 239:=gF (g:=7) (fs:=[2,7,17]) (by decide+kernel) (all_cons da (all_cons Bd (all_cons Ym all_nil)))
theorem at0:eE 353:=gF (g:=3) (fs:=[2,2,2,2,2,11]) (by decide+kernel) (all_cons da (all_cons da (all_cons da (all_cons da (all_cons da (all_cons QY all_nil))))))
theorem at5:eE 419:=gF (g:=2) (fs:=[2,11,19]) (by decide+kernel) (all_cons da (all_cons QY (all_cons Yn all_nil)))
theorem at7:eE 479:=gF (g:=13) (fs:=[2,239]) (by decide+kernel) (all_cons da (all_cons atU all_nil))
theorem aua:eE 487:=gF (g:=3) (fs:=[2,3,3,3,3,3]) (by decide+kernel) (all_cons da (all_cons iP (all_cons iP (all_cons iP (all_cons iP (all_cons iP all_nil))))))
theorem auo:eE 991:=gF (g:=6) (fs:=[2,3,3,5,11]) (by decide+kernel) (all_cons da (all_cons iP (all_cons iP (all_cons Bc (all_cons QY all_nil)))))
theorem atO:eE 1723:=gF (g:=3) (fs:=[2,3,7,41]) (by decide+kernel) (all_cons da (all_cons iP (all_cons Bd (all_cons ah6 all_nil))))
theorem atV:eE 2437:=gF (g:=2) (fs:=[2,2,3,7,29]) (by decide+kernel) (all_cons da (all_cons da (all_cons iP (all_cons Bd (all_cons ah5 all_nil)))))
theorem at2:eE 3727:=gF (g:=3) (fs:=[2,3,3,3,3,23]) (by decide+kernel) (all_cons da (all_cons iP (all_cons iP (all_cons iP (all_cons iP (all_cons ah4 all_nil))))))
theorem at4:eE 4153:=gF (g:=5) (fs:=[2,2,2,3,173]) (by decide+kernel) (all_cons da (all_cons da (all_cons da (all_cons iP (all_cons atP all_nil)))))
theorem aum:eE 9463:=gF (g:=3) (fs:=[2,3,19,83]) (by decide+kernel) (all_cons da (all_cons iP (all_cons Yn (all_cons auk all_nil))))
theorem atZ:eE 32573:=gF (g:=2) (fs:=[2,2,17,479]) (by decide+kernel) (all_cons da (all_cons da (all_cons Ym (all_cons at7 all_nil))))
theorem at3:eE 37853:=gF (g:=2) (fs:=[2,2,9463]) (by decide+kernel) (all_cons da (all_cons da (all_cons aum all_nil)))
theorem aud:eE 57467:=gF (g:=2) (fs:=[2,59,487]) (by decide+kernel) (all_cons da (all_cons aue (all_cons aua all_nil)))
theorem auf:eE 65147:=gF (g:=2) (fs:=[2,32573]) (by decide+kernel) (all_cons da (all_cons atZ all_nil))
theorem auj:eE 75707:=gF (g:=2) (fs:=[2,37853]) (by decide+kernel) (all_cons da (all_cons at3 all_nil))
theorem atN:eE 132049:=gF (g:=26) (fs:=[2,2,2,2,3,3,7,131]) (by decide+kernel) (all_cons da (all_cons da (all_cons da (all_cons da (all_cons iP (all_cons iP (all_cons Bd (all_cons atM all_nil))))))))
theorem at6:eE 430751:=gF (g:=17) (fs:=[2,5,5,5,1723]) (by decide+kernel) (all_cons da (all_cons Bc (all_cons Bc (all_cons Bc (all_cons atO all_nil)))))
theorem auc:eE 569003:=gF (g:=2) (fs:=[2,7,97,419]) (by decide+kernel) (all_cons da (all_cons Bd (all_cons aun (all_cons at5 all_nil))))
theorem atS:eE 1923133:=gF (g:=2) (fs:=[2,2,3,43,3727]) (by decide+kernel) (all_cons da (all_cons da (all_cons iP (all_cons ah7 (all_cons at2 all_nil)))))
theorem aul:eE 8574133:=gF (g:=2) (fs:=[2,2,3,7,103,991]) (by decide+kernel) (all_cons da (all_cons da (all_cons iP (all_cons Bd (all_cons atJ (all_cons auo all_nil))))))
theorem atW:eE 2773320623:=gF (g:=5) (fs:=[2,2437,569003]) (by decide+kernel) (all_cons da (all_cons atV (all_cons auc all_nil)))
theorem aug:eE 72106336199:=gF (g:=7) (fs:=[2,13,2773320623]) (by decide+kernel) (all_cons da (all_cons Yl (all_cons atW all_nil)))
theorem atQ:eE 1919519569386763:=gF (g:=2) (fs:=[2,3,7,19,47,47,127,8574133]) (by decide+kernel) (all_cons da (all_cons iP (all_cons Bd (all_cons Yn (all_cons ah8 (all_cons ah8 (all_cons atL (all_cons aul all_nil))))))))
theorem atY:eE 31757755568855353:=gF (g:=10) (fs:=[2,2,2,3,31,107,223,4153,430751]) (by decide+kernel) (all_cons da (all_cons da (all_cons da (all_cons iP (all_cons atX (all_cons atK (all_cons atT (all_cons at4 (all_cons at6 all_nil)))))))))
theorem aui:eE 75445702479781427272750846543864801:=gF (g:=7) (fs:=[2,2,2,2,2,3,3,5,5,75707,72106336199,1919519569386763]) (by decide+kernel) (all_cons da (all_cons da (all_cons da (all_cons da (all_cons da (all_cons iP (all_cons iP (all_cons Bc (all_cons Bc (all_cons auj (all_cons aug (all_cons atQ all_nil))))))))))))
theorem auh:eE 74058212732561358302231226437062788676166966415465897661863160754340907:=gF (g:=2) (fs:=[2,3,353,57467,132049,1923133,31757755568855353,75445702479781427272750846543864801]) (by decide+kernel) (all_cons da (all_cons iP (all_cons at0 (all_cons aud (all_cons atN (all_cons atS (all_cons atY (all_cons aui all_nil))))))))
theorem auC:Cp 57896044618658097711785492504343953926634992332820282019728792003956564819949 2:=aik (fs:=[2,2,3,65147,74058212732561358302231226437062788676166966415465897661863160754340907]) (by decide+kernel) (all_cons da (all_cons da (all_cons iP (all_cons auf (all_cons auh all_nil)))))
theorem auB:Cp 57896044618658097711785492504343953926634992332820282019728792003956564819949 2:=auC
end Go.L0
namespace Go.gg
open Go Go.b9
def KT:List Int:=[4794697086780616226,8158064640168781261,13096744586834688815,16840607885511220156,4131703408338449720,6480981068601479193,10538285296894168987,12329834152419229976,15566598209576043074,1334009975649890238,2608012711638119052,6128411473006802146,8268148722764581231,9286055187155687089,11230858885718282805,13951009754708518548,16472876342353939154,17275323862435702243,1135362057144423861,2597628984639134821,3308224258029322869,5365058923640841347,6679025012923562964,8573033837759648693,10970295158949994411,12119686244451234320,12683024718118986047,13788192230050041572,14330467153632333762,15395433587784984357,489312712824947311,1452737877330783856,2861767655752347644,3322285676063803686,5560940570517711597,5996557281743188959,7280758554555802590,8532644243296465576,9350256976987008742,10552545826968843579,11727347734174303076,12113106623233404929,14000437183269869457,14369950271660146224,15101387698204529176,15463397548674623760,17586052441742319658,1182934255886127544,1847814050463011016,2177327727835720531,2830643537854262169,3796741975233480872,4115178125766777443,5681478168544905931,6601373596472566643,7507060721942968483,8399075790359081724,8693463985226723168,9568029438360202098,10144078919501101548,10430055236837252648,11840083180663258601,13761210420658862357,14299343276471374635,14566680578165727644,15097957966210449927,16922976911328602910,17689382322260857208,500013540394364858,748580250866718886,1242879168328830382,1977374033974150939,2944078676154940804,3659926193048069267,4368137639120453308,4836135668995329356,5532061633213252278,6448918945643986474,6902733635092675308,7801388544844847127]
def P8:List Int:=[7640891576956012808,13503953896175478587,4354685564936845355,11912009170470909681,5840696475078001361,11170449401992604703,2270897969802886507,6620516959819538809]
structure ja where
 k:dW
 w:Nat
 s:Nat
 t:Nat
 a:List Nat
 b:List Nat
 c:List Nat
 d:List Nat
 n:Nat
def Cu:ja:=⟨.u32,32,3,10,[2,13,22],[6,11,25],[7,18],[17,19],64⟩
def cT:ja:=⟨.u64,64,7,6,[28,34,39],[14,18,41],[1,8],[19,61],80⟩
def Tp (w n:Nat) (x:Int):Int:=x/2^n+(x% 2^n)*2^(w-n)
def DH (p:ja) (l:List Nat) (x:Int):Int:=l.foldl (λy n=>eR .xor p.k y (Tp p.w n x)) 0
def I7 (p:ja) (x:Int):Int:=DH p p.a x
def I8 (p:ja) (x:Int):Int:=DH p p.b x
def O4 (p:ja) (x:Int):Int:=eR .xor p.k (DH p p.c x) (x/2^p.s)
def O5 (p:ja) (x:Int):Int:=eR .xor p.k (DH p p.d x) (x/2^p.t)
def md (p:ja) (x:Int):Int:=x% 2^p.w
def Qy (p:ja) (e f g:Int):Int:=eR .xor p.k (eR .and p.k e f) (eR .and p.k (2^p.w-1-e) g)
def abp (p:ja) (a b c:Int):Int:=eR .xor p.k (eR .xor p.k (eR .and p.k a b) (eR .and p.k a c)) (eR .and p.k b c)
def OW (p:ja) (i:Nat):Int:=KT.getD i 0/2^(64-p.w)
def Kv (p:ja) (m:List Int):Int:=md p (m.getD (m.length-16) 0+O4 p (m.getD (m.length-15) 0)+m.getD (m.length-7) 0+O5 p (m.getD (m.length-2) 0))
def A9 (p:ja):Nat->List Int->List Int
 |0,m=>m
 |j+1,m=>A9 p j (m++[Kv p m])
def sched (p:ja) (m:List Int):List Int:=A9 p (p.n-16) m
def DK (p:ja) (i:Nat) (x:Int):List Int->List Int
 |[a,b,c,d,e,f,g,h]=>
  let t:=md p (h+I8 p e+Qy p e f g+OW p i+x);let u:=md p (I7 p a+abp p a b c)
  [md p (t+u),a,b,c,md p (d+t),e,f,g]
 |l=>l
def FH (p:ja):Nat->List Int->List Int->List Int
 |_,[],v=>v
 |i,x::m,v=>FH p (i+1) m (DK p i x v)
def K5 (p:ja) (h m:List Int):List Int:=wi (λa b=>md p (a+b)) h (FH p 0 (sched p m) h)
def aH7 (p:ja) (b:List Int) (j:Nat):Int:=(ht (p.w/8)).foldl (λy q=>y*256+b.getD (j*(p.w/8)+q) 0) 0
def O9 (p:ja) (b:List Int):List Int:=(ht 16).map (aH7 p b)
def Me (p:ja) (b:List Int):Nat->List Int->List Int
 |0,h=>h
 |i+1,h=>K5 p (Me p b i h) (O9 p ((b.drop (2*p.w*i)).take (2*p.w)))
def Ep (p:ja):List Int:=P8.map (·/2^(64-p.w))
def yg (p:ja) (x:Int) (q:Nat):Int:=x/2^(p.w-8-8*q)% 256
def Fp (p:ja) (h:List Int):List Int:=h.flatMap λx=>(ht (p.w/8)).map (yg p x)
def wA (p:ja) (b:List Int):List Int:=Fp p (Me p b (b.length/(2*p.w)) (Ep p))
def vk (w n:Nat):Nat:=(n+1+w/4+(2*w-1))/(2*w)*(2*w)
def Gw (n:Nat):List Int:=(ht 8).map λq=>((n/2^(56-8*q)% 256:Nat):Int)
def BA (p:ja) (b:List Int):List Int:=b++[128]++fD (vk p.w b.length-b.length-9) 0++Gw (8*b.length)
def r7 (p:ja) (b:List Int):List Int:=wA p (BA p b)
def bT (z:Int):List Int:=(ao z).map λr=>r.getD 0 0
def Bz (n w:Int):Int:=if n<0∨1099511627776<n∨(w≠32/\w≠64)then 0 else vk w.toNat n.toNat
def digit (n:Int):UInt8:=([48,49,50,51,52,53,54,55,56,57,97,98,99,100,101,102]:List UInt8).getD n.toNat 0
def ajf (b:List Int):List UInt8:=b.flatMap λx=>[digit (x/16),digit (x% 16)]
def aq1:Nat->List (List Int)->List (List Int)->Prop
 |440,[[n],[w]],rs=>rs=[[Bz n w]]
 |441,[[n],[w]],rs=>rs=[[Bz n w]]
 |442,[[z]],[[r]]=>bT r=BA Cu (bT z)
 |443,[[z]],[[r]]=>bT r=BA cT (bT z)
 |444,[[x]],rs=>rs=[[I7 Cu x]]
 |445,[[x]],rs=>rs=[[I8 Cu x]]
 |446,[[x]],rs=>rs=[[O4 Cu x]]
 |447,[[x]],rs=>rs=[[O5 Cu x]]
 |448,[[x]],rs=>rs=[[I7 cT x]]
 |449,[[x]],rs=>rs=[[I8 cT x]]
 |450,[[x]],rs=>rs=[[O4 cT x]]
 |451,[[x]],rs=>rs=[[O5 cT x]]
 |452,[[z]],rs=>rs=[r7 Cu (bT z)]
 |453,[[z]],rs=>rs=[r7 cT (bT z)]
 |454,[[z]],[[s]]=>bF s=ajf (bT z)
 |455,[[z]],[[s]]=>bF s=ajf (bT z)
 |456,[],rs=>rs=[[1]]
 |457,[_,_],[[r]]=>r=1
 |458,[_,_,_],[[r]]=>r=1
 |459,[_,_,_],[[r]]=>r=1
 |460,[[z]],[[r]]=>ao r=ao z
 |461,[[z]],[[r]]=>ao r=ao z
 |462,[[z]],[[r]]=>ao r=ao z
 |463,[[z]],[[r]]=>ao r=ao z
 |468,[[a],[b],[c],[d]],[[r]]=>ao r=ao a++(ao b++(ao c++ao d))
 |469,[[a],[b],[c]],[[r]]=>ao r=ao a++(ao b++ao c)
 |470,[[a],[b],[c],[d]],rs=>rs=[r7 Cu (bT a++(bT b++(bT c++bT d)))]
 |471,[[a],[b],[c]],rs=>rs=[r7 cT (bT a++(bT b++bT c))]
 |466,[[i]],rs=>rs=[[OW Cu i.toNat]]
 |467,[[i]],rs=>rs=[[OW cT i.toNat]]
 |464,[[z]],[[r]]=>bT r=wA Cu (bT z)
 |465,[[z]],[[r]]=>bT r=wA cT (bT z)
 |_,_,_=>False
end Go.gg
namespace Go.gg
open Go Go.b9
def abT:List Int:=[6346243789798364141,1503914060200516822,0,1152921504606846976]
def adm:List Int:=[6346243789798364141,1503914060200516822]
def abO:List Int:=[1,0,0,0,0]
def abN:List Int:=[929955233495203,466365720129213,1662059464998953,2033849074728123,1442794654840575]
def h9:fP:=[(0,abT.map λz=>(.u64,z)),(1,P8.map λz=>(.u64,z)),(2,KT.map λz=>(.u64,z)),(3,abO.map λz=>(.u64,z)),(4,abN.map λz=>(.u64,z)),(5,adm.map λz=>(.u64,z))]
end Go.gg
namespace Go.Fd
open Go.b9
def gl:fP:=Go.gg.h9
def bw:dL->Nat->Option hN:=λ_ _=>none
def ck:Nat->List Nat:=λ_=>[]
def hC:D:= .agg .u64 5 0 4503599627370495
def as7:D:= .agg .u64 5 0 9223372036854775807
def ez:D:= .agg .u64 4 0 18446744073709551615
def gN:D:= .agg .u8 32 0 255
def c1:D:= .int .u64 0 1
def pl:D:= .mix (fD 15 (.int .u64 0 4503599627370495))
def uu:D:= .mix (fD 20 (.int .u64 0 4503599627370495))
def yO:D:= .mix (fD 12 (.int .u64 0 18446744073709551615))
def pZ:D:= .int .i64 0 1
def lg:bJ:=⟨25,37,[gN],[ez]⟩
def tp:bJ:=⟨10,27,[ez],[gN]⟩
def l4:bJ:=⟨44,28,[],[ez]⟩
def lK:bJ:=⟨24,42,[ez,ez],[.bool]⟩
def n4:bJ:=⟨82,55,[ez,ez],[ez,c1]⟩
def n5:bJ:=⟨79,56,[ez,ez],[ez,c1]⟩
def rU:bJ:=⟨80,39,[ez],[ez]⟩
def rW:bJ:=⟨46,40,[ez,ez],[ez]⟩
def oF:bJ:=⟨49,41,[ez,ez],[ez]⟩
def vc:bJ:=⟨78,54,[ez,ez],[ez]⟩
def lv:bJ:=⟨45,36,[ez,ez],[ez]⟩
def rX:bJ:=⟨81,44,[ez,ez],[ez]⟩
def akW:dL->Nat->Option hN:=λf r=>match f,r with
 |81,3=>some ⟨[2,3,4,5],[(6,-1,255)],[(3,0,0,18446744073709551615),(3,1,0,18446744073709551615),(3,2,0,18446744073709551615),(3,3,0,18446744073709551615)],[],[],[],[]⟩
 |_,_=>none
def ayX:Nat->List Nat
 |8=>[1,4]
 |_=>[]
def rV:bJ:=⟨50,45,[ez],[ez]⟩
def tr:bJ:=⟨48,38,[ez],[ez,.bool]⟩
def kO:bJ:=⟨88,46,[as7],[hC]⟩
def rS:bJ:=⟨84,29,[gN],[hC]⟩
def iJ:bJ:=⟨73,31,[hC],[gN]⟩
def iV:bJ:=⟨59,34,[hC,hC],[hC]⟩
def iU:bJ:=⟨55,32,[hC,hC],[hC]⟩
def ic:bJ:=⟨58,33,[hC,hC],[hC]⟩
def mx:bJ:=⟨85,47,[hC],[hC]⟩
def po:bJ:=⟨30,50,[hC],[hC]⟩
def qU:bJ:=⟨95,43,[hC,ez],[hC]⟩
def abg:dL->Nat->Option hN:=λf r=>match f,r with
 |95,3=>some ⟨[2,3,4,5],[(6,-1,255)],[(3,0,0,4503599627370495),(3,1,0,4503599627370495),(3,2,0,4503599627370495),(3,3,0,4503599627370495),(3,4,0,4503599627370495)],[],[],[],[]⟩
 |_,_=>none
def ak4:Nat->List Nat
 |9=>[1,5]
 |_=>[]
def rT:bJ:=⟨72,35,[hC],[hC]⟩
def qX:bJ:=⟨87,48,[hC,hC],[.bool]⟩
def qT:bJ:=⟨74,49,[hC],[.bool]⟩
def uo:bJ:=⟨86,30,[hC],[hC,.bool]⟩
def n3:bJ:=⟨96,14,[gN],[gN]⟩
def nz:bJ:=⟨83,22,[gN],[.bool]⟩
def vf:bJ:=⟨60,100,[],[hC]⟩
def oD:bJ:=⟨62,101,[hC,hC],[uu]⟩
def sH:bJ:=⟨34,102,[],[uu]⟩
def u7:bJ:=⟨56,103,[],[uu]⟩
def rR:bJ:=⟨61,104,[hC,hC,hC,hC],[uu]⟩
def sI:bJ:=⟨33,105,[uu,uu],[uu]⟩
def u9:bJ:=⟨57,106,[pl],[uu]⟩
def oE:bJ:=⟨32,107,[uu,gN],[uu]⟩
def abf:dL->Nat->Option hN:=λf r=>match f,r with
 |32,3=>some ⟨[2,3,4,5],[(6,-1,255)],[(3,0,0,4503599627370495),(3,1,0,4503599627370495),(3,2,0,4503599627370495),(3,3,0,4503599627370495),(3,4,0,4503599627370495),(3,5,0,4503599627370495),(3,6,0,4503599627370495),(3,7,0,4503599627370495),(3,8,0,4503599627370495),(3,9,0,4503599627370495),(3,10,0,4503599627370495),(3,11,0,4503599627370495),(3,12,0,4503599627370495),(3,13,0,4503599627370495),(3,14,0,4503599627370495),(3,15,0,4503599627370495),(3,16,0,4503599627370495),(3,17,0,4503599627370495),(3,18,0,4503599627370495),(3,19,0,4503599627370495)],[],[],[],[]⟩
 |_,_=>none
def ak3:Nat->List Nat
 |72=>[1,5,5,5,5]
 |_=>[]
def qa:bJ:=⟨37,108,[pl],[gN]⟩
def tq:bJ:=⟨54,109,[gN],[uu,.bool]⟩
def z7:bJ:=⟨15,112,[gN],[gN,pZ]⟩
def z1:bJ:=⟨18,114,[gN],[gN]⟩
def z6:bJ:=⟨16,115,[gN,gN,gN],[gN,pZ]⟩
def qV:bJ:=⟨47,120,[],[ez]⟩
def ve:bJ:=⟨51,121,[],[yO]⟩
def vb:bJ:=⟨52,122,[yO,yO],[yO]⟩
def qW:bJ:=⟨23,123,[gN,yO],[yO]⟩
def abh:dL->Nat->Option hN:=λf r=>match f,r with
 |23,3=>some ⟨[2,3,4,5],[(6,-1,255)],[(3,0,0,18446744073709551615),(3,1,0,18446744073709551615),(3,2,0,18446744073709551615),(3,3,0,18446744073709551615),(3,4,0,18446744073709551615),(3,5,0,18446744073709551615),(3,6,0,18446744073709551615),(3,7,0,18446744073709551615),(3,8,0,18446744073709551615),(3,9,0,18446744073709551615),(3,10,0,18446744073709551615),(3,11,0,18446744073709551615)],[],[],[],[]⟩
 |_,_=>none
def ak5:Nat->List Nat
 |56=>[1,4,4,4]
 |_=>[]
def va:bJ:=⟨22,124,[yO],[gN]⟩
def vd:bJ:=⟨21,125,[gN],[yO,.bool]⟩
def z8:bJ:=⟨12,130,[gN,gN],[gN,pZ]⟩
def yC:bJ:=⟨11,133,[],[ez]⟩
def sh:Nat->List Nat×List Nat
 |37=>([32],[4])
 |27=>([4],[32])
 |28=>([],[4])
 |42=>([4,4],[1])
 |55=>([4,4],[4,1])
 |56=>([4,4],[4,1])
 |39=>([4],[4])
 |40=>([4,4],[4])
 |41=>([4,4],[4])
 |54=>([4,4],[4])
 |36=>([4,4],[4])
 |44=>([4,4],[4])
 |45=>([4],[4])
 |38=>([4],[4,1])
 |46=>([5],[5])
 |29=>([32],[5])
 |31=>([5],[32])
 |34=>([5,5],[5])
 |32=>([5,5],[5])
 |33=>([5,5],[5])
 |47=>([5],[5])
 |50=>([5],[5])
 |43=>([5,4],[5])
 |35=>([5],[5])
 |48=>([5,5],[1])
 |49=>([5],[1])
 |30=>([5],[5,1])
 |14=>([32],[32])
 |22=>([32],[1])
 |100=>([],[5])
 |101=>([5,5],[5,5,5,5])
 |102=>([],[5,5,5,5])
 |103=>([],[5,5,5,5])
 |104=>([5,5,5,5],[5,5,5,5])
 |105=>([5,5,5,5,5,5,5,5],[5,5,5,5])
 |106=>([5,5,5],[5,5,5,5])
 |107=>([5,5,5,5,32],[5,5,5,5])
 |108=>([5,5,5],[32])
 |109=>([32],[5,5,5,5,1])
 |110=>([32],[1])
 |111=>([32,32],[32,1])
 |112=>([32],[32,1])
 |113=>([32,32],[32,1])
 |114=>([32],[32])
 |115=>([32,32,32],[32,1])
 |120=>([],[4])
 |121=>([],[4,4,4])
 |122=>([4,4,4,4,4,4],[4,4,4])
 |123=>([32,4,4,4],[4,4,4])
 |124=>([4,4,4],[32])
 |125=>([32],[4,4,4,1])
 |126=>([],[4,4,4])
 |127=>([32],[1])
 |128=>([32,32],[32,1])
 |129=>([32],[32,1])
 |130=>([32,32],[32,1])
 |131=>([32],[32])
 |132=>([32,32,32],[32,1])
 |133=>([],[4])
 |140=>([],[1])
 |141=>([32],[1])
 |142=>([32,32,32],[1])
 |143=>([32,32],[1])
 |144=>([32,32],[1])
 |145=>([32,32,32],[1])
 |146=>([32,32],[1])
 |150=>([32,32,32],[32])
 |147=>([32,32],[1])
 |_=>([],[])
abbrev ad:List Int->Int:=num 18446744073709551616
abbrev nb:List Int->Int:=num 256
abbrev v5:List Int->Int:=num 2251799813685248
def cr (a:Int) (e:Nat):Int:=a^e% 57896044618658097711785492504343953926634992332820282019728792003956564819949
def s9:Nat:=57896044618658097711785492504343953926634992332820282019728792003956564819947
def ov:Nat:=7237005577332262213973186563042994240829374041602535252466099000494570602494
def yY:Int:=19681161376707505956807079304988542015446066515923890162744021073123829784752
def yZ:Int:=19681161376707505956807079304988542015446066515923890162744021073123829784752
def qi (a:Int):Int×Int:=
 let e4:=cr a ov;let c:=if e4*e4% 57896044618658097711785492504343953926634992332820282019728792003956564819949=a then e4 else e4*yY% 57896044618658097711785492504343953926634992332820282019728792003956564819949
 if c*c% 57896044618658097711785492504343953926634992332820282019728792003956564819949=a then(if c% 2=1 then(0-c)% 57896044618658097711785492504343953926634992332820282019728792003956564819949 else c,1)else(0,0)
def l9 (a:Int):Int×Int:=
 let e4:=cr a ov
 if e4*e4% 57896044618658097711785492504343953926634992332820282019728792003956564819949=a then(if e4% 2=1 then(0-e4)% 57896044618658097711785492504343953926634992332820282019728792003956564819949 else e4,1)else
 let c:=e4*yZ% 57896044618658097711785492504343953926634992332820282019728792003956564819949
 if c*c% 57896044618658097711785492504343953926634992332820282019728792003956564819949=a then(if c% 2=1 then(0-c)% 57896044618658097711785492504343953926634992332820282019728792003956564819949 else c,1)else(0,0)
def dv:Int:=37095705934669439343138083508754565189542113879843219016388785533085940283555
def lJ (a:Int):Int:=cr a s9
def on (A:Int×Int):Prop:=(0<=A.1/\A.1<57896044618658097711785492504343953926634992332820282019728792003956564819949)/\(0<=A.2/\A.2<57896044618658097711785492504343953926634992332820282019728792003956564819949)/\(A.2*A.2-A.1*A.1)% 57896044618658097711785492504343953926634992332820282019728792003956564819949=(1+dv*(A.1*A.1*(A.2*A.2)))% 57896044618658097711785492504343953926634992332820282019728792003956564819949
def fU (A B:Int×Int):Int×Int:=
 ((A.1*B.2+A.2*B.1)*lJ (1+dv*(A.1*B.1*(A.2*B.2)))% 57896044618658097711785492504343953926634992332820282019728792003956564819949,(A.2*B.2+A.1*B.1)*lJ (1-dv*(A.1*B.1*(A.2*B.2)))% 57896044618658097711785492504343953926634992332820282019728792003956564819949)
def nc:Int×Int:=(0,1)
def rY (A:Int×Int):Int×Int:=((0-A.1)% 57896044618658097711785492504343953926634992332820282019728792003956564819949,A.2)
def er:Nat->Int×Int->Int×Int
 |0,_=>nc
 |n+1,A=>fU (er n A) A
def ln:Int×Int:=(15112221349535400772501151409588531511454012693041857206046113283949847762202,46316835694926478169428394003475163141307993866256225615783033603165251855960)
def ej:Int:=57896044618658097711785492504343953926634992332820282019728792003956564819968
def enc (A:Int×Int):Int:=A.2+ej*(A.1% 2)
def dec (b:Int):Option (Int×Int):=
 let y:=b% ej;let azv:=b/ej
 if y<57896044618658097711785492504343953926634992332820282019728792003956564819949 then
  let q:=l9 ((y*y-1)*lJ (dv*(y*y)+1)% 57896044618658097711785492504343953926634992332820282019728792003956564819949)
  if q.2=0 then none else
  if azv=1 then(if q.1=0 then none else some ((0-q.1)% 57896044618658097711785492504343953926634992332820282019728792003956564819949,y))else some (q.1,y)
 else none
def mG (x y z t:Int) (A:Int×Int):Prop:=z% 57896044618658097711785492504343953926634992332820282019728792003956564819949≠0/\x% 57896044618658097711785492504343953926634992332820282019728792003956564819949=A.1*z% 57896044618658097711785492504343953926634992332820282019728792003956564819949/\y% 57896044618658097711785492504343953926634992332820282019728792003956564819949=A.2*z% 57896044618658097711785492504343953926634992332820282019728792003956564819949/\t% 57896044618658097711785492504343953926634992332820282019728792003956564819949=A.1*A.2*z% 57896044618658097711785492504343953926634992332820282019728792003956564819949
def lP (x y z:Int) (A:Int×Int):Prop:=z% 57896044618658097711785492504343953926634992332820282019728792003956564819949≠0/\x% 57896044618658097711785492504343953926634992332820282019728792003956564819949=A.1*z% 57896044618658097711785492504343953926634992332820282019728792003956564819949/\y% 57896044618658097711785492504343953926634992332820282019728792003956564819949=A.2*z% 57896044618658097711785492504343953926634992332820282019728792003956564819949
def A8 (x y z:Int):Int:=y*lJ z% 57896044618658097711785492504343953926634992332820282019728792003956564819949+ej*(x*lJ z% 57896044618658097711785492504343953926634992332820282019728792003956564819949% 2)
def bit (b:Prop) [Decidable b]:Int:=if b then 1 else 0
abbrev dZ:=List (List Int)->List (List Int)->Prop
def uA:dZ|[a],[r]=>ad r=nb a|_,_=>True
def uz:dZ|[a],[r]=>nb r=ad a|_,_=>True
def aER:dZ|[],[r]=>ad r=57896044618658097711785492504343953926634992332820282019728792003956564819949|_,_=>True
def xA:dZ|[a,b],[[z]]=>z=bit (ad a<ad b)|_,_=>True
def r5:dZ|[a,b],[r,[c]]=>ad r=ad a-ad b+115792089237316195423570985008687907853269984665640564039457584007913129639936*c|_,_=>True
def r6:dZ|[a,b],[r,[c]]=>ad r=ad a+ad b-115792089237316195423570985008687907853269984665640564039457584007913129639936*c|_,_=>True
def aEG:dZ|[a],[r]=>ad r=ad a% 57896044618658097711785492504343953926634992332820282019728792003956564819949|_,_=>True
def xB:dZ|[a,b],[r]=>ad r=(ad a+ad b)% 115792089237316195423570985008687907853269984665640564039457584007913129639936% 57896044618658097711785492504343953926634992332820282019728792003956564819949|_,_=>True
def aEH:dZ|[a,b],[r]=>ad r=(ad a-ad b+(if ad a<ad b then 57896044618658097711785492504343953926634992332820282019728792003956564819949 else 0))% 115792089237316195423570985008687907853269984665640564039457584007913129639936|_,_=>True
def aEL:dZ|[a,b],[r]=>ad r=(ad a+115792089237316195423570985008687907853269984665640564039457584007913129639936*ad b)% 57896044618658097711785492504343953926634992332820282019728792003956564819949|_,_=>True
def aES:dZ|[a,b],[r]=>ad r=ad a*ad b% 57896044618658097711785492504343953926634992332820282019728792003956564819949|_,_=>True
def aE4:dZ|[a,n],[r]=>ad r=cr (ad a) (ad n).toNat|_,_=>True
def aEN:dZ|[a],[r]=>ad r=cr (ad a) s9|_,_=>True
def uC:dZ|[a],[[z]]=>z=bit (nb a<57896044618658097711785492504343953926634992332820282019728792003956564819949)|_,_=>True
def uB:dZ|[a],[r]=>nb r=nb a% 57896044618658097711785492504343953926634992332820282019728792003956564819949|_,_=>True
def amV:dZ|[a,b],[r]=>nb r=(nb a+nb b)% 57896044618658097711785492504343953926634992332820282019728792003956564819949|_,_=>True
def am4:dZ|[a,b],[r]=>nb r=(nb a-nb b)% 57896044618658097711785492504343953926634992332820282019728792003956564819949|_,_=>True
def am0:dZ|[a,b],[r]=>nb r=nb a*nb b% 57896044618658097711785492504343953926634992332820282019728792003956564819949|_,_=>True
def amZ:dZ|[a],[r]=>nb r=cr (nb a) s9|_,_=>True
def am1:dZ|[a,n],[r]=>nb r=cr (nb a) (nb n).toNat|_,_=>True
def aE2:dZ|[a],[r,[z]]=>(ad r,z)=qi (ad a)|_,_=>True
def aEZ:dZ|[a],[r,[z]]=>(nb r,z)=qi (nb a% 57896044618658097711785492504343953926634992332820282019728792003956564819949)|_,_=>True
def aEF:dZ|[a],[r]=>v5 r% 57896044618658097711785492504343953926634992332820282019728792003956564819949=v5 a% 57896044618658097711785492504343953926634992332820282019728792003956564819949/\v5 r<57896044618658097711785492504343953926634992332820282019728792003956564819949+38|_,_=>True
def aEM:dZ|[a],[r]=>v5 r% 57896044618658097711785492504343953926634992332820282019728792003956564819949=nb a% 57896044618658097711785492504343953926634992332820282019728792003956564819949|_,_=>True
def aEI:dZ|[a],[r]=>nb r=v5 a% 57896044618658097711785492504343953926634992332820282019728792003956564819949|_,_=>True
def aEK:dZ|[a,b],[r]=>v5 r% 57896044618658097711785492504343953926634992332820282019728792003956564819949=(v5 a+v5 b)% 57896044618658097711785492504343953926634992332820282019728792003956564819949|_,_=>True
def aEJ:dZ|[a,b],[r]=>v5 r% 57896044618658097711785492504343953926634992332820282019728792003956564819949=(v5 a-v5 b)% 57896044618658097711785492504343953926634992332820282019728792003956564819949|_,_=>True
def aE5:dZ|[a,b],[r]=>v5 r% 57896044618658097711785492504343953926634992332820282019728792003956564819949=v5 a*v5 b% 57896044618658097711785492504343953926634992332820282019728792003956564819949|_,_=>True
def aE3:dZ|[a],[r]=>v5 r% 57896044618658097711785492504343953926634992332820282019728792003956564819949=v5 a*v5 a% 57896044618658097711785492504343953926634992332820282019728792003956564819949|_,_=>True
def aEP:dZ|[a],[r]=>v5 r% 57896044618658097711785492504343953926634992332820282019728792003956564819949=(0-v5 a)% 57896044618658097711785492504343953926634992332820282019728792003956564819949|_,_=>True
def aET:dZ|[a,n],[r]=>v5 r% 57896044618658097711785492504343953926634992332820282019728792003956564819949=cr (v5 a) (ad n).toNat|_,_=>True
def aEO:dZ|[a],[r]=>v5 r% 57896044618658097711785492504343953926634992332820282019728792003956564819949=cr (v5 a) s9|_,_=>True
def aE0:dZ|[a,b],[[z]]=>z=bit (v5 a% 57896044618658097711785492504343953926634992332820282019728792003956564819949=v5 b% 57896044618658097711785492504343953926634992332820282019728792003956564819949)|_,_=>True
def aEQ:dZ|[a],[[z]]=>z=v5 a% 57896044618658097711785492504343953926634992332820282019728792003956564819949% 2|_,_=>True
def aEY:dZ|[a],[r,[z]]=>(v5 r% 57896044618658097711785492504343953926634992332820282019728792003956564819949,z)=l9 (v5 a% 57896044618658097711785492504343953926634992332820282019728792003956564819949)|_,_=>True
def aEX:dZ|[a],[r,[z]]=>(nb r,z)=l9 (nb a% 57896044618658097711785492504343953926634992332820282019728792003956564819949)|_,_=>True
def xC:dZ|_,[[z]]=>z=1|_,_=>True
def am5:dZ|[],[r]=>v5 r% 57896044618658097711785492504343953926634992332820282019728792003956564819949=2*dv% 57896044618658097711785492504343953926634992332820282019728792003956564819949|_,_=>True
def O1:dZ|[x,y],[a,b,c,d]=>v5 a% 57896044618658097711785492504343953926634992332820282019728792003956564819949=v5 x% 57896044618658097711785492504343953926634992332820282019728792003956564819949/\v5 b% 57896044618658097711785492504343953926634992332820282019728792003956564819949=v5 y% 57896044618658097711785492504343953926634992332820282019728792003956564819949/\v5 c% 57896044618658097711785492504343953926634992332820282019728792003956564819949=1/\v5 d% 57896044618658097711785492504343953926634992332820282019728792003956564819949=v5 x*v5 y% 57896044618658097711785492504343953926634992332820282019728792003956564819949|_,_=>True
def O0:dZ|[],[x,y,z,t]=>v5 x% 57896044618658097711785492504343953926634992332820282019728792003956564819949=ln.1/\v5 y% 57896044618658097711785492504343953926634992332820282019728792003956564819949=ln.2/\v5 z% 57896044618658097711785492504343953926634992332820282019728792003956564819949=1/\v5 t% 57896044618658097711785492504343953926634992332820282019728792003956564819949=ln.1*ln.2% 57896044618658097711785492504343953926634992332820282019728792003956564819949|_,_=>True
def acR:dZ|[],[x,y,z,t]=>v5 x% 57896044618658097711785492504343953926634992332820282019728792003956564819949=0/\v5 y% 57896044618658097711785492504343953926634992332820282019728792003956564819949=1/\v5 z% 57896044618658097711785492504343953926634992332820282019728792003956564819949=1/\v5 t% 57896044618658097711785492504343953926634992332820282019728792003956564819949=0|_,_=>True
def acP:dZ|[e,f,g,h],[x,y,z,t]=>v5 x% 57896044618658097711785492504343953926634992332820282019728792003956564819949=v5 e*v5 f% 57896044618658097711785492504343953926634992332820282019728792003956564819949/\v5 y% 57896044618658097711785492504343953926634992332820282019728792003956564819949=v5 g*v5 h% 57896044618658097711785492504343953926634992332820282019728792003956564819949/\v5 z% 57896044618658097711785492504343953926634992332820282019728792003956564819949=v5 f*v5 g% 57896044618658097711785492504343953926634992332820282019728792003956564819949/\v5 t% 57896044618658097711785492504343953926634992332820282019728792003956564819949=v5 e*v5 h% 57896044618658097711785492504343953926634992332820282019728792003956564819949|_,_=>True
def Tv:dZ|[aj,ar,aF,t1,ah,an,z2,t2],[x,y,z,t]=>∀A B,on A->on B->mG (v5 aj) (v5 ar) (v5 aF) (v5 t1) A->mG (v5 ah) (v5 an) (v5 z2) (v5 t2) B->mG (v5 x) (v5 y) (v5 z) (v5 t) (fU A B)|_,_=>True
def amY:dZ|[aj,ar,aF],[x,y,z,t]=>∀A,on A->lP (v5 aj) (v5 ar) (v5 aF) A->mG (v5 x) (v5 y) (v5 z) (v5 t) (fU A A)|_,_=>True
def KY:dZ|[aj,ar,aF,t1,k],[x,y,z,t]=>∀A,on A->mG (v5 aj) (v5 ar) (v5 aF) (v5 t1) A->mG (v5 x) (v5 y) (v5 z) (v5 t) (er (nb k).toNat A)|_,_=>True
def KX:dZ|[x,y,z],[r]=>nb r=A8 (v5 x) (v5 y) (v5 z)|_,_=>True
def O2:dZ|[b],[x,y,z,t,[k]]=>(match dec (nb b)with|none=>k=0|some A=>k=1/\v5 x% 57896044618658097711785492504343953926634992332820282019728792003956564819949=A.1/\v5 y% 57896044618658097711785492504343953926634992332820282019728792003956564819949=A.2/\v5 z% 57896044618658097711785492504343953926634992332820282019728792003956564819949=1/\v5 t% 57896044618658097711785492504343953926634992332820282019728792003956564819949=A.1*A.2% 57896044618658097711785492504343953926634992332820282019728792003956564819949)|_,_=>True
def amX:dZ|[b],[[k]]=>k=bit ((dec (nb b)).isSome=true)|_,_=>True
def rk (r:List Int) (e:Int):Option (Int×Int)->Prop
 |none=>e=1/\nb r=0
 |some A=>e=0/\nb r=enc A
def amW:dZ|[a,b],[r,[e]]=>rk r e ((dec (nb a)).bind λA=>(dec (nb b)).map λB=>fU A B)|_,_=>True
def acO:dZ|[a],[r,[e]]=>rk r e ((dec (nb a)).map rY)|_,_=>True
def acQ:dZ|[k,a],[r,[e]]=>rk r e ((dec (nb a)).map (er (nb k).toNat))|_,_=>True
def acM:dZ|[k],[r]=>nb r=enc (er (nb k).toNat ln)|_,_=>True
def acN:dZ|[k,a,l],[r,[e]]=>rk r e ((dec (nb a)).map λA=>fU (er (nb k).toNat A) (er (nb l).toNat ln))|_,_=>True
def aEU:dZ|[],[r]=>ad r=dv|_,_=>True
def acT:dZ|[],[x,y,z]=>ad x=0/\ad y=1/\ad z=1|_,_=>True
def aEV:dZ|[],[x,y,z]=>ad x=ln.1/\ad y=ln.2/\ad z=1|_,_=>True
def acS:dZ|[aj,ar,aF,ah,an,z2],[x,y,z]=>∀A B,on A->on B->lP (ad aj) (ad ar) (ad aF) A->lP (ad ah) (ad an) (ad z2) B->lP (ad x) (ad y) (ad z) (fU A B)|_,_=>True
def am3:dZ|[k,aj,ar,aF],[x,y,z]=>∀A,on A->lP (ad aj) (ad ar) (ad aF) A->lP (ad x) (ad y) (ad z) (er (nb k).toNat A)|_,_=>True
def am2:dZ|[x,y,z],[r]=>nb r=A8 (ad x) (ad y) (ad z)|_,_=>True
def Tw:dZ|[b],[x,y,z,[k]]=>(match dec (nb b)with|none=>k=0|some A=>k=1/\ad x=A.1/\ad y=A.2/\ad z=1)|_,_=>True
def jx:Nat:=7237005577332262213973186563042994240857116359379907606001950938285454250989
def aE1:dZ|[a,b,c],[r]=>nb r=(nb a*nb b+nb c)% (jx:Int)|_,_=>True
def aEW:dZ|[],[r]=>ad r=(jx:Int)|_,_=>True
def SB:Nat->dZ
 |37=>uA
 |27=>uz
 |28=>aER
 |42=>xA
 |55=>r5
 |56=>r6
 |39=>aEG
 |40=>xB
 |41=>aEH
 |54=>aEL
 |36=>aES
 |44=>aE4
 |45=>aEN
 |23=>uC
 |21=>uB
 |19=>amV
 |20=>am4
 |17=>am0
 |26=>amZ
 |25=>am1
 |38=>aE2
 |18=>aEZ
 |46=>aEF
 |29=>aEM
 |31=>aEI
 |34=>aEK
 |32=>aEJ
 |33=>aE5
 |47=>aE3
 |50=>aEP
 |43=>aET
 |35=>aEO
 |48=>aE0
 |49=>aEQ
 |30=>aEY
 |14=>uB
 |22=>uC
 |15=>amV
 |12=>am4
 |13=>am0
 |16=>amZ
 |11=>aEX
 |24=>am1
 |100=>am5
 |101=>O1
 |102=>O0
 |103=>acR
 |104=>acP
 |105=>Tv
 |106=>amY
 |107=>KY
 |108=>KX
 |109=>O2
 |110=>amX
 |111=>amW
 |112=>acO
 |113=>acQ
 |114=>acM
 |115=>acN
 |120=>aEU
 |121=>acT
 |122=>acS
 |123=>am3
 |124=>am2
 |125=>Tw
 |126=>aEV
 |127=>amX
 |128=>amW
 |129=>acO
 |130=>acQ
 |131=>acM
 |132=>acN
 |133=>aEW
 |150=>aE1
 |_=>xC
def fr (G:Nat->List Int->List Int):Nat->dZ:=λid a r=>SB id a r/\r.flatten=G id a.flatten
def eP (ds:List D) (id:Nat):dZ:=λa r=>ab (aY ds) r.flatten/\SB id a r
theorem nw {lo hi:Int} {r:List Int} (h:ab (ai lo hi 4) r):∃dx aj ah au,r=[dx,aj,ah,au]/\lo<=dx/\dx<=hi/\lo<=aj/\aj<=hi/\lo<=ah/\ah<=hi/\lo<=au/\au<=hi:=by
 match r,h with
 |[dx,aj,ah,au],h=>
  simp only[ai,ab,and_true]at h;exact⟨dx,aj,ah,au,rfl,h⟩
theorem Bn {lo hi:Int} {r:List Int} (h:ab (ai lo hi 5) r):∃dx aj ah au de,r=[dx,aj,ah,au,de]/\lo<=dx/\dx<=hi/\lo<=aj/\aj<=hi/\lo<=ah/\ah<=hi/\lo<=au/\au<=hi/\lo<=de/\de<=hi:=by
 match r,h with
 |[dx,aj,ah,au,de],h=>
  simp only[ai,ab,and_true]at h;exact⟨dx,aj,ah,au,de,rfl,h⟩
theorem Ht {lo hi:Int} {r:List Int} (h:ab (ai lo hi 32) r):∃dx aj ah au de iK jz mc me mf mB hW jy mb uI uJ vu vv vw vx vy vz vA vB vC vD vE vF vG vH vI vJ,r=[dx,aj,ah,au,de,iK,jz,mc,me,mf,mB,hW,jy,mb,uI,uJ,vu,vv,vw,vx,vy,vz,vA,vB,vC,vD,vE,vF,vG,vH,vI,vJ]/\lo<=dx/\dx<=hi/\lo<=aj/\aj<=hi/\lo<=ah/\ah<=hi/\lo<=au/\au<=hi/\lo<=de/\de<=hi/\lo<=iK/\iK<=hi/\lo<=jz/\jz<=hi/\lo<=mc/\mc<=hi/\lo<=me/\me<=hi/\lo<=mf/\mf<=hi/\lo<=mB/\mB<=hi/\lo<=hW/\hW<=hi/\lo<=jy/\jy<=hi/\lo<=mb/\mb<=hi/\lo<=uI/\uI<=hi/\lo<=uJ/\uJ<=hi/\lo<=vu/\vu<=hi/\lo<=vv/\vv<=hi/\lo<=vw/\vw<=hi/\lo<=vx/\vx<=hi/\lo<=vy/\vy<=hi/\lo<=vz/\vz<=hi/\lo<=vA/\vA<=hi/\lo<=vB/\vB<=hi/\lo<=vC/\vC<=hi/\lo<=vD/\vD<=hi/\lo<=vE/\vE<=hi/\lo<=vF/\vF<=hi/\lo<=vG/\vG<=hi/\lo<=vH/\vH<=hi/\lo<=vI/\vI<=hi/\lo<=vJ/\vJ<=hi:=by
 match r,h with
 |[dx,aj,ah,au,de,iK,jz,mc,me,mf,mB,hW,jy,mb,uI,uJ,vu,vv,vw,vx,vy,vz,vA,vB,vC,vD,vE,vF,vG,vH,vI,vJ],h=>
  simp only[ai,ab,and_true]at h;exact⟨dx,aj,ah,au,de,iK,jz,mc,me,mf,mB,hW,jy,mb,uI,uJ,vu,vv,vw,vx,vy,vz,vA,vB,vC,vD,vE,vF,vG,vH,vI,vJ,rfl,h⟩
theorem abd {n:Nat} {l:List Int} {lo hi:Int} (h:ab (ai lo hi n) l):l.length=n:=by rw[dR h,H3]
theorem dw {l:List Int} (h:ab (ai 0 18446744073709551615 4) l):0<=ad l/\ad l<115792089237316195423570985008687907853269984665640564039457584007913129639936:=⟨num_nonneg (by decide) (di _) h,SU (b:=18446744073709551616) (by decide) h⟩
theorem abB {l:List Int} (h:ab (ai 0 255 32) l):0<=nb l/\nb l<115792089237316195423570985008687907853269984665640564039457584007913129639936:=⟨num_nonneg (by decide) (di _) h,SU (b:=256) (by decide) h⟩
theorem w6 {l l':List Int} (h:ab (ai 0 255 32) l) (bm:ab (ai 0 255 32) l') (e:nb l=nb l'):l=l':=Og (b:=256) (by decide) h bm e
theorem vi {l l':List Int} (h:ab (ai 0 18446744073709551615 4) l) (bm:ab (ai 0 18446744073709551615 4) l') (e:ad l=ad l'):l=l':=Og (b:=18446744073709551616) (by decide) h bm e
theorem kY {l:List Int} {b:List (Int×Int)} (h:ab b l):ab (b++[]) (l++[]):=by simpa using h
theorem m5 (a b c d:Int):ad [a,b,c,d]=a+18446744073709551616*b+340282366920938463463374607431768211456*c+6277101735386680763835789423207666416102355444464034512896*d:=by simp only[num];omega
theorem DN (a b c d e:Int):v5 [a,b,c,d,e]=a+2251799813685248*b+5070602400912917605986812821504*c+11417981541647679048466287755595961091061972992*d+25711008708143844408671393477458601640355247900524685364822016*e:=by simp only[num];omega
theorem aia {low hi t c s1 d s2 e bn:Int} (h0:t+115792089237316195423570985008687907853269984665640564039457584007913129639936*c=38*hi) (h1:s1=low+t-115792089237316195423570985008687907853269984665640564039457584007913129639936*d) (h2:s2=s1+38*(c+d)-115792089237316195423570985008687907853269984665640564039457584007913129639936*e) (h3:bn=s2+38*e):bn% 57896044618658097711785492504343953926634992332820282019728792003956564819949=(low+115792089237316195423570985008687907853269984665640564039457584007913129639936*hi)% 57896044618658097711785492504343953926634992332820282019728792003956564819949:=by
 have:low+115792089237316195423570985008687907853269984665640564039457584007913129639936*hi=bn+57896044618658097711785492504343953926634992332820282019728792003956564819949*(2*(e+c+d+hi)):=by omega
 rw[this,xW]
theorem ab7 (a0 b7 a2 a3 fV ca cc dm:Int):(a0+18446744073709551616*b7+340282366920938463463374607431768211456*a2+6277101735386680763835789423207666416102355444464034512896*a3)*(fV+18446744073709551616*ca+340282366920938463463374607431768211456*cc+6277101735386680763835789423207666416102355444464034512896*dm)=a0*fV+18446744073709551616*(a0*ca)+340282366920938463463374607431768211456*(a0*cc)+6277101735386680763835789423207666416102355444464034512896*(a0*dm)+18446744073709551616*(b7*fV)+340282366920938463463374607431768211456*(b7*ca)+6277101735386680763835789423207666416102355444464034512896*(b7*cc)+115792089237316195423570985008687907853269984665640564039457584007913129639936*(b7*dm)+340282366920938463463374607431768211456*(a2*fV)+6277101735386680763835789423207666416102355444464034512896*(a2*ca)+115792089237316195423570985008687907853269984665640564039457584007913129639936*(a2*cc)+2135987035920910082395021706169552114602704522356652769947041607822219725780640550022962086936576*(a2*dm)+6277101735386680763835789423207666416102355444464034512896*(a3*fV)+115792089237316195423570985008687907853269984665640564039457584007913129639936*(a3*ca)+2135987035920910082395021706169552114602704522356652769947041607822219725780640550022962086936576*(a3*cc)+39402006196394479212279040100143613805079739270465446667948293404245721771497210611414266254884915640806627990306816*(a3*dm):=by grind
theorem abG (x:Int):ad [x,0,0,0]=x:=by rw[m5];omega
theorem Oh (l:List Int):ad l% 2=l.getD 0 0% 2:=by
 cases l with
 |nil=>rfl
 |cons x r=>simp only[num,gD];omega
theorem azk (l:List Int):nb l% 2=l.getD 0 0% 2:=by
 cases l with
 |nil=>rfl
 |cons x r=>simp only[num,gD];omega
theorem agN {a b:Prop} [Decidable a] [Decidable b] (h:a↔b):bit a=bit b:=by
 unfold bit;by_cases ha:a
 ·rw[if_pos ha,if_pos (h.1 ha)]
 ·rw[if_neg ha,if_neg (λhb=>ha (h.2 hb))]
theorem Xj {b:Prop} [Decidable b]:0<=bit b/\bit b<=1:=by unfold bit;split<;>decide
theorem wH {b:Prop} [Decidable b] (h:bit b=1):b:=by
 unfold bit at h;split at h
 ·assumption
 ·omega
theorem Gy {b:Prop} [Decidable b] (h:¬bit b=1):¬b:=λhb=>h (if_pos hb)
theorem dup {x d q fA:Int} (h1:0<=x-d*q) (h2:x-d*q<d) (h3:0<=x-d*fA) (h4:x-d*fA<d):q=fA:=OJ h1 h2 h3 h4
theorem OI {x d q:Int} (hd:0<d) (h1:0<=x-d*q) (h2:x-d*q<d):x/d=q:=by
 have e:=ad0 x d;have az:=sV x (show d≠0 by omega);have aI:=wg x hd;exact OJ (x:=x) (d:=d) (by omega) (by omega) h1 h2
theorem ahV {r0 r1 r2 ij aR:Int} (h0:0<=r0/\r0<2251799813685248) (h1:0<=r1/\r1<2251799813685248) (h2:0<=r2/\r2<2251799813685248) (h3:0<=ij/\ij<2251799813685248) (h4:0<=aR/\aR<2251799813685248):
 0<=r0+2251799813685248*r1+5070602400912917605986812821504*r2+11417981541647679048466287755595961091061972992*ij+25711008708143844408671393477458601640355247900524685364822016*aR/\r0+2251799813685248*r1+5070602400912917605986812821504*r2+11417981541647679048466287755595961091061972992*ij+25711008708143844408671393477458601640355247900524685364822016*aR<57896044618658097711785492504343953926634992332820282019728792003956564819968:=by omega
theorem canon {A c e:Int} (h0:0<=A) (h1:A<57896044618658097711785492504343953926634992332820282019728792003956564819949+38) (e4:0<=A+19-57896044618658097711785492504343953926634992332820282019728792003956564819968*c) (c1:A+19-57896044618658097711785492504343953926634992332820282019728792003956564819968*c<57896044618658097711785492504343953926634992332820282019728792003956564819968)
 (gE:0<=A+19*c-57896044618658097711785492504343953926634992332820282019728792003956564819968*e) (az:A+19*c-57896044618658097711785492504343953926634992332820282019728792003956564819968*e<57896044618658097711785492504343953926634992332820282019728792003956564819968):A+19*c-57896044618658097711785492504343953926634992332820282019728792003956564819968*e=A% 57896044618658097711785492504343953926634992332820282019728792003956564819949:=by
 have hc:c=0∨c=1:=by omega
 rcases hc with rfl|rfl
 ·have he:e=0:=by omega
  subst he;rw[mD h0 (by omega)];omega
 ·have he:e=1:=by omega
  subst he;have h2:0<=A-57896044618658097711785492504343953926634992332820282019728792003956564819949:=by omega
  have h3:A-57896044618658097711785492504343953926634992332820282019728792003956564819949<57896044618658097711785492504343953926634992332820282019728792003956564819949:=by omega
  rw[show A=(A-57896044618658097711785492504343953926634992332820282019728792003956564819949)+57896044618658097711785492504343953926634992332820282019728792003956564819949*1 by omega,xW,mD h2 h3];omega
theorem aHR {l:List Int} (h:ab (ai 0 4503599627370495 5) l):0<=v5 l:=num_nonneg (by decide) (di _) h
theorem aGc (dx aj ah au de j1 ar an aw ks:Int):(dx+2251799813685248*aj+5070602400912917605986812821504*ah+11417981541647679048466287755595961091061972992*au+25711008708143844408671393477458601640355247900524685364822016*de)*(j1+2251799813685248*ar+5070602400912917605986812821504*an+11417981541647679048466287755595961091061972992*aw+25711008708143844408671393477458601640355247900524685364822016*ks)=(1*(dx*j1)+2251799813685248*(dx*ar)+5070602400912917605986812821504*(dx*an)+11417981541647679048466287755595961091061972992*(dx*aw)+25711008708143844408671393477458601640355247900524685364822016*(dx*ks)+2251799813685248*(aj*j1)+5070602400912917605986812821504*(aj*ar)+11417981541647679048466287755595961091061972992*(aj*an)+25711008708143844408671393477458601640355247900524685364822016*(aj*aw)+1*(aj*(19*ks))+5070602400912917605986812821504*(ah*j1)+11417981541647679048466287755595961091061972992*(ah*ar)+25711008708143844408671393477458601640355247900524685364822016*(ah*an)+1*(ah*(19*aw))+2251799813685248*(ah*(19*ks))+11417981541647679048466287755595961091061972992*(au*j1)+25711008708143844408671393477458601640355247900524685364822016*(au*ar)+1*(au*(19*an))+2251799813685248*(au*(19*aw))+5070602400912917605986812821504*(au*(19*ks))+25711008708143844408671393477458601640355247900524685364822016*(de*j1)+1*(de*(19*ar))+2251799813685248*(de*(19*an))+5070602400912917605986812821504*(de*(19*aw))+11417981541647679048466287755595961091061972992*(de*(19*ks)))+57896044618658097711785492504343953926634992332820282019728792003956564819949*(1*(aj*ks)+1*(ah*aw)+2251799813685248*(ah*ks)+1*(au*an)+2251799813685248*(au*aw)+5070602400912917605986812821504*(au*ks)+1*(de*ar)+2251799813685248*(de*an)+5070602400912917605986812821504*(de*aw)+11417981541647679048466287755595961091061972992*(de*ks)):=by grind
theorem SR {c:Int} (h0:0<c) (h1:c<57896044618658097711785492504343953926634992332820282019728792003956564819949):(0-c)% 57896044618658097711785492504343953926634992332820282019728792003956564819949=57896044618658097711785492504343953926634992332820282019728792003956564819949-c:=by
 rw[<-mD (show 0<=57896044618658097711785492504343953926634992332820282019728792003956564819949-c by omega) (show 57896044618658097711785492504343953926634992332820282019728792003956564819949-c<57896044618658097711785492504343953926634992332820282019728792003956564819949 by omega),show 57896044618658097711785492504343953926634992332820282019728792003956564819949-c=(0-c)+57896044618658097711785492504343953926634992332820282019728792003956564819949*1 by omega,xW]
theorem u2 {b:Prop} [Decidable b]:(cond (decide b) 1 0:Int)=bit b:=by
 unfold bit;by_cases h:b<;>simp[h]
theorem abE (w:Nat):∀{n:Nat} {l:List Int} (i:Nat),ab (ai 0 (2^w-1) n) l->i<w*n->num (2^w) l/2^i% 2=l.getD (i/w) 0/2^(i% w)% 2
 |0,_,i,_,h=>by omega
 |n+1,[],i,h,_=>by simp[ai,ab]at h
 |n+1,x::l,i,h,hi=>by
  obtain⟨h0,h1,h2⟩:=h;have hp:∀k:Nat,(0:Int)<2^k:=λk=>by have:=IA k;exact_mod_cast this
  have hw:0<w:=by
   rcases Nat.eq_zero_or_pos w with rfl|h
   ·simp at hi
   ·exact h
  simp only[num];by_cases ajo:i<w
  ·rw[adY ajo,ad2 ajo,gD];obtain⟨k,rfl⟩:∃k,w=i+(k+1):=⟨w-i-1,by omega⟩;rw[Ur 2 i,DY,ao9 _ _ (by have:=hp i;omega),Int.pow_succ,lB (2^k) 2,DY];rw[xW]
  ·obtain⟨k,rfl⟩:∃k,i=k+w:=⟨i-w,by omega⟩;have ih:=abE w (n:=n) (l:=l) k h2 (by rw[Nat.mul_add]at hi;omega);have az:(k+w)/w=k/w+1:=Nat.add_div_right k hw;have aI:(k+w)% w=k% w:=Nat.add_mod_right k w;rw[az,aI,hL,<-ih]
   congr 1
   rw[Nat.add_comm k w,Ur,<-Int.ediv_ediv_of_nonneg (sd (hp w)),ao9 _ _ (by have:=hp w;omega)];rw[Int.ediv_eq_zero_of_lt h0 (by omega),Int.zero_add]
theorem Qb {l:List Int} {i:Nat} {q x fA y h:Int} (hl:ab (ai 0 18446744073709551615 4) l) (hi:(i:Int)<=255) (c:0<=(i:Int)-64*q) (d:(i:Int)-64*q<64) (e:x=l.getD q.toNat 0)
 (e3:0<=(i:Int)-64*fA) (GF:(i:Int)-64*fA<64) (cW:y=x/2^((i:Int)+(-64)*fA).toNat) (bQ:0<=y-2*h) (d2:y-2*h<2):y+(-2)*h=(((ad l).toNat/2^i% 2:Nat):Int):=by
 have hb:=abE 64 (n:=4) (l:=l) i hl (by omega);have h0:=(dw hl).1;have bg:q.toNat=i/64:=by omega
 have b3:((i:Int)+(-64)*fA).toNat=i% 64:=by omega
 rw[bg]at e;rw[b3]at cW;have cn:(((ad l).toNat/2^i% 2:Nat):Int)=ad l/2^i% 2:=by
  have:((ad l).toNat:Int)=ad l:=Pf h0;rw[Uo,Int.natCast_ediv,this];simp
 rw[cn];have hb:ad l/2^i% 2=l.getD (i/64) 0/2^(i% 64)% 2:=hb;rw[hb,<-e,<-cW];omega
theorem BF (a:Int):cr a 0=1:=by simp[cr]
theorem sK (a b:Int):a% 57896044618658097711785492504343953926634992332820282019728792003956564819949*b% 57896044618658097711785492504343953926634992332820282019728792003956564819949=a*b% 57896044618658097711785492504343953926634992332820282019728792003956564819949:=by rw[sU,Int.emod_emod,<-sU]
theorem w5 (a b:Int):a*(b% 57896044618658097711785492504343953926634992332820282019728792003956564819949)% 57896044618658097711785492504343953926634992332820282019728792003956564819949=a*b% 57896044618658097711785492504343953926634992332820282019728792003956564819949:=by rw[lB,sK,lB]
theorem yJ (a:Int) (k:Nat):cr a (k+1)=cr a k*a% 57896044618658097711785492504343953926634992332820282019728792003956564819949:=by unfold cr;rw[Int.pow_succ,sK]
theorem HU (a:Int) (k:Nat):cr a (2*k)=cr a k*cr a k% 57896044618658097711785492504343953926634992332820282019728792003956564819949:=by unfold cr;rw[sK,w5,<-Ur,Nat.two_mul]
theorem BE (a:Int) (k:Nat):cr (a% 57896044618658097711785492504343953926634992332820282019728792003956564819949) k=cr a k:=by
 induction k with
 |zero=>rw[BF,BF]
 |succ k ih=>rw[yJ,yJ,ih,w5]
theorem KE (a:Int) (k:Nat):0<=cr a k/\cr a k<57896044618658097711785492504343953926634992332820282019728792003956564819949:=⟨sV _ (by decide),wg _ (by decide)⟩
theorem SP (N i:Nat):N/2^i=2*(N/2^(i+1))+N/2^i% 2:=by
 have:N/2^(i+1)=N/2^i/2:=by rw[za,Ph]
 omega
theorem amj {a:Int} {N i:Nat} (h:N/2^i% 2=1):cr a (N/2^i)=cr a (N/2^(i+1))*cr a (N/2^(i+1))% 57896044618658097711785492504343953926634992332820282019728792003956564819949*a% 57896044618658097711785492504343953926634992332820282019728792003956564819949:=by
 rw[SP N i,h,yJ,HU]
theorem ami {a:Int} {N i:Nat} (h:N/2^i% 2≠1):cr a (N/2^i)=cr a (N/2^(i+1))*cr a (N/2^(i+1))% 57896044618658097711785492504343953926634992332820282019728792003956564819949:=by
 have h0:N/2^i% 2=0:=by omega
 rw[SP N i,h0,oX,HU]
theorem anD {l:List Int} (hl:ab (ai 0 18446744073709551615 4) l):(ad l).toNat/2^(255+1:Int).toNat=0:=by
 have h:=dw hl;have e:(255+1:Int).toNat=256:=by decide
 rw[e];apply adY;have:((ad l).toNat:Int)<2^256:=by rw[Pf h.1];exact h.2
 exact_mod_cast this
def yN (G:Nat->List Int->List Int) (e:List Int) (N:Nat):Nat->List Int
 |0=>[1,0,0,0,0]
 |k+1=>bif N/2^(255-k)% 2==1 then G 33 (G 47 (yN G e N k)++e)else G 47 (yN G e N k)
theorem zz:(ad [18446744073709551614,18446744073709551615,18446744073709551615,1152921504606846975]).toNat=ov:=by decide
theorem aml (a e:Nat) (h:e<2^256):cr (a:Int) e=((L0.pm 256 a e 57896044618658097711785492504343953926634992332820282019728792003956564819949:Nat):Int):=by
 rw[L0.Tb 256 a e 57896044618658097711785492504343953926634992332820282019728792003956564819949 h];unfold cr;rw[Uo];congr 1
theorem ac7:cr (ad [2,0,0,0]) (ad [18446744073709551611,18446744073709551615,18446744073709551615,2305843009213693951]).toNat=yY:=by
 rw[show ad [2,0,0,0]=((2:Nat):Int) by decide,aml 2 _ (by decide)];decide+kernel
theorem adn:v5 [1718705420411056,234908883556509,2233514472574048,2117202627021982,765476049583133]=yZ:=by decide
theorem ate:(ad [18446744073709551595,18446744073709551615,18446744073709551615,9223372036854775807]).toNat=s9:=by decide
def V9 (G:Nat->List Int->List Int):dZ:=λa r=>eP qU.res 43 a r/\(match a with|[e,n]=>r.flatten=yN G e (ad n).toNat 256|_=>True)
theorem aHQ:v5 [1,0,0,0,0]=1:=by decide
def w4 (G:Nat->List Int->List Int) (p:List Int) (N:Nat):Nat->List Int
 |0=>G 103 []
 |k+1=>bif N/2^(255-k)% 2==1 then G 105 (G 106 ((w4 G p N k).take 15)++p)else G 106 ((w4 G p N k).take 15)
def uy (G:Nat->List Int->List Int) (p:List Int) (N:Nat):Nat->List Int
 |0=>G 121 []
 |k+1=>bif N/2^(255-k)% 2==1 then G 122 (G 122 (uy G p N k++uy G p N k)++p)else G 122 (uy G p N k++uy G p N k)
def V7 (G:Nat->List Int->List Int):dZ:=λa r=>eP oE.res 107 a r/\(match a with|[x,y,z,t,k]=>r.flatten=w4 G [x,y,z,t].flatten (nb k).toNat 256|_=>True)
def V8 (G:Nat->List Int->List Int):dZ:=λa r=>eP qW.res 123 a r/\(match a with|[k,x,y,z]=>r.flatten=uy G [x,y,z].flatten (nb k).toNat 256|_=>True)
theorem arQ:aY [uu]=ai 0 4503599627370495 5++(ai 0 4503599627370495 5++(ai 0 4503599627370495 5++(ai 0 4503599627370495 5++[]))):=rfl
theorem arR:aY [uu,.bool]=ai 0 4503599627370495 5++(ai 0 4503599627370495 5++(ai 0 4503599627370495 5++(ai 0 4503599627370495 5++[(0,1)]))):=rfl
theorem arS:aY [yO]=ai 0 18446744073709551615 4++(ai 0 18446744073709551615 4++(ai 0 18446744073709551615 4++[])):=rfl
theorem arT:aY [yO,.bool]=ai 0 18446744073709551615 4++(ai 0 18446744073709551615 4++(ai 0 18446744073709551615 4++[(0,1)])):=rfl
theorem agG:aY [gN,pZ]=ai 0 255 32++[(0,1)]:=rfl
theorem Hu {a b c d:List Int} (ha:ab (ai 0 4503599627370495 5) a) (hb:ab (ai 0 4503599627370495 5) b) (hc:ab (ai 0 4503599627370495 5) c) (hd:ab (ai 0 4503599627370495 5) d):ab (aY [uu]) [a,b,c,d].flatten:=by
 rw[arQ];exact m1 ha (m1 hb (m1 hc (kY hd)))
theorem NT {a b c d:List Int} {k:Int} (ha:ab (ai 0 4503599627370495 5) a) (hb:ab (ai 0 4503599627370495 5) b) (hc:ab (ai 0 4503599627370495 5) c) (hd:ab (ai 0 4503599627370495 5) d) (af:0<=k/\k<=1):ab (aY [uu,.bool]) [a,b,c,d,[k]].flatten:=by
 rw[arR];exact m1 ha (m1 hb (m1 hc (m1 hd ⟨af.1,af.2,trivial⟩)))
theorem aaa {a b c:List Int} (ha:ab (ai 0 18446744073709551615 4) a) (hb:ab (ai 0 18446744073709551615 4) b) (hc:ab (ai 0 18446744073709551615 4) c):ab (aY [yO]) [a,b,c].flatten:=by
 rw[arS];exact m1 ha (m1 hb (kY hc))
theorem NU {a b c:List Int} {k:Int} (ha:ab (ai 0 18446744073709551615 4) a) (hb:ab (ai 0 18446744073709551615 4) b) (hc:ab (ai 0 18446744073709551615 4) c) (af:0<=k/\k<=1):ab (aY [yO,.bool]) [a,b,c,[k]].flatten:=by
 rw[arT];exact m1 ha (m1 hb (m1 hc ⟨af.1,af.2,trivial⟩))
theorem Fa {a:List Int} {k:Int} (ha:ab (ai 0 255 32) a) (af:0<=k/\k<=1):ab (aY [gN,pZ]) [a,[k]].flatten:=by
 rw[agG];exact m1 ha ⟨af.1,af.2,trivial⟩
theorem yA:ab (ai 0 4503599627370495 5) [0,0,0,0,0]:=by simp[ai,ab]
theorem ax1:ab (ai 0 4503599627370495 5) [1,0,0,0,0]:=by simp[ai,ab]
theorem zU:ab (ai 0 18446744073709551615 4) [0,0,0,0]:=by simp[ai,ab]
theorem RI:ab (ai 0 18446744073709551615 4) [1,0,0,0]:=by simp[ai,ab]
theorem aab:ab (ai 0 255 32) (fD 32 0):=by simp[ai,ab,fD]
theorem alY:v5 [929955233495203,466365720129213,1662059464998953,2033849074728123,1442794654840575]=dv:=by decide
end Go.Fd
