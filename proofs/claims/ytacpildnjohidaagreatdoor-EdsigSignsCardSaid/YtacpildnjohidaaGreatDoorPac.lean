/- A contract out of a tree. -/
import Derived.Test.YtacpildnjohidaaGreatDoorPab
import Derived.Laws.Externs
import Derived.ChangeMaps5
import Derived.ChangeSame
import Derived.OpenShut
import Derived.Handed
import Derived.ProofKit
import Derived.LaidMore
import Derived.Stop.Joined
import Derived.HandedShaped
import Derived.SizedLaws
import Derived.Carry
import Derived.RangeFuncOwn
import Derived.RangeFuncLeaves
import Derived.KernelRfl
import Derived.Test.YtacpildnjohidaaGreatDoorPaa
open Array renaming replicate->CJ,eq_empty_of_size_eq_zero->EL
open Bool renaming and_eq_true->bI,not_eq_true'->c6,or_eq_true->EG
open Classical renaming byContradiction->ai2,axiomOfChoice->aZd
open Function renaming comp->Si
open Go renaming World->aC,Value->bf,TypeId->bE,Program->cc,FuncId->dv,IntKind->eB,Calls->oo,DataW->pX,MemPlace->AU,Deferred->GY
open Go.ChangeSpec renaming post_blind->a0C,plain->a0E
open Go.DataW renaming weightsEach->Yu,weightsAll->Yv,weights->Yw,trod->ai8,trod_int->awj,TrodAll->awA,trod_array->aWp,lit->aWq,trod_string->aW7
open Go.DataW.Whole renaming of_heap->a0B
open Go.DataW.agg renaming injEq->aZi
open Go.Extern renaming findNext->ai5,find->ai6
open Go.Extern.MathBitsCarry renaming m64->aWn,three->aZe,pair->aZf
open Go.Fence renaming wide->JU
open Go.Frame renaming enter->aXa
open Go.Input renaming okWide->aW9
open Go.OpenSpec renaming ofChange->ajm
open Go.Value renaming int->AV,cells->JP,slice->So,okWide->SA,bool->aWl,agg->aW8
open Go.World renaming cell?->oq,putObj_heap_other->A0,frozen?->EH,putObj_heap_same->EO,putObj_size->ajo,alloc_heap_new->aXe
open Go.World.Extends renaming refl->sd,drew->Ye
open Int renaming le_refl->cn,mul_comm->kL,emod_eq_of_lt->lO,eq_ofNat_of_zero_le->mr,lt_or_le->mw,le_of_lt->qv,emod_lt_of_pos->ri,mul_emod->sU,emod_nonneg->sV,add_mul_emod_self_left->xQ,le_trans->y3,mul_assoc->CD,mul_add->MX,toNat_of_nonneg->Sc,pow_succ->Se,natCast_emod->X7,pow_add->Ya,ediv_eq_iff_of_pos->Yh,emod_add_mul_ediv->ai0,add_mul_ediv_left->awa
open List renaming getD->U,map_cons->df,replicate->dw,range->dP,nil_append->eQ,mem_cons_of_mem->e5,length_append->fq,mem_of_getElem?->fw,append_assoc->fS,getD_cons_zero->gp,map_nil->gr,append_nil->gO,getD_cons_succ->hq,map_append->hQ,drop_zero->jA,cons_append->j4,map_congr_left->j5,length_cons->kx,map_map->lz,getElem?_eq_getElem->lA,take_of_length_le->mu,mem_cons->m2,length_take->m4,flatten_cons->nH,take_append_drop->nI,length_drop->pq,length_nil->pr,length_map->ps,length->pY,zipWith->tG,not_mem_nil->uU,getElem?_set->wF,flatMap_cons->wH,getElem?_cons_zero->xU,mem_append->y7,replicate_succ->y8,drop_drop->CF,drop_of_length_le->GW,drop_left->GX,mem_of_find?_eq_some->JN,all_eq_true->MV,map_take->M0,map_drop->M1,getElem?_eq_none->M8,map_id->Sh,zipWith_cons_cons->Sm,mem_or_eq_of_mem_set->Sx,mem_cons_self->Yg,take_length->ai4,mapM_cons->awi
open List.cons renaming injEq->hD
open Nat renaming beq->aU,le_refl->b1,eq_of_beq_eq_true->b8,ble->cV,blt->eC,le_of_ble_eq_true->gq,add_zero->m3,le_trans->nJ,pow_add->xS,mul_comm->xT,pow_succ->y1,zero_add->y4,succ_mul->AX,two_pow_pos->CG,mul_one->CH,lt_of_lt_of_le->JL,beq_refl->JM,mod_eq_of_lt->MS,mul_mod->MT,mod_lt->MU,le_add_right->MZ,div_div_eq_div_mul->Sf,mul_le_mul_left->Sq,div_add_mod->X9,mul_assoc->Yb,div_eq_of_lt->aiZ,dvd_of_mod_eq_zero->aWb,div_le_self->aWd
open Nat.Coprime renaming mul_right->aYY,eq_one_of_dvd->aYZ
open Option.some renaming injEq->bu,inj->iI
open Prod.mk renaming injEq->fi
set_option linter.unusedVariables false
set_option linter.unusedSimpArgs false
namespace Go.bX
open M
theorem S2:∀{b:List (Int×Int)} {P Q:List Int->Prop},(∀rs,P rs->Q rs)->kQ b P->kQ b Q
 |[],_,_,h,hp=>h _ hp
 |(l,u)::b,P,Q,h,hp=>λr h1 h2=>S2 (b:=b) (P:=λrs=>P (r::rs)) (Q:=λrs=>Q (r::rs)) (λrs=>h (r::rs)) (hp r h1 h2)
theorem tO:∀{b:List (Int×Int)} {P:List Int->Prop},(∀rs,ay b rs->P rs)->kQ b P
 |[],_,h=>h [] trivial
 |(l,u)::b,P,h=>λr h1 h2=>tO (b:=b) (P:=λrs=>P (r::rs)) λrs hi=>h (r::rs) ⟨h1,h2,hi⟩
theorem k8 {S:Nat->List Int->List Int->Prop} {L akB:V->Env->Prop} (h:∀v ρ,L v ρ->akB v ρ):∀(t:T) (G:fx) (ρ:Env),t.holds S L G ρ->t.holds S akB G ρ
 | .stuck,_,_,ah=>ah
 | .leaf v,_,ρ,ah=>h v ρ ah
 | .div n x d lo hi r,G,ρ,ah=>λq h1 h2 h3 h4=>k8 h r G _ (ah q h1 h2 h3 h4)
 | .mul n x y lo hi r,G,ρ,ah=>λq h1 h2 h3=>k8 h r G _ (ah q h1 h2 h3)
 | .bit n op k x y r,G,ρ,ah=>λq h1 h2 h3=>k8 h r G _ (ah q h1 h2 h3)
 | .shr n x y lo hi r,G,ρ,ah=>λq h1 h2 h3=>k8 h r G _ (ah q h1 h2 h3)
 | .Ci n cs bA lo hi r,G,ρ,ah=>λq h1 h2 h3=>k8 h r G _ (ah q h1 h2 h3)
 | .vj b t e,G,ρ,ah=>⟨λhb=>k8 h t G ρ (ah.1 hb),λhb=>k8 h e G ρ (ah.2 hb)⟩
 | .call id args n bds r,G,ρ,ah=>S2 (λrs hr hs=>k8 h r G _ (hr hs)) ah
 | .loop lT init n bds r,G,ρ,ah=>by
  obtain⟨c5,ey,h1,h2⟩:=ah;exact⟨c5,ey,h1,S2 (λzs hz ea=>k8 h r _ _ (hz ea)) h2⟩
 | .again lT vals,G,ρ,ah=>ah
 | .both x y,G,ρ,ah=>⟨k8 h x G ρ ah.1,k8 h y G ρ ah.2⟩
 | .fn n op args lo hi r,G,ρ,ah=>λq h1 h2 h3=>k8 h r G _ (ah q h1 h2 h3)
 | .sY op args r,G,ρ,ah=>⟨ah.1,k8 h r G ρ ah.2⟩
 | .vU n lo hi r,G,ρ,ah=>λz h1 h2=>k8 h r G _ (ah z h1 h2)
 | .nat n r,G,ρ,ah=>λz h1=>k8 h r G _ (ah z h1)
 | .wS op args r,G,ρ,ah=>λh1=>k8 h r G ρ (ah h1)
 | .ind n b r,G,ρ,ah=>λz h1 h2 h3=>k8 h r G _ (ah z h1 h2 h3)
def T.plain:T->Bool
 |stuck=>true
 |leaf _=>true
 |fn _ _ _ _ _ r|sY _ _ r|ind _ _ r|div _ _ _ _ _ r|mul _ _ _ _ _ r|bit _ _ _ _ _ r|shr _ _ _ _ _ r|Ci _ _ _ _ _ r|call _ _ _ _ r=>r.plain
 |vj _ t e=>t.plain&&e.plain
 |loop .. =>false
 |again .. =>false
 |both .. =>false
 |vU .. =>false
 |nat .. =>false
 |wS .. =>false
def Path (S:Nat->List Int->List Int->Prop):T->Env->V->Env->Prop
 | .stuck,_,_,_=>False
 | .leaf v,ρ,v',ae=>v'=v/\ae=ρ
 | .div n x d lo hi r,ρ,v,ae=>∃q,0<=x.den ρ-d*q/\x.den ρ-d*q<d/\Path S r (eg ρ n q) v ae
 | .mul n x y lo hi r,ρ,v,ae=>Path S r (eg ρ n (x.den ρ*y.den ρ)) v ae
 | .bit n op k x y r,ρ,v,ae=>Path S r (eg ρ n (br op k (x.den ρ) (y.den ρ))) v ae
 | .shr n x y lo hi r,ρ,v,ae=>Path S r (eg ρ n (x.den ρ/2^(y.den ρ).toNat)) v ae
 | .Ci n cs bA lo hi r,ρ,v,ae=>Path S r (eg ρ n ((cs.map (·.den ρ)).getD (bA.den ρ).toNat 0)) v ae
 | .vj b t e,ρ,v,ae=>(b.den ρ=true/\Path S t ρ v ae)∨(b.den ρ=false/\Path S e ρ v ae)
 | .call id args n bds r,ρ,v,ae=>∃rs,S id (args.map (·.den ρ)) rs/\Path S r (b0 ρ n rs) v ae
 | .loop ..,_,_,_=>False
 | .again ..,_,_,_=>False
 | .both ..,_,_,_=>False
 | .vU ..,_,_,_=>False
 | .nat ..,_,_,_=>False
 | .wS ..,_,_,_=>False
 | .ind n b r,ρ,v,ae=>Path S r (eg ρ n (cond (b.den ρ) 1 0)) v ae
 | .fn n op args lo hi r,ρ,v,ae=>Path S r (eg ρ n (cu op (args.map (·.den ρ)))) v ae
 | .sY op args r,ρ,v,ae=>Path S r ρ v ae
theorem yj {S:Nat->List Int->List Int->Prop} {L:V->Env->Prop}:∀(t:T) (G:fx) (ρ:Env),t.plain=true->t.holds S L G ρ->t.holds S (λv ae=>L v ae/\Path S t ρ v ae) G ρ
 | .stuck,_,_,_,ah=>ah
 | .leaf v,_,ρ,_,ah=>⟨ah,rfl,rfl⟩
 | .div n x d lo hi r,G,ρ,hp,ah=>λq h1 h2 h3 h4=>k8 (λv ae h=>⟨h.1,q,h3,h4,h.2⟩) r G _ (yj r G _ hp (ah q h1 h2 h3 h4))
 | .mul n x y lo hi r,G,ρ,hp,ah=>λq h1 h2 h3=>k8 (λv ae h=>⟨h.1,by subst h3;exact h.2⟩) r G _ (yj r G _ hp (ah q h1 h2 h3))
 | .bit n op k x y r,G,ρ,hp,ah=>λq h1 h2 h3=>k8 (λv ae h=>⟨h.1,by subst h3;exact h.2⟩) r G _ (yj r G _ hp (ah q h1 h2 h3))
 | .shr n x y lo hi r,G,ρ,hp,ah=>λq h1 h2 h3=>k8 (λv ae h=>⟨h.1,by subst h3;exact h.2⟩) r G _ (yj r G _ hp (ah q h1 h2 h3))
 | .Ci n cs bA lo hi r,G,ρ,hp,ah=>λq h1 h2 h3=>k8 (λv ae h=>⟨h.1,by subst h3;exact h.2⟩) r G _ (yj r G _ hp (ah q h1 h2 h3))
 | .vj b t e,G,ρ,hp,ah=>by
  simp only[T.plain,bI]at hp;exact⟨λhb=>k8 (λv ae h=>⟨h.1,.inl ⟨hb,h.2⟩⟩) t G ρ (yj t G ρ hp.1 (ah.1 hb)),λhb=>k8 (λv ae h=>⟨h.1,.inr ⟨hb,h.2⟩⟩) e G ρ (yj e G ρ hp.2 (ah.2 hb))⟩
 | .call id args n bds r,G,ρ,hp,ah=>S2 (λrs hr hs=>k8 (λv ae h=>⟨h.1,rs,hs,h.2⟩) r G _ (yj r G _ hp (hr hs))) ah
 | .loop ..,_,_,hp,_=>by simp[T.plain]at hp
 | .again ..,_,_,hp,_=>by simp[T.plain]at hp
 | .both ..,_,_,hp,_=>by simp[T.plain]at hp
 | .vU ..,_,_,hp,_=>by simp[T.plain]at hp
 | .nat ..,_,_,hp,_=>by simp[T.plain]at hp
 | .wS ..,_,_,hp,_=>by simp[T.plain]at hp
 | .ind n b r,G,ρ,hp,ah=>λq h1 h2 h3=>k8 (λv ae h=>⟨h.1,by
  have:q=cond (b.den ρ) 1 0:=by rw[h3];by_cases an:q=1<;>simp[an]<;>omega
  rw[this]at h;exact h.2⟩) r G _ (yj r G _ hp (ah q h1 h2 h3))
 | .fn n op args lo hi r,G,ρ,hp,ah=>λq h1 h2 h3=>k8 (λv ae h=>⟨h.1,by subst h3;exact h.2⟩) r G _ (yj r G _ hp (ah q h1 h2 h3))
 | .sY op args r,G,ρ,hp,ah=>⟨ah.1,k8 (λv ae h=>⟨h.1,h.2⟩) r G ρ (yj r G ρ hp ah.2)⟩
theorem Rs {x d q fG:Int} (h1:0<=x-d*q) (h2:x-d*q<d) (h3:0<=x-d*fG) (h4:x-d*fG<d):q=fG:=by
 have hd:0<d:=by omega
 have av:x/d=q:=by
  rw[Yh hd];constructor<;>rw[kL]<;>(try rw[MX])<;>omega
 have aH:x/d=fG:=by
  rw[Yh hd];constructor<;>rw[kL]<;>(try rw[MX])<;>omega
 omega
theorem yz {S:Nat->List Int->List Int->Prop} (h8:∀id a rs c0,S id a rs->S id a c0->rs=c0):∀(t:T) (ρ:Env) {v v':V} {a6 cd:Env},Path S t ρ v a6->Path S t ρ v' cd->v=v'/\a6=cd
 | .stuck,_,_,_,_,_,h,_=>h.elim
 | .leaf v,_,_,_,_,_,h,aP=>⟨h.1.trans aP.1.symm,h.2.trans aP.2.symm⟩
 | .div n x d lo hi r,ρ,_,_,_,_,⟨q,bR,a2,a3⟩,⟨fG,b4,cg,dh⟩=>by
  have:=Rs bR a2 b4 cg;subst this;exact yz h8 r _ a3 dh
 | .mul n x y lo hi r,ρ,_,_,_,_,h,aP=>yz h8 r _ h aP
 | .bit n op k x y r,ρ,_,_,_,_,h,aP=>yz h8 r _ h aP
 | .shr n x y lo hi r,ρ,_,_,_,_,h,aP=>yz h8 r _ h aP
 | .Ci n cs bA lo hi r,ρ,_,_,_,_,h,aP=>yz h8 r _ h aP
 | .vj b t e,ρ,_,_,_,_,h,aP=>by
  rcases h with⟨h1,h2⟩|⟨h1,h2⟩<;>rcases aP with⟨h3,h4⟩|⟨h3,h4⟩
  ·exact yz h8 t ρ h2 h4
  ·rw[h1]at h3;cases h3
  ·rw[h1]at h3;cases h3
  ·exact yz h8 e ρ h2 h4
 | .call id args n bds r,ρ,_,_,_,_,⟨rs,bR,a2⟩,⟨c0,b4,cg⟩=>by
  have:=h8 _ _ _ _ bR b4;subst this;exact yz h8 r _ a2 cg
 | .loop ..,_,_,_,_,_,h,_=>h.elim
 | .again ..,_,_,_,_,_,h,_=>h.elim
 | .both ..,_,_,_,_,_,h,_=>h.elim
 | .vU ..,_,_,_,_,_,h,_=>h.elim
 | .nat ..,_,_,_,_,_,h,_=>h.elim
 | .wS ..,_,_,_,_,_,h,_=>h.elim
 | .ind n b r,ρ,_,_,_,_,h,aP=>yz h8 r _ h aP
 | .fn n op args lo hi r,ρ,_,_,_,_,h,aP=>yz h8 r _ h aP
 | .sY op args r,ρ,_,_,_,_,h,aP=>yz h8 r _ h aP
inductive O where
 |l (x:I)
 |b (x:bO)
def O.den (ρ:Env):O->Int
 |l x=>x.den ρ
 |b x=>cond (x.den ρ) 1 0
def me (k:eB):List A->Option (List O)
 |[]=>some []
 | .int bJ x::r=>cond (decide (k=bJ)) (match me k r with|some l=>some (.l x.l::l)|none=>none) none
 |_::_=>none
def a8.out:a8->A->Option O
 | .int k _ _,.int bJ x=>cond (decide (k=bJ)) (some (.l x.l)) none
 | .str,.str l=>some (.l l)
 | .bool,.bool e=>some (.b e)
 |_,_=>none
def vI:List a8->List A->Option (List O)
 |[],[]=>some []
 |c::d,a::r=>match c.out a,vI d r with|some o,some l=>some (o::l)|_,_=>none
 |_,_=>none
def D4:D->W->Option (List O)
 | .int k _ _,.one (.int bJ x)=>cond (decide (k=bJ)) (some [.l x.l]) none
 | .bool,.one (.bool x)=>some [.b x]
 | .agg k n _ _,.agg l=>cond (aU l.length n) (me k l) none
 | .str,.one (.str l)=>some [.l l]
 | .mix d,.agg l=>vI d l
 |_,_=>none
def F6:List D->List W->Option (List O)
 |[],[]=>some []
 |d::r,w::s=>match D4 d w,F6 r s with|some a,some b=>some (a++b)|_,_=>none
 |_,_=>none
def outs (ds:List D):V->Option (List O)
 | .w u=>match ds with|[d]=>D4 d u|_=>none
 | .jQ l=>match ds with|[_]=>none|_=>F6 ds l
 |_=>none
def kz (ds:List D) (K:List Int->Prop) (v:V) (ρ:Env):Prop:=
 match outs ds v with
 |some os=>K (os.map (O.den ρ))
 |none=>False
theorem asK {ρ:Env} {m:Nat->Nat} {k:eB}:∀{l:List A} {os:List O},me k l=some os->os.length=l.length/\l.map (A.den ρ m)=(os.map (O.den ρ)).map (.int k)
 |[],os,h=>by simp[me]at h;subst h;exact⟨rfl,rfl⟩
 | .int bJ x::r,os,h=>by
  simp only[me]at h;by_cases ag:k=bJ
  ·simp only[ag,decide_true,cond_true]at h;cases hr:me bJ r with
   |none=>simp[hr]at h
   |some o=>
    simp only[hr,bu]at h;subst h;subst ag;obtain⟨h1,h2⟩:=asK (ρ:=ρ) (m:=m) hr;exact⟨by simp[h1],by simp only[df,h2,A.den,O.den]⟩
  ·simp[ag]at h
 | .bool _::_,_,h=>by simp[me]at h
 | .ptr .. ::_,_,h=>by simp[me]at h
 | .q5 .. ::_,_,h=>by simp[me]at h
 | .gptr .. ::_,_,h=>by simp[me]at h
 | .slc .. ::_,_,h=>by simp[me]at h
 | .con _::_,_,h=>by simp[me]at h
 | .str _::_,_,h=>by simp[me]at h
theorem a8.aLM {ρ:Env} {m:Nat->Nat} {c:a8} {a:A} {o:O} (h:c.out a=some o):a.den ρ m=c.val (o.den ρ):=by
 unfold a8.out at h;split at h
 ·rename_i k lo hi bJ x;by_cases ag:k=bJ
  ·subst ag;simp only[decide_true,cond_true,bu]at h;subst h;rfl
  ·simp[ag]at h
 ·simp only[bu]at h;subst h;rfl
 ·rename_i e;simp only[bu]at h;subst h;have hb:∀b:Bool,aWl b=aWl (decide ((cond b 1 0:Int)=1)):=by intro b;cases b<;>rfl
  exact hb (e.den ρ)
 ·cases h
theorem asN {ρ:Env} {m:Nat->Nat}:∀{d:List a8} {l:List A} {os:List O},vI d l=some os->os.length=d.length/\l.map (A.den ρ m)=tG a8.val d (os.map (O.den ρ))
 |[],[],os,h=>by simp[vI]at h;subst h;exact⟨rfl,rfl⟩
 |c::d,a::r,os,h=>by
  simp only[vI]at h;cases h1:c.out a with
  |none=>simp[h1]at h
  |some o=>
   cases hr:vI d r with
   |none=>simp[h1,hr]at h
   |some l=>
    simp only[h1,hr,bu]at h;subst h;obtain⟨bw,bz⟩:=asN (ρ:=ρ) (m:=m) hr;exact⟨by simp[bw],by simp only[df,bz,a8.aLM h1,Sm]⟩
 |[],_::_,_,h=>by simp[vI]at h
 |_::_,[],_,h=>by simp[vI]at h
theorem agC {ρ:Env} {m:Nat->Nat} {d:D} {u:W} {os:List O} (h:D4 d u=some os):os.length=d.num/\∀zs,d.val (os.map (O.den ρ)++zs)=u.den ρ m:=by
 unfold D4 at h;split at h
 ·rename_i k _ _ bJ x;by_cases ag:k=bJ
  ·subst ag;simp only[decide_true,cond_true,bu]at h;subst h;exact⟨rfl,λzs=>by simp[D.val,W.den,A.den,O.den]⟩
  ·simp[ag]at h
 ·rename_i x;simp only[bu]at h;subst h;exact⟨rfl,λzs=>by cases hx:x.den ρ<;>simp[D.val,W.den,A.den,O.den,hx]⟩
 ·rename_i k n' _ _ l;cases hc:aU l.length n' with
  |false=>simp[hc]at h
  |true=>
   simp only[hc,cond_true]at h;have hl:=b8 hc;subst hl;obtain⟨h1,h2⟩:=asK (ρ:=ρ) (m:=m) h;exact⟨h1,λzs=>by simp only[D.val,W.den,h2];rw[List.take_append_of_le_length (by simp[h1]),mu (by simp[h1])]⟩
 ·simp only[bu]at h;subst h;exact⟨rfl,λzs=>rfl⟩
 ·rename_i d l;obtain⟨h1,h2⟩:=asN (ρ:=ρ) (m:=m) h;refine⟨h1,λzs=>?_⟩;simp only[D.val,W.den,h2]
  congr 2
  have key:∀(a:List a8) (b c:List Int),b.length=a.length->tG a8.val a (b++c)=tG a8.val a b:=by
   intro a;induction a with
   |nil=>intro b c _;simp
   |cons p a ih=>
    intro b c hb;cases b with
    |nil=>simp at hb
    |cons z b=>simp[ih b c (by simpa using hb)]
  exact key _ _ _ (by simp[h1])
 ·cases h
theorem asL {ρ:Env} {m:Nat->Nat}:∀{ds:List D} {l:List W} {os:List O},F6 ds l=some os->pV ds (os.map (O.den ρ))=l.map (W.den ρ m)
 |[],[],os,h=>by simp[F6]at h;subst h;rfl
 |d::ds,u::l,os,h=>by
  simp only[F6]at h;cases h1:D4 d u with
  |none=>simp[h1]at h
  |some a=>
   cases h2:F6 ds l with
   |none=>simp[h1,h2]at h
   |some b=>
    simp only[h1,h2,bu]at h;subst h;obtain⟨bw,bz⟩:=agC (ρ:=ρ) (m:=m) h1;rw[hQ];simp only[pV,bz,df];rw[show d.num=(a.map (O.den ρ)).length by simp[bw],GX,asL h2]
 |[],_::_,_,h=>by simp[F6]at h
 |_::_,[],_,h=>by simp[F6]at h
theorem aVv (ds:List D):∀zs,(pV ds zs).length=ds.length:=by
 induction ds with
 |nil=>intro zs;rfl
 |cons d r ih=>intro zs;simp[pV,ih]
theorem A1 {ds:List D} {K:List Int->Prop} {v:V} {ρ:Env} {m:Nat->Nat} {val:bf} (h:kz ds K v ρ) (hr:v.rel ρ m val):∃rs,K rs/\val=mJ ds rs:=by
 unfold kz at h;cases aA:outs ds v with
 |none=>simp[aA]at h
 |some os=>
  simp only[aA]at h;refine⟨_,h,?_⟩;unfold outs at aA;cases v with
  |any=>cases aA
  |sK _ _ _=>cases aA
  |sZ _ _=>cases aA
  |w u=>
   simp only at aA;split at aA
   ·rename_i d;obtain⟨bw,bz⟩:=agC (ρ:=ρ) (m:=m) aA;simp only[V.rel]at hr;have:=bz [];rw[gO]at this;simp[mJ,pV,this,hr]
   ·cases aA
  |jQ l=>
   simp only at aA;split at aA
   ·cases aA
   ·rename_i dE;have:=asL (ρ:=ρ) (m:=m) aA;simp only[V.rel]at hr;unfold mJ;split
    ·rename_i x heq;exfalso;have hl:=aVv ds (os.map (O.den ρ));rw[heq]at hl
     match ds,hl with
     |[d],_=>exact dE d rfl
    ·rw[hr,this]
noncomputable def abv (cons:List bq) (B1 Be Cm:dv):gb:=λf=>
 cond (aU f B1) (some af2) <| cond (aU f Be) (some aaJ) <| cond (aU f Cm) (some ah1) <|
 match cons.find? (λc=>aU f c.f)with
 |some c=>some c.M
 |none=>none
section
variable {S:Nat->List Int->List Int->Prop} {P:cc} {gl:fK} {wb:aC}
theorem az9 {w0:fg} {cons:List bq} {B1 Be Cm:dv} (hm:J0 P B1) (ha:JW P Be) (hs:J4 P Cm) (hc:∀c∈cons,c.A3 P w0.b (S c.id)):im S P gl w0 (abv cons B1 Be Cm):=by
 intro f g k7 L n ρ m bl vs xs h1 h2 h3 h4;unfold abv at k7;cases av:aU f B1 with
 |true=>
  have:=b8 av;subst this;simp only[av,cond_true,bu]at k7;subst k7;exact aIH hm h3 h4
 |false=>
  cases aH:aU f Be with
  |true=>
   have:=b8 aH;subst this;simp only[av,aH,cond_true,cond_false,bu]at k7;subst k7;exact ayx ha h3 h4
  |false=>
   cases ca:aU f Cm with
   |true=>
    have:=b8 ca;subst this;simp only[av,aH,ca,cond_true,cond_false,bu]at k7;subst k7;exact aRv hs h3 h4
   |false=>
    simp only[av,aH,ca,cond_false]at k7;cases ht:cons.find? (λc=>aU f c.f)with
    |none=>simp[ht]at k7
    |some c=>
     simp only[ht,bu]at k7;subst k7;have h5:=List.find?_some ht;have:=b8 h5;subst this;exact bq.snd (hc c (JN ht)) (λ_ _ h=>h) L n ρ m bl vs xs h3 h4
noncomputable def To (cons:List bq):gb:=λf=>
 match cons.filter (λc=>aU f c.f)with
 |[]=>none
 |l=>some λbl vs n k=>match l.find? (λc=>(tV c.args vs).isSome)with
  |some c=>c.M bl vs n k
  |none=>match l with
   |c::_=>c.M bl vs n k
   |[]=> .stuck
theorem amS {w0:fg} {cons:List bq} (hc:∀c∈cons,c.A3 P w0.b (S c.id)):im S P gl w0 (To cons):=by
 intro f g k7 L n ρ m bl vs xs h1 h2 h3 h4;unfold To at k7;split at k7
 ·cases k7
 ·rename_i l hl;simp only[bu]at k7;subst k7;intro G k ag;simp only at ag;split at ag
  ·rename_i c OR;have fj:=List.mem_filter.1 (JN OR);have H6:=b8 fj.2;subst H6;exact bq.snd (hc c fj.1) (λ_ _ h=>h) L n ρ m bl vs xs h3 h4 G k ag
  ·split at ag
   ·rename_i c r Dr;have fj:=List.mem_filter.1 (show c∈cons.filter (λc=>aU f c.f) from by rw[Dr];exact Yg (a:=c) (l:=r));have H6:=b8 fj.2;subst H6;exact bq.snd (hc c fj.1) (λ_ _ h=>h) L n ρ m bl vs xs h3 h4 G k ag
   ·exact ag.elim
theorem Calls.some {f:dv} {args:Array bf} {w:aC} {R:Ending->aC->Prop} (h:oo P f args w R):∃e w',R e w':=by
 obtain⟨e,w',Fl,h1,_⟩:=h [];exact⟨e,w',h1⟩
noncomputable def bq.tree (P:cc) (gl:fK) (cal:gb) (li:dv->Nat->Option fB) (rounds d:Nat) (c:bq):T:=NW P gl cal li rounds d c.f (aX c.args).length ((vR 0 c.args).map V.w) [] λ_ v _=> .leaf v
theorem aab {ρ:Env} {m:Nat->Nat}:∀(l:List W),fN ρ m (l.map V.w) (l.map (W.den ρ m))
 |[]=>trivial
 |_::r=>⟨rfl,aab r⟩
theorem bq.calls {c:bq} {cal:gb} {li:dv->Nat->Option fB} {rounds d:Nat} {L:V->Env->Prop} (hm:P.follows .mixedOrders=true) (di:∀r ex ro,im S P gl ⟨wb,r,ex,ro,[]⟩ cal) (hg:fJ gl ⟨wb,wb,λ_=>False,λ_=>False,[]⟩) {zs:List Int} (hz:ay (aX c.args) zs)
 (aB:(c.tree P gl cal li rounds d).holds S L (λ_ _=>False) (b0 (λ_=>0) 0 zs)) (w:aC) (hw:wb.Extends w):
 oo P c.f (pV c.args zs).toArray w λe w'=>∃v ae m val,e= .returned val/\v.rel ae m val/\L v ae/\w.Extends w':=by
 have hs:=Xg (m:=λ_=>0) (nb:=0) (N:=(aX c.args).length) c.args hz (kM.b0 (λ_=>0) 0 zs) (by omega);have:=aAb (L:=L) (b:=wb) (w:=w) hm (di w _ _) hg c.f _ _ _ ((vR 0 c.args).map (W.den (b0 (λ_=>0) 0 zs) λ_=>0)) hw (λv hv=>by
  obtain⟨u,hu,rfl⟩:=List.mem_map.1 hv;exact hs.1 u hu) (aab _) aB
 rw[hs.2]at this;refine this.mono λe w' ⟨v,ae,m,val,nb,h1,h2,_,h3,h4⟩=>⟨v,ae,m,val,h1,h2,h3,h4⟩
theorem bq.aJd {c:bq} {cal:gb} {li:dv->Nat->Option fB} {rounds d:Nat} {spec:List Int->List Int->Prop} (hm:P.follows .mixedOrders=true) (di:∀r ex ro,im S P gl ⟨wb,r,ex,ro,[]⟩ cal) (hg:fJ gl ⟨wb,wb,λ_=>False,λ_=>False,[]⟩)
 (hf:∀args w,(callFunc c.f args).run P w= .ok (.enter c.f args) w) (h8:∀id a rs c0,S id a rs->S id a c0->rs=c0) (hp:(c.tree P gl cal li rounds d).plain=true)
 (aB:∀zs,ay (aX c.args) zs->(c.tree P gl cal li rounds d).holds S (kz c.res λrs=>ay (aX c.res) rs/\spec zs rs) (λ_ _=>False) (b0 (λ_=>0) 0 zs)):c.bH P wb spec:=by
 refine⟨hf,λzs hz=>?_⟩;have o3:=yj _ _ _ hp (aB zs hz);have h0:=bq.calls hm di hg hz o3 wb (sd wb);obtain⟨e,w',v0,cM,m0,aYM,h1,h2,⟨h3,Ft⟩,h4⟩:=Calls.some h0;obtain⟨rs,⟨hb,hs⟩,hv⟩:=A1 h3 h2;refine⟨rs,hb,hs,λw hw=>?_⟩;refine(bq.calls hm di hg hz o3 w hw).mono λe w' ⟨v,ae,m,val,g1,g2,⟨g3,aCj⟩,g4⟩=>?_;obtain⟨av,aH⟩:=yz h8 _ _ aCj Ft;subst av;subst aH;unfold kz at g3 h3;have:val=mJ c.res rs:=by
  cases aA:outs c.res v with
  |none=>simp[aA]at h3
  |some os=>
   have key:∀{m val},v.rel ae m val->val=mJ c.res (os.map (O.den ae)):=λ{m val} hr=>by
    have qc:kz c.res (λrs=>rs=os.map (O.den ae)) v ae:=by unfold kz;simp[aA]
    obtain⟨c0,aFx,hv⟩:=A1 qc hr;rw[hv,aFx]
   rw[key g2,<-key h2,hv]
 exact⟨by rw[g1,this],g4⟩
theorem bq.bH.fn {c:bq} {spec:List Int->List Int->Prop} (h:c.bH P wb spec):∃F:List Int->List Int,c.bH P wb λzs rs=>rs=F zs/\spec zs rs:=by
 have h2:∀zs,∃rs,ay (aX c.args) zs->ay (aX c.res) rs/\spec zs rs/\∀w,wb.Extends w->oo P c.f (pV c.args zs).toArray w λe w'=>e= .returned (mJ c.res rs)/\w.Extends w':=λzs=>by
  by_cases hz:ay (aX c.args) zs
  ·obtain⟨rs,h3⟩:=h.2 zs hz;exact⟨rs,λ_=>h3⟩
  ·exact⟨[],λaGb=>absurd aGb hz⟩
 obtain⟨F,hF⟩:=aZd h2;exact⟨F,h.1,λzs hz=>⟨F zs,(hF zs hz).1,⟨rfl,(hF zs hz).2.1⟩,(hF zs hz).2.2⟩⟩
end
end Go.bX
namespace Go.bX
open M
structure lB where
 f:dv
 id:Nat
 k:eB
 N:Nat
 lo:Int
 hi:Int
 ty:bE
 off:Nat
 len:Nat
 cap:Nat
 args:List D
 res:List D
noncomputable def lB.bds (c:lB):List (Int×Int):=aT c.lo c.hi c.N++aX c.args
def lB.bH (P:cc) (wb:aC) (c:lB) (spec:List Int->List Int->Prop):Prop:=(∀args w,(callFunc c.f args).run P w= .ok (.enter c.f args) w)/\∀zs,ay c.bds zs->∃rs,ay (aX c.res) rs/\spec zs rs/\∀(w:aC) (g:Nat),wb.Extends w->wb.heap.size<=g->w.heap[g]?=some (.cells ((zs.take c.N).map (.int c.k)).toArray c.ty (0,0))->oo P c.f (.slice (some ⟨g,c.off,none⟩) c.len c.cap::pV c.args (zs.drop c.N)).toArray w λe w'=>e= .returned (mJ c.res rs)/\w.Extends w'
noncomputable def lB.M (c:lB):List aM->List V->M V:=λbl vs n k=>
 match vs with
 | .w (.one (.slc b off len cap))::rest=>match bl[b]? with
  |some (cs,t)=>cond (aU off c.off&&aU len c.len&&aU cap c.cap&&aU t.1 c.ty&& !t.2&&aU cs.length c.N&&cy cs) (match oW c.k c.lo c.hi cs,tV c.args rest with
   |some l1,some l2=> .call c.id (l1++l2) n (aX c.res) (k (Jq c.res n) (n+(aX c.res).length))
   |_,_=> .stuck) .stuck
  |none=> .stuck
 |_=> .stuck
section
variable {S:Nat->List Int->List Int->Prop} {P:cc} {gl:fK} {w0:fg}
theorem lB.snd {c:lB} {spec:List Int->List Int->Prop} (hc:c.bH P w0.b spec) (h8:∀zs rs,spec zs rs->S c.id zs rs) (L:V->Env->Prop) (n:Nat) (ρ:Env) (m:Nat->Nat) (bl:List aM) (vs:List V) (xs:List bf)
 (hb:dr n bl.length ρ bl) (lH:∀v∈vs,V.ok n bl.length ρ v) (hr:fN ρ m vs xs):aE S L (c.M bl vs) n ρ λae n' v=>v.ok n' bl.length ae/\∃val,v.rel ae m val/\∀w,Mem w0 ρ m bl w->x0 P c.f xs.toArray w val:=by
 intro G k ag;unfold lB.M at ag;split at ag
 ·rename_i b off len cap rest;cases bd:bl[b]? with
  |none=>simp[bd,T.holds]at ag
  |some q=>
   obtain⟨cs,t⟩:=q;simp only[bd]at ag;cases an:(aU off c.off&&aU len c.len&&aU cap c.cap&&aU t.1 c.ty&& !t.2&&aU cs.length c.N&&cy cs)with
   |false=>rw[an]at ag;exact ag.elim
   |true=>
    simp only[an,cond_true]at ag;simp only[bI]at an;obtain⟨⟨⟨⟨⟨⟨aQ,bn⟩,cj⟩,dU⟩,lK⟩,jv⟩,nz⟩:=an;have aQ:=b8 aQ;have bn:=b8 bn;have cj:=b8 cj;have dU:=b8 dU;have jv:=b8 jv
    cases h1:oW c.k c.lo c.hi cs with
    |none=>simp[h1,T.holds]at ag
    |some l1=>
     cases h2:tV c.args rest with
     |none=>simp[h1,h2,T.holds]at ag
     |some l2=>
      simp only[h1,h2]at ag;have dS:∀a∈cs,A.ok n bl.length ρ a:=hb (cs,t) (fw bd);obtain⟨bR,a2,a3⟩:=T4 (m:=m) h1 dS;cases xs with
      |nil=>exact hr.elim
      |cons x xs=>
       obtain⟨hx,hr⟩:=hr;obtain⟨b4,cg⟩:=T7 h2 (λv hv=>lH v (e5 _ hv)) hr;have fj:ay c.bds ((l1++l2).map (·.den ρ)):=by
        rw[hQ];unfold lB.bds;rw[<-jv];exact oC a2 b4
       obtain⟨rs,r1,r2,gS⟩:=hc.2 _ fj;have ah:=Tp ag r1 (h8 _ _ r2);have pG:=WO (m:=m) (nb:=bl.length) (N:=n+(aX c.res).length) r1 (kM.b0 ρ n rs) (b1 _);refine⟨_,_,_,MZ _ _,agree.b0 rs n ρ,⟨pG.1,_,pG.2,λw hw=> .inr ⟨hc.1 _ _,?_⟩⟩,ah⟩;obtain⟨g1,g2,r0,jY,g3⟩:=hw.gP b cs t bd nz;have hlen:((l1.map (·.den ρ)).length)=c.N:=by simp[bR,jv]
       have av:((l1++l2).map (·.den ρ)).take c.N=l1.map (·.den ρ):=by rw[hQ,<-hlen,List.take_left]
       have aH:((l1++l2).map (·.den ρ)).drop c.N=l2.map (·.den ρ):=by rw[hQ,<-hlen,GX]
       have:=gS w (m b) hw.ext g1 (by rw[av,<-a3,<-dU];rw[jY (by simpa using lK),gO]at g3;exact g3);rw[aH,cg,<-aQ,<-bn,<-cj]at this;simp only[V.rel,W.den,A.den]at hx;rw[hx];exact this
 ·exact ag.elim
theorem as6 (k:eB) (lo hi:Int) (i N:Nat):cy (xx k lo hi i N)=true:=by cases N<;>rfl
noncomputable def lB.tree (P:cc) (gl:fK) (cal:gb) (li:dv->Nat->Option fB) (rounds d:Nat) (c:lB):T:=
 NW P gl cal li rounds d c.f (c.bds.length) (.w (.one (.slc 0 c.off c.len c.cap))::(vR c.N c.args).map V.w) [(xx c.k c.lo c.hi 0 c.N,(c.ty,false))] λ_ v bF=>match bF with
  |(cs,t)::_=>cond (rr (xx c.k c.lo c.hi 0 c.N) cs&&aU c.ty t.1&& !t.2) (.leaf v) .stuck
  |[]=> .stuck
theorem lB.calls {wb:aC} {c:lB} {cal:gb} {li:dv->Nat->Option fB} {rounds d:Nat} {L:V->Env->Prop} (hm:P.follows .mixedOrders=true) (di:∀r ex ro,im S P gl ⟨wb,r,ex,ro,[]⟩ cal) (hg:fJ gl ⟨wb,wb,λ_=>False,λ_=>False,[]⟩) {zs:List Int} (hz:ay c.bds zs)
 (aB:(c.tree P gl cal li rounds d).holds S L (λ_ _=>False) (b0 (λ_=>0) 0 zs)) (w:aC) (g:Nat) (hw:wb.Extends w) (adJ:wb.heap.size<=g) (hcell:w.heap[g]?=some (.cells ((zs.take c.N).map (.int c.k)).toArray c.ty (0,0))):
 oo P c.f (.slice (some ⟨g,c.off,none⟩) c.len c.cap::pV c.args (zs.drop c.N)).toArray w λe w'=>∃v ae m val,e= .returned val/\v.rel ae m val/\L v ae/\w.Extends w':=by
 have hat:=kM.b0 (λ_=>0) 0 zs;have xe:=BQ hz;rw[Jn]at xe;have cF:c.bds.length=c.N+(aX c.args).length:=by simp[lB.bds,Jn]
 have h1:=ahb (ρ:=b0 (λ_=>0) 0 zs) (m:=λ_=>g) (N:=c.bds.length) (nb:=1) (k:=c.k) c.N 0 zs xe.1 hat (by omega);have h2:=Xg (ρ:=b0 (λ_=>0) 0 zs) (m:=λ_=>g) (N:=c.bds.length) (nb:=1) (s:=c.N) c.args xe.2 (by have:=hat.drop c.N;simpa using this) (by omega);have nk:Mem ⟨wb,w,λi=>i=g,λ_=>False,[]⟩ (b0 (λ_=>0) 0 zs) (λ_=>g) [(xx c.k c.lo c.hi 0 c.N,(c.ty,false))] w:=by
  refine⟨hw,rfl,rfl,rfl,b1 _,λ_ _ _=>rfl,λi cs t h _=>?_,λi sh off code cap kind t h=>?_,λi j p q hi aR _=> .inl (by have h1:=(List.getElem?_eq_some_iff.1 hi).1;have h2:=(List.getElem?_eq_some_iff.1 aR).1;simp at h1 h2;omega)⟩
  rotate_left
  ·cases i with
   |zero=>
    simp only[xU,bu,fi]at h;have:=as6 c.k c.lo c.hi 0 c.N;rw[h.1]at this;cases this
   |succ i=>simp at h
  cases i with
  |zero=>simp at h;obtain⟨rfl,rfl⟩:=h;exact⟨adJ,.inl rfl,[],λ_=>rfl,by rw[h1.2,gO];exact hcell⟩
  |succ i=>simp at h
 have oZ:dr c.bds.length 1 (b0 (λ_=>0) 0 zs) [(xx c.k c.lo c.hi 0 c.N,(c.ty,false))]:=λp hp=>by simp at hp;subst hp;exact h1.1
 have hrel:fN (b0 (λ_=>0) 0 zs) (λ_=>g) (V.w (.one (.slc 0 c.off c.len c.cap))::(vR c.N c.args).map V.w) (So (some ⟨g,c.off,none⟩) c.len c.cap::(vR c.N c.args).map (W.den (b0 (λ_=>0) 0 zs) λ_=>g)):=⟨rfl,aab _⟩;have lH:∀v∈(V.w (.one (.slc 0 c.off c.len c.cap))::(vR c.N c.args).map V.w),V.ok c.bds.length 1 (b0 (λ_=>0) 0 zs) v:=λv hv=>by
  rcases List.mem_cons.1 hv with rfl|hv
  ·simp[V.ok,W.ok,A.ok]
  ·obtain⟨u,hu,rfl⟩:=List.mem_map.1 hv;exact h2.1 u hu
 have key:=(abw rfl (L:=L) (li:=li) (rounds:=rounds) hm (di w (λi=>i=g) (λ_=>False)) hg d c.f c.bds.length _ [(xx c.k c.lo c.hi 0 c.N,(c.ty,false))] _ (λ_ _=>False) _ (λ_=>g) w _ (λe w'=>∃v ae m val,e= .returned val/\V.rel ae m v val/\L v ae/\w.Extends w') oZ nk lH hrel aB ?_).2
 ·rw[h2.2]at key;exact key
 ·intro n' v bF fm ae m' w' val bw bz cY fa fv hB lJ
  match bF,lJ,hB,bw with
  |[],lJ,_,_=>exact lJ.elim
  |(cs,t)::r,lJ,hB,bw=>
   simp only at lJ;cases hc:(rr (xx c.k c.lo c.hi 0 c.N) cs&&aU c.ty t.1&& !t.2)with
   |false=>simp[hc,T.holds]at lJ
   |true=>
    simp only[hc,cond_true,T.holds]at lJ;simp only[bI]at hc;have av:=Hw hc.1.1;have aH:t=(c.ty,false):=Prod.ext (b8 hc.1.2).symm (by simpa using hc.2);subst av;subst aH;refine⟨v,ae,m',val,rfl,fa,lJ,?_⟩;have aE7:m' 0=g:=bw.hm 0 (by simp);have tY:∀i:Nat,i<w.heap.size->w'.heap[i]?=w.heap[i]?:=λi hi=>by
     by_cases Lc:i=g
     ·subst Lc;obtain⟨_,_,gS,aFt,h3⟩:=hB.gP 0 _ _ rfl (as6 _ _ _ _ _);rw[aE7,aFt rfl,gO]at h3;rw[h3,hcell,<-h1.2,yx h1.1 bw.ha (λb hb=>bw.hm b (by simpa using hb))]
     ·exact hB.kp i hi Lc
    exact⟨hB.kE,hB.mE,hB.lq,hB.ia,λa ha=>by simp only[oq,tY a.block ha],λa ha=>by simp only[EH,tY a.block ha],tY⟩
noncomputable def b3 (W2:List lB) (cons:List bq) (B1 Be Cm:dv):gb:=λf=>
 match W2.filter (λc=>aU f c.f)with
 |[]=>abv cons B1 Be Cm f
 |l=>some λbl vs n k=>match l.find? (λc=>match vs with| .w (.one (.slc b off len cap))::_=>(match bl[b]? with|some (cs,t)=>aU off c.off&&aU len c.len&&aU cap c.cap&&aU t.1 c.ty&& !t.2&&aU cs.length c.N|none=>false)|_=>false)with
  |some c=>c.M bl vs n k
  |none=> .stuck
theorem oV {W2:List lB} {cons:List bq} {B1 Be Cm:dv} (hm:J0 P B1) (ha:JW P Be) (hs:J4 P Cm) (aef:∀c∈W2,c.bH P w0.b (S c.id)) (hc:∀c∈cons,c.A3 P w0.b (S c.id)):im S P gl w0 (b3 W2 cons B1 Be Cm):=by
 intro f g k7 L n ρ m bl vs xs h1 h2 h3 h4;unfold b3 at k7;split at k7
 ·exact az9 (gl:=gl) hm ha hs hc f g k7 L n ρ m bl vs xs h1 h2 h3 h4
 ·rename_i l hl;simp only[bu]at k7;subst k7;intro G k ag;simp only at ag;split at ag
  ·rename_i c OR;have nk:=JN OR;have fj:=List.mem_filter.1 nk;have H6:=b8 fj.2;subst H6;exact lB.snd (aef c fj.1) (λ_ _ h=>h) L n ρ m bl vs xs h1 h3 h4 G k ag
  ·exact ag.elim
end
end Go.bX
namespace Go.bX
theorem alg {P:cc} {f:dv} {fn:Func} (hf:P.funcs[f]?=some fn) (ad1:(fn.name== "runtime.NumGoroutine")=false) (hb:fn.body.isNone=true) (hn:ai5 fn=none) (he:ai6 fn=some add64Entry):JW P f:=by
 intro x y c hx hy hc iD w;refine .inl ?_;rw[run_callFunc_extern hf ad1 hb hn he,run_add64 x y c hx hy hc iD];rfl
def aug:Array bf->Sem bf:=λargs=>do
 let(x,y,b)<-aZe "Sub64" args
 pure (aZf ((x+aWn-y-b)% aWn) (if x<y+b then 1 else 0))
theorem aQn {P:cc} (x y b:Nat) (hb:b<=1) (w:aC):
 (aug #[.int .u64 x,.int .u64 y,.int .u64 b]).run P w=
   .ok (.tuple #[.int .u64 (((x+0x10000000000000000-y-b)% 0x10000000000000000:Nat):Int),.int .u64 ((if x<y+b then 1 else 0:Nat):Int)]) w:=by
 have:b=0∨b=1:=by omega
 rcases this with rfl|rfl<;>rfl
theorem auh {P:cc} {f:dv} {fn:Func} (hf:P.funcs[f]?=some fn) (ad1:(fn.name== "runtime.NumGoroutine")=false) (hb:fn.body.isNone=true) (hn:ai5 fn=none) (he:ai6 fn=some aug):J4 P f:=by
 intro x y c hx s9 hy aet hc iD w;refine .inl ?_;obtain⟨X,rfl⟩:=mr hx;obtain⟨Y,rfl⟩:=mr hy;obtain⟨C,rfl⟩:=mr hc;rw[run_callFunc_extern hf ad1 hb hn he,aQn X Y C (by omega)];have av:(((X+0x10000000000000000-Y-C)% 0x10000000000000000:Nat):Int)=((X:Int)-Y-C)% 0x10000000000000000:=by omega
 have aH:(((if X<Y+C then 1 else 0:Nat)):Int)=-(((X:Int)-Y-C)/0x10000000000000000):=by split<;>omega
 rw[av,aH];rfl
def BG (P:cc) (f:dv):Bool:=match P.funcs[f]? with
 |some fn=> !(fn.name== "runtime.NumGoroutine")&&fn.body.isSome
 |none=>false
theorem enters {P:cc} {f:dv} (h:BG P f=true) (args:Array bf) (w:aC):(callFunc f args).run P w= .ok (.enter f args) w:=by
 unfold BG at h;cases hf:P.funcs[f]? with
 |none=>simp[hf]at h
 |some fn=>
  simp only[hf,bI,c6]at h;have h1:fn.name≠ "runtime.NumGoroutine" :=by simpa using h.1
  obtain⟨c,hc⟩:=Option.isSome_iff_exists.1 h.2;simp[callFunc,hf,h1,hc,Sem.run]
section
variable {S:Nat->List Int->List Int->Prop} {P:cc} {gl:fK} {wb:aC}
theorem bq.pL {c:bq} {cal:gb} {li:dv->Nat->Option fB} {rounds d:Nat} {spec:List Int->List Int->Prop} (hm:P.follows .mixedOrders=true) (di:∀r ex ro,im S P gl ⟨wb,r,ex,ro,[]⟩ cal) (hg:fJ gl ⟨wb,wb,λ_=>False,λ_=>False,[]⟩)
 (hf:∀args w,(callFunc c.f args).run P w= .ok (.enter c.f args) w) (hu:∀zs rs c0,ay (aX c.args) zs->ay (aX c.res) rs->ay (aX c.res) c0->spec zs rs->spec zs c0->rs=c0)
 (aB:kQ (aX c.args) λzs=>(c.tree P gl cal li rounds d).holds S (kz c.res λrs=>ay (aX c.res) rs/\spec zs rs) (λ_ _=>False) (b0 (λ_=>0) 0 zs)):c.bH P wb spec:=by
 refine⟨hf,λzs hz=>?_⟩;have h0:=bq.calls hm di hg hz (m6 aB hz) wb (sd wb);obtain⟨e,w',v,ae,m,val,h1,h2,h3,h4⟩:=Calls.some h0;obtain⟨rs,⟨hb,hs⟩,hv⟩:=A1 h3 h2;refine⟨rs,hb,hs,λw hw=>?_⟩;refine(bq.calls hm di hg hz (m6 aB hz) w hw).mono λe w' ⟨v,ae,m,val,h1,h2,h3,h4⟩=>?_;obtain⟨c0,⟨nT,Ir⟩,xh⟩:=A1 h3 h2;rw[hu zs c0 rs hz nT hb Ir hs]at xh;exact⟨by rw[h1,xh],h4⟩
theorem lB.pL {c:lB} {cal:gb} {li:dv->Nat->Option fB} {rounds d:Nat} {spec:List Int->List Int->Prop} (hm:P.follows .mixedOrders=true) (di:∀r ex ro,im S P gl ⟨wb,r,ex,ro,[]⟩ cal) (hg:fJ gl ⟨wb,wb,λ_=>False,λ_=>False,[]⟩)
 (hf:∀args w,(callFunc c.f args).run P w= .ok (.enter c.f args) w) (hu:∀zs rs c0,ay c.bds zs->ay (aX c.res) rs->ay (aX c.res) c0->spec zs rs->spec zs c0->rs=c0) (hex:∀zs,ay c.bds zs->∃rs,ay (aX c.res) rs/\spec zs rs)
 (aB:kQ c.bds λzs=>(c.tree P gl cal li rounds d).holds S (kz c.res λrs=>ay (aX c.res) rs/\spec zs rs) (λ_ _=>False) (b0 (λ_=>0) 0 zs)):c.bH P wb spec:=by
 refine⟨hf,λzs hz=>?_⟩;obtain⟨rs,hb,hs⟩:=hex zs hz;refine⟨rs,hb,hs,λw g hw adJ hcell=>?_⟩;refine(lB.calls hm di hg hz (m6 aB hz) w g hw adJ hcell).mono λe w' ⟨v,ae,m,val,h1,h2,h3,h4⟩=>?_;obtain⟨c0,⟨nT,Ir⟩,xh⟩:=A1 h3 h2;rw[hu zs c0 rs hz nT hb Ir hs]at xh;exact⟨by rw[h1,xh],h4⟩
end
def num (b:Int):List Int->Int
 |[]=>0
 |x::r=>x+b*num b r
theorem num_nonneg {b lo hi:Int} (hb:0<b) (hl:0<=lo):∀{n:Nat} {l:List Int},ay (aT lo hi n) l->0<=num b l
 |0,[],_=>cn _
 |_+1,x::r,h=>by
  have:=num_nonneg hb hl h.2.2;have h2:0<=b*num b r:=Int.mul_nonneg (qv hb) this;have:=h.1;simp only[num];omega
 |0,_::_,h=>h.elim
 |_+1,[],h=>h.elim
theorem V9 {b:Int} (hb:0<b):∀{n:Nat} {l:List Int},ay (aT 0 (b-1) n) l->num b l<b^n
 |0,[],_=>by simp[num]
 |n+1,x::r,h=>by
  have:=V9 hb h.2.2;have h2:b*(num b r+1)<=b*b^n:=Int.mul_le_mul_of_nonneg_left (by omega) (qv hb);have:=h.2.1;simp only[num];rw[Se,kL _ b];have:b*(num b r+1)=b*num b r+b:=by rw[MX,Int.mul_one]
  omega
 |0,_::_,h=>h.elim
 |_+1,[],h=>h.elim
theorem QG {b:Int} (hb:0<b):∀{n:Nat} {l l':List Int},ay (aT 0 (b-1) n) l->ay (aT 0 (b-1) n) l'->num b l=num b l'->l=l'
 |0,[],[],_,_,_=>rfl
 |n+1,x::r,hk::r',h,aP,he=>by
  simp only[num]at he;have av:(x+b*num b r)% b=(hk+b*num b r')% b:=by rw[he]
  rw[xQ,xQ,lO h.1 (by have:=h.2.1;omega),lO aP.1 (by have:=aP.2.1;omega)]at av;subst av;have aH:b*num b r=b*num b r':=by omega
  have ca:=Int.eq_of_mul_eq_mul_left (by omega) aH;rw[QG hb h.2.2 aP.2.2 ca]
 |0,_::_,_,h,_,_=>h.elim
 |_+1,[],_,h,_,_=>h.elim
 |0,[],_::_,_,aP,_=>aP.elim
 |_+1,_::_,[],_,aP,_=>aP.elim
def KB (b:Int):Nat->Int->List Int
 |0,_=>[]
 |n+1,x=>x% b::KB b n (x/b)
theorem anj {b:Int} (hb:0<b):∀(n:Nat) (x:Int),ay (aT 0 (b-1) n) (KB b n x)
 |0,_=>trivial
 |n+1,x=>⟨sV _ (by omega),by have:=ri x hb;omega,anj hb n _⟩
theorem asw {b:Int} (hb:0<b):∀(n:Nat) (x:Int),0<=x->x<b^n->num b (KB b n x)=x
 |0,x,h0,h=>by simp at h;simp[KB,num];omega
 |n+1,x,h0,h=>by
  have h1:x/b<b^n:=Int.ediv_lt_of_lt_mul hb (by rw[Se]at h;exact h);have h2:0<=x/b:=Int.ediv_nonneg h0 (qv hb);simp only[KB,num,asw hb n _ h2 h1];have:=ai0 x b;omega
def af7 (K:List Int->List Int->Prop):Prop:=∀z0:Int,0<=z0->z0<=0xffffffffffffffff->∀ar:Int,0<=ar->ar<=0xffffffffffffffff->∀z2:Int,0<=z2->z2<=4294967295->0<=((1*z0+0)+0)-4294967296*z2->((1*z0+0)+0)-4294967296*z2<4294967296->∀z3:Int,0<=z3->z3<=4294967295->0<=((1*z0+0)+0)-4294967296*z3->((1*z0+0)+0)-4294967296*z3<4294967296->∀z4:Int,0<=z4->z4<=4294967295->0<=((1*ar+0)+0)-4294967296*z4->((1*ar+0)+0)-4294967296*z4<4294967296->∀z5:Int,0<=z5->z5<=4294967295->0<=((1*ar+0)+0)-4294967296*z5->((1*ar+0)+0)-4294967296*z5<4294967296->∀aZ:Int,0<=aZ->aZ<=0xfffffffe00000001->aZ=((1*z0+((-4294967296)*z2+0))+0)*((1*ar+((-4294967296)*z4+0))+0)->∀aK:Int,0<=aK->aK<=0xfffffffe00000001->aK=((1*z3+0)+0)*((1*ar+((-4294967296)*z4+0))+0)->∀aF:Int,0<=aF->aF<=4294967294->0<=((1*aZ+0)+0)-4294967296*aF->((1*aZ+0)+0)-4294967296*aF<4294967296->∀z9:Int,0<=z9->z9<=4294967294->0<=((1*aK+(1*aF+0))+0)-4294967296*z9->((1*aK+(1*aF+0))+0)-4294967296*z9<4294967296->∀aY:Int,0<=aY->aY<=4294967294->0<=((1*aK+(1*aF+0))+0)-4294967296*aY->((1*aK+(1*aF+0))+0)-4294967296*aY<4294967296->∀aN:Int,0<=aN->aN<=0xfffffffe00000001->aN=((1*z0+((-4294967296)*z2+0))+0)*((1*z5+0)+0)->∀z12:Int,0<=z12->z12<=0xfffffffe00000001->z12=((1*z3+0)+0)*((1*z5+0)+0)->∀a1:Int,0<=a1->a1<=4294967295->0<=((1*aK+(1*aF+((-4294967296)*z9+(1*aN+0))))+0)-4294967296*a1->((1*aK+(1*aF+((-4294967296)*z9+(1*aN+0))))+0)-4294967296*a1<4294967296->∀aG:Int,0<=aG->aG<=0xfffffffffffffffe0000000000000001->aG=((1*z0+0)+0)*((1*ar+0)+0)->∀aS:Int,0<=aS->aS<=0xfffffffffffffffe->0<=((1*aG+0)+0)-0x10000000000000000*aS->((1*aG+0)+0)-0x10000000000000000*aS<0x10000000000000000->K [z0,ar] [((1*aY+(1*z12+(1*a1+0)))+0),((1*aG+((-0x10000000000000000)*aS+0))+0)]
def wd:D:= .int .u64 0 0xffffffffffffffff
def Tn (f:dv):bq:=⟨f,0,[wd,wd],[wd,wd]⟩
theorem aIJ (x y a b:Int):x*y=(x+(-4294967296)*a)*(y+(-4294967296)*b)+4294967296*(a*(y+(-4294967296)*b)+(x+(-4294967296)*a)*b)+0x10000000000000000*(a*b):=by
 grind
theorem mulVC_holds:af7 λzs rs=>ay (aX [wd,wd]) rs/\rs=[zs.getD 0 0*zs.getD 1 0/0x10000000000000000,zs.getD 0 0*zs.getD 1 0% 0x10000000000000000]:=by
 unfold af7;intro x h1 h2 y h3 h4 a h5 h6 h7 ch eE cC dB jK gj b ix jm vr ln b' lp yb w6 HS p kS aoK Ue q acS sy Ug c acT acU sz Uh d acV acW sA Fu tQ oX BH sB KW r acX acY rC s HT KX s3 t KY w7 OB OC m HU aoL aoM u aX4 aX5 aX6 aX7;have av:eE=a:=by omega
 have aH:b'=b:=by omega
 have ca:tQ=d:=by omega
 subst av;subst aH;subst ca;simp only[Int.one_mul,Int.add_zero]at*;have:=aIJ x y eE b';rw[<-aoM,<-Ue,<-Ug,<-rC,<-s3]at this;simp only[gp,hq,<-aoM,aX,wd,D.bds,j4,eQ,ay,and_true,hD];omega
theorem ar9 {P:cc} {f:dv} (hm:P.follows .mixedOrders=true) (hf:∀args w,(callFunc f args).run P w= .ok (.enter f args) w)
 (h:∀K,(kQ (aX (Tn f).args) λzs=>((Tn f).tree P [] (λ_=>none) (λ_ _=>none) 600 6).holds (λ_ _ _=>True) (kz (Tn f).res (K zs)) (λ_ _=>False) (b0 (λ_=>0) 0 zs))=af7 K):J0 P f:=by
 intro x y hx s9 hy aet w;have hv:=mulVC_holds;rw[<-h]at hv;have fj:ay (aX (Tn f).args) [x,y]:=⟨hx,by omega,hy,by omega,trivial⟩;refine .inr ⟨hf _ _,?_⟩;have:=bq.calls (wb:=w) hm (λr ex ro f g k7=>by cases k7) (λg cs hg=>by cases hg) fj (m6 hv fj) w (sd w);refine this.mono λe w' ⟨v,ae,m,val,h1,h2,h3,h4⟩=>?_;obtain⟨rs,⟨_,hr⟩,hv⟩:=A1 h3 h2;rw[h1,hv,hr];exact⟨rfl,h4⟩
end Go.bX
namespace Go.bX
abbrev kO:=List (Nat×Nat)
abbrev kN:=List (List Int)
def yw:kO->kN->Nat->Int
 |(s,k)::st,l::bo,i=>cond (cV s i&&eC i (s+k)) (l.getD (i-s) 0) (yw st bo i)
 |_,_,_=>0
def afN:kO->kN->Prop
 |(_,k)::st,l::bo=>l.length=k/\afN st bo
 |[],[]=>True
 |_,_=>False
def si (ρ:Env) (st:kO) (bo:kN):Prop:=afN st bo/\∀i,ρ i=yw st bo i
def KA (st:kO) (bo:kN):List (Int×Nat)->Int
 |[]=>0
 |(k,i)::r=>match r with
  |[]=>cond (k==1) (yw st bo i) (k*yw st bo i)
  |_=>cond (k==1) (yw st bo i) (k*yw st bo i)+KA st bo r
def I.gQ (st:kO) (bo:kN) (l:I):Int:=
 match l.ts with
 |[]=>l.c
 |ts=>cond (l.c==0) (KA st bo ts) (KA st bo ts+l.c)
theorem am7 {ρ:Env} {st:kO} {bo:kN} (h:∀i,ρ i=yw st bo i):∀ts,KA st bo ts=kR ρ ts
 |[]=>rfl
 |(k,i)::[]=>by
  simp only[KA,kR,<-h i];cases ag:(k==1)with
  |true=>have:k=1:=by simpa using ag
         subst this;simp
  |false=>simp
 |(k,i)::t::r=>by
  have ih:=am7 h (t::r);rw[KA,kR,ih,<-h i]
  ·cases ag:(k==1)with
   |true=>have:k=1:=by simpa using ag
          subst this;simp
   |false=>simp
  ·intro hc;cases hc
theorem I.l7 {ρ:Env} {st:kO} {bo:kN} (h:∀i,ρ i=yw st bo i) (l:I):l.gQ st bo=l.den ρ:=by
 unfold I.gQ I.den;cases hl:l.ts with
 |nil=>simp[kR]
 |cons t r=>
  simp only[am7 h];cases hc:(l.c==0)with
  |true=>have:l.c=0:=by simpa using hc
         rw[this];simp
  |false=>simp
def HL:kO->kN->Nat->Nat->Option (List Int)
 |(s,k)::st,l::bo,i,len=>cond (aU s i&&aU k len) (some l) (cond (cV (i+len) s||cV (s+k) i) (HL st bo i len) none)
 |_,_,_,_=>none
theorem an0:∀{st:kO} {bo:kN} {i len:Nat} {l:List Int},HL st bo i len=some l->afN st bo->l.length=len/\∀j,j<len->yw st bo (i+j)=l.getD j 0
 |[],_,_,_,_,h,_=>by simp[HL]at h
 |_::_,[],_,_,_,h,_=>by simp[HL]at h
 |(s,k)::st,l'::bo,i,len,l,h,hl=>by
  unfold HL at h;cases h1:(aU s i&&aU k len)with
  |true=>
   simp only[h1,cond_true,bu]at h;subst h;simp only[bI]at h1;have av:=b8 h1.1;have aH:=b8 h1.2;subst av;subst aH;refine⟨hl.1,λj aR=>?_⟩;unfold yw;have:(cV s (s+j)&&eC (s+j) (s+k))=true:=by simp[eC];omega
   rw[this,cond_true,Nat.add_sub_cancel_left]
  |false=>
   simp only[h1,cond_false]at h;cases h2:(cV (i+len) s||cV (s+k) i)with
   |false=>simp[h2]at h
   |true=>
    simp only[h2,cond_true]at h;obtain⟨g1,g2⟩:=an0 h hl.2;refine⟨g1,λj aR=>?_⟩;rw[<-g2 j aR]
    conv=>lhs;unfold yw
    have:(cV s (i+j)&&eC (i+j) (s+k))=false:=by
     simp only[EG,Nat.ble_eq]at h2;cases h3:(cV s (i+j)&&eC (i+j) (s+k))with
     |false=>rfl
     |true=>simp[eC]at h3;omega
    rw[this,cond_false]
def PE:Nat->List I->Bool
 |_,[]=>true
 |i,l::r=>(l.c==0&&(match l.ts with|[(k,j)]=>k==1&&aU i j|_=>false))&&PE (i+1) r
def firstVar:List I->Nat
 |[]=>0
 |l::_=>match l.ts with|[(_,j)]=>j|_=>0
theorem aqz {ρ:Env}:∀{ls:List I} {i:Nat},PE i ls=true->∀j,j<ls.length->(ls.map (·.den ρ)).getD j 0=ρ (i+j)
 |[],_,_,j,aR=>by simp at aR
 |l::r,i,h,j,aR=>by
  simp only[PE,bI]at h;cases j with
  |zero=>
   obtain⟨⟨h1,h2⟩,_⟩:=h;have hc:l.c=0:=by simpa using h1
   cases hl:l.ts with
   |nil=>simp[hl]at h2
   |cons t s=>
    cases s with
    |cons t' Jt=>simp[hl]at h2
    |nil=>
     obtain⟨k,q⟩:=t;simp only[hl,bI]at h2;have av:k=1:=by simpa using h2.1
     have aH:=b8 h2.2;subst av;subst aH;simp[I.den,hl,kR,hc]
  |succ j=>
   have:=aqz (ρ:=ρ) h.2 j (by simpa using aR);simp only[df,hq];rw[this]
   congr 1;omega
def Ch (st:kO) (bo:kN) (ls:List I):List Int:=
 cond (eC 1 ls.length&&PE (firstVar ls) ls) (match HL st bo (firstVar ls) ls.length with|some l=>l|none=>ls.map (I.gQ st bo)) (ls.map (I.gQ st bo))
theorem arC {l l':List Int} (hl:l.length=l'.length) (h:∀j,j<l.length->l.getD j 0=l'.getD j 0):l=l':=by
 apply List.ext_getElem hl;intro j h1 h2;have:=h j h1;simpa [List.getD_eq_getElem?_getD,lA h1,lA h2]using this
theorem W5 {ρ:Env} {st:kO} {bo:kN} (h:si ρ st bo) (ls:List I):Ch st bo ls=ls.map (·.den ρ):=by
 have cv:ls.map (I.gQ st bo)=ls.map (·.den ρ):=j5 λl _=>I.l7 h.2 l;unfold Ch;cases h1:(eC 1 ls.length&&PE (firstVar ls) ls)with
 |false=>simpa using cv
 |true=>
  simp only[cond_true];simp only[bI]at h1;cases h2:HL st bo (firstVar ls) ls.length with
  |none=>exact cv
  |some l=>
   obtain⟨g1,g2⟩:=an0 h2 h.1;show l=_;refine arC (by simp[g1]) λj aR=>?_;rw[aqz h1.2 j (by omega),h.2,g2 j (by omega)]
def rB:bO->Option (List I×List I)
 | .eq a b=>some ([a],[b])
 | .and (.eq a b) r=>match rB r with|some (x,y)=>some (a::x,b::y)|none=>none
 |_=>none
def bO.gQ (st:kO) (bo:kN):bO->Bool
 |lit b=>b
 |eq a b=>decide (a.gQ st bo=b.gQ st bo)
 |lt a b=>decide (a.gQ st bo<b.gQ st bo)
 |le a b=>decide (a.gQ st bo<=b.gQ st bo)
 |not a=> !a.gQ st bo
 |and a b=>match rB (.and a b)with
  |some (x,y)=>decide (Ch st bo x=Ch st bo y)
  |none=>a.gQ st bo&&b.gQ st bo
 |iff a b=>a.gQ st bo==b.gQ st bo
theorem anW {ρ:Env}:∀{b:bO} {x y:List I},rB b=some (x,y)->b.den ρ=decide (x.map (·.den ρ)=y.map (·.den ρ))
 | .eq a b,x,y,h=>by
  simp only[rB,bu,fi]at h;obtain⟨rfl,rfl⟩:=h;simp[bO.den]
 | .and (.eq a b) r,x,y,h=>by
  simp only[rB]at h;cases hr:rB r with
  |none=>simp[hr]at h
  |some p=>
   obtain⟨hk,og⟩:=p;simp only[hr,bu,fi]at h;obtain⟨rfl,rfl⟩:=h;have ih:=anW (ρ:=ρ) hr;simp only[bO.den,ih,df,hD];simp
 | .lit _,_,_,h=>by simp[rB]at h
 | .lt _ _,_,_,h=>by simp[rB]at h
 | .le _ _,_,_,h=>by simp[rB]at h
 | .not _,_,_,h=>by simp[rB]at h
 | .iff _ _,_,_,h=>by simp[rB]at h
 | .and (.lit _) _,_,_,h=>by simp[rB]at h
 | .and (.lt _ _) _,_,_,h=>by simp[rB]at h
 | .and (.le _ _) _,_,_,h=>by simp[rB]at h
 | .and (.not _) _,_,_,h=>by simp[rB]at h
 | .and (.and _ _) _,_,_,h=>by simp[rB]at h
 | .and (.iff _ _) _,_,_,h=>by simp[rB]at h
theorem bO.l7 {ρ:Env} {st:kO} {bo:kN} (h:si ρ st bo):∀b:bO,b.gQ st bo=b.den ρ
 |lit _=>rfl
 |eq a b=>by simp only[gQ,den,I.l7 h.2]
 |lt a b=>by simp only[gQ,den,I.l7 h.2]
 |le a b=>by simp only[gQ,den,I.l7 h.2]
 |not a=>by simp only[gQ,den,bO.l7 h a]
 |and a b=>by
  have av:=bO.l7 h a;have aH:=bO.l7 h b;unfold gQ;cases an:rB (.and a b)with
  |none=>simp only[den,av,aH]
  |some p=>
   obtain⟨x,y⟩:=p;simp only[anW (ρ:=ρ) an,W5 h]
 |iff a b=>by simp only[gQ,den,bO.l7 h a,bO.l7 h b]
def cI {α:Type}:List Nat->List α->List (List α)
 |[],[]=>[]
 |[],x::l=>[x::l]
 |k::n6,l=>l.take k::cI n6 (l.drop k)
theorem Xc {α β:Type} (f:α->β):∀(n6:List Nat) (l:List α),cI n6 (l.map f)=(cI n6 l).map (List.map f)
 |[],[]=>rfl
 |[],_::_=>rfl
 |k::n6,l=>by simp only[cI,df,<-M0,<-M1,Xc f n6]
def EZ:List Nat->Nat->List (Int×Int)->(kO->kN->List (List Int)->Prop)->kO->kN->Prop
 |[],_,[],P,st,bo=>P st bo []
 |[],_,_::_,_,_,_=>False
 |k::n6,n,bds,P,st,bo=>cond (aU k 1)
  (match bds with
  |(lo,hi)::amk=>∀z:Int,lo<=z->z<=hi->EZ n6 (n+1) amk (λtu s0 ls=>P tu s0 ([z]::ls)) ((n,1)::st) ([z]::bo)
  |[]=>False)
  (cond (cV k bds.length) (∀r:List Int,ay (bds.take k) r->EZ n6 (n+k) (bds.drop k) (λtu s0 ls=>P tu s0 (r::ls)) ((n,k)::st) (r::bo)) False)
theorem auV:∀(a b:List Int) (n:Nat) (ρ:Env),b0 ρ n (a++b)=b0 (b0 ρ n a) (n+a.length) b
 |[],b,n,ρ=>rfl
 |z::a,b,n,ρ=>by
  simp only[j4,b0,kx];rw[auV a b]
  congr 1;omega
theorem auW:∀(l:List Int) (n:Nat) (ρ:Env) (i:Nat),b0 ρ n l i=cond (cV n i&&eC i (n+l.length)) (l.getD (i-n) 0) (ρ i)
 |[],n,ρ,i=>by
  have:(cV n i&&eC i (n+0))=false:=by
   cases h:(cV n i&&eC i (n+0))with
   |false=>rfl
   |true=>simp[eC]at h;omega
  simp only[b0,pr,this,cond_false]
 |z::l,n,ρ,i=>by
  simp only[b0];rw[auW l (n+1)];by_cases h1:i=n
  ·subst h1;have av:(cV (i+1) i&&eC i (i+1+l.length))=false:=by
    have:cV (i+1) i=false:=by
     cases h:cV (i+1) i with
     |false=>rfl
     |true=>exact absurd (gq h) (by omega)
    simp[this]
   have aH:(cV i i&&eC i (i+(z::l).length))=true:=by simp[eC]
   rw[av,aH];simp[eg]
  ·have hu:eg ρ n z i=ρ i:=aiu ρ z h1;by_cases h2:n<=i/\i<n+1+l.length
   ·have av:(cV (n+1) i&&eC i (n+1+l.length))=true:=by simp[eC];omega
    have aH:(cV n i&&eC i (n+(z::l).length))=true:=by simp[eC];omega
    rw[av,aH];simp only[cond_true];rw[show i-n=(i-(n+1))+1 by omega,hq]
   ·have av:(cV (n+1) i&&eC i (n+1+l.length))=false:=by
     cases h:(cV (n+1) i&&eC i (n+1+l.length))with
     |false=>rfl
     |true=>simp[eC]at h;omega
    have aH:(cV n i&&eC i (n+(z::l).length))=false:=by
     cases h:(cV n i&&eC i (n+(z::l).length))with
     |false=>rfl
     |true=>simp[eC]at h;omega
    rw[av,aH];simp[hu]
theorem si.push {ρ:Env} {st:kO} {bo:kN} (h:si ρ st bo) (n:Nat) (l:List Int):si (b0 ρ n l) ((n,l.length)::st) (l::bo):=
 ⟨⟨rfl,h.1⟩,λi=>by rw[auW,yw,<-h.2 i]⟩
theorem aqr:∀{bds:List (Int×Int)} {zs:List Int} (k:Nat),ay bds zs->ay (bds.take k) (zs.take k)/\ay (bds.drop k) (zs.drop k)
 |[],[],k,_=>by simp[ay]
 |[],_::_,_,h=>h.elim
 |(_,_)::_,[],_,h=>h.elim
 |(l,u)::b,z::zs,0,h=>by simpa [ay]using h
 |(l,u)::b,z::zs,k+1,h=>by
  obtain⟨h1,h2,h3⟩:=h;obtain⟨g1,g2⟩:=aqr (bds:=b) (zs:=zs) k h3;exact⟨⟨h1,h2,g1⟩,g2⟩
theorem J9:∀{n6:List Nat} {n:Nat} {bds:List (Int×Int)} {P:kO->kN->List (List Int)->Prop} {st:kO} {bo:kN} {ρ:Env} {zs:List Int},EZ n6 n bds P st bo->si ρ st bo->ay bds zs->∃tu s0,si (b0 ρ n zs) tu s0/\P tu s0 (cI n6 zs)
 |[],n,[],P,st,bo,ρ,[],h,aB,_=>⟨st,bo,aB,h⟩
 |[],_,[],_,_,_,_,_::_,_,_,hi=>hi.elim
 |[],_,_::_,_,_,_,_,_,h,_,_=>h.elim
 |k::n6,n,bds,P,st,bo,ρ,zs,h,aB,hi=>by
  unfold EZ at h;cases ag:aU k 1 with
  |true=>
   have e:=b8 ag;subst e;simp only[ag,cond_true]at h;cases bds with
   |nil=>exact h.elim
   |cons b amk=>
    obtain⟨lo,qN⟩:=b;cases zs with
    |nil=>exact hi.elim
    |cons z zs=>
     obtain⟨h1,h2,h3⟩:=hi;have:=J9 (h z h1 h2) (aB.push n [z]) h3;obtain⟨tu,s0,g1,g2⟩:=this;refine⟨tu,s0,g1,?_⟩;simpa [cI]using g2
  |false=>
   simp only[ag,cond_false]at h;cases hb:cV k bds.length with
   |false=>simp only[hb,cond_false]at h
   |true=>
    simp only[hb,cond_true]at h;have nT:k<=bds.length:=by simpa using hb
    have hlen:=dj hi;obtain⟨i1,i2⟩:=aqr k hi;have e:(zs.take k).length=k:=by simp;omega
    have o3:=aB.push n (zs.take k);rw[e]at o3;obtain⟨tu,s0,g1,g2⟩:=J9 (h _ i1) o3 i2;refine⟨tu,s0,?_,g2⟩;have aH:=auV (zs.take k) (zs.drop k) n ρ;rw[nI,e]at aH;rw[aH];exact g1
abbrev JX:=Nat->List (List Int)->Prop
def JX.set (A:JX) (lT:Nat) (p:List (List Int)->Prop):JX:=λi=>cond (aU i lT) p (A i)
def T.qg (sh:Nat->List Nat×List Nat) (lsh:Nat->List Nat) (S:Nat->List (List Int)->List (List Int)->Prop) (L:V->kO->kN->Prop):T->JX->kO->kN->Prop
 |stuck,_,_,_=>False
 |leaf v,_,st,bo=>L v st bo
 |div n x d lo hi r,A,st,bo=>∀q:Int,lo<=q->q<=hi->0<=x.gQ st bo-d*q->x.gQ st bo-d*q<d->r.qg sh lsh S L A ((n,1)::st) ([q]::bo)
 |mul n x y lo hi r,A,st,bo=>∀p:Int,lo<=p->p<=hi->p=x.gQ st bo*y.gQ st bo->r.qg sh lsh S L A ((n,1)::st) ([p]::bo)
 |bit n op k x y r,A,st,bo=>∀z:Int,0<=z->z<=k.max->z=br op k (x.gQ st bo) (y.gQ st bo)->r.qg sh lsh S L A ((n,1)::st) ([z]::bo)
 |shr n x y lo hi r,A,st,bo=>∀z:Int,lo<=z->z<=hi->z=x.gQ st bo/2^(y.gQ st bo).toNat->r.qg sh lsh S L A ((n,1)::st) ([z]::bo)
 |Ci n cs bA lo hi r,A,st,bo=>∀z:Int,lo<=z->z<=hi->z=(Ch st bo cs).getD (bA.gQ st bo).toNat 0->r.qg sh lsh S L A ((n,1)::st) ([z]::bo)
 |vj b t e,A,st,bo=>(b.gQ st bo=true->t.qg sh lsh S L A st bo)/\(b.gQ st bo=false->e.qg sh lsh S L A st bo)
 |call id args n bds r,A,st,bo=>EZ (sh id).2 n bds (λtu s0 rs=>S id ((cI (sh id).1 args).map (Ch st bo)) rs->r.qg sh lsh S L A tu s0) st bo
 |loop lT init n bds r,A,st,bo=>∃(c5:List (List Int)->Prop) (ey:List (List Int)->Nat),c5 ((cI (lsh lT) init).map (Ch st bo))/\
  EZ (lsh lT) n bds (λtu s0 zs=>c5 zs->r.qg sh lsh S L (A.set lT λvs=>c5 vs/\ey vs<ey zs) tu s0) st bo
 |again lT vals,A,st,bo=>A lT ((cI (lsh lT) vals).map (Ch st bo))
 |both a b,A,st,bo=>a.qg sh lsh S L A st bo/\b.qg sh lsh S L A st bo
 |fn n op args lo hi r,A,st,bo=>∀z:Int,lo<=z->z<=hi->z=cu op (args.map (I.gQ st bo))->r.qg sh lsh S L A ((n,1)::st) ([z]::bo)
 |ind n b r,A,st,bo=>∀z:Int,0<=z->z<=1->b.gQ st bo=decide (z=1)->r.qg sh lsh S L A ((n,1)::st) ([z]::bo)
 |vU n lo hi r,A,st,bo=>∀z:Int,lo<=z->z<=hi->r.qg sh lsh S L A ((n,1)::st) ([z]::bo)
 |nat n r,A,st,bo=>∀z:Int,0<=z->r.qg sh lsh S L A ((n,1)::st) ([z]::bo)
 |wS op args r,A,st,bo=>aj op (args.map (I.gQ st bo))->r.qg sh lsh S L A st bo
 |sY op args r,A,st,bo=>aj op (args.map (I.gQ st bo))/\r.qg sh lsh S L A st bo
theorem ahA {ρ:Env} {st:kO} {bo:kN} (h:si ρ st bo) (n6:List Nat) (l:List I):(cI n6 l).map (Ch st bo)=cI n6 (l.map (·.den ρ)):=by
 rw[Xc];exact j5 λx _=>W5 h x
def du (sh:Nat->List Nat×List Nat) (S:Nat->List (List Int)->List (List Int)->Prop):Nat->List Int->List Int->Prop:=λid zs rs=>S id (cI (sh id).1 zs) (cI (sh id).2 rs)
theorem afX {ρ:Env} {st:kO} {bo:kN} (h:si ρ st bo) (l:List I):l.map (I.gQ st bo)=l.map (·.den ρ):=j5 λx _=>I.l7 h.2 x
theorem qQ {sh:Nat->List Nat×List Nat} {lsh:Nat->List Nat} {S:Nat->List (List Int)->List (List Int)->Prop} {akE:V->kO->kN->Prop} {L:V->Env->Prop} (eF:∀v ρ st bo,si ρ st bo->akE v st bo->L v ρ):
 ∀(t:T) (kk:JX) (A:fx) (ρ:Env) (st:kO) (bo:kN),(∀lT vs,kk lT (cI (lsh lT) vs)->A lT vs)->si ρ st bo->t.qg sh lsh S akE kk st bo->t.holds (du sh S) L A ρ
 | .stuck,_,_,_,_,_,_,_,h=>h
 | .leaf v,_,_,ρ,st,bo,_,aB,h=>eF v ρ st bo aB h
 | .div n x d lo hi r,kk,A,ρ,st,bo,aV,aB,h=>λq h1 h2 h3 h4=>qQ eF r kk A _ _ _ aV (aB.push n [q]) (h q h1 h2 (by rw[I.l7 aB.2];exact h3) (by rw[I.l7 aB.2];exact h4))
 | .mul n x y lo hi r,kk,A,ρ,st,bo,aV,aB,h=>λq h1 h2 h3=>qQ eF r kk A _ _ _ aV (aB.push n [q]) (h q h1 h2 (by rw[I.l7 aB.2,I.l7 aB.2];exact h3))
 | .bit n op k x y r,kk,A,ρ,st,bo,aV,aB,h=>λq h1 h2 h3=>qQ eF r kk A _ _ _ aV (aB.push n [q]) (h q h1 h2 (by rw[I.l7 aB.2,I.l7 aB.2];exact h3))
 | .shr n x y lo hi r,kk,A,ρ,st,bo,aV,aB,h=>λq h1 h2 h3=>qQ eF r kk A _ _ _ aV (aB.push n [q]) (h q h1 h2 (by rw[I.l7 aB.2,I.l7 aB.2];exact h3))
 | .Ci n cs bA lo hi r,kk,A,ρ,st,bo,aV,aB,h=>λq h1 h2 h3=>qQ eF r kk A _ _ _ aV (aB.push n [q]) (h q h1 h2 (by rw[W5 aB,I.l7 aB.2];exact h3))
 | .vj b t e,kk,A,ρ,st,bo,aV,aB,h=>⟨λhb=>qQ eF t kk A _ _ _ aV aB (h.1 (by rw[bO.l7 aB];exact hb)),λhb=>qQ eF e kk A _ _ _ aV aB (h.2 (by rw[bO.l7 aB];exact hb))⟩
 | .call id args n bds r,kk,A,ρ,st,bo,aV,aB,h=>by
  refine tO λrs hi hs=>?_;obtain⟨tu,s0,h1,h2⟩:=J9 h aB hi;exact qQ eF r kk A _ _ _ aV h1 (h2 (by rw[ahA aB];exact hs))
 | .loop lT init n bds r,kk,A,ρ,st,bo,aV,aB,h=>by
  obtain⟨c5,ey,h1,h2⟩:=h;refine⟨λzs=>c5 (cI (lsh lT) zs),λzs=>ey (cI (lsh lT) zs),?_,?_⟩
  ·rw[ahA aB]at h1;exact h1
  ·refine tO λzs hi ea=>?_;obtain⟨tu,s0,g1,g2⟩:=J9 h2 aB hi;refine qQ eF r _ _ _ _ _ (λaIb vs hv=>?_) g1 (g2 ea);unfold JX.set at hv;unfold fx.set;cases an:aU aIb lT with
   |true=>
    rw[an]at hv;have e:=b8 an;subst e;exact hv
   |false=>rw[an]at hv;exact aV _ _ hv
 | .again lT vals,kk,A,ρ,st,bo,aV,aB,h=>aV lT _ (by rw[<-ahA aB];exact h)
 | .both x y,kk,A,ρ,st,bo,aV,aB,h=>⟨qQ eF x kk A ρ st bo aV aB h.1,qQ eF y kk A ρ st bo aV aB h.2⟩
 | .fn n op args lo hi r,kk,A,ρ,st,bo,aV,aB,h=>λq h1 h2 h3=>qQ eF r kk A _ _ _ aV (aB.push n [q]) (h q h1 h2 (by rw[afX aB];exact h3))
 | .ind n b r,kk,A,ρ,st,bo,aV,aB,h=>λq h1 h2 h3=>qQ eF r kk A _ _ _ aV (aB.push n [q]) (h q h1 h2 (by rw[bO.l7 aB];exact h3))
 | .vU n lo hi r,kk,A,ρ,st,bo,aV,aB,h=>λq h1 h2=>qQ eF r kk A _ _ _ aV (aB.push n [q]) (h q h1 h2)
 | .nat n r,kk,A,ρ,st,bo,aV,aB,h=>λq h1=>qQ eF r kk A _ _ _ aV (aB.push n [q]) (h q h1)
 | .wS op args r,kk,A,ρ,st,bo,aV,aB,h=>λh1=>qQ eF r kk A ρ st bo aV aB (h (by rw[afX aB];exact h1))
 | .sY op args r,kk,A,ρ,st,bo,aV,aB,h=>⟨by rw[<-afX aB];exact h.1,qQ eF r kk A _ _ _ aV aB h.2⟩
def FY:List O->Option (List I)
 |[]=>some []
 | .l x::r=>match FY r with|some l=>some (x::l)|none=>none
 | .b _::_=>none
def O.gQ (st:kO) (bo:kN):O->Int
 |l x=>x.gQ st bo
 |b x=>cond (x.gQ st bo) 1 0
def Mu (st:kO) (bo:kN) (os:List O):List Int:=
 match FY os with
 |some ls=>Ch st bo ls
 |none=>os.map (O.gQ st bo)
theorem arA {ρ:Env}:∀{os:List O} {ls:List I},FY os=some ls->ls.map (·.den ρ)=os.map (O.den ρ)
 |[],ls,h=>by simp[FY]at h;subst h;rfl
 | .l x::r,ls,h=>by
  simp only[FY]at h;cases hr:FY r with
  |none=>simp[hr]at h
  |some l=>
   simp only[hr,bu]at h;subst h;simp only[df,arA hr,O.den]
 | .b _::_,_,h=>by simp[FY]at h
theorem O.l7 {ρ:Env} {st:kO} {bo:kN} (h:si ρ st bo):∀o:O,o.gQ st bo=o.den ρ
 | .l x=>I.l7 h.2 x
 | .b x=>by simp only[gQ,den,bO.l7 h]
theorem atW {ρ:Env} {st:kO} {bo:kN} (h:si ρ st bo) (os:List O):Mu st bo os=os.map (O.den ρ):=by
 unfold Mu;cases hl:FY os with
 |some ls=>exact(W5 h ls).trans (arA hl)
 |none=>exact j5 λo _=>O.l7 h o
def aIE (k:Nat):List Nat:=match k with
 |12=>[4,4,4]
 |15=>[5,5,5]
 |20=>[5,5,5,5]
 |k=>[k]
def D.nums:D->List Nat
 | .mix l=>aIE l.length
 | .AJ _=>[]
 | .kF .. =>[]
 |d=>[d.num]
def rV (ds:List D):List Nat:=ds.flatMap D.nums
def aac (ds:List D) (K:List (List Int)->Prop) (v:V) (st:kO) (bo:kN):Prop:=
 match outs ds v with
 |some os=>K ((cI (rV ds) os).map (Mu st bo))
 |none=>False
theorem axD {ds:List D} {K:List (List Int)->Prop} (v:V) (ρ:Env) (st:kO) (bo:kN) (aB:si ρ st bo) (h:aac ds K v st bo):kz ds (λrs=>K (cI (rV ds) rs)) v ρ:=by
 unfold aac at h;unfold kz;cases aA:outs ds v with
 |none=>simp[aA]at h
 |some os=>
  simp only[aA]at h⊢;rw[Xc]
  rwa [show(cI (rV ds) os).map (Mu st bo)=(cI (rV ds) os).map (List.map (O.den ρ)) from j5 λo _=>atW aB o]at h
def cZ (sh:Nat->List Nat×List Nat) (lsh:Nat->List Nat) (S:Nat->List (List Int)->List (List Int)->Prop) (K:List (List Int)->List (List Int)->Prop) (lens:List Nat) (bds:List (Int×Int)) (ds:List D) (t:T):Prop:=EZ lens 0 bds (λst bo zs=>t.qg sh lsh S (aac ds (K zs)) (λ_ _=>False) st bo) [] []
theorem Nq {sh:Nat->List Nat×List Nat} {lsh:Nat->List Nat} {S:Nat->List (List Int)->List (List Int)->Prop} {K:List (List Int)->List (List Int)->Prop} {lens:List Nat} {bds:List (Int×Int)} {ds:List D} {t:T}
 (h:cZ sh lsh S K lens bds ds t):kQ bds λzs=>t.holds (du sh S) (kz ds λrs=>K (cI lens zs) (cI (rV ds) rs)) (λ_ _=>False) (b0 (λ_=>0) 0 zs):=by
 refine tO λzs hi=>?_;obtain⟨st,bo,h1,h2⟩:=J9 h (show si (λ_=>0) [] [] from⟨trivial,λ_=>rfl⟩) hi;exact qQ (λv ρ st bo aB hl=>axD v ρ st bo aB hl) t _ _ _ st bo (λ_ _ hf=>hf.elim) h1 h2
end Go.bX
namespace Go.bX
open Go.ChangeShapes Go.WideShapes Go.RowKit
variable {H:Type} {enc:bE×bf->H} {P:cc}
theorem au0 {k:eB} {z:Int}:(Lit.int k z).wf=true↔k.min<=z/\z<=k.max:=by simp[Lit.wf]
theorem amV {k:eB}:∀(cs:List bf) (xs:List (pX H×List AU)),cs.length=xs.length->
 (∀i,i<xs.length->∃z,(cs.drop i).take 1=[.int k z]/\xs[i]?=some (.lit (.int k z),[])/\(Lit.int k z).wf=true)->
 ∃zs:List Int,cs=zs.map (.int k)/\xs=zs.map (λz=>(.lit (.int k z),[]))/\∀z∈zs,(Lit.int k z).wf=true
 |[],[],_,_=>⟨[],rfl,rfl,λ_ h=>by cases h⟩
 |[],_::_,h,_=>by simp at h
 |_::_,[],h,_=>by simp at h
 |c::cs,x::xs,hl,h=>by
  obtain⟨z,h1,h2,h3⟩:=h 0 (by simp);simp at h1 h2;obtain⟨zs,av,aH,ca⟩:=amV cs xs (by simpa using hl) λi hi=>by
   obtain⟨y,g1,g2,g3⟩:=h (i+1) (by simpa using hi);exact⟨y,by simpa using g1,by simpa using g2,g3⟩
  refine⟨z::zs,by rw[h1,av];rfl,by rw[h2,aH];rfl,λy hy=>?_⟩;rcases List.mem_cons.1 hy with rfl|hy
  ·exact h3
  ·exact ca y hy
theorem BP:∀{b b':List (Int×Int)} {l l':List Int},ay b l->ay b' l'->ay (b++b') (l++l')
 |[],_,[],_,_,h=>h
 |_::_,_,_::_,_,h,aP=>⟨h.1,h.2.1,BP h.2.2 aP⟩
 |[],_,_::_,_,h,_=>h.elim
 |_::_,_,[],_,h,_=>h.elim
theorem D.auX (d:D) {zs l:List Int} (h:zs.length=d.num):d.val (zs++l)=d.val zs:=by
 cases d with
 |str=>match zs,h with|[z],_=>rfl
 |int k lo hi=>match zs,h with|[z],_=>rfl
 |bool=>match zs,h with|[z],_=>rfl
 |agg k n lo hi=>simp only[D.num]at h;simp only[D.val,<-h];simp
 |AJ p=>rfl
 |kF k c=>rfl
 |mix p=>
  simp only[D.num]at h;simp only[D.val]
  congr 2
  revert zs;induction p with
  |nil=>intro zs h;simp
  |cons a p ih=>
   intro zs h
   match zs,h with
   |z::zs,h=>simp only[j4,Sm,ih (zs:=zs) (by simpa using h)]
theorem aHk {w w':aC} (h:w.Extends w') (may:AU->Prop):w.keptBut w' may:=
 Below.frame (W:=w) ⟨h.os,h.tape,h.output,h.size,λi hi=>h.block i hi⟩ may
theorem Fp {w:aC} {name:String} {g:Nat} {t e:bE} {k:eB} {n:Nat} {cs:Array bf} {fuel:Nat} {p:List AU} {zs:List Int} {spare:Nat->Bool} {held:Bool} {base:Nat} {enc:bE×bf->Unit}
 (hg:P.globalNamed name=some g) (aB:P.underlying t=some (.array n e)) (he:P.underlying e=some (.int k)) (Ur:P.cellsOf e=1) (aEs:P.cellsOf t=n)
 (hv:w.var? P name=some cs) (hd:ai8 enc P w base spare held fuel t cs.toList=some (.agg (zs.map λz=> .lit (.int k z)),p)):
 g<w.heap.size/\∃t' Fl,w.heap[g]?=some (Obj.cells (zs.map (AV k)).toArray t' Fl):=by
 obtain⟨xs,m,rfl,hx,hlen,hn,K7⟩:=aWp aB hd;obtain⟨iG,av,aH,ca⟩:=amV (k:=k) cs.toList xs (by rw[hlen,aEs,hn]) λi hi=>by
  have:=K7 i (by omega);rw[Ur,CH]at this;cases ap7:xs[i]? with
  |none=>simp at ap7;omega
  |some y=>
   rw[ap7]at this;obtain⟨z,g1,g2,g3⟩:=awj he this;exact⟨z,g1,by rw[g2],g3⟩
 simp only[fi,aZi]at hx;have hy:iG=zs:=by
  have h1:=hx.1;rw[aH,lz]at h1;have BM:∀a b:Int,(aWq (.int k a):pX Unit)= .lit (.int k b)->a=b:=λa b h=>by cases h;rfl
  exact((List.map_inj_right (f:=λz:Int=>(aWq (.int k z):pX Unit)) BM).1 h1).symm
 subst hy;simp only[World.var?,hg,Option.bind_some]at hv;split at hv
 ·rename_i lD t' Fl hb;simp only[bu]at hv;subst hv;refine⟨?_,t',Fl,?_⟩
  ·exact(Array.getElem?_eq_some_iff.1 hb).1
  ·rw[hb,<-av]
 ·cases hv
end Go.bX
namespace Go.bX
open M
inductive c3 where
 |d (x:D)
 |rd (sh:List a8)
 |rX (sh:List a8) (e:bE)
def c3.num:c3->Nat
 |d x=>x.num
 |_=>1
noncomputable def c3.bds:c3->List (Int×Int)
 |d x=>x.bds
 |_=>[(0,cP)]
noncomputable def c7:List c3->List (Int×Int)
 |[]=>[]
 |x::r=>x.bds++c7 r
def c3.IE:c3->Bool
 |d _=>true
 |_=>false
def c3.tc:c3->Bool
 |rX _ _=>true
 |_=>false
def c3.rJ:c3->Bool
 |rd _=>true
 |_=>false
def sW:List c3->Bool
 |[]=>true
 | .d _::r=>sW r
 | .rd _::r=>r.all (λb=> !b.tc)&&sW r
 | .rX _ _::r=>r.all c3.IE&&sW r
def CW (F:Nat->Prop) (w:aC) (sh:List a8) (rows:List (List Int)) (v:bf):Prop:=(v= .slice none 0 0/\rows=[])∨∃(g o cap:Nat) (cells:Array bf) (t:bE) (fz:Nat×Nat),v= .slice (some ⟨g,o,none⟩) rows.length cap/\(rows.length<=cap/\(cap:Int)<=0x7fffffffffffffff)/\F g/\w.heap[g]?=some (.cells cells t fz)/\pz cells o sh rows
def Ha (N:Nat->Prop) (w:aC) (sh:List a8) (e:bE) (rows:List (List Int)) (v:bf):Prop:=(v= .slice none 0 0/\rows=[])∨∃(g cap:Nat) (cells:Array bf),v= .slice (some ⟨g,0,none⟩) rows.length cap/\(rows.length<=cap/\(cap:Int)<=0x7fffffffffffffff)/\N g/\w.heap[g]?=some (.cells cells e (0,0))/\pz cells 0 sh rows/\cells.size=cap*sh.length
def c3.at (F N:Nat->Prop) (w:aC):c3->List Int->bf->Prop
 |d x,zs,v=>v=x.val zs
 |rd sh,zs,v=>CW F w sh (af (zs.getD 0 0)) v
 |rX sh e,zs,v=>Ha N w sh e (af (zs.getD 0 0)) v
def m7 (F N:Nat->Prop) (w:aC):List c3->List Int->List bf->Prop
 |[],_,[]=>True
 |b::r,zs,v::vs=>b.at F N w zs v/\m7 F N w r (zs.drop b.num) vs
 |_,_,_=>False
def xM (us:List bf):bf:=match us with|[x]=>x|l=> .tuple l.toArray
structure eG where
 f:dv
 id:Nat
 args:List c3
 res:List c3
 pre:Nat:=0
def L5:Nat->List Int->Prop
 |0,_=>True
 |p+1,l=>aj (p+1) l
def agO:Nat->List I->T->T
 |0,_,r=>r
 |p+1,ls,r=> .sY (p+1) ls r
def Wu:Nat->List I->T->T
 |0,_,r=>r
 |p+1,ls,r=> .wS (p+1) ls r
theorem preM_holds {S:Nat->List Int->List Int->Prop} {L:V->Env->Prop} {A:fx} {ρ:Env} {p:Nat} {ls:List I} {r:T} (h:(agO p ls r).holds S L A ρ):L5 p (ls.map (·.den ρ))/\r.holds S L A ρ:=by
 cases p with
 |zero=>exact⟨trivial,h⟩
 |succ p=>exact h
theorem preA_holds {S:Nat->List Int->List Int->Prop} {L:V->Env->Prop} {A:fx} {ρ:Env} {p:Nat} {ls:List I} {r:T} (h:(Wu p ls r).holds S L A ρ) (hp:L5 p (ls.map (·.den ρ))):r.holds S L A ρ:=by
 cases p with
 |zero=>exact h
 |succ p=>exact h hp
def eG.bH (P:cc) (wb:aC) (c:eG) (spec:List Int->List Int->Prop):Prop:=(∀args w,(callFunc c.f args).run P w= .ok (.enter c.f args) w)/\∀(F:Nat->Prop) (w:aC) (vs:List bf) (zs:List Int),wb.Extends w->ay (c7 c.args) zs->L5 c.pre zs->m7 F (λ_=>False) w c.args zs vs->oo P c.f vs.toArray w λe w'=>w.Extends w'/\∃rs us,ay (c7 c.res) rs/\spec zs rs/\m7 (λg=>F g∨w.heap.size<=g) (λg=>w.heap.size<=g) w' c.res rs us/\e= .returned (xM us)
noncomputable def zl:List c3->Nat->Nat->List W->List aM->(Nat->List W->List aM->T)->T
 |[],_,n,us,bl,k=>k n us bl
 | .d x::r,s,n,us,bl,k=>zl r (s+x.num) n (us++[x.sym s]) bl k
 | .rd sh::r,s,n,us,bl,k=> .nat n (.vU (n+1) (-1) 0x7fffffffffffffff (.fn (n+2) 20 [.var s] 0 0x7fffffffffffffff
  (zl r (s+1) (n+3) (us++[.one (.sl bl.length sh.length (.var n) (.const 0) (.var (n+2)) (.var (n+1)))]) (bl++[([.rows sh (.var n) (.var s) (.var (n+1)) 1],(0,false))]) k)))
 | .rX sh e::r,s,n,us,bl,k=> .vU n (-1) 0x7fffffffffffffff (.fn (n+1) 20 [.var s] 0 0x7fffffffffffffff
  (zl r (s+1) (n+2) (us++[.one (.sl bl.length sh.length (.const 0) (.const 0) (.var (n+1)) (.var n))]) (bl++[([.rows sh (.const 0) (.var s) (.var n) 2],(e,false))]) k))
section
variable {S:Nat->List Int->List Int->Prop} {L:V->Env->Prop} {w0:fg} {P:cc} {gl:fK} {cal:gb}
theorem kM.agree {ρ ae:Env} {s n:Nat} {zs:List Int} (h:kM ρ s zs) (ha:agree n ρ ae) (hn:s+zs.length<=n):kM ae s zs:=λj aR=>by rw[ha (s+j) (by omega)];exact h j aR
theorem yY {ρ:Env} {n i:Nat} {z:Int} (h:i<n):eg ρ n z i=ρ i:=aiu ρ z (by omega)
theorem Hm {F N:Nat->Prop} (hF:∀g,F g->w0.ex g∨w0.ro g∨w0.r.heap.size<=g) (cF:∀g,N g->w0.b.heap.size<=g/\w0.r.heap.size<=g):∀{l:List c3} {s n:Nat} {us:List W} {bl:List aM} {k:Nat->List W->List aM->T} {G:fx} {ρ:Env} {m:Nat->Nat} {w:aC} {zs:List Int} {vals:List bf},
 sW l=true->dr n bl.length ρ bl->Mem w0 ρ m bl w->kM ρ s zs->ay (c7 l) zs->s+(c7 l).length<=n->m7 F N w l zs vals->
 ((l.all λb=> !b.rJ)=true∨∀(i:Nat) (p:aM),bl[i]?=some p->F (m i)->b2 ρ p.1<=1)->((l.all λb=> !b.tc)=true∨∀(i:Nat) (p:aM),bl[i]?=some p->N (m i)->b2 ρ p.1=0)->
 (∀u∈us,W.ok n bl.length ρ u)->
 (zl l s n us bl k).holds S L G ρ->∃n' ae m' pU bF,ft n bl.length ρ m n' (pY bF) ae m'/\dr n' bF.length ae bF/\Mem w0 ae m' bF w/\pU.map (W.den ae m')=us.map (W.den ρ m)++vals/\(∀u∈pU,W.ok n' bF.length ae u)/\(k n' pU bF).holds S L G ae
 |[],s,n,us,bl,k,G,ρ,m,w,zs,vals,_,hb,hm,_,_,_,hat,_,_,xg,ah=>by
  match vals,hat with
  |[],_=>exact⟨n,ρ,m,us,bl,ft.refl _ _ _ _,hb,hm,by simp,xg,ah⟩
 | .d x::r,s,n,us,bl,k,G,ρ,m,w,zs,vals,cm,hb,hm,aV,hz,hn,hat,h1,h2,xg,ah=>by
  match vals,hat with
  |v::vs,hat=>
   obtain⟨hv,hat⟩:=hat;have hv:v=x.val zs:=hv;simp only[c7,c3.bds]at hz hn;simp only[fq]at hn;obtain⟨i1,i2⟩:=BQ hz;rw[D.Nz]at i1 i2 hn;have hs:=D.RR (ρ:=ρ) (m:=m) (N:=n) (nb:=bl.length) x i1 aV (by omega);obtain⟨n',ae,m',pU,bF,g1,g2,g3,g4,g5,g6⟩:=Hm hF cF (l:=r) (s:=s+x.num) (us:=us++[x.sym s]) (zs:=zs.drop x.num) cm hb hm (aV.drop x.num) i2 (by omega) hat (by
    rcases h1 with h1|h1
    ·left;simpa [c3.rJ]using h1
    ·exact .inr h1) (by
    rcases h2 with h2|h2
    ·left;simpa [c3.tc]using h2
    ·exact .inr h2) (λu hu=>by
    rcases List.mem_append.1 hu with hu|hu
    ·exact xg u hu
    ·simp at hu;subst hu;exact hs.1) ah
   exact⟨n',ae,m',pU,bF,g1,g2,g3,by rw[g4,hQ,hv];simp[hs.2],g5,g6⟩
 | .rd sh::r,s,n,us,bl,k,G,ρ,m,w,zs,vals,cm,hb,hm,aV,hz,hn,hat,h1,h2,xg,ah=>by
  match vals,hat with
  |v::vs,hat=>
   obtain⟨hv,hat⟩:=hat
   match zs,hz with
   |z::zs,hz=>
    obtain⟨ar,z2,hz⟩:=hz;have hv:CW F w sh (af z) v:=hv;obtain⟨Fv,OD⟩:=aV.tail;have h1:∀(i:Nat) (p:aM),bl[i]?=some p->F (m i)->b2 ρ p.1<=1:=by
     rcases h1 with h1|h1
     ·simp[c3.rJ]at h1
     ·exact h1
    simp only[c7,c3.bds,fq,kx,pr]at hn;simp only[sW,bI]at cm;have hlen:(af z).length<=0x7fffffffffffffff:=by
     rcases hv with⟨_,h⟩|⟨_,_,cap,_,_,_,_,⟨h3,h4⟩,_⟩
     ·simp[h]
     ·omega
    have qT:zs.length=(c7 r).length:=dj hz;obtain⟨g,o,cap,Dm,Dn,H7,O1,H8⟩:∃(g:Nat) (o:Nat) (cap:Int),(-1<=cap/\cap<=0x7fffffffffffffff)/\(cap<0->af z=[])/\(0<=cap->((af z).length:Int)<=cap)/\
     (v=if cap<0 then So none 0 0 else .slice (some ⟨g,o,none⟩) (af z).length cap.toNat)/\
     (0<=cap->F g/\∃cells t fz,w.heap[g]?=some (.cells cells t fz)/\pz cells o sh (af z)):=by
     rcases hv with⟨h3,h4⟩|⟨g,o,cap,cells,t,fz,h3,⟨h4,h5⟩,h6,h7,ch⟩
     ·exact⟨0,0,-1,by omega,λ_=>h4,λh=>by omega,by simp[h3],λh=>by omega⟩
     ·exact⟨g,o,cap,by omega,λh=>by omega,λ_=>by omega,by rw[if_neg (by omega)];simpa using h3,λ_=>⟨h6,cells,t,fz,h7,ch⟩⟩
    have O4:=ah (o:Int) (by omega) cap Dm.1 Dm.2 (af z).length (by omega) (by omega) (by
     simp only[df,gr,cu,I.de];rw[yY (by omega),yY (by omega),Fv])
    generalize ta:eg (eg (eg ρ n (o:Int)) (n+1) cap) (n+2) ((af z).length:Int)=jb at O4;have ha:agree n ρ jb:=by
     rw[<-ta];intro i hi;rw[yY (by omega),yY (by omega),yY hi]
    have cv:jb n=o:=by rw[<-ta,yY (by omega),yY (by omega),mL]
    have av:jb (n+1)=cap:=by rw[<-ta,yY (by omega),mL]
    have aH:jb (n+2)=(af z).length:=by rw[<-ta,mL]
    have ca:jb s=z:=by rw[ha s (by omega)];exact Fv
    have Ic:=hm.sP hb ha;have OL:=hb.ext ha (show n<=n+3 by omega) (b1 bl.length);have OE:(A.rows sh (.var n) (.var s) (.var (n+1)) 1).ok (n+3) bl.length jb:=⟨⟨I.gU (by omega),I.gU (by omega),I.gU (by omega)⟩,by rw[I.de,ca];exact⟨ar,z2⟩,by rw[I.de,av];exact Dm⟩;have ma:=Ic.push (x:=([.rows sh (.var n) (.var s) (.var (n+1)) 1],(0,false))) (g:=g) OL (λy hy=>by simp at hy;subst hy;exact OE) (λaA=>by cases aA) (λgC ld code' k6 sH he=>by
     cases he;intro _;refine⟨λh=>by rw[I.de,av]at h;rw[I.de,ca];exact Dn h,λh=>?_⟩;rw[I.de,av]at h;obtain⟨OF,cells,t,fz,k1,k2⟩:=H8 h;exact⟨hF g OF,cells,t,fz,k1,⟨by rw[I.de,cv];omega,by rw[I.de,I.de,cv,ca];exact k2⟩,λh2=>by omega⟩) (λi p hi he=>by
      by_cases hc:0<=cap
      ·refine .inl ⟨?_,?_⟩
       ·rw[yt (hb _ (fw hi)) ha];exact h1 i p hi (by rw[he];exact(H8 hc).1)
       ·rw[vF (by decide) (by rw[I.de,av];exact hc)];exact b1 1
      ·refine .inr (.inr ?_);simp only[b2,I.de,av];rw[if_pos (by omega)])
    have adV:ft n bl.length ρ m (n+3) (bl++[([A.rows sh (.var n) (.var s) (.var (n+1)) 1],((0:bE),false))]).length jb (oe m bl.length g):=⟨by omega,ha,by simp,λb hb=>pk hb⟩;have H3:dr (n+3) (bl++[([A.rows sh (.var n) (.var s) (.var (n+1)) 1],((0:bE),false))]).length jb (bl++[([.rows sh (.var n) (.var s) (.var (n+1)) 1],(0,false))]):=λp hp a nS=>by
     rcases List.mem_append.1 hp with hp|hp
     ·exact(OL p hp a nS).ext (agree.refl _ _) (b1 _) (by simp)
     ·simp at hp;subst hp;simp at nS;subst nS;exact OE.ext (agree.refl _ _) (b1 _) (by simp)
    have aek:W.ok (n+3) (bl++[([A.rows sh (.var n) (.var s) (.var (n+1)) 1],((0:bE),false))]).length jb (.one (.sl bl.length sh.length (.var n) (.const 0) (.var (n+2)) (.var (n+1)))):=by
     refine⟨by simp,⟨I.gU (by omega),I.dX _ _,I.gU (by omega),I.gU (by omega)⟩,?_⟩;simp only[I.de,I.bC,cv,av,aH];exact⟨by omega,by omega,λh=>by rw[Dn h];rfl,H7⟩
    obtain⟨n',ae,m',pU,bF,g1,g2,g3,g4,g5,g6⟩:=Hm hF cF (l:=r) (s:=s+1) (us:=us++[.one (.sl bl.length sh.length (.var n) (.const 0) (.var (n+2)) (.var (n+1)))]) (zs:=zs) (vals:=vs) cm.2 H3 ma (OD.agree ha (by omega)) hz (by omega) hat (.inr λi p hi hf=>by
     rw[List.getElem?_append]at hi;split at hi
     ·rename_i ks;rw[pk ks]at hf;rw[yt (hb _ (fw hi)) ha];exact h1 i p hi hf
     ·have:i=bl.length:=by
       have:=(List.getElem?_eq_some_iff.1 hi).1;simp at this;omega
      subst this;simp at hi;subst hi;simp only[b2];split<;>omega) (.inl cm.1) (λu hu=>by
     rcases List.mem_append.1 hu with hu|hu
     ·exact(xg u hu).ext ha (by omega) (by simp)
     ·simp at hu;subst hu;exact aek) O4
    refine⟨n',ae,m',pU,bF,adV.trans g1,g2,g3,?_,g5,g6⟩;rw[g4,hQ,fS]
    congr 1
    ·exact j5 λu hu=>W.oz (xg u hu) ha (λb hb=>pk hb)
    ·simp only[df,gr,j4,eQ,W.den,A.den,I.de,I.bC,cv,av,aH,pT];rw[O1];simp
 | .rX sh e::r,s,n,us,bl,k,G,ρ,m,w,zs,vals,cm,hb,hm,aV,hz,hn,hat,h1,h2,xg,ah=>by
  match vals,hat with
  |v::vs,hat=>
   obtain⟨hv,hat⟩:=hat
   match zs,hz with
   |z::zs,hz=>
    obtain⟨ar,z2,hz⟩:=hz;have hv:Ha N w sh e (af z) v:=hv;obtain⟨Fv,OD⟩:=aV.tail;simp only[c7,c3.bds,fq,kx,pr]at hn;simp only[sW,bI]at cm;have h2:∀(i:Nat) (p:aM),bl[i]?=some p->N (m i)->b2 ρ p.1=0:=by
     rcases h2 with h2|h2
     ·simp[c3.tc]at h2
     ·exact h2
    have hlen:(af z).length<=0x7fffffffffffffff:=by
     rcases hv with⟨_,h⟩|⟨_,cap,_,_,⟨h3,h4⟩,_⟩
     ·simp[h]
     ·omega
    have qT:zs.length=(c7 r).length:=dj hz;obtain⟨g,cap,Dm,Dn,H7,O1,H8⟩:∃(g:Nat) (cap:Int),(-1<=cap/\cap<=0x7fffffffffffffff)/\(cap<0->af z=[])/\(0<=cap->((af z).length:Int)<=cap)/\
     (v=if cap<0 then So none 0 0 else .slice (some ⟨g,0,none⟩) (af z).length cap.toNat)/\
     (0<=cap->N g/\∃cells,w.heap[g]?=some (.cells cells e (0,0))/\pz cells 0 sh (af z)/\cells.size=cap.toNat*sh.length):=by
     rcases hv with⟨h3,h4⟩|⟨g,cap,cells,h3,⟨h4,h5⟩,h6,h7,ch,cC⟩
     ·exact⟨0,-1,by omega,λ_=>h4,λh=>by omega,by simp[h3],λh=>by omega⟩
     ·exact⟨g,cap,by omega,λh=>by omega,λ_=>by omega,by rw[if_neg (by omega)];simpa using h3,λ_=>⟨h6,cells,h7,ch,by simpa using cC⟩⟩
    have O4:=ah cap Dm.1 Dm.2 (af z).length (by omega) (by omega) (by
     simp only[df,gr,cu,I.de];rw[yY (by omega),Fv])
    generalize ta:eg (eg ρ n cap) (n+1) ((af z).length:Int)=jb at O4;have ha:agree n ρ jb:=by
     rw[<-ta];intro i hi;rw[yY (by omega),yY hi]
    have av:jb n=cap:=by rw[<-ta,yY (by omega),mL]
    have aH:jb (n+1)=(af z).length:=by rw[<-ta,mL]
    have ca:jb s=z:=by rw[ha s (by omega)];exact Fv
    have Ic:=hm.sP hb ha;have OL:=hb.ext ha (show n<=n+2 by omega) (b1 bl.length);have OE:(A.rows sh (.const 0) (.var s) (.var n) 2).ok (n+2) bl.length jb:=⟨⟨I.dX _ _,I.gU (by omega),I.gU (by omega)⟩,by rw[I.de,ca];exact⟨ar,z2⟩,by rw[I.de,av];exact Dm⟩;have ma:=Ic.push (x:=([.rows sh (.const 0) (.var s) (.var n) 2],(e,false))) (g:=g) OL (λy hy=>by simp at hy;subst hy;exact OE) (λaA=>by cases aA) (λgC ld code' k6 sH he=>by
     cases he;intro _;refine⟨λh=>by rw[I.de,av]at h;rw[I.de,ca];exact Dn h,λh=>?_⟩;rw[I.de,av]at h;obtain⟨aC6,cells,k1,k2,k3⟩:=H8 h;have fX:=cF g aC6;exact⟨.inr (.inr fX.2),cells,e,(0,0),k1,⟨by rw[I.bC];exact cn _,by rw[I.bC,I.de,ca];exact k2⟩,λ_=>⟨rfl,I.bC _ _,.QA,by rw[I.de,av];exact k3,fX.1,.inr fX.2⟩⟩) (λi p hi he=>by
      by_cases hc:0<=cap
      ·refine .inr (.inl ?_);rw[yt (hb _ (fw hi)) ha];exact h2 i p hi (by rw[he];exact(H8 hc).1)
      ·refine .inr (.inr ?_);simp only[b2,I.de,av];rw[if_pos (by omega)])
    have adV:ft n bl.length ρ m (n+2) (bl++[([A.rows sh (.const 0) (.var s) (.var n) 2],(e,false))]).length jb (oe m bl.length g):=⟨by omega,ha,by simp,λb hb=>pk hb⟩;have H3:dr (n+2) (bl++[([A.rows sh (.const 0) (.var s) (.var n) 2],(e,false))]).length jb (bl++[([.rows sh (.const 0) (.var s) (.var n) 2],(e,false))]):=λp hp a nS=>by
     rcases List.mem_append.1 hp with hp|hp
     ·exact(OL p hp a nS).ext (agree.refl _ _) (b1 _) (by simp)
     ·simp at hp;subst hp;simp at nS;subst nS;exact OE.ext (agree.refl _ _) (b1 _) (by simp)
    have aek:W.ok (n+2) (bl++[([A.rows sh (.const 0) (.var s) (.var n) 2],(e,false))]).length jb (.one (.sl bl.length sh.length (.const 0) (.const 0) (.var (n+1)) (.var n))):=by
     refine⟨by simp,⟨I.dX _ _,I.dX _ _,I.gU (by omega),I.gU (by omega)⟩,?_⟩;simp only[I.de,I.bC,av,aH];exact⟨by omega,by omega,λh=>by rw[Dn h];rfl,H7⟩
    obtain⟨n',ae,m',pU,bF,g1,g2,g3,g4,g5,g6⟩:=alv (w0:=w0) (l:=r) (s:=s+1) (us:=us++[.one (.sl bl.length sh.length (.const 0) (.const 0) (.var (n+1)) (.var n))]) (zs:=zs) (vals:=vs) cm.1 H3 ma (OD.agree ha (by omega)) hz (by omega) hat (λu hu=>by
     rcases List.mem_append.1 hu with hu|hu
     ·exact(xg u hu).ext ha (by omega) (by simp)
     ·simp at hu;subst hu;exact aek) O4
    refine⟨n',ae,m',pU,bF,adV.trans g1,g2,g3,?_,g5,g6⟩;rw[g4,hQ,fS]
    congr 1
    ·exact j5 λu hu=>W.oz (xg u hu) ha (λb hb=>pk hb)
    ·simp only[df,gr,j4,eQ,W.den,A.den,I.de,I.bC,av,aH,pT];rw[O1];simp
where
 alv {w0:fg} {F N:Nat->Prop}:∀{l:List c3} {s n:Nat} {us:List W} {bl:List aM} {k:Nat->List W->List aM->T} {G:fx} {ρ:Env} {m:Nat->Nat} {w:aC} {zs:List Int} {vals:List bf},
  (l.all c3.IE)=true->dr n bl.length ρ bl->Mem w0 ρ m bl w->kM ρ s zs->ay (c7 l) zs->s+(c7 l).length<=n->m7 F N w l zs vals->
  (∀u∈us,W.ok n bl.length ρ u)->
  (zl l s n us bl k).holds S L G ρ->∃n' ae m' pU bF,ft n bl.length ρ m n' (pY bF) ae m'/\dr n' bF.length ae bF/\Mem w0 ae m' bF w/\pU.map (W.den ae m')=us.map (W.den ρ m)++vals/\(∀u∈pU,W.ok n' bF.length ae u)/\(k n' pU bF).holds S L G ae
 |[],s,n,us,bl,k,G,ρ,m,w,zs,vals,_,hb,hm,_,_,_,hat,xg,ah=>by
  match vals,hat with
  |[],_=>exact⟨n,ρ,m,us,bl,ft.refl _ _ _ _,hb,hm,by simp,xg,ah⟩
 | .d x::r,s,n,us,bl,k,G,ρ,m,w,zs,vals,cm,hb,hm,aV,hz,hn,hat,xg,ah=>by
  match vals,hat with
  |v::vs,hat=>
   obtain⟨hv,hat⟩:=hat;have hv:v=x.val zs:=hv;simp only[c7,c3.bds]at hz hn;simp only[fq]at hn;obtain⟨i1,i2⟩:=BQ hz;rw[D.Nz]at i1 i2 hn;have hs:=D.RR (ρ:=ρ) (m:=m) (N:=n) (nb:=bl.length) x i1 aV (by omega);obtain⟨n',ae,m',pU,bF,g1,g2,g3,g4,g5,g6⟩:=alv (l:=r) (s:=s+x.num) (us:=us++[x.sym s]) (zs:=zs.drop x.num) (by simpa [c3.IE]using cm) hb hm (aV.drop x.num) i2 (by omega) hat (λu hu=>by
    rcases List.mem_append.1 hu with hu|hu
    ·exact xg u hu
    ·simp at hu;subst hu;exact hs.1) ah
   exact⟨n',ae,m',pU,bF,g1,g2,g3,by rw[g4,hQ,hv];simp[hs.2],g5,g6⟩
 | .rd _::_,_,_,_,_,_,_,_,_,_,_,_,cm,_,_,_,_,_,_,_,_=>by simp[c3.IE]at cm
 | .rX _ _::_,_,_,_,_,_,_,_,_,_,_,_,cm,_,_,_,_,_,_,_,_=>by simp[c3.IE]at cm
end
end Go.bX
namespace Go.bX
open M
theorem VS (x:Nat) (r:List Nat):lc (x::r)=2^x*(2*lc r+1):=rfl
theorem aH1 (x:Nat) (r:List Nat):lc r<=lc (x::r):=by
 rw[VS];have h1:1<=2^x:=Nat.one_le_two_pow;have h2:2*lc r+1<=2^x*(2*lc r+1):=Nat.le_mul_of_pos_left _ h1;omega
theorem art:∀(a:Nat) (l:List Nat),lc (l.drop a)<=lc l
 |0,l=>by simp
 |a+1,[]=>by simp
 |a+1,x::r=>by rw[List.drop_succ_cons];exact nJ (art a r) (aH1 x r)
theorem aru:∀(k:Nat) (l:List Nat),lc (l.take k)<=lc l
 |0,l=>by simp[lc]
 |k+1,[]=>by simp
 |k+1,x::r=>by
  rw[List.take_succ_cons,VS,VS];exact Sq _ (by have:=aru k r;omega)
theorem aha (l:List (List Int)) (a k:Nat):rc ((l.drop a).take k)<=rc l:=by
 unfold rc;rw[M0,M1]
 exact_mod_cast nJ (aru k _) (art a _)
theorem aXj (n:Nat):CP (Gy n)=n:=by
 unfold CP Gy;by_cases h:n% 2=0
 ·rw[if_pos h,if_pos (by omega)];omega
 ·rw[if_neg h,if_neg (by omega)];omega
theorem auC:∀(f n:Nat),0<n->n<=f->n=2^tw f n*(2*(n/2^tw f n/2)+1)
 |0,n,h,aP=>by omega
 |f+1,n,h,aP=>by
  unfold tw;by_cases hn:n% 2=0
  ·rw[if_pos hn];have ih:=auC f (n/2) (by omega) (by omega);have e:n/2^(tw f (n/2)+1)=n/2/2^tw f (n/2):=by rw[y1,xT,Sf]
   rw[e,y1,xT (2^_) 2,Yb,<-ih];omega
  ·rw[if_neg hn];simp;omega
theorem afJ:∀(f n:Nat),n<=f->lc (DW f n)=n
 |0,n,h=>by
  have:n=0:=by omega
  subst this;rfl
 |f+1,n,h=>by
  unfold DW;by_cases hn:n=0
  ·rw[if_pos hn,hn];rfl
  ·rw[if_neg hn,VS];have hp:0<2^tw n n:=CG _;have hd:n/2^tw n n/2<=f:=by
    have h1:n/2^tw n n<=n:=aWd _ _;omega
   rw[afJ f _ hd];exact(auC n n (by omega) (b1 _)).symm
theorem ag9 {z:Int} (h:0<=z):rc (af z)=z:=by
 unfold rc af;rw[lz];have e:((λrow:List Int=>lc (row.map CP))∘λn=>(DW n n).map Gy)=id:=by
  funext n
  simp only[Si,lz,id];have:(CP∘Gy)=id:=by funext k;exact aXj k
  rw[this,Sh,afJ n n (b1 _)]
 rw[e,Sh,afJ _ _ (b1 _)];omega
def p6:V->List Nat
 | .w (.one (.sl b _ _ _ _ _))=>[b]
 | .w (.one (.slc b _ _ _))=>[b]
 |_=>[]
def abx (cap e8:I):M Unit:=cond (I.beq cap e8) (pure ()) (hK 40 [cap,e8])
noncomputable def WK (sh:List a8) (bl:List aM) (v:V):M I:=
 match v with
 | .w (.one (.con (.slice none 0 0)))=>pure (.const 0)
 | .w (.one (.sl b bL o ro len cap))=>match bl[b]? with
  |some ([.rows gC off code e8 kind],_)=>cond (eC 0 kind&&sQ sh gC&&I.beq o off&&aU bL sh.length) (bind (hK 22 [code,ro,ro.add len]) λ_=>bind (abx cap e8) λ_=>gF 22 [code,ro,ro.add len] 0 cP) fail
  |_=>fail
 | .w (.one (.slc b off len cap))=>match yf bl b off (len*sh.length)with
  |some cs=>cond (qq sh&&cV len 1073741824&&cV len cap&&cV cap 0x7fffffffffffffff) (E1 sh (rA sh.length len cs) (.const 0)) fail
  |none=>match bl[b]? with
   |some ([.rows gC o code e8 kind],_)=>match e8.fk with
    |some Tq=>cond (eC 0 kind&&sQ sh gC&&I.beq o (.const 0)&&aU off 0&&cV len cap&&cV cap 0x7fffffffffffffff&&decide (0<=Tq)) (bind (hK 22 [code,.const 0,.const len]) λ_=>gF 22 [code,.const 0,.const len] 0 cP) fail
    |none=>fail
   |_=>fail
 |_=>fail
noncomputable def agD (sh:List a8) (e:bE) (bl:List aM) (v:V):M I:=
 match v with
 | .w (.one (.con (.slice none 0 0)))=>pure (.const 0)
 | .w (.one (.sl b bL o ro len cap))=>match bl[b]? with
  |some ([.rows gC off code e8 kind],t)=>cond (aU kind 2&&sQ sh gC&&I.beq o (.const 0)&&I.beq off (.const 0)&&I.beq ro (.const 0)&&I.beq cap e8&&aU bL sh.length&&aU t.1 e) (bind (hK 22 [code,.const 0,len]) λ_=>gF 22 [code,.const 0,len] 0 cP) fail
  |_=>fail
 | .w (.one (.slc b off len cap))=>match bl[b]? with
  |some (C,t)=>match yf bl b off (len*sh.length)with
   |some cs=>cond (qq sh&&cV len 1073741824&&cV len cap&&cV cap 0x7fffffffffffffff&&aU off 0&&aU C.length (cap*sh.length)&& !t.2&&aU t.1 e) (E1 sh (rA sh.length len cs) (.const 0)) fail
   |none=>fail
  |none=>fail
 |_=>fail
def yU:V->List Nat
 | .w (.one (.slc b _ _ _))=>[b]
 |_=>[]
def uX (w0:fg) (ρ:Env) (m:Nat->Nat) (bl:List aM) (bs os:List Nat) (g:Nat):Prop:=(∃b∈bs,m b=g/\∃p,bl[b]?=some p/\b2 ρ p.1≠0/\(cy p.1=true->b∈os))/\(w0.ex g∨w0.ro g∨w0.r.heap.size<=g)
section
variable {S:Nat->List Int->List Int->Prop} {L:V->Env->Prop} {n:Nat} {ρ:Env} {m:Nat->Nat} {bl:List aM} {gl:fK} {w0:fg} {P:cc} {w:aC}
theorem CW.mono {F ER:Nat->Prop} {sh:List a8} {rows:List (List Int)} {v:bf} (h:CW F w sh rows v) (hF:∀g,F g->ER g):CW ER w sh rows v:=by
 rcases h with h|⟨g,o,cap,cells,t,fz,h1,h2,h3,h4⟩
 ·exact .inl h
 ·exact .inr ⟨g,o,cap,cells,t,fz,h1,h2,hF g h3,h4⟩
theorem at2 {b off len:Nat} {C:List A} {t:bE×Bool} {cs:List A} {sh:List a8} {rows:List (List Int)} (hb:dr n bl.length ρ bl) (hw:Mem w0 ρ m bl w) (bd:bl[b]?=some (C,t)) (dS:yf bl b off (len*sh.length)=some cs)
 (lQ:∀row∈rows,cX sh row) (lP:ct sh rows=cs.map (A.den ρ m)):w0.b.heap.size<=m b/\(w0.ex (m b)∨w0.r.heap.size<=m b)/\∃cells:Array bf,w.heap[m b]?=some (.cells cells t.1 (0,0))/\pz cells off sh rows/\(t.2=false->cells.size=C.length):=by
 unfold yf at dS;rw[bd]at dS;simp only at dS;cases hc:(cV (off+len*sh.length) C.length&&cy C)with
 |false=>rw[hc]at dS;cases dS
 |true=>
  rw[hc]at dS;simp only[cond_true,bu]at dS;simp only[bI]at hc;have hle:=gq hc.1;obtain⟨g1,g2,r,hr,g3⟩:=hw.gP b C t bd hc.2;refine⟨g1,g2,_,g3,⟨lQ,(C.take off).map (A.den ρ m),((C.drop off).drop (len*sh.length)).map (A.den ρ m)++r,?_,by simp;omega⟩,λaB=>by rw[hr aB];simp⟩;rw[lP,<-dS];show C.map (A.den ρ m)++r=_;have e:C=C.take off++((C.drop off).take (len*sh.length)++(C.drop off).drop (len*sh.length)):=by rw[nI,nI]
  conv=>lhs;rw[e]
  simp only[hQ,fS]
theorem RA:af ((I.const 0).den ρ)=[]:=by rw[I.bC];exact j2
theorem zc:(0:Int)<=cP:=y3 (kh []) (u1 (l:=[]) (by simp) (by simp))
theorem at1 {sh:List a8} {len:Nat} {cs:List A} (mc:qq sh=true) (hl:len<=1073741824) (cm:∀a∈cs,A.ok n bl.length ρ a) (lF:cs.length=len*sh.length):
 aE S L (E1 sh (rA sh.length len cs) (.const 0)) n ρ λae n' l=>l.bU n'/\(0<=l.den ae/\l.den ae<=cP)/\(af (l.den ae)).length=len/\(∀row∈af (l.den ae),cX sh row)/\ct sh (af (l.den ae))=cs.map (A.den ρ m):=by
 have nU:=NZ (w:=sh.length) (k:=len) lF;refine(Nx (nb:=bl.length) (m:=m) mc (rs:=rA sh.length len cs) (c:= .const 0) (λrow hr a ha=>cm a (N0 row hr a ha)) (I.dX _ _) (by rw[I.bC];exact⟨cn _,zc⟩) (by rw[RA];intro _ h;simp at h) (by rw[RA,nU.1];simpa using hl)).mono λa6 bh l hn ha ⟨bw,bz,e2,cY,fa,fv,hB⟩=>?_;rw[RA,eQ]at cY;rw[cY];exact⟨bw,bz,by rw[fa,nU.1],fv,by rw[hB,nU.2]⟩
theorem aAc {cap e8:I} {α:Type} {x:M α} {R:Env->Nat->α->Prop} (h:(0<=cap.den ρ->0<=e8.den ρ)->aE S L x n ρ R):aE S L (bind (abx cap e8) λ_=>x) n ρ R:=by
 unfold abx;cases hc:I.beq cap e8 with
 |true=>exact h (by rw[I.beq_eq hc];exact id)
 |false=>exact kb h
theorem as2 {sh:List a8} {v:V} {X:bf} (hb:dr n bl.length ρ bl) (hw:Mem w0 ρ m bl w) (hv:v.ok n bl.length ρ) (cb:v.rel ρ m X):
 aE S L (WK sh bl v) n ρ λae n' l=>l.bU n'/\(0<=l.den ae/\l.den ae<=cP)/\CW (uX w0 ρ m bl (p6 v) (yU v)) w sh (af (l.den ae)) X:=by
 unfold WK;split
 ·refine aE.pure ⟨I.dX _ _,by rw[I.bC];exact⟨cn _,zc⟩,.inl ⟨cb,RA⟩⟩
 ·rename_i b bL o ro len cap;split
  ·rename_i gC off code e8 kind t bd;refine fe λhc=>kb λag=>?_;simp only[bI]at hc;obtain⟨⟨⟨c1,bQ⟩,cD⟩,dq⟩:=hc;have c1:0<kind:=gq c1;have bQ:=Ek bQ;have cD:=I.beq_eq cD;have dq:=b8 dq
   subst bQ;subst cD;subst dq;simp only[df,gr,aj,I.den_add]at ag;have Pt:(A.sl b sh.length o ro len cap).ok n bl.length ρ:=hv;obtain⟨ptr,av,aH,ca⟩:=xI (m:=m) Pt;have cb:X=(A.sl b sh.length o ro len cap).den ρ m:=cb;obtain⟨ak,⟨ai,aw,dk,jz⟩,⟨jR,lW,mW,mX⟩,⟨nE,mP⟩,ik,ki⟩:=Pt;have gG:(A.rows sh o code e8 kind).ok n bl.length ρ:=hb _ (fw bd) _ (by simp);have hf:cu 22 ([code,ro,ro.add len].map (·.den ρ))=rc (((af (code.den ρ)).drop (ro.den ρ).toNat).take (len.den ρ).toNat):=by
    simp only[df,gr,cu,I.den_add]
    congr 2;omega
   have fW:rc (((af (code.den ρ)).drop (ro.den ρ).toNat).take (len.den ρ).toNat)<=cP:=by
    have h1:=aha (af (code.den ρ)) (ro.den ρ).toNat (len.den ρ).toNat;rw[ag9 gG.2.1.1]at h1;exact y3 h1 gG.2.1.2
   refine aAc λDj=>?_;refine(iR (by rw[hf];exact kh _) (by rw[hf];exact fW)).mono λa6 bh l hn ha ⟨k1,k2⟩=>?_;rw[hf]at k2;refine⟨k1,by rw[k2];exact⟨kh _,fW⟩,?_⟩;rw[k2,jO];have hlen:(((af (code.den ρ)).drop (ro.den ρ).toNat).take (len.den ρ).toNat).length=(len.den ρ).toNat:=by simp;omega
   rcases mw (cap.den ρ) 0 with dR|dR
   ·left
    have:=ik dR;refine⟨by rw[cb,av,aH dR,if_pos dR,this];rfl,by rw[this];simp⟩
   ·right
    clear fW;rcases mw (e8.den ρ) 0 with ye|ye
    ·have:=Dj dR;omega
    ·obtain⟨eu,cells,lM,fz,aQ,⟨bn,cj⟩,_⟩:=(hw.rws b sh o code e8 kind t bd (by omega)).2 ye;refine⟨m b,(o.den ρ).toNat+(ro.den ρ).toNat*sh.length,(cap.den ρ).toNat,cells,lM,fz,?_,⟨by rw[hlen];have:=ki dR;omega,by omega⟩,⟨⟨b,by simp[p6],rfl,_,bd,by rw[vF (by omega) ye];omega,λh=>by cases h⟩,eu⟩,aQ,?_⟩
     ·rw[cb,av,ca dR,hlen,if_neg (by omega)]
     ·exact cj.sub _ _ (by omega)
  ·exact aE.fail
 ·rename_i b off len cap;split
  ·rename_i cs dS;refine fe λhc=>?_;simp only[bI]at hc;obtain⟨⟨⟨c1,bQ⟩,cD⟩,dq⟩:=hc;have bQ:=gq bQ;have cD:=gq cD;have dq:=gq dq
   obtain⟨d1,d2,d3⟩:=K4 hw hb dS;refine(at1 (m:=m) c1 bQ d2 d1).mono λa6 bh l hn ha ⟨k1,k2,k3,k4,te⟩=>⟨k1,k2,.inr ?_⟩;have cb:X= .slice (some ⟨m b,off,none⟩) len cap:=cb;cases bd:bl[b]? with
   |none=>unfold yf at dS;rw[bd]at dS;cases dS
   |some q=>
    obtain⟨C,t⟩:=q;obtain⟨g1,g2,cells,g3,g4,_⟩:=at2 hb hw bd dS k4 te;have o2:cy C=true:=by
     unfold yf at dS;rw[bd]at dS;simp only at dS;cases hc:(cV (off+len*sh.length) C.length&&cy C)with
     |false=>rw[hc]at dS;cases dS
     |true=>simp only[bI]at hc;exact hc.2
    exact⟨m b,off,cap,cells,t.1,(0,0),by rw[cb,k3],⟨by omega,by omega⟩,⟨⟨b,by simp[p6],rfl,_,bd,by rw[n5 o2];decide,λ_=>by simp[yU]⟩,g2.elim .inl λh=> .inr (.inr h)⟩,g3,g4⟩
  ·split
   ·rename_i gC o code e8 kind t bd;cases Dj:e8.fk with
    |none=>exact aE.fail
    |some Tq=>
     refine fe λhc=>kb λag=>?_;simp only[bI,decide_eq_true_eq]at hc;obtain⟨⟨⟨⟨⟨⟨c1,bQ⟩,cD⟩,dq⟩,fM⟩,hI⟩,oU⟩:=hc;have c1:0<kind:=gq c1;have bQ:=Ek bQ;have cD:=I.beq_eq cD;have dq:=b8 dq
     have fM:=gq fM;have hI:=gq hI
     subst bQ;subst cD;subst dq;simp only[df,gr,aj,I.bC]at ag;have cb:X= .slice (some ⟨m b,0,none⟩) len cap:=cb;have gG:(A.rows sh (.const 0) code e8 kind).ok n bl.length ρ:=hb _ (fw bd) _ (by simp);have hf:cu 22 ([code,.const 0,.const (len:Int)].map (·.den ρ))=rc ((af (code.den ρ)).take len):=by
      simp only[df,gr,cu,I.bC];simp
     have fW:rc ((af (code.den ρ)).take len)<=cP:=by
      have h1:=aha (af (code.den ρ)) 0 len;rw[ag9 gG.2.1.1,jA]at h1;exact y3 h1 gG.2.1.2
     refine(iR (by rw[hf];exact kh _) (by rw[hf];exact fW)).mono λa6 bh l hn ha ⟨k1,k2⟩=>?_;rw[hf]at k2;refine⟨k1,by rw[k2];exact⟨kh _,fW⟩,?_⟩;rw[k2,jO];have hlen:((af (code.den ρ)).take len).length=len:=by simp;omega
     have ye:0<=e8.den ρ:=by rw[I.ll Dj];exact oU
     obtain⟨eu,cells,lM,fz,aQ,⟨bn,cj⟩,_⟩:=(hw.rws b sh (.const 0) code e8 kind t bd (by omega)).2 ye;have dU:=cj.sub 0 len (by omega);rw[jA]at dU;refine .inr ⟨m b,0,cap,cells,lM,fz,by rw[cb,hlen],⟨by omega,by omega⟩,⟨⟨b,by simp[p6],rfl,_,bd,by rw[vF (by omega) ye];omega,λh=>by cases h⟩,eu⟩,aQ,?_⟩;simpa [I.bC]using dU
   ·exact aE.fail
 ·exact aE.fail
theorem aLN {sh:List a8} {e:bE} {v:V} {X:bf} (hex:∀g,¬w0.ex g) (hb:dr n bl.length ρ bl) (hw:Mem w0 ρ m bl w) (hv:v.ok n bl.length ρ) (cb:v.rel ρ m X):
 aE S L (agD sh e bl v) n ρ λae n' l=>l.bU n'/\(0<=l.den ae/\l.den ae<=cP)/\Ha (λg=>w0.r.heap.size<=g) w sh e (af (l.den ae)) X:=by
 unfold agD;split
 ·refine aE.pure ⟨I.dX _ _,by rw[I.bC];exact⟨cn _,zc⟩,.inl ⟨cb,RA⟩⟩
 ·rename_i b bL o ro len cap;split
  ·rename_i gC off code e8 kind t bd;refine fe λhc=>kb λag=>?_;simp only[bI]at hc;obtain⟨⟨⟨⟨⟨⟨⟨c1,bQ⟩,cD⟩,NK⟩,abp⟩,hI⟩,dq⟩,fM⟩:=hc;have c1:=b8 c1;have bQ:=Ek bQ;have cD:=I.beq_eq cD;have NK:=I.beq_eq NK;have abp:=I.beq_eq abp;have hI:=I.beq_eq hI;have dq:=b8 dq;have fM:=b8 fM
   subst bQ;subst cD;subst dq;subst NK;subst abp;subst hI;subst fM;subst c1;simp only[df,gr,aj,I.bC]at ag;have Pt:(A.sl b sh.length (.const 0) (.const 0) len cap).ok n bl.length ρ:=hv;obtain⟨ptr,av,aH,ca⟩:=xI (m:=m) Pt;have cb:X=(A.sl b sh.length (.const 0) (.const 0) len cap).den ρ m:=cb;obtain⟨ak,⟨ai,aw,dk,jz⟩,⟨jR,lW,mW,mX⟩,⟨nE,mP⟩,ik,ki⟩:=Pt;rw[I.bC]at mP;have gG:(A.rows sh (.const 0) code cap 2).ok n bl.length ρ:=hb _ (fw bd) _ (by simp);have hf:cu 22 ([code,.const 0,len].map (·.den ρ))=rc (((af (code.den ρ)).drop 0).take (len.den ρ).toNat):=by
    simp only[df,gr,cu,I.bC]
    congr 2
   have fW:rc (((af (code.den ρ)).drop 0).take (len.den ρ).toNat)<=cP:=by
    have h1:=aha (af (code.den ρ)) 0 (len.den ρ).toNat;rw[ag9 gG.2.1.1]at h1;exact y3 h1 gG.2.1.2
   refine(iR (by rw[hf];exact kh _) (by rw[hf];exact fW)).mono λa6 bh l hn ha ⟨k1,k2⟩=>?_;rw[hf]at k2;refine⟨k1,by rw[k2];exact⟨kh _,fW⟩,?_⟩;rw[k2,jO];have hlen:(((af (code.den ρ)).drop 0).take (len.den ρ).toNat).length=(len.den ρ).toNat:=by simp;omega
   rcases mw (cap.den ρ) 0 with dR|dR
   ·left
    have:=ik dR;refine⟨by rw[cb,av,aH dR,if_pos dR,this];rfl,by rw[this];simp⟩
   ·right
    clear fW;obtain⟨eu,cells,lM,fz,aQ,⟨bn,cj⟩,dU⟩:=(hw.rws b sh (.const 0) code cap 2 t bd (by omega)).2 dR;obtain⟨p0,bw,bz,cY,fa,fv⟩:=dU (by omega);have bz:=bz.two;subst p0;subst bz;rw[I.bC]at cj;refine⟨m b,(cap.den ρ).toNat,cells,?_,⟨by rw[hlen];have:=ki dR;omega,by omega⟩,fv.elim (λh=>absurd h (hex _)) id,aQ,?_,cY⟩
    ·rw[cb,av,ca dR,hlen,if_neg (by omega)];simp[I.bC]
    ·have:=cj.sub 0 (len.den ρ).toNat (by omega);simpa using this
  ·exact aE.fail
 ·rename_i b off len cap;split
  ·rename_i C t bd;split
   ·rename_i cs dS;refine fe λhc=>?_;simp only[bI]at hc;obtain⟨⟨⟨⟨⟨⟨⟨c1,bQ⟩,cD⟩,dq⟩,fM⟩,hI⟩,oU⟩,nO⟩:=hc;have bQ:=gq bQ;have cD:=gq cD;have dq:=gq dq
    have fM:=b8 fM;have hI:=b8 hI;have nO:=b8 nO
    subst fM;subst nO;obtain⟨d1,d2,d3⟩:=K4 hw hb dS;refine(at1 (m:=m) c1 bQ d2 d1).mono λa6 bh l hn ha ⟨k1,k2,k3,k4,te⟩=>⟨k1,k2,.inr ?_⟩;have cb:X= .slice (some ⟨m b,0,none⟩) len cap:=cb;obtain⟨g1,g2,cells,g3,g4,g5⟩:=at2 hb hw bd dS k4 te;exact⟨m b,cap,cells,by rw[cb,k3],⟨by omega,by omega⟩,g2.elim (λh=>absurd h (hex _)) id,g3,g4,by rw[g5 (by simpa using oU),hI]⟩
   ·exact aE.fail
  ·exact aE.fail
 ·exact aE.fail
end
def acC (d:D) (v:V):M (List I):=
 match d,v with
 | .bool,.w (.one (.bool e))=>match e with
  | .lit v=>pure [.const (cond v 1 0)]
  |e=>bind (IB e) λl=>pure [l]
 | .int k lo hi,.w (.one (.int bJ x))=>cond (decide (k=bJ)) (cond (tU lo hi x) (pure [x.l]) (bind (hK 39 [x.l,.const lo,.const hi]) λ_=>pure [x.l])) fail
 | .mix l,.w (.agg s)=>Ei l s
 | .str,.w (.one (.str l))=>pure [l]
 | .AJ l,.w (.one (.str x))=>match x.fk with|some c=>cond (decide (c=k5 (yq l))) (pure []) fail|none=>fail
 | .kF k c,.w (.one (.int bJ x))=>match x.l.fk with|some d=>cond (decide (k=bJ)&&decide (d=c)) (pure []) fail|none=>fail
 | .agg k n lo hi,.w (.agg l)=>cond (aU l.length n) (match oW k lo hi l with|some r=>pure r|none=>fail) fail
 |_,_=>fail
noncomputable def HN (bl:List aM):List c3->List V->M (List I)
 |[],[]=>pure []
 | .d x::r,v::s=>bind (acC x v) λa=>bind (HN bl r s) λb=>pure (a++b)
 | .rd sh::r,v::s=>bind (WK sh bl v) λa=>bind (HN bl r s) λb=>pure (a::b)
 |_,_=>fail
section
variable {S:Nat->List Int->List Int->Prop} {L:V->Env->Prop} {w0:fg} {P:cc} {w:aC}
theorem ahh:∀{sh:List a8} {zs:List Int},cX sh zs->ay (sh.map a8.gu) zs/\tG a8.val sh zs=eA sh zs
 |[],[],_=>⟨trivial,rfl⟩
 |c::sh,z::zs,h=>⟨⟨h.1.1,h.1.2,(ahh h.2).1⟩,by simp[eA,(ahh h.2).2]⟩
 |[],_::_,h=>h.elim
 |_::_,[],h=>h.elim
theorem aBw {d:D} {v:V} {X:bf} {n nb:Nat} {ρ:Env} {m:Nat->Nat} (hv:v.ok n nb ρ) (cb:v.rel ρ m X):aE S L (acC d v) n ρ λae n' ls=>(∀x∈ls,I.bU n' x)/\ay d.bds (ls.map (·.den ae))/\X=d.val (ls.map (·.den ae)):=by
 unfold acC;split
 ·rename_i e;have cb:X= .bool (e.den ρ):=cb;have key:aE S L (bind (IB e) λl=>pure [l]) n ρ λae n' ls=>(∀x∈ls,I.bU n' x)/\ay D.bool.bds (ls.map (·.den ae))/\X=D.bool.val (ls.map (·.den ae)):=
   UW.bind λa6 bh l hn ha ⟨g1,g2,g3⟩=>aE.pure ⟨λx hx=>by simp at hx;subst hx;exact g1,⟨g2.1,g2.2,trivial⟩,by rw[cb,g3];rfl⟩
  cases e with
  |lit b=>
   refine aE.pure ⟨λx hx=>by simp at hx;subst hx;exact I.dX _ _,?_,?_⟩
   ·simp only[df,gr,I.bC,D.bds];cases b<;>exact⟨by decide,by decide,trivial⟩
   ·rw[cb];simp only[df,gr,I.bC];cases b<;>rfl
  |_=>exact key
 ·rename_i k lo hi bJ x;refine fe λag=>?_;have ag:k=bJ:=by simpa using ag
  subst ag;have hv:x.ok n ρ:=hv;have cb:X= .int k (x.l.den ρ):=cb;cases hf:tU lo hi x with
  |true=>
   have:=On hf hv;exact aE.pure ⟨λy hy=>by simp at hy;subst hy;exact hv.1,⟨this.1,this.2,trivial⟩,cb⟩
  |false=>
   refine kb λag=>aE.pure ?_;simp only[df,gr,aj,I.bC]at ag;exact⟨λy hy=>by simp at hy;subst hy;exact hv.1,⟨ag.1,ag.2,trivial⟩,cb⟩
 ·rename_i l s;have cb:X= .agg (s.map (A.den ρ m)).toArray:=cb;refine(Mn (nb:=nb) (m:=m) hv).mono λa6 bh ls hn ha ⟨g1,g2,g3⟩=>?_;have:=ahh g2;refine⟨g1,this.1,?_⟩;rw[cb,<-g3];simp only[D.val,this.2]
 ·rename_i l;have cb:X= .string (eS (bD (l.den ρ))):=cb;have hv:l.bU n/\0<=l.den ρ/\l.den ρ<=p3:=hv;exact aE.pure ⟨λy hy=>by simp at hy;subst hy;exact hv.1,⟨hv.2.1,hv.2.2,trivial⟩,cb⟩
 ·rename_i l x;have cb:X= .string (eS (bD (x.den ρ))):=cb;cases hc:x.fk with
  |none=>exact aE.fail
  |some c=>
   refine fe λhd=>aE.pure ⟨λy hy=>by simp at hy,trivial,?_⟩;rw[cb,auf (n:=n) hc (by simpa using hd)];rfl
 ·rename_i k c bJ x;have cb:X= .int bJ (x.l.den ρ):=cb;cases hc:x.l.fk with
  |none=>exact aE.fail
  |some d=>
   refine fe λhd=>aE.pure ⟨λy hy=>by simp at hy,trivial,?_⟩;simp only[bI,decide_eq_true_eq]at hd;rw[cb,I.ll hc,<-hd.1,hd.2];rfl
 ·rename_i k n' lo hi l;refine fe λag=>?_;have ag:=b8 ag;have cb:X= .agg (l.map (A.den ρ m)).toArray:=cb;cases hf:oW k lo hi l with
  |none=>exact aE.fail
  |some r=>
   obtain⟨g1,g2,g3⟩:=T4 (m:=m) hf hv;rw[ag]at g2;refine aE.pure ⟨acA hf hv,g2,?_⟩;rw[cb,g3];simp only[D.val];rw[mu (by simp[g1,ag])]
 ·exact aE.fail
theorem arZ {n:Nat} {ρ ae:Env} {ls:List I} (h:∀x∈ls,I.bU n x) (ha:agree n ρ ae):ls.map (·.den ae)=ls.map (·.den ρ):=j5 λx hx=>I.cq ha (h x hx)
theorem uX.later {n nb:Nat} {ρ ae:Env} {m:Nat->Nat} {bl:List aM} {bs os:List Nat} {g:Nat} (hb:dr n nb ρ bl) (ha:agree n ρ ae) (h:uX w0 ae m bl bs os g):uX w0 ρ m bl bs os g:=by
 obtain⟨⟨b,h1,h2,p,h3,h4,h6⟩,h5⟩:=h;exact⟨⟨b,h1,h2,p,h3,by rw[<-yt (hb p (fw h3)) ha];exact h4,h6⟩,h5⟩
theorem T5 {bl:List aM} {m:Nat->Nat}:∀{ds:List c3} {vs:List V} {xs:List bf} {n:Nat} {ρ:Env},dr n bl.length ρ bl->Mem w0 ρ m bl w->(∀v∈vs,V.ok n bl.length ρ v)->fN ρ m vs xs->
 aE S L (HN bl ds vs) n ρ λae n' ls=>(∀x∈ls,I.bU n' x)/\ay (c7 ds) (ls.map (·.den ae))/\∀F:Nat->Prop,(∀g,uX w0 ρ m bl (vs.flatMap p6) (vs.flatMap yU) g->F g)->m7 F (λ_=>False) w ds (ls.map (·.den ae)) xs
 |[],[],[],n,ρ,_,_,_,_=>aE.pure ⟨λ_ h=>by simp at h,trivial,λ_ _=>trivial⟩
 | .d x::r,v::s,X::xs,n,ρ,hb,hw,hv,hr=>by
  unfold HN;refine(aBw (hv v (by simp)) hr.1).bind λa6 bh a hn ha ⟨g1,g2,g3⟩=>?_;refine(T5 (ds:=r) (vs:=s) (xs:=xs) (hb.ext ha hn (b1 _)) (hw.sP hb ha) (λu hu=>(hv u (e5 _ hu)).ext ha hn (b1 _)) (fN.later (λu hu=>hv u (e5 _ hu)) ha hr.2)).bind λcd fF b fX eI ⟨k1,k2,k3⟩=>aE.pure ⟨λy hy=>?_,?_,λF hF=>?_⟩
  ·rcases List.mem_append.1 hy with hy|hy
   ·exact(g1 y hy).mono fX
   ·exact k1 y hy
  ·rw[hQ,arZ g1 eI];exact oC g2 k2
  ·have hl:(a.map (·.den a6)).length=x.num:=by rw[dj g2,D.Nz]
   rw[hQ,arZ g1 eI];refine⟨?_,?_⟩
   ·show X=x.val _;rw[D.auX x hl];exact g3
   ·show m7 F _ w r (List.drop x.num _) xs;rw[<-hl,GX];exact k3 F λg hg=>hF g (by
     have:=uX.later hb ha hg;obtain⟨⟨b',h1,h2,p,h4,h5,h6⟩,h3⟩:=this;exact⟨⟨b',by simp only[wH,y7];exact .inr h1,h2,p,h4,h5,λh=>by simp only[wH,y7];exact .inr (h6 h)⟩,h3⟩)
 | .rd sh::r,v::s,X::xs,n,ρ,hb,hw,hv,hr=>by
  unfold HN;refine(as2 hb hw (hv v (by simp)) hr.1).bind λa6 bh a hn ha ⟨g1,g2,g3⟩=>?_;refine(T5 (ds:=r) (vs:=s) (xs:=xs) (hb.ext ha hn (b1 _)) (hw.sP hb ha) (λu hu=>(hv u (e5 _ hu)).ext ha hn (b1 _)) (fN.later (λu hu=>hv u (e5 _ hu)) ha hr.2)).bind λcd fF b fX eI ⟨k1,k2,k3⟩=>aE.pure ⟨λy hy=>?_,?_,λF hF=>?_⟩
  ·rcases List.mem_cons.1 hy with rfl|hy
   ·exact g1.mono fX
   ·exact k1 y hy
  ·simp only[df,I.cq eI g1];exact⟨g2.1,g2.2,k2⟩
  ·simp only[df,I.cq eI g1];refine⟨?_,?_⟩
   ·show CW F w sh (af _) X;exact g3.mono λg hg=>hF g (by
     obtain⟨⟨b',h1,h2,p,h4,h5,h6⟩,h3⟩:=hg;exact⟨⟨b',by simp only[wH,y7];exact .inl h1,h2,p,h4,h5,λh=>by simp only[wH,y7];exact .inl (h6 h)⟩,h3⟩)
   ·exact k3 F λg hg=>hF g (by
     have:=uX.later hb ha hg;obtain⟨⟨b',h1,h2,p,h4,h5,h6⟩,h3⟩:=this;exact⟨⟨b',by simp only[wH,y7];exact .inr h1,h2,p,h4,h5,λh=>by simp only[wH,y7];exact .inr (h6 h)⟩,h3⟩)
 |[],_::_,_,_,_,_,_,_,_=>aE.fail
 | .d _::_,[],_,_,_,_,_,_,_=>aE.fail
 | .rd _::_,[],_,_,_,_,_,_,_=>aE.fail
 | .rX _ _::_,[],_,_,_,_,_,_,_=>aE.fail
 | .rX _ _::_,_::_,_,_,_,_,_,_,_=>aE.fail
 |_,[],_::_,_,_,_,_,_,hr=>hr.elim
 |_,_::_,[],_,_,_,_,_,hr=>hr.elim
where
 fN.later {n nb:Nat} {ρ ae:Env} {m:Nat->Nat}:∀{vs:List V} {xs:List bf},(∀v∈vs,V.ok n nb ρ v)->agree n ρ ae->fN ρ m vs xs->fN ae m vs xs
 |[],[],_,_,_=>trivial
 |v::vs,x::xs,hv,ha,hr=>⟨V.rel.ext hr.1 (hv v (by simp)) ha (λ_ _=>rfl),fN.later (λu hu=>hv u (e5 _ hu)) ha hr.2⟩
 |[],_::_,_,_,hr=>hr.elim
 |_::_,[],_,_,hr=>hr.elim
end
end Go.bX
namespace Go.bX
open M
def Fm:List Nat->List aM->List aM
 |[],bl=>bl
 |b::r,bl=>match bl[b]? with
  |some ([.rows sh off code cap (k+1)],t)=>Fm r (eP bl b ([.rows sh off code cap 1],t))
  |_=>Fm r bl
def Gn (us:List W):V:=match us with|[u]=> .w u|l=> .jQ l
def B2:List V->Bool
 |[]=>true
 | .w (.one (.slc ..))::_=>false
 |_::r=>B2 r
noncomputable def eG.Nd (c:eG) (n:Nat) (vs:List V) (bl:List aM) (k:RK):T:=HN bl c.args vs n λls bh=>cond (sW c.res&&(!(c.res.any c3.rJ)||B2 vs)) (agO c.pre ls (.call c.id ls bh (c7 c.res) (zl c.res bh (bh+(c7 c.res).length) [] (cond (c.res.any c3.rJ) (Fm (vs.flatMap p6) bl) bl) λfF us sq=>k fF (Gn us) sq))) .stuck
def awD (sh:List a8) (b:Nat):V:= .w (.one (.sl b sh.length (.const 0) (.const 0) (.const 0) (.const 0)))
def aiV (rd:Bool) (sh:List a8) (b:Nat) (bl:List aM):Option (List aM):=
 match bl[b]? with
 |some ([],(t,false))=>cond rd (some (eP bl b ([.rows sh (.const 0) (.const 0) (.const 0) 1],(t,false)))) none
 |some ([.rows gC off code cap kind],t)=>cond (sQ sh gC&&I.beq off (.const 0)&&I.beq cap (.const 0)&&eC 0 kind) (some bl) none
 |_=>none
def oQ (rd:Bool):List c3->List V->List aM->List V×List aM
 | .rd sh::r,v::s,bl=>match v with
  | .w (.one (.slc b 0 0 0))=>match aiV rd sh b bl with
   |some tP=>(awD sh b::(oQ rd r s tP).1,(oQ rd r s tP).2)
   |none=>(v::(oQ rd r s bl).1,(oQ rd r s bl).2)
  |_=>(v::(oQ rd r s bl).1,(oQ rd r s bl).2)
 |_::r,v::s,bl=>(v::(oQ rd r s bl).1,(oQ rd r s bl).2)
 |_,vs,bl=>(vs,bl)
noncomputable def eG.E (c:eG) (n:Nat) (vs:List V) (bl:List aM) (k:RK):T:=c.Nd n (oQ (c.res.any c3.rJ) c.args vs bl).1 (oQ (c.res.any c3.rJ) c.args vs bl).2 k
section
variable {S:Nat->List Int->List Int->Prop} {L:V->Env->Prop} {w0:fg} {P:cc}
theorem Mem.zero {ρ:Env} {m:Nat->Nat} {bl:List aM} {w:aC} {b:Nat} {sh:List a8} {t:bE} (h:Mem w0 ρ m bl w) (bd:bl[b]?=some ([],(t,false))):Mem w0 ρ m (eP bl b ([.rows sh (.const 0) (.const 0) (.const 0) 1],(t,false))) w:=by
 have tX:b<bl.length:=(List.getElem?_eq_some_iff.1 bd).1;obtain⟨aQ,bn,r,hr,cj⟩:=h.gP b [] (t,false) bd rfl;have hr:=hr rfl;subst hr;have eZ:∀(i:Nat) (p:aM),(eP bl b ([.rows sh (.const 0) (.const 0) (.const 0) 1],(t,false)))[i]?=some p->(i=b/\p=([.rows sh (.const 0) (.const 0) (.const 0) 1],(t,false)))∨(i≠b/\bl[i]?=some p):=λi p hi=>by
  rw[mK,wF]at hi;split at hi
  ·rename_i iT;subst iT;simp only[tX,if_true,bu]at hi;exact .inl ⟨rfl,hi.symm⟩
  ·rename_i iT;exact .inr ⟨λe=>iT e.symm,hi⟩
 have hold:b2 ρ ([]:List A)=2:=n5 rfl;refine⟨h.ext,h.kE,h.mE,h.lq,h.ia,h.kp,λi lD t' hi kT=>?_,λi gC ld code' k6 sH t' hi=>?_,λi j p q hi aR he=>?_⟩
 ·rcases eZ i _ hi with⟨rfl,eT⟩|⟨dE,hi⟩
  ·cases eT;cases kT
  ·exact h.gP i lD t' hi kT
 ·rcases eZ i _ hi with⟨rfl,eT⟩|⟨dE,hi⟩
  ·cases eT;intro _;simp only[I.bC];exact⟨λh0=>by omega,λ_=>⟨bn.elim .inl λh=> .inr (.inr h),_,_,_,cj,⟨cn _,by rw[j2];intro _ h;simp at h,[],[],by simp[j2,ct],rfl⟩,λcC=>by omega⟩⟩
  ·exact h.rws i gC ld _ k6 sH t' hi
 ·rcases eZ i _ hi with⟨rfl,eT⟩|⟨dE,qN⟩
  ·rcases eZ j _ aR with⟨rfl,yg⟩|⟨aE8,aR⟩
   ·exact .inl rfl
   ·rcases h.inj i j _ q bd aR he with h1|h1|h1|h1
    ·exact .inl h1
    ·simp only[hold]at h1;omega
    ·simp only[hold]at h1;omega
    ·exact .inr (.inr (.inr h1))
  ·rcases eZ j _ aR with⟨H9,yg⟩|⟨aE8,aR⟩
   ·subst H9;rcases h.inj i j p _ qN bd he with h1|h1|h1|h1
    ·exact .inl h1
    ·simp only[hold]at h1;omega
    ·exact .inr (.inr (.inl h1))
    ·simp only[hold]at h1;omega
   ·exact h.inj i j p q qN aR he
theorem aV1 {n:Nat} {ρ:Env} {m:Nat->Nat} {w:aC} {rd:Bool} {sh:List a8} {b:Nat} {bl tP:List aM} (h:aiV rd sh b bl=some tP) (hm:Mem w0 ρ m bl w) (hb:dr n bl.length ρ bl):Mem w0 ρ m tP w/\dr n tP.length ρ tP/\tP.length=bl.length/\b<bl.length:=by
 unfold aiV at h;split at h
 ·rename_i t bd;cases rd with
  |false=>cases h
  |true=>
   simp only[cond_true,bu]at h;subst h;refine⟨hm.zero bd,hb.set (λa ha=>?_),lL _ _ _,(List.getElem?_eq_some_iff.1 bd).1⟩;have ha:a= .rows sh (.const 0) (.const 0) (.const 0) 1:=by simpa using ha
   subst ha;refine⟨⟨I.dX _ _,I.dX _ _,I.dX _ _⟩,?_,?_⟩
   ·simp only[I.bC];exact⟨cn _,zc⟩
   ·simp only[I.bC];omega
 ·rename_i gC off code cap kind t bd;cases hc:(sQ sh gC&&I.beq off (.const 0)&&I.beq cap (.const 0)&&eC 0 kind)with
  |false=>rw[hc]at h;cases h
  |true=>
   rw[hc]at h;simp only[cond_true,bu]at h;subst h;exact⟨hm,hb,rfl,(List.getElem?_eq_some_iff.1 bd).1⟩
 ·cases h
theorem aiW {n:Nat} {ρ:Env} {m:Nat->Nat} {w:aC} {rd:Bool}:∀{ds:List c3} {vs:List V} {bl:List aM} {xs:List bf},Mem w0 ρ m bl w->dr n bl.length ρ bl->(∀v∈vs,V.ok n bl.length ρ v)->fN ρ m vs xs->
 Mem w0 ρ m (oQ rd ds vs bl).2 w/\dr n (oQ rd ds vs bl).2.length ρ (oQ rd ds vs bl).2/\(oQ rd ds vs bl).2.length=bl.length/\(∀v∈(oQ rd ds vs bl).1,V.ok n bl.length ρ v)/\fN ρ m (oQ rd ds vs bl).1 xs
 |[],vs,bl,xs,hm,hb,hv,hr=>⟨hm,hb,rfl,hv,hr⟩
 |d::r,[],bl,xs,hm,hb,hv,hr=>by
  cases d<;>exact⟨hm,hb,rfl,hv,hr⟩
 |d::r,v::s,bl,xs,hm,hb,hv,hr=>by
  match xs,hr with
  |x::xs,hr=>
  have hL:Mem w0 ρ m (oQ rd r s bl).2 w/\dr n (oQ rd r s bl).2.length ρ (oQ rd r s bl).2/\(oQ rd r s bl).2.length=bl.length/\(∀u∈(v::(oQ rd r s bl).1),V.ok n bl.length ρ u)/\fN ρ m (v::(oQ rd r s bl).1) (x::xs):=by
   obtain⟨g1,g2,g3,g4,g5⟩:=aiW (rd:=rd) (ds:=r) (vs:=s) hm hb (λu hu=>hv u (e5 _ hu)) hr.2;exact⟨g1,g2,g3,λu hu=>by
    rcases List.mem_cons.1 hu with rfl|hu
    ·exact hv u (by simp)
    ·exact g4 u hu,hr.1,g5⟩
  cases d with
  |d y=>exact hL
  |rX sh e=>exact hL
  |rd sh=>
   unfold oQ;split
   ·rename_i b _;split
    ·rename_i tP hz;obtain⟨aQ,bn,cj,dU⟩:=aV1 hz hm hb;obtain⟨g1,g2,g3,g4,g5⟩:=aiW (rd:=rd) (ds:=r) (vs:=s) aQ bn (λu hu=>by rw[cj];exact hv u (e5 _ hu)) hr.2;refine⟨g1,g2,by rw[g3,cj],λu hu=>?_,?_,g5⟩
     ·rcases List.mem_cons.1 hu with rfl|hu
      ·refine⟨dU,⟨I.dX _ _,I.dX _ _,I.dX _ _,I.dX _ _⟩,?_⟩;simp only[I.bC];exact⟨⟨by omega,by omega,by omega,by omega⟩,⟨by omega,by omega⟩,λh=>by omega,λ_=>by omega⟩
      ·rw[<-cj];exact g4 u hu
     ·have h0:x= .slice (some ⟨m b,0,none⟩) 0 0:=hr.1;rw[h0];simp[awD,V.rel,W.den,A.den,I.bC]
    ·exact hL
   ·exact hL
theorem Mem.low {ρ:Env} {m:Nat->Nat} {bl:List aM} {w:aC} {b k:Nat} {sh:List a8} {off code cap:I} {t:bE×Bool} (h:Mem w0 ρ m bl w) (bd:bl[b]?=some ([.rows sh off code cap (k+1)],t)):Mem w0 ρ m (eP bl b ([.rows sh off code cap 1],t)) w:=by
 have tX:b<bl.length:=(List.getElem?_eq_some_iff.1 bd).1;have eZ:∀(i:Nat) (p:aM),(eP bl b ([.rows sh off code cap 1],t))[i]?=some p->(i=b/\p=([.rows sh off code cap 1],t))∨(i≠b/\bl[i]?=some p):=λi p hi=>by
  rw[mK,wF]at hi;split at hi
  ·rename_i iT;subst iT;simp only[tX,if_true,bu]at hi;exact .inl ⟨rfl,hi.symm⟩
  ·rename_i iT;exact .inr ⟨λe=>iT e.symm,hi⟩
 have ag:∀(i:Nat) (p:aM),(eP bl b ([.rows sh off code cap 1],t))[i]?=some p->∃ed,bl[i]?=some ed/\b2 ρ p.1<=b2 ρ ed.1/\(b2 ρ ed.1≠0->True):=λi p hi=>by
  rcases eZ i p hi with⟨rfl,rfl⟩|⟨dE,hi⟩
  ·refine⟨_,bd,?_,λ_=>trivial⟩;simp only[b2];split<;>omega
  ·exact⟨p,hi,b1 _,λ_=>trivial⟩
 refine⟨h.ext,h.kE,h.mE,h.lq,h.ia,h.kp,λi lD t' hi aA=>?_,λi gC ld code' k6 sH t' hi=>?_,λi j p q hi aR he=>?_⟩
 ·rcases eZ i _ hi with⟨rfl,eT⟩|⟨dE,hi⟩
  ·cases eT;cases aA
  ·exact h.gP i lD t' hi aA
 ·rcases eZ i _ hi with⟨rfl,eT⟩|⟨dE,hi⟩
  ·cases eT;intro _;obtain⟨g1,g2⟩:=h.rws i _ _ _ _ (k+1) _ bd (by omega);refine⟨g1,λhc=>?_⟩;obtain⟨g3,cells,lM,fz,g4,g5,_⟩:=g2 hc;exact⟨g3,cells,lM,fz,g4,g5,λh2=>by omega⟩
  ·exact h.rws i gC ld _ k6 sH t' hi
 ·obtain⟨ed,h1,h2,_⟩:=ag i p hi;obtain⟨fG,h3,h4,_⟩:=ag j q aR;rcases h.inj i j ed fG h1 h3 he with h5|h5|h5|h5
  ·exact .inl h5
  ·exact .inr (.inl ⟨by omega,by omega⟩)
  ·exact .inr (.inr (.inl (by omega)))
  ·exact .inr (.inr (.inr (by omega)))
theorem acK {n nb:Nat} {ρ:Env} {m:Nat->Nat} {w:aC}:∀{bs:List Nat} {bl:List aM},Mem w0 ρ m bl w->dr n nb ρ bl->Mem w0 ρ m (Fm bs bl) w/\dr n nb ρ (Fm bs bl)/\(Fm bs bl).length=bl.length/\
 ∀(i:Nat) (p:aM),(Fm bs bl)[i]?=some p->∃ed,bl[i]?=some ed/\b2 ρ p.1<=b2 ρ ed.1/\(i∈bs->cy ed.1=false->b2 ρ p.1<=1)
 |[],bl,h,hb=>⟨h,hb,rfl,λi p hi=>⟨p,hi,b1 _,λh=>by simp at h⟩⟩
 |b::r,bl,h,hb=>by
  unfold Fm;split
  ·rename_i sh off code cap k t bd;have tX:b<bl.length:=(List.getElem?_eq_some_iff.1 bd).1;have nT:dr n nb ρ (eP bl b ([.rows sh off code cap 1],t)):=λp hp a ha=>by
    rw[mK]at hp;rcases Sx hp with hp|hp
    ·exact hb p hp a ha
    ·subst hp;simp at ha;subst ha;have h0:A.ok n nb ρ (.rows sh off code cap (k+1)):=hb _ (fw bd) _ (by simp);exact h0
   obtain⟨g1,g2,g3,g4⟩:=acK (bs:=r) (h.low bd) nT;refine⟨g1,g2,by rw[g3,lL],λi p hp=>?_⟩;obtain⟨ed,h1,h2,h3⟩:=g4 i p hp;by_cases lG:i=b
   ·subst lG;rw[mK,List.getElem?_set_self tX]at h1;cases h1;refine⟨_,bd,nJ h2 (by simp only[b2];split<;>omega),λ_ _=>nJ h2 (by simp only[b2];split<;>omega)⟩
   ·rw[mK,List.getElem?_set_ne (λe=>lG e.symm)]at h1;exact⟨ed,h1,h2,λhi aA=>h3 (by simpa [lG]using hi) aA⟩
  ·rename_i mD;obtain⟨g1,g2,g3,g4⟩:=acK (bs:=r) h hb;refine⟨g1,g2,g3,λi p hp=>?_⟩;obtain⟨ed,h1,h2,h3⟩:=g4 i p hp;refine⟨ed,h1,h2,λhi aA=>?_⟩;rcases List.mem_cons.1 hi with rfl|hi
   ·obtain⟨C,t⟩:=ed;obtain⟨sh,off,code,cap,k,rfl⟩:=Wl aA;cases k with
    |zero=>
     have:b2 ρ [A.rows sh off code cap 0]=0:=by simp[b2]
     simp only[this]at h2;omega
    |succ k=>exact absurd h1 (mD _ _ _ _ _ _)
   ·exact h3 hi aA
theorem ate {n nb:Nat} {ρ:Env} {m:Nat->Nat} {us:List W} {vals:List bf} (h:∀u∈us,W.ok n nb ρ u) (hm:us.map (W.den ρ m)=vals):(Gn us).ok n nb ρ/\(Gn us).rel ρ m (xM vals):=by
 subst hm;unfold Gn xM;split
 ·exact⟨h _ (by simp),rfl⟩
 ·rename_i dE;refine⟨h,?_⟩;split
  ·rename_i x hx
   match us,dE,hx with
   |[u],dE,_=>exact absurd rfl (dE u)
  ·rfl
theorem ass:∀{vs:List V},B2 vs=true->vs.flatMap yU=[]
 |[],_=>rfl
 |v::r,h=>by
  unfold B2 at h;split at h
  ·rename_i heq;cases heq
  ·cases h
  ·rename_i dE heq;cases heq;rw[wH,ass h,gO];unfold yU;split
   ·exact(dE _ _ _ _ rfl).elim
   ·rfl
theorem ast:∀{vs:List V} {b:Nat},B2 vs=true->b∈vs.flatMap p6->∃bL o ro len cap,V.w (.one (.sl b bL o ro len cap))∈vs
 |[],b,_,h=>by simp at h
 |v::r,b,h,hb=>by
  simp only[wH,y7]at hb;rcases hb with hb|hb
  ·unfold p6 at hb;split at hb
   ·simp at hb;subst hb;exact⟨_,_,_,_,_,Yg ..⟩
   ·simp[B2]at h
   ·simp at hb
  ·have aP:B2 r=true:=by
    unfold B2 at h;split at h
    ·rename_i heq;cases heq
    ·cases h
    ·rename_i heq;cases heq;exact h
   obtain⟨bL,o,ro,len,cap,h1⟩:=ast aP hb;exact⟨bL,o,ro,len,cap,e5 _ h1⟩
theorem eG.akx {c:eG} {spec:List Int->List Int->Prop} {f:dv} {alw:Array bf} (h8:∀zs rs,spec zs rs->S c.id zs rs) (n:Nat) (vs:List V) (bl:List aM) (k:RK) (G:fx) (ρ:Env) (m:Nat->Nat) (w:aC) (xs:List bf) (R':Ending->aC->Prop)
 (hc:∀zs,ay (c7 c.args) zs->L5 c.pre zs->m7 (uX w0 ρ m bl (vs.flatMap p6) (vs.flatMap yU)) (λ_=>False) w c.args zs xs->
   oo P f alw w λe w'=>w.Extends w'/\∃rs us,ay (c7 c.res) rs/\spec zs rs/\m7 (λg=>uX w0 ρ m bl (vs.flatMap p6) (vs.flatMap yU) g∨w.heap.size<=g) (λg=>w.heap.size<=g) w' c.res rs us/\e= .returned (xM us))
 (hb:dr n bl.length ρ bl) (hw:Mem w0 ρ m bl w) (hv:∀v∈vs,V.ok n bl.length ρ v) (hr:fN ρ m vs xs) (ah:(c.Nd n vs bl k).holds S L G ρ) (ag:G8 S L w0 k n bl.length ρ m G R'):
 oo P f alw w R':=by
 unfold eG.Nd at ah;obtain⟨a6,bh,ls,h9,fV,⟨g1,g2,g3⟩,ah⟩:=T5 (S:=S) (L:=L) hb hw hv hr G _ ah;cases an:(sW c.res&&(!(c.res.any c3.rJ)||B2 vs))with
 |false=>rw[an]at ah;exact ah.elim
 |true=>
  rw[an]at ah;simp only[cond_true]at ah;obtain⟨rH,ah⟩:=preM_holds ah;simp only[T.holds]at ah;simp only[bI,EG,c6]at an;refine(hc _ g2 rH (g3 _ λ_ h=>h)).mono ?_
  rintro e w' ⟨he,rs,us,r1,r2,gS,rfl⟩
  have ah:=m6 ah r1 (h8 _ _ r2);have qd:=hb.ext fV h9 (b1 bl.length);have aF5:=(hw.grow he).sP hb fV;have eI:agree bh a6 (b0 a6 bh rs):=agree.b0 rs bh a6;have qM:=qd.ext eI (MZ bh (c7 c.res).length) (b1 bl.length);have Iu:=aF5.sP qd eI;have aV:kM (b0 a6 bh rs) bh rs:=kM.b0 a6 bh rs;have UJ:rs.length=(c7 c.res).length:=dj r1;have HY:=fV.trans eI h9;have ac6:ft n bl.length ρ m (bh+(c7 c.res).length) bl.length (b0 a6 bh rs) m:=⟨by omega,HY,b1 _,λ_ _=>rfl⟩;have jX:∀(i:Nat) (p:aM),bl[i]?=some p->b2 (b0 a6 bh rs) p.1=b2 ρ p.1:=λi p hi=>yt (hb p (fw hi)) HY;have adB:∀(i:Nat) (p:aM),bl[i]?=some p->w.heap.size<=m i->b2 ρ p.1=0:=λi p hi ng=>by
   by_cases h0:b2 ρ p.1=0
   ·exact h0
   ·have:=hw.lt hi h0;omega
  have fin:∀bF:List aM,dr (bh+(c7 c.res).length) bF.length (b0 a6 bh rs) bF->Mem w0 (b0 a6 bh rs) m bF w'->bF.length=bl.length->
   (∀(i:Nat) (p:aM),bF[i]?=some p->(uX w0 ρ m bl (vs.flatMap p6) (vs.flatMap yU) (m i)∨w.heap.size<=m i)->(c.res.any c3.rJ)=true->b2 (b0 a6 bh rs) p.1<=1)->
   (∀(i:Nat) (p:aM),bF[i]?=some p->w.heap.size<=m i->b2 (b0 a6 bh rs) p.1=0)->
   (zl c.res bh (bh+(c7 c.res).length) [] bF λfF us sq=>k fF (Gn us) sq).holds S L G (b0 a6 bh rs)->R' (.returned (xM us)) w':=λbF nT ym hlen gx aEe ah=>by
   have hF:∀g,(uX w0 ρ m bl (vs.flatMap p6) (vs.flatMap yU) g∨w.heap.size<=g)->w0.ex g∨w0.ro g∨w0.r.heap.size<=g:=λg hg=>by
    rcases hg with hg|hg
    ·exact hg.2
    ·exact .inr (.inr (nJ hw.ia hg))
   have cF:∀g,w.heap.size<=g->w0.b.heap.size<=g/\w0.r.heap.size<=g:=λg hg=>⟨nJ hw.ext.size hg,nJ hw.ia hg⟩;have h1:(c.res.all λb=> !b.rJ)=true∨∀(i:Nat) (p:aM),bF[i]?=some p->(uX w0 ρ m bl (vs.flatMap p6) (vs.flatMap yU) (m i)∨w.heap.size<=m i)->b2 (b0 a6 bh rs) p.1<=1:=by
    cases zW:c.res.any c3.rJ with
    |true=>exact .inr λi p hi hf=>gx i p hi hf zW
    |false=>
     left
     rw[MV];intro b hb;cases fW:b.rJ with
     |false=>rfl
     |true=>rw[List.any_eq_true.2 ⟨b,hb,fW⟩]at zW;cases zW
   obtain⟨n',ae,m',pU,sq,bw,bz,cY,fa,fv,hB⟩:=Hm (S:=S) (L:=L) hF cF (l:=c.res) (us:=[]) (vals:=us) an.1 nT ym aV r1 (b1 _) gS h1 (.inr aEe) (λu hu=>by simp at hu) ah;have pG:=ate (m:=m') fv (by simpa using fa);exact ag n' (Gn pU) sq G ae m' w' (xM us) (ac6.trans (hlen▸bw)) (ga.refl _ _) pG.1 pG.2 bz cY hB
  cases zW:c.res.any c3.rJ with
  |false=>
   rw[zW]at ah;exact fin bl qM Iu rfl (λ_ _ _ _ h=>by rw[zW]at h;cases h) (λi p hi ng=>by rw[jX i p hi];exact adB i p hi ng) ah
  |true=>
   rw[zW]at ah an;obtain⟨f1,f2,f3,f4⟩:=acK (bs:=vs.flatMap p6) Iu qM;have yh:B2 vs=true:=by
    rcases an.2 with h|h
    ·cases h
    ·exact h
   refine fin _ (by rw[f3];exact f2) f1 f3 (λi p hi hf _=>?_) (λi p hi ng=>?_) ah
   ·obtain⟨ed,h1,h2,h3⟩:=f4 i p hi;rw[jX i ed h1]at h2;rcases hf with⟨⟨b,ape,Fw,q,zU,xd,aFs⟩,_⟩|ng
    ·obtain⟨bL,o,ro,len,cap,nk⟩:=ast yh ape;rcases hw.inj i b ed q h1 zU (by rw[Fw])with h5|h5|h5|h5
     ·subst h5;rw[h1]at zU;cases zU;cases aA:cy ed.1 with
      |false=>exact h3 ape aA
      |true=>
       have:=aFs aA;rw[ass yh]at this;simp at this
     ·omega
     ·omega
     ·exact absurd h5 xd
    ·have:=adB i ed h1 ng;omega
   ·obtain⟨ed,h1,h2,_⟩:=f4 i p hi;rw[jX i ed h1]at h2;have:=adB i ed h1 ng;omega
theorem eG.awL {c:eG} {spec:List Int->List Int->Prop} (hc:c.bH P w0.b spec) (h8:∀zs rs,spec zs rs->S c.id zs rs) (n:Nat) (vs:List V) (bl:List aM) (k:RK) (G:fx) (ρ:Env) (m:Nat->Nat) (w:aC) (xs:List bf) (R':Ending->aC->Prop)
 (hb:dr n bl.length ρ bl) (hw:Mem w0 ρ m bl w) (hv:∀v∈vs,V.ok n bl.length ρ v) (hr:fN ρ m vs xs) (ah:(c.Nd n vs bl k).holds S L G ρ) (ag:G8 S L w0 k n bl.length ρ m G R'):
 (callFunc c.f xs.toArray).run P w= .ok (.enter c.f xs.toArray) w/\oo P c.f xs.toArray w R':=by
 exact⟨hc.1 _ _,eG.akx h8 n vs bl k G ρ m w xs R' (λzs h1 h2 h3=>hc.2 _ w xs zs hw.ext h1 h2 h3) hb hw hv hr ah ag⟩
theorem eG.Ng {c:eG} {spec:List Int->List Int->Prop} (hc:c.bH P w0.b spec) (h8:∀zs rs,spec zs rs->S c.id zs rs) (n:Nat) (vs:List V) (bl:List aM) (k:RK) (G:fx) (ρ:Env) (m:Nat->Nat) (w:aC) (xs:List bf) (R':Ending->aC->Prop)
 (hb:dr n bl.length ρ bl) (hw:Mem w0 ρ m bl w) (hv:∀v∈vs,V.ok n bl.length ρ v) (hr:fN ρ m vs xs) (ah:(c.E n vs bl k).holds S L G ρ) (ag:G8 S L w0 k n bl.length ρ m G R'):
 (callFunc c.f xs.toArray).run P w= .ok (.enter c.f xs.toArray) w/\oo P c.f xs.toArray w R':=by
 obtain⟨g1,g2,g3,g4,g5⟩:=aiW (rd:=c.res.any c3.rJ) (ds:=c.args) hw hb hv hr;exact c.awL hc h8 n _ _ k G ρ m w xs R' g2 g1 (λv hv=>by rw[g3];exact g4 v hv) g5 ah (by rw[g3];exact ag)
end
end Go.bX
namespace Go.bX
open M
def O.bU (n:Nat):O->Prop
 |l x=>x.bU n
 |b x=>x.bU n
theorem O.cq {n:Nat} {ρ ae:Env} (ha:agree n ρ ae):∀{o:O},o.bU n->o.den ae=o.den ρ
 | .l x,h=>I.cq ha h
 | .b x,h=>by simp only[O.den];rw[bO.cq ha h]
theorem asJ {k:eB} {n nb:Nat} {ρ:Env}:∀{l:List A} {os:List O},me k l=some os->(∀a∈l,A.ok n nb ρ a)->∀o∈os,O.bU n o
 |[],os,h,_=>by simp[me]at h;subst h;intro x hx;simp at hx
 | .int bJ x::s,os,h,cm=>by
  simp only[me]at h;cases hc:decide (k=bJ)with
  |false=>simp[hc]at h
  |true=>
   cases hr:me k s with
   |none=>simp[hc,hr]at h
   |some r'=>
    simp only[hc,hr,cond_true,bu]at h;subst h;intro y hy;rcases List.mem_cons.1 hy with hy|hy
    ·rw[hy];have h0:A.ok n nb ρ (.int bJ x):=cm _ (Yg ..);have h0:x.ok n ρ:=h0;exact h0.1
    ·exact asJ hr (λa ha=>cm a (e5 _ ha)) y hy
 | .bool _::_,_,h,_=>by simp[me]at h
 | .ptr .. ::_,_,h,_=>by simp[me]at h
 | .q5 .. ::_,_,h,_=>by simp[me]at h
 | .gptr .. ::_,_,h,_=>by simp[me]at h
 | .slc .. ::_,_,h,_=>by simp[me]at h
 | .con _::_,_,h,_=>by simp[me]at h
 | .str _::_,_,h,_=>by simp[me]at h
 | .rows .. ::_,_,h,_=>by simp[me]at h
 | .sl .. ::_,_,h,_=>by simp[me]at h
 | .ep .. ::_,_,h,_=>by simp[me]at h
theorem a8.aLL {c:a8} {a:A} {o:O} {n nb:Nat} {ρ:Env} (h:c.out a=some o) (ha:a.ok n nb ρ):o.bU n:=by
 unfold a8.out at h;split at h
 ·rename_i k _ _ bJ x;cases ag:decide (k=bJ)with
  |false=>simp[ag]at h
  |true=>
   simp only[ag,cond_true,bu]at h;subst h;have ha:x.ok n ρ:=ha;exact ha.1
 ·simp only[bu]at h;subst h;exact ha.1
 ·simp only[bu]at h;subst h;exact ha
 ·cases h
theorem asM {n nb:Nat} {ρ:Env}:∀{d:List a8} {l:List A} {os:List O},vI d l=some os->(∀a∈l,A.ok n nb ρ a)->∀o∈os,O.bU n o
 |[],[],os,h,_=>by simp[vI]at h;subst h;intro x hx;simp at hx
 |c::d,a::s,os,h,cm=>by
  simp only[vI]at h;cases h1:c.out a with
  |none=>simp[h1]at h
  |some o=>
   cases h2:vI d s with
   |none=>simp[h1,h2]at h
   |some asH=>
    simp only[h1,h2,bu]at h;subst h;intro y hy;rcases List.mem_cons.1 hy with hy|hy
    ·rw[hy];exact a8.aLL h1 (cm a (Yg ..))
    ·exact asM h2 (λb hb=>cm b (e5 _ hb)) y hy
 |[],_::_,_,h,_=>by simp[vI]at h
 |_::_,[],_,h,_=>by simp[vI]at h
theorem aLK {d:D} {u:W} {os:List O} {n nb:Nat} {ρ:Env} (h:D4 d u=some os) (hu:u.ok n nb ρ):∀o∈os,O.bU n o:=by
 unfold D4 at h;split at h
 ·rename_i k _ _ bJ x;cases ag:decide (k=bJ)with
  |false=>simp[ag]at h
  |true=>
   simp only[ag,cond_true,bu]at h;subst h;have hu:x.ok n ρ:=hu;intro o aA;simp at aA;subst aA;exact hu.1
 ·simp only[bu]at h;subst h;intro o aA;simp at aA;subst aA;exact hu
 ·rename_i k n' _ _ l;cases ag:aU l.length n' with
  |false=>simp[ag]at h
  |true=>
   simp only[ag,cond_true]at h;exact asJ h hu
 ·simp only[bu]at h;subst h;intro o aA;simp at aA;subst aA;exact hu.1
 ·exact asM h hu
 ·cases h
noncomputable def Mm (bl:List aM):c3->W->M (List O)
 | .d x,u=>match D4 x u with|some os=>pure os|none=>fail
 | .rd sh,u=>bind (WK sh bl (.w u)) λl=>pure [.l l]
 | .rX sh e,u=>bind (agD sh e bl (.w u)) λl=>pure [.l l]
noncomputable def WN (bl:List aM):List c3->List W->M (List O)
 |[],[]=>pure []
 |b::r,u::s=>bind (Mm bl b u) λa=>bind (WN bl r s) λc=>pure (a++c)
 |_,_=>fail
noncomputable def RE (bl:List aM) (ds:List c3) (v:V):M (List O):=
 match v with
 | .w u=>match ds with|[d]=>Mm bl d u|_=>fail
 | .jQ l=>match ds with|[_]=>fail|_=>WN bl ds l
 |_=>fail
def O.toW:O->W
 |l x=> .one (.int .u8 ⟨x,0,0⟩)
 |b x=> .one (.bool x)
def W.toO:W->O
 | .one (.int _ x)=> .l x.l
 | .one (.bool e)=> .b e
 |_=> .l (.const 0)
theorem O.toW_toO (o:O):o.toW.toO=o:=by cases o<;>rfl
def F5 (os:List O):V:= .jQ (os.map O.toW)
def zb (K:List Int->Prop) (v:V) (ρ:Env):Prop:=
 match v with
 | .jQ l=>K (l.map λu=>u.toO.den ρ)
 |_=>False
theorem aae {K:List Int->Prop} {os:List O} {ρ:Env}:zb K (F5 os) ρ=K (os.map (O.den ρ)):=by
 unfold zb F5;simp only[lz]
 congr 1
 exact j5 λo _=>by simp[Si,O.toW_toO]
section
variable {S:Nat->List Int->List Int->Prop} {L:V->Env->Prop} {w0:fg} {P:cc} {w:aC}
theorem Ha.mono {N Nj:Nat->Prop} {sh:List a8} {e:bE} {rows:List (List Int)} {v:bf} (h:Ha N w sh e rows v) (cF:∀g,N g->Nj g):Ha Nj w sh e rows v:=by
 rcases h with h|⟨g,cap,cells,h1,h2,h3,h4⟩
 ·exact .inl h
 ·exact .inr ⟨g,cap,cells,h1,h2,cF g h3,h4⟩
def ZR (w0:fg) (g:Nat):Prop:=w0.ex g∨w0.ro g∨w0.r.heap.size<=g
theorem atc {d:c3} {u:W} {n:Nat} {ρ:Env} {m:Nat->Nat} {bl:List aM} (hex:∀g,¬w0.ex g) (hb:dr n bl.length ρ bl) (hw:Mem w0 ρ m bl w) (hu:u.ok n bl.length ρ):
 aE S L (Mm bl d u) n ρ λae n' os=>(∀o∈os,O.bU n' o)/\os.length=d.num/\(d.IE=false->ay d.bds (os.map (O.den ae)))/\∀zs,d.at (ZR w0) (λg=>w0.r.heap.size<=g) w (os.map (O.den ae)++zs) (u.den ρ m):=by
 cases d with
 |d x=>
  unfold Mm;cases aA:D4 x u with
  |none=>simp only[aA];exact aE.fail
  |some os=>
   simp only[aA];have:=agC (ρ:=ρ) (m:=m) aA;exact aE.pure ⟨aLK aA hu,this.1,λh=>(by simp[c3.IE]at h),λzs=>(this.2 zs).symm⟩
 |rd sh=>
  unfold Mm;refine(as2 (v:= .w u) hb hw hu rfl).bind λa6 bh l hn ha ⟨g1,g2,g3⟩=>aE.pure ⟨λo aA=>by simp at aA;subst aA;exact g1,rfl,λ_=>⟨g2.1,g2.2,trivial⟩,λzs=>?_⟩;exact g3.mono λg hg=>hg.2
 |rX sh e=>
  unfold Mm;refine(aLN (v:= .w u) hex hb hw hu rfl).bind λa6 bh l hn ha ⟨g1,g2,g3⟩=>aE.pure ⟨λo aA=>by simp at aA;subst aA;exact g1,rfl,λ_=>⟨g2.1,g2.2,trivial⟩,λzs=>g3⟩
theorem aIz {n:Nat} {ρ ae:Env} {os:List O} (h:∀x∈os,O.bU n x) (ha:agree n ρ ae):os.map (O.den ae)=os.map (O.den ρ):=j5 λx hx=>O.cq ha (h x hx)
theorem atd {m:Nat->Nat} {bl:List aM} (hex:∀g,¬w0.ex g):∀{ds:List c3} {us:List W} {n:Nat} {ρ:Env},dr n bl.length ρ bl->Mem w0 ρ m bl w->(∀u∈us,W.ok n bl.length ρ u)->
 aE S L (WN bl ds us) n ρ λae n' os=>(∀o∈os,O.bU n' o)/\m7 (ZR w0) (λg=>w0.r.heap.size<=g) w ds (os.map (O.den ae)) (us.map (W.den ρ m))
 |[],[],n,ρ,_,_,_=>aE.pure ⟨λ_ h=>by simp at h,trivial⟩
 |b::r,u::s,n,ρ,hb,hw,hu=>by
  unfold WN;refine(atc hex hb hw (hu u (by simp))).bind λa6 bh a hn ha ⟨g1,g2,_,g3⟩=>?_;refine(atd (ds:=r) (us:=s) hex (hb.ext ha hn (b1 _)) (hw.sP hb ha) (λx hx=>(hu x (e5 _ hx)).ext ha hn (b1 _))).bind λcd fF c fX eI ⟨k1,k2⟩=>aE.pure ⟨λo aA=>?_,?_⟩
  ·rcases List.mem_append.1 aA with aA|aA
   ·have:=g1 o aA;cases o with
    |l x=>exact I.bU.mono this fX
    |b x=>exact bO.bU.mono fX this
   ·exact k1 o aA
  ·rw[hQ,aIz g1 eI];refine⟨g3 _,?_⟩;rw[<-g2,<-ps (f:=O.den a6) (as:=a),GX];have e:s.map (W.den ρ m)=s.map (W.den a6 m):=j5 λx hx=>(W.oz (hu x (e5 _ hx)) ha (λ_ _=>rfl)).symm;rw[e];exact k2
 |[],_::_,_,_,_,_,_=>aE.fail
 |_::_,[],_,_,_,_,_=>aE.fail
theorem ahd {ds:List c3} {v:V} {val:bf} {n:Nat} {ρ:Env} {m:Nat->Nat} {bl:List aM} (hex:∀g,¬w0.ex g) (hb:dr n bl.length ρ bl) (hw:Mem w0 ρ m bl w) (hv:v.ok n bl.length ρ) (hr:v.rel ρ m val):
 aE S L (RE bl ds v) n ρ λae n' os=>∃us,val=xM us/\m7 (ZR w0) (λg=>w0.r.heap.size<=g) w ds (os.map (O.den ae)) us:=by
 unfold RE;split
 ·rename_i u;split
  ·rename_i d;refine(atc hex hb hw hv).mono λa6 bh os hn ha ⟨g1,g2,_,g3⟩=>⟨[u.den ρ m],hr,?_,trivial⟩;have:=g3 []
   rwa [gO]at this
  ·exact aE.fail
 ·rename_i l;split
  ·exact aE.fail
  ·rename_i dE;refine(atd (ds:=ds) hex hb hw hv).mono λa6 bh os hn ha ⟨g1,g2⟩=>⟨l.map (W.den ρ m),?_,g2⟩;have hr:val= .tuple (l.map (W.den ρ m)).toArray:=hr;rw[hr];unfold xM;split
   ·rename_i x hx;exfalso;have hl:l.length=1:=by have:=congrArg pY hx;simpa using this
    match ds,l,hl,g2,dE with
    |[d],[u],_,_,dE=>exact dE d rfl
    |[],[u],_,g2,_=>simp[m7]at g2
    |_::_::_,[u],_,g2,_=>simp[m7]at g2
   ·rfl
 ·exact aE.fail
def LM (i:Nat):I:=⟨0,[(1,i)]⟩
theorem VX (ρ:Env) (zs:List Int):((dP zs.length).map LM).map (·.den (b0 ρ 0 zs))=zs:=by
 refine arC (by simp) λj aR=>?_;have aR:j<zs.length:=by simpa using aR
 have:=kM.b0 ρ 0 zs j aR;rw[y4]at this;simp[LM,I.den,kR,U,aR]at this⊢;exact this
noncomputable def eG.tree (bc:qz) (P:cc) (gl:fK) (cal:gb) (li:dv->Nat->Option fB) (rounds d:Nat) (c:eG):T:=cond (sW c.args&& !(c.args.any c3.tc)) (Wu c.pre ((dP (c7 c.args).length).map LM) (zl c.args 0 (c7 c.args).length [] [] λn us bl=>Fc bc P gl cal li rounds d c.f n (us.map V.w) bl λn' v bF=>RE bF c.res v n' λos _=> .leaf (F5 os))) .stuck
theorem Z7 {ρ:Env} {m:Nat->Nat}:∀{us:List W} {xs:List bf},us.map (W.den ρ m)=xs->fN ρ m (us.map V.w) xs
 |[],[],_=>trivial
 |u::us,x::xs,h=>by
  simp only[df,hD]at h;exact⟨h.1.symm,Z7 h.2⟩
 |[],_::_,h=>by simp at h
 |_::_,[],h=>by simp at h
noncomputable def gJ:List eG->qz
 |[],_=>none
 |c::r,f=>cond (aU c.f f) (some c.E) (gJ r f)
theorem ka {wb:aC} {r:aC} {ex ro:Nat->Prop}:∀{l:List eG},(∀c∈l,c.bH P wb (S c.id))->xY S L ⟨wb,r,ex,ro,[]⟩ P (gJ l)
 |[],_=>λf g h=>by cases h
 |c::l,h=>λf g hf=>by
  unfold gJ at hf;cases hb:aU c.f f with
  |true=>
   rw[hb]at hf;simp only[cond_true,bu]at hf;have:=b8 hb;subst this;subst hf;intro n vs bl k G ρ m w xs R' h1 h2 h3 h4 h5 h6;exact eG.Ng (w0:=⟨wb,r,ex,ro,[]⟩) (h c (by simp)) (λ_ _ h=>h) n vs bl k G ρ m w xs R' h1 h2 h3 h4 h5 h6
  |false=>
   rw[hb]at hf;exact ka (λc hc=>h c (e5 _ hc)) f g hf
theorem eG.QJ {wb:aC} {gl:fK} {c:eG} {bc:qz} {cal:gb} {li:dv->Nat->Option fB} {rounds d:Nat} {spec:List Int->List Int->Prop} (hm:P.follows .mixedOrders=true) (di:∀r ex ro,im S P gl ⟨wb,r,ex,ro,[]⟩ cal) (hg:fJ gl ⟨wb,wb,λ_=>False,λ_=>False,[]⟩)
 (oB:∀(L:V->Env->Prop) (r:aC) (ro:Nat->Prop),xY S L ⟨wb,r,λ_=>False,ro,[]⟩ P bc) (hf:∀args w,(callFunc c.f args).run P w= .ok (.enter c.f args) w)
 (aB:kQ (c7 c.args) λzs=>(c.tree bc P gl cal li rounds d).holds S (zb λrs=>ay (c7 c.res) rs/\spec zs rs) (λ_ _=>False) (b0 (λ_=>0) 0 zs)):c.bH P wb spec:=by
 refine⟨hf,λF w vs zs hw hz Pl hat=>?_⟩;have ah:=m6 aB hz;have qT:=dj hz;unfold eG.tree at ah;cases an:(sW c.args&& !(c.args.any c3.tc))with
 |false=>rw[an]at ah;exact ah.elim
 |true=>
  rw[an]at ah;simp only[cond_true]at ah;have ah:=preA_holds ah (by rw[<-qT,VX];exact Pl);simp only[bI,c6]at an;have nk:Mem ⟨wb,w,λ_=>False,F,[]⟩ (b0 (λ_=>0) 0 zs) (λ_=>0) [] w:=⟨hw,rfl,rfl,rfl,b1 _,λ_ _ _=>rfl,λi cs t h=>by simp at h,λi sh off code cap kind t h=>by simp at h,λi j p q h=>by simp at h⟩;have jL:(c.args.all λb=> !b.tc)=true:=by
   rw[MV];intro b hb;cases fW:b.tc with
   |false=>rfl
   |true=>rw[List.any_eq_true.2 ⟨b,hb,fW⟩]at an;cases an.2
  obtain⟨n',ae,m',us,bl,bw,bz,cY,fa,fv,hB⟩:=Hm (S:=S) (L:=_) (w0:=⟨wb,w,λ_=>False,F,[]⟩) (F:=F) (N:=λ_=>False) (λg hg=> .inr (.inl hg)) (λg hg=>hg.elim) (l:=c.args) (s:=0) (us:=[]) (bl:=[]) (m:=λ_=>0) an.1 (λp hp=>by simp at hp) nk (kM.b0 _ 0 zs) hz (by omega) hat (.inr λi p h=>by simp at h) (.inl jL) (λu hu=>by simp at hu) ah;have adM:fJ gl ⟨wb,w,λ_=>False,F,[]⟩:=hg;refine(NV (S:=S) (w0:=⟨wb,w,λ_=>False,F,[]⟩) rfl hm (di w (λ_=>False) F) adM (oB _ _ _) d c.f n' (us.map V.w) bl _ _ ae m' w vs _ bz cY (λv hv=>by
   obtain⟨u,hu,rfl⟩:=List.mem_map.1 hv;exact fv u hu) (Z7 (by simpa using fa)) hB ?_).2
  intro fF v bF fm cd eJ w' val h1 h2 h3 h4 h5 h6 h7;obtain⟨jb,sJ,os,Du,w9,⟨xs,s9,lI⟩,hl⟩:=ahd (S:=S) (w0:=⟨wb,w,λ_=>False,F,[]⟩) (λg hg=>hg) h5 h6 h3 h4 fm _ h7;have hl:zb _ (F5 os) jb:=hl;rw[aae]at hl;refine⟨?_,os.map (O.den jb),xs,hl.1,hl.2,?_,by rw[s9]⟩
  ·have tY:∀i:Nat,i<w.heap.size->w'.heap[i]?=w.heap[i]?:=λi hi=>h6.kp i hi λh=>h;exact⟨h6.kE,h6.mE,h6.lq,h6.ia,λa ha=>by simp only[oq,tY a.block ha],λa ha=>by simp only[EH,tY a.block ha],tY⟩
  ·exact Kb (λg hg=>by
    rcases hg with hg|hg|hg
    ·exact hg.elim
    ·exact .inl hg
    ·exact .inr hg) (λg hg=>hg) lI
where
 Kb {F ER N Nj:Nat->Prop} {w:aC} (hF:∀g,F g->ER g) (cF:∀g,N g->Nj g):∀{ds:List c3} {zs:List Int} {vs:List bf},m7 F N w ds zs vs->m7 ER Nj w ds zs vs
 |[],_,[],_=>trivial
 | .d x::r,zs,v::vs,h=>⟨h.1,Kb hF cF h.2⟩
 | .rd sh::r,zs,v::vs,h=>⟨CW.mono h.1 hF,Kb hF cF h.2⟩
 | .rX sh e::r,zs,v::vs,h=>⟨Ha.mono h.1 cF,Kb hF cF h.2⟩
 |[],_,_::_,h=>h.elim
 |_::_,_,[],h=>by simp[m7]at h
end
def c3.nums:c3->List Nat
 | .d x=>x.nums
 |_=>[1]
def D1 (ds:List c3):List Nat:=ds.flatMap c3.nums
def aad (ds:List c3) (K:List (List Int)->Prop) (v:V) (st:kO) (bo:kN):Prop:=
 match v with
 | .jQ l=>K ((cI (D1 ds) (l.map W.toO)).map (Mu st bo))
 |_=>False
theorem axE {ds:List c3} {K:List (List Int)->Prop} (v:V) (ρ:Env) (st:kO) (bo:kN) (aB:si ρ st bo) (h:aad ds K v st bo):zb (λrs=>K (cI (D1 ds) rs)) v ρ:=by
 unfold aad at h;unfold zb;split at h
 ·rename_i l;have e:l.map (λu=>u.toO.den ρ)=(l.map W.toO).map (O.den ρ):=by simp
  simp only[e];rw[Xc]
  rwa [show(cI (D1 ds) (l.map W.toO)).map (Mu st bo)=(cI (D1 ds) (l.map W.toO)).map (List.map (O.den ρ)) from j5 λo _=>atW aB o]at h
 ·exact h.elim
def iL (sh:Nat->List Nat×List Nat) (lsh:Nat->List Nat) (S:Nat->List (List Int)->List (List Int)->Prop) (K:List (List Int)->List (List Int)->Prop) (lens:List Nat) (bds:List (Int×Int)) (ds:List c3) (t:T):Prop:=EZ lens 0 bds (λst bo zs=>t.qg sh lsh S (aad ds (K zs)) (λ_ _=>False) st bo) [] []
theorem aaw {sh:Nat->List Nat×List Nat} {lsh:Nat->List Nat} {S:Nat->List (List Int)->List (List Int)->Prop} {K:List (List Int)->List (List Int)->Prop} {lens:List Nat} {bds:List (Int×Int)} {ds:List c3} {t:T}
 (h:iL sh lsh S K lens bds ds t):kQ bds λzs=>t.holds (du sh S) (zb λrs=>K (cI lens zs) (cI (D1 ds) rs)) (λ_ _=>False) (b0 (λ_=>0) 0 zs):=by
 refine tO λzs hi=>?_;obtain⟨st,bo,h1,h2⟩:=J9 h (show si (λ_=>0) [] [] from⟨trivial,λ_=>rfl⟩) hi;exact qQ (λv ρ st bo aB hl=>axE v ρ st bo aB hl) t _ _ _ st bo (λ_ _ hf=>hf.elim) h1 h2
end Go.bX
namespace Go.bX
open M
structure gi where
 c:bq
 pre:Nat
def gi.bH (P:cc) (wb:aC) (q:gi) (spec:List Int->List Int->Prop):Prop:=∀zs,ay (aX q.c.args) zs->aj q.pre zs->∃rs,ay (aX q.c.res) rs/\spec zs rs/\∀w,wb.Extends w->x0 P q.c.f (pV q.c.args zs).toArray w (mJ q.c.res rs)
noncomputable def gi.M (q:gi):List aM->List V->M V:=λ_ vs n k=>
 match tV q.c.args vs with
 |some l=> .sY q.pre l (.call q.c.id l n (aX q.c.res) (k (Jq q.c.res n) (n+(aX q.c.res).length)))
 |none=> .stuck
noncomputable def cS (L9:List gi) (cons:List bq):gb:=λf=>
 match L9.filter (λq=>aU f q.c.f)with
 |[]=>To cons f
 |l=>some λbl vs n k=>match l.find? (λq=>(tV q.c.args vs).isSome)with
  |some q=>q.M bl vs n k
  |none=>match To cons f with
   |some g=>g bl vs n k
   |none=> .stuck
section
variable {S:Nat->List Int->List Int->Prop} {P:cc} {gl:fK} {w0:fg}
theorem gi.snd {q:gi} {spec:List Int->List Int->Prop} (hc:q.bH P w0.b spec) (h8:∀zs rs,spec zs rs->S q.c.id zs rs) (L:V->Env->Prop) (n:Nat) (ρ:Env) (m:Nat->Nat) (bl:List aM) (vs:List V) (xs:List bf)
 (lH:∀v∈vs,V.ok n bl.length ρ v) (hr:fN ρ m vs xs):aE S L (q.M bl vs) n ρ λae n' v=>v.ok n' bl.length ae/\∃val,v.rel ae m val/\∀w,Mem w0 ρ m bl w->x0 P q.c.f xs.toArray w val:=by
 intro G k ag;unfold gi.M at ag;cases hl:tV q.c.args vs with
 |none=>simp[hl,T.holds]at ag
 |some l=>
  simp only[hl]at ag;obtain⟨nh,ag⟩:=ag;obtain⟨h1,h2⟩:=T7 hl lH hr;obtain⟨rs,r1,r2,gS⟩:=hc _ h1 nh;have ah:=Tp ag r1 (h8 _ _ r2);have hlen:=dj r1;have pG:=WO (m:=m) (nb:=bl.length) (N:=n+(aX q.c.res).length) r1 (kM.b0 ρ n rs) (b1 _);refine⟨_,_,_,MZ _ _,agree.b0 rs n ρ,⟨pG.1,_,pG.2,λw hw=>?_⟩,ah⟩;rw[h2]at gS;exact gS w hw.ext
theorem dt {L9:List gi} {cons:List bq} (an:∀q∈L9,q.bH P w0.b (S q.c.id)) (hc:∀c∈cons,c.A3 P w0.b (S c.id)):im S P gl w0 (cS L9 cons):=by
 intro f g k7 L n ρ m bl vs xs h1 h2 h3 h4;unfold cS at k7;split at k7
 ·exact amS (gl:=gl) hc f g k7 L n ρ m bl vs xs h1 h2 h3 h4
 ·rename_i l hl;simp only[bu]at k7;subst k7;intro G k ag;simp only at ag;split at ag
  ·rename_i q OR;have fj:=List.mem_filter.1 (JN OR);have H6:=b8 fj.2;subst H6;exact gi.snd (an q fj.1) (λ_ _ h=>h) L n ρ m bl vs xs h3 h4 G k ag
  ·split at ag
   ·rename_i kq BL;exact amS (gl:=gl) hc f kq BL L n ρ m bl vs xs h1 h2 h3 h4 G k ag
   ·exact ag.elim
end
end Go.bX
namespace Go.bX
section
variable {S:Nat->List Int->List Int->Prop} {P:cc} {gl:fK} {wb:aC}
def fL (args res:List D) (spec:List Int->List Int->Prop):Prop:=∀zs rs c0,ay (aX args) zs->ay (aX res) rs->ay (aX res) c0->spec zs rs->spec zs c0->mJ res rs=mJ res c0
theorem bq.agm {c:bq} {cal:gb} {li:dv->Nat->Option fB} {rounds d:Nat} {spec:List Int->List Int->Prop} (hm:P.follows .mixedOrders=true) (di:∀r ex ro,im S P gl ⟨wb,r,ex,ro,[]⟩ cal) (hg:fJ gl ⟨wb,wb,λ_=>False,λ_=>False,[]⟩)
 (hf:∀args w,(callFunc c.f args).run P w= .ok (.enter c.f args) w) (hu:fL c.args c.res spec)
 (aB:kQ (aX c.args) λzs=>(c.tree P gl cal li rounds d).holds S (kz c.res λrs=>ay (aX c.res) rs/\spec zs rs) (λ_ _=>False) (b0 (λ_=>0) 0 zs)):c.bH P wb spec:=by
 refine⟨hf,λzs hz=>?_⟩;have h0:=bq.calls hm di hg hz (m6 aB hz) wb (sd wb);obtain⟨e,w',v,ae,m,val,h1,h2,h3,h4⟩:=Calls.some h0;obtain⟨rs,⟨hb,hs⟩,hv⟩:=A1 h3 h2;refine⟨rs,hb,hs,λw hw=>?_⟩;refine(bq.calls hm di hg hz (m6 aB hz) w hw).mono λe w' ⟨v,ae,m,val,h1,h2,h3,h4⟩=>?_;obtain⟨c0,⟨nT,Ir⟩,xh⟩:=A1 h3 h2;rw[hu zs c0 rs hz nT hb Ir hs]at xh;exact⟨by rw[h1,xh],h4⟩
noncomputable def gi.tree (P:cc) (gl:fK) (cal:gb) (li:dv->Nat->Option fB) (rounds d:Nat) (q:gi):T:=.wS q.pre ((dP (aX q.c.args).length).map LM) (q.c.tree P gl cal li rounds d)
theorem gi.agm {q:gi} {cal:gb} {li:dv->Nat->Option fB} {rounds d:Nat} {spec:List Int->List Int->Prop} (hm:P.follows .mixedOrders=true) (di:∀r ex ro,im S P gl ⟨wb,r,ex,ro,[]⟩ cal) (hg:fJ gl ⟨wb,wb,λ_=>False,λ_=>False,[]⟩)
 (hf:∀args w,(callFunc q.c.f args).run P w= .ok (.enter q.c.f args) w) (hu:fL q.c.args q.c.res spec)
 (aB:kQ (aX q.c.args) λzs=>(q.tree P gl cal li rounds d).holds S (kz q.c.res λrs=>ay (aX q.c.res) rs/\spec zs rs) (λ_ _=>False) (b0 (λ_=>0) 0 zs)):q.bH P wb spec:=by
 intro zs hz hp;have o3:=m6 aB hz;have hl:=dj hz;unfold gi.tree at o3;rw[<-hl]at o3;have o3:=o3 (by rw[VX];exact hp);have h0:=bq.calls hm di hg hz o3 wb (sd wb);obtain⟨e,w',v,ae,m,val,h1,h2,h3,h4⟩:=Calls.some h0;obtain⟨rs,⟨hb,hs⟩,hv⟩:=A1 h3 h2;refine⟨rs,hb,hs,λw hw=> .inr ⟨hf _ _,?_⟩⟩;refine(bq.calls hm di hg hz o3 w hw).mono λe w' ⟨v,ae,m,val,h1,h2,h3,h4⟩=>?_;obtain⟨c0,⟨nT,Ir⟩,xh⟩:=A1 h3 h2;rw[hu zs c0 rs hz nT hb Ir hs]at xh;exact⟨by rw[h1,xh],h4⟩
end
theorem uK {α:Type}:∀(n6:List Nat) (l:List α),(cI n6 l).flatten=l
 |[],[]=>rfl
 |[],_::_=>by simp[cI]
 |k::n6,l=>by simp only[cI,nH,uK n6,nI]
section
variable {P:cc} {gl:fK} {wb:aC} {sh:Nat->List Nat×List Nat} {SB:Nat->List (List Int)->List (List Int)->Prop}
def fA (SB:Nat->List (List Int)->List (List Int)->Prop) (res:List D) (id:Nat):List (List Int)->List (List Int)->Prop:=λzs rs=>ay (aX res) rs.flatten/\SB id zs rs
theorem auZ {lsh:Nat->List Nat} {id:Nat} {lens:List Nat} {bds:List (Int×Int)} {ds:List D} {t:T} (hl:lens=(sh id).1) (hd:rV ds=(sh id).2) (h:cZ sh lsh SB (fA SB ds id) lens bds ds t):
 kQ bds λzs=>t.holds (du sh SB) (kz ds λrs=>ay (aX ds) rs/\du sh SB id zs rs) (λ_ _=>False) (b0 (λ_=>0) 0 zs):=by
 refine tO λzs hz=>?_;have h:=m6 (Nq h) hz;simp only[fA,uK]at h;rw[hl,hd]at h;exact h
theorem aLx {c:bq} {cal:gb} {li:dv->Nat->Option fB} {rounds d:Nat} {lsh:Nat->List Nat} {lens:List Nat} (hm:P.follows .mixedOrders=true) (di:∀r ex ro,im (du sh SB) P gl ⟨wb,r,ex,ro,[]⟩ cal) (hg:fJ gl ⟨wb,wb,λ_=>False,λ_=>False,[]⟩)
 (hf:BG P c.f=true) (hu:fL c.args c.res (du sh SB c.id)) (hl:lens=(sh c.id).1) (hd:rV c.res=(sh c.id).2)
 (hv:cZ sh lsh SB (fA SB c.res c.id) lens (aX c.args) c.res (c.tree P gl cal li rounds d)):c.bH P wb (du sh SB c.id):=
 bq.agm hm di hg (enters hf) hu (auZ hl hd hv)
theorem aO8 {q:gi} {cal:gb} {li:dv->Nat->Option fB} {rounds d:Nat} {lsh:Nat->List Nat} {lens:List Nat} (hm:P.follows .mixedOrders=true) (di:∀r ex ro,im (du sh SB) P gl ⟨wb,r,ex,ro,[]⟩ cal) (hg:fJ gl ⟨wb,wb,λ_=>False,λ_=>False,[]⟩)
 (hf:BG P q.c.f=true) (hu:fL q.c.args q.c.res (du sh SB q.c.id)) (hl:lens=(sh q.c.id).1) (hd:rV q.c.res=(sh q.c.id).2)
 (hv:cZ sh lsh SB (fA SB q.c.res q.c.id) lens (aX q.c.args) q.c.res (q.tree P gl cal li rounds d)):q.bH P wb (du sh SB q.c.id):=
 gi.agm hm di hg (enters hf) hu (auZ hl hd hv)
end
end Go.bX
namespace Go.bX
open Go.ChangeShapes Go.WideShapes Go.RowKit
variable {H:Type} {enc:bE×bf->H} {P:cc}
def Mv (g:bE->Option (List a8)) (cells:bE->Nat):List Field->Nat->Option (List a8)
 |[],_=>some []
 |f::r,o=>match g f.type,Mv g cells r (o+cells f.type)with
  |some l,some m=>cond (aU f.offset o&&aU (cells f.type) l.length) (some (l++m)) none
  |_,_=>none
def El (P:cc):Nat->bE->Option (List a8)
 |0,_=>none
 |d+1,t=>match P.underlying t with
  |some (.int k)=>some [.int k k.min k.max]
  |some .string=>some [.str]
  |some .bool=>some [.bool]
  |some (.struct fs)=>Mv (El P d) P.cellsOf fs.toList 0
  |some (.array n e)=>match El P d e with
   |some l=>cond (aU (P.cellsOf e) l.length) (some (dw n l).flatten) none
   |none=>none
  |_=>none
theorem cX.append:∀{a b:List a8} {x y:List Int},cX a x->cX b y->cX (a++b) (x++y)/\eA (a++b) (x++y)=eA a x++eA b y
 |[],_,[],_,_,h=>⟨h,rfl⟩
 |_::_,_,_::_,_,h,aP=>by
  have:=cX.append h.2 aP;exact⟨⟨h.1,this.1⟩,by simp only[j4,eA,this.2]⟩
 |[],_,_::_,_,h,_=>h.elim
 |_::_,_,[],_,h,_=>h.elim
def aah (enc:bE×bf->H) (P:cc) (w:aC) (base:Nat) (spare:Nat->Bool) (held:Bool) (t:bE) (sh:List a8):Prop:=∀(n:Nat) (cs:List bf) (x:pX H×List AU),ai8 enc P w base spare held n t cs=some x->cs.length=sh.length->(∀m∈x.1.weights P t,m<=reachBytes)->∃zs,cX sh zs/\cs=eA sh zs/\x.2=[]
theorem asF {base n:Nat} {w:aC} {spare:Nat->Bool} {held:Bool} {g:bE->Option (List a8)} (hg:∀t sh,g t=some sh->aah enc P w base spare held t sh) {cs:List bf}:∀(fs:List Field) (o:Nat) (sh:List a8) (xs:List (pX H×List AU)),Mv g P.cellsOf fs o=some sh->cs.length=o+sh.length->xs.length=fs.length->
 (∀(j:Nat) (f:Field),fs[j]?=some f->ai8 enc P w base spare held n f.type ((cs.drop f.offset).take (P.cellsOf f.type))=xs[j]?)->
 (∀m∈Yu P (fs.map (·.type)) (xs.map (·.1)),m<=reachBytes)->
 ∃zs,cX sh zs/\cs.drop o=eA sh zs/\xs.flatMap (·.2)=[]
 |[],o,sh,xs,h,hl,hx,_,_=>by
  simp only[Mv,bu]at h;subst h;have:xs=[]:=List.length_eq_zero_iff.1 (by simpa using hx);subst this;exact⟨[],trivial,GW (by simp at hl;omega),rfl⟩
 |f::fs,o,sh,[],_,_,hx,_,_=>by simp at hx
 |f::fs,o,sh,x::xs,h,hl,hx,hf,hw=>by
  unfold Mv at h;cases h1:g f.type with
  |none=>simp[h1]at h
  |some l=>
   cases h2:Mv g P.cellsOf fs (o+P.cellsOf f.type)with
   |none=>simp[h1,h2]at h
   |some m=>
    simp only[h1,h2]at h;cases hc:(aU f.offset o&&aU (P.cellsOf f.type) l.length)with
    |false=>simp[hc]at h
    |true=>
     simp only[hc,cond_true,bu]at h;subst h;simp only[bI]at hc;have av:=b8 hc.1;have aH:=b8 hc.2;have h0:=hf 0 f rfl;simp only[xU]at h0;simp only[df,Yu,y7]at hw;simp only[fq]at hl;obtain⟨zs,bR,a2,a3⟩:=hg f.type l h1 n ((cs.drop f.offset).take (P.cellsOf f.type)) x h0 (by rw[m4,pq,av,aH];omega) λm' hm=>hw m' (.inl hm);obtain⟨iG,b4,cg,dh⟩:=asF (cs:=cs) hg fs (o+P.cellsOf f.type) m xs h2 (by omega) (by simpa using hx) (λj nQ aR=>by simpa using hf (j+1) nQ (by simpa using aR)) λm' hm=>hw m' (.inr hm);have OK:=cX.append bR b4;refine⟨zs++iG,OK.1,?_,by simp[a3,dh]⟩;rw[OK.2,<-a2,<-cg,av,<-CF];exact(nI _ _).symm
theorem asE {base n:Nat} {w:aC} {spare:Nat->Bool} {held:Bool} {e:bE} {l:List a8} (hg:aah enc P w base spare held e l) (hc:P.cellsOf e=l.length) {cs:List bf}:∀(k i:Nat) (xs:List (pX H×List AU)),cs.length=(i+k)*l.length->xs.length=k->
 (∀j,j<k->ai8 enc P w base spare held n e ((cs.drop ((i+j)*P.cellsOf e)).take (P.cellsOf e))=xs[j]?)->
 (∀m∈Yv P e (xs.map (·.1)),m<=reachBytes)->
 ∃zs,cX (dw k l).flatten zs/\cs.drop (i*l.length)=eA (dw k l).flatten zs/\xs.flatMap (·.2)=[]
 |0,i,xs,hl,hx,_,_=>by
  have:xs=[]:=List.length_eq_zero_iff.1 hx;subst this;exact⟨[],trivial,GW (by rw[hl];exact b1 _),rfl⟩
 |k+1,i,[],_,hx,_,_=>by simp at hx
 |k+1,i,x::xs,hl,hx,hf,hw=>by
  have h0:=hf 0 (Nat.succ_pos k);simp only[xU,m3]at h0;simp only[df,Yv,y7]at hw;have Dr:cs.length=i*l.length+(l.length+k*l.length):=by rw[hl,Nat.add_mul,AX];omega
  obtain⟨zs,bR,a2,a3⟩:=hg n _ x h0 (by rw[m4,pq,hc];omega) λm' hm=>hw m' (.inl hm);obtain⟨iG,b4,cg,dh⟩:=asE hg hc k (i+1) xs (by rw[hl];congr 1;omega) (by simpa using hx) (λj aR=>by
   have:=hf (j+1) (by omega);rw[show i+(j+1)=i+1+j by omega]at this;simpa using this) λm' hm=>hw m' (.inr hm)
  have OK:=cX.append bR b4;refine⟨zs++iG,by rw[y8,nH];exact OK.1,?_,by simp[a3,dh]⟩;rw[y8,nH,OK.2,<-a2,<-cg,hc,AX,<-CF];exact(nI _ _).symm
theorem Wi {base:Nat} {w:aC} {spare:Nat->Bool} {held:Bool}:∀(d:Nat) (t:bE) (sh:List a8),El P d t=some sh->aah enc P w base spare held t sh
 |0,t,sh,h=>by simp[El]at h
 |d+1,t,sh,h=>by
  have ih:=Wi (base:=base) (w:=w) (spare:=spare) (held:=held) d;intro n cs x hx hl hw;unfold El at h;split at h
  ·rename_i k hu;simp only[bu]at h;subst h;obtain⟨z,rfl,rfl,aep⟩:=awj hu hx;have:=au0.1 aep;exact⟨[z],⟨this,trivial⟩,rfl,rfl⟩
  ·rename_i hu;simp only[bu]at h;subst h;obtain⟨s,rfl,rfl,hs⟩:=aW7 hu hx;have hb:s.data.toList.length<=nw:=hw _ (by simp[Yw]);refine⟨[k5 s.data.toList],⟨⟨zz _,x1 hb⟩,trivial⟩,?_,rfl⟩;simp[eA,a8.val,Ce,eS]
  ·rename_i hu;simp only[bu]at h;subst h;obtain⟨b,rfl,rfl⟩:=DataW.trod_bool hu hx;refine⟨[cond b 1 0],⟨?_,trivial⟩,?_,rfl⟩
   ·cases b<;>simp[a8.gu]
   ·cases b<;>simp[eA,a8.val]
  ·rename_i fs hu;obtain⟨xs,m,rfl,rfl,hlen,hn,K7⟩:=DataW.trod_struct hu hx;simp only[Yw,hu]at hw;obtain⟨zs,bR,a2,a3⟩:=asF (n:=m) ih fs.toList 0 sh xs h (by omega) (by rw[hn];simp) (λj f aR=>K7 j f (by simpa using aR)) hw;exact⟨zs,bR,by simpa using a2,a3⟩
  ·rename_i k e hu;cases h1:El P d e with
   |none=>simp[h1]at h
   |some l=>
    simp only[h1]at h;cases hc:aU (P.cellsOf e) l.length with
    |false=>simp[hc]at h
    |true=>
     simp only[hc,cond_true,bu]at h;subst h;have hc:=b8 hc;obtain⟨xs,m,rfl,rfl,hlen,hn,K7⟩:=aWp hu hx;simp only[Yw,hu]at hw;have lP:(dw k l).flatten.length=k*l.length:=by simp
     obtain⟨zs,bR,a2,a3⟩:=asE (n:=m) (ih e l h1) hc k 0 xs (by rw[hl,lP];simp) hn (λj aR=>by
      have:=K7 j aR;simpa using this) hw
     exact⟨zs,bR,by simpa using a2,a3⟩
  ·cases h
theorem aPI {fits:bE->Bool}:∀(d:Nat) (e:bE) (count off n:Nat),rowAt P fits d e count off n=true->off<=count*P.cellsOf e
 |0,_,_,_,_,h=>by simp[rowAt]at h
 |d+1,e,count,off,n,h=>by
  unfold rowAt at h
  dsimp only at h
  split at h
  ·cases h
  ·rename_i hs;have aEw:=X9 off (P.cellsOf e);have hlt:=MU off (Nat.pos_of_ne_zero hs);rw[EG]at h;rcases h with h|h
   ·simp only[bI,beq_iff_eq,decide_eq_true_eq]at h;have h1:off/P.cellsOf e<=count:=by omega
    have:=Sq (P.cellsOf e) h1;rw[xT count];omega
   ·rw[bI]at h;have h1:off/P.cellsOf e<count:=by simpa using h.1
    have h1:off/P.cellsOf e+1<=count:=h1;have:=Sq (P.cellsOf e) h1;rw[Nat.mul_add,CH]at this;rw[xT count];omega
theorem ary:∀(d:Nat) (e:bE) (count off:Nat) (u:bE) (n:Nat),liesAt P d e count off u n=true->off<=count*P.cellsOf e
 |0,_,_,_,_,_,h=>by simp[liesAt]at h
 |d+1,e,count,off,u,n,h=>by
  unfold liesAt at h;rw[EG]at h;rcases h with h|h
  ·exact aPI _ _ _ _ _ h
  ·split at h
   ·exact ary d e count off _ _ h
   ·cases h
theorem aAp {base:Nat} {w:aC} {a:Addr} {n:Nat} {cs:List bf} (h:w.cells? base a n=some cs):cs.length=n/\∀j,j<n->w.cell? (a.add j)=cs[j]?:=by
 unfold World.cells? at h;split at h
 ·have hl:=List.arv h;refine⟨by simpa using hl,λj aR=>?_⟩;have:=List.aoD h j j (by simp[aR]);exact this
 ·cases h
where
 List.arv {α β:Type} {f:α->Option β}:∀{l:List α} {r:List β},l.mapM f=some r->r.length=l.length
  |[],r,h=>by simp at h;subst h;rfl
  |x::l,r,h=>by
   rw[awi]at h;cases hx:f x with
   |none=>simp[hx]at h
   |some y=>
    cases hl:l.mapM f with
    |none=>simp[hx,hl]at h
    |some s=>
     simp[hx,hl]at h;subst h;simp[List.arv hl]
 List.aoD {α β:Type} {f:α->Option β}:∀{l:List α} {r:List β},l.mapM f=some r->∀(j:Nat) (x:α),l[j]?=some x->f x=r[j]?
  |[],r,h,j,x,hx=>by simp at hx
  |y::l,r,h,j,x,hx=>by
   rw[awi]at h;cases hy:f y with
   |none=>simp[hy]at h
   |some z=>
    cases hl:l.mapM f with
    |none=>simp[hy,hl]at h
    |some s=>
     simp[hy,hl]at h;subst h;cases j with
     |zero=>simp at hx;subst hx;simp[hy]
     |succ j=>simpa using List.aoD hl j x (by simpa using hx)
theorem atp {cells:Array bf} {sh:List a8}:∀(len o:Nat),o<=cells.size->(∀i,i<len->∃zs,cX sh zs/\∀j,j<sh.length->cells[o+i*sh.length+j]?=(eA sh zs)[j]?)->(0<len->0<sh.length)->
 ∃rows:List (List Int),rows.length=len/\pz cells o sh rows
 |0,o,aA,_,_=>⟨[],rfl,λ_ h=>by simp at h,cells.toList.take o,cells.toList.drop o,by simp[ct],by simp;omega⟩
 |len+1,o,aA,h,hp=>by
  obtain⟨zs,bR,a2⟩:=h 0 (Nat.succ_pos _);have hp:=hp (Nat.succ_pos _);have hv:=Js bR;have Pa:=a2 (sh.length-1) (by omega);have hsz:o+sh.length<=cells.size:=by
   have:(eA sh zs)[sh.length-1]?≠none:=by rw[lA (by omega)];simp
   rw[<-Pa]at this;have:=Array.aCw.1 this;omega
  obtain⟨rows,b4,cg,pre,post,dh,ox⟩:=atp len (o+sh.length) hsz (λi hi=>by
   obtain⟨iG,c1,bQ⟩:=h (i+1) (by omega);refine⟨iG,c1,λj aR=>?_⟩;rw[<-bQ j aR]
   congr 1
   rw[AX];omega) λ_=>hp
  refine⟨zs::rows,by simp[b4],λrow hr=>?_,cells.toList.take o,post,?_,by simp;omega⟩
  ·rcases List.mem_cons.1 hr with rfl|hr
   ·exact bR
   ·exact cg row hr
  ·have av:pre=cells.toList.take (o+sh.length):=by
    rw[dh,fS,List.take_left' ox]
   have aH:pre=cells.toList.take o++eA sh zs:=by
    rw[av,List.take_add]
    congr 1
    refine List.ext_getElem? λj=>?_;by_cases aR:j<sh.length
    ·have:=a2 j aR;rw[List.getElem?_take,if_pos aR,List.getElem?_drop,<-this];simp
    ·rw[M8 (by simp;omega),M8 (by omega)]
   have ca:cells.toList=cells.toList.take o++eA sh zs++ct sh rows++post:=by rw[<-aH];exact dh
   have ht:ct sh (zs::rows)=eA sh zs++ct sh rows:=by simp[ct]
   rw[ht,<-fS];exact ca
where
 Array.aCw {α:Type} {a:Array α} {i:Nat}:a[i]?≠none↔i<a.size:=by simp
def Nc (P:cc) (t:bE):c3->Prop
 | .d (.int k lo hi)=>P.underlying t=some (.int k)/\lo=k.min/\hi=k.max
 | .d .bool=>P.underlying t=some .bool
 | .d .str=>P.underlying t=some .string
 | .d (.agg k n lo hi)=>∃e,P.underlying t=some (.array n e)/\El P 8 t=some (dw n (.int k lo hi))/\P.cellsOf t=n
 | .d (.mix l)=>((∃fs,P.underlying t=some (.struct fs))∨∃n e,P.underlying t=some (.array n e))/\El P 8 t=some l/\P.cellsOf t=l.length
 | .d (.AJ _)=>False
 | .d (.kF ..)=>False
 | .rd sh=>∃e,P.underlying t=some (.slice e)/\El P 8 e=some sh/\P.cellsOf e=sh.length/\qq sh=true
 | .rX _ _=>False
theorem cX.ay:∀{sh:List a8} {zs:List Int},cX sh zs->ay (sh.map a8.gu) zs
 |[],[],_=>trivial
 |_::_,_::_,h=>⟨h.1.1,h.1.2,cX.ay h.2⟩
 |[],_::_,h=>h.elim
 |_::_,[],h=>h.elim
theorem atk:∀(sh:List a8) (zs:List Int),eA sh zs=tG a8.val sh zs
 |[],_=>by simp[eA]
 |_::_,[]=>by simp[eA]
 |c::sh,z::zs=>by simp only[eA,Sm,atk sh zs]
theorem atj (k:eB) (lo hi:Int):∀(n:Nat) (zs:List Int),zs.length=n->eA (dw n (.int k lo hi)) zs=zs.map (AV k)
 |0,[],_=>rfl
 |n+1,z::zs,h=>by
  rw[y8];simp only[eA,df,atj k lo hi n zs (by simpa using h)];rfl
 |0,_::_,h=>by simp at h
 |n+1,[],h=>by simp at h
theorem ar0 (k:eB) (lo hi:Int):∀n:Nat,(dw n (a8.int k lo hi)).map a8.gu=aT lo hi n
 |0=>rfl
 |n+1=>by rw[y8,df,ar0 k lo hi n];rfl
theorem aLE {dM:Nat} {w:aC} {t:bE} {b:c3} {v:bf} {x:pX H} {lx:List AU} (aB:Nc P t b) (qS:SA P w .any dM t v) (hd:DataW.Trod enc P w 0 (λ_=>true) true t v x lx) (hw:∀m∈x.weights P t,m<=reachBytes):
 ∃zs,ay b.bds zs/\zs.length=b.num/\b.at (λg=>g<w.heap.size) (λ_=>False) w zs v:=by
 obtain⟨fuel,hf⟩:=hd;have agg:((∃fs,P.underlying t=some (.struct fs))∨∃n e,P.underlying t=some (.array n e))->∃cs,v= .agg cs/\cs.size=P.cellsOf t:=λh=>by
  unfold SA at qS;rcases h with⟨fs,h⟩|⟨n,e,h⟩
  ·rw[h]at qS;obtain⟨cs,a,b,_⟩:=qS;exact⟨cs,a,b⟩
  ·rw[h]at qS;obtain⟨cs,a,b,_⟩:=qS;exact⟨cs,a,b⟩
 cases b with
 |rX _ _=>exact aB.elim
 |d y=>
  cases y with
  |AJ l=>exact aB.elim
  |kF k c=>exact aB.elim
  |int k lo hi=>
   obtain⟨h1,rfl,rfl⟩:=aB;obtain⟨n,rfl⟩:=okWide_int h1 qS;obtain⟨n',h,hx,aep⟩:=awj h1 hf;simp[JP]at h;subst h;have:=au0.1 aep;exact⟨[n],⟨this.1,this.2,trivial⟩,rfl,rfl⟩
  |bool=>
   obtain⟨c,rfl⟩:=okWide_bool aB qS;refine⟨[cond c 1 0],?_,rfl,?_⟩
   ·cases c<;>simp[c3.bds,D.bds,ay]
   ·cases c<;>simp[c3.at,D.val]
  |str=>
   obtain⟨s,rfl⟩:=okWide_string aB qS;obtain⟨Jt,h,hx,hs⟩:=aW7 aB hf;simp[JP]at h;subst h;simp only[fi]at hx;have hb:s.data.toList.length<=nw:=hw _ (by rw[hx.1];simp[Yw]);exact⟨[k5 s.data.toList],⟨zz _,x1 hb,trivial⟩,rfl,by simp[c3.at,D.val,Ce,eS]⟩
  |agg k n lo hi=>
   obtain⟨e,h1,h2,h3⟩:=aB;obtain⟨cs,rfl,hsz⟩:=agg (.inr ⟨n,e,h1⟩);obtain⟨zs,bR,a2,_⟩:=Wi 8 t _ h2 fuel _ _ hf (by show cs.toList.length=_;simp[hsz,h3]) hw;have hl:zs.length=n:=by have:=bR.len;simpa using this
   have dS:cs=(eA (dw n (.int k lo hi)) zs).toArray:=by rw[<-a2];simp[JP]
   refine⟨zs,?_,hl,?_⟩
   ·have:=bR.ay;rw[ar0]at this;exact this
   ·show aW8 cs=_;rw[dS,atj k lo hi n zs hl];simp only[D.val,<-hl,ai4]
  |mix l=>
   obtain⟨h1,h2,h3⟩:=aB;obtain⟨cs,rfl,hsz⟩:=agg h1;obtain⟨zs,bR,a2,_⟩:=Wi 8 t _ h2 fuel _ _ hf (by show cs.toList.length=_;simp[hsz,h3]) hw;have hl:zs.length=l.length:=bR.len;have dS:cs=(eA l zs).toArray:=by rw[<-a2];simp[JP]
   refine⟨zs,bR.ay,hl,?_⟩;show aW8 cs=_;rw[dS,atk];rfl
 |rd sh=>
  obtain⟨e,h1,h2,h3,Is⟩:=aB;have h4:0<sh.length:=by
   unfold qq at Is;simp only[bI,Nat.blt_eq]at Is;exact Is.1.2
  obtain⟨a,len,cap,rfl⟩:=okWide_slice h1 qS;rcases DataW.trod_slice h1 hf with⟨h,_⟩|⟨alf,q2,k6,elems,rest,n,rfl,h,hx,_,Pb,Fz,K7,aEC,xe,yh⟩
  ·simp[JP]at h;obtain⟨rfl,rfl,rfl⟩:=h;exact⟨[0],⟨cn _,zc,trivial⟩,rfl,.inl ⟨rfl,j2⟩⟩
  ·simp[JP]at h;obtain⟨rfl,rfl,rfl⟩:=h;have aEO:w.has P .any dM alf e cap:=by
    unfold SA at qS;rw[h1]at qS;simp only[Cell.okWide,Cell.ok,h1]at qS;exact qS.2.2
   obtain⟨_,ap2,row,abD,mc,aE0⟩:=aEO;obtain⟨g,o,sp⟩:=alf;simp only at ap2;subst ap2;obtain⟨cells,JD,fz,Dp,ua⟩:∃cells JD fz,w.heap[g]?=some (.cells cells JD fz)/\cells.size=abD/\JD=row:=by
    unfold World.shape? at mc;split at mc
    ·rename_i c el fz hb;simp only[bu,fi]at mc;exact⟨c,el,fz,hb,mc.2,mc.1⟩
    ·cases mc
   have aA:o<=cells.size:=by
    have:=ary _ _ _ _ _ _ aE0;have h6:=Nat.div_mul_le_self abD (P.cellsOf row);have h7:o<=abD/P.cellsOf row*P.cellsOf row:=this;omega
   simp only[fi]at hx;obtain⟨s9,lI⟩:=hx;rw[s9]at hw;simp only[Yw,h1,m2,y7]at hw;obtain⟨rows,r1,r2⟩:=atp (cells:=cells) (sh:=sh) len o aA (λi hi=>by
    have:=aEC i hi;cases hy:elems[i]? with
    |none=>rw[List.getElem?_eq_none_iff]at hy;omega
    |some y=>
     rw[hy,Option.bind_eq_some_iff]at this;obtain⟨cs,g1,g2⟩:=this;obtain⟨l1,l2⟩:=aAp g1;obtain⟨zs,ar,z2,_⟩:=Wi 8 e sh h2 n cs y g2 (by rw[l1,h3]) λm hm=>by
      refine hw m (.inr (.inl ?_));exact ar2 hy hm
     refine⟨zs,ar,λj aR=>?_⟩;have:=l2 j (by rw[h3];exact aR);rw[lk,lk]at this;simp only[oq,Dp,Option.isSome_none,Bool.false_eq_true,if_false]at this;rw[<-z2,<-this,h3]) λ_=>h4
   have dR:(cap:Int)<=0x7fffffffffffffff:=by unfold maxLen at Fz;omega
   have UJ:rows.length<=maxLen:=by omega
   have aC9:rc rows<=cP:=u1 UJ λr hr=>(r2.1 r hr).row Is;refine⟨[rc rows],⟨kh _,aC9,trivial⟩,rfl,.inr ⟨g,o,cap,cells,JD,fz,?_,?_,?_,Dp,?_⟩⟩
   ·simp[jO,r1]
   ·simp only[gp,jO,r1];exact⟨Pb,dR⟩
   ·exact(Array.getElem?_eq_some_iff.1 Dp).1
   ·simp only[gp,jO];exact r2
where
 ar2 {e:bE}:∀{l:List (pX H×List AU)} {i:Nat} {y:pX H×List AU} {m:Nat},l[i]?=some y->m∈y.1.weights P e->m∈Yv P e (l.map (·.1))
  |x::l,0,y,m,h,hm=>by
   simp only[xU,bu]at h;subst h;simp only[df,Yv,y7];exact .inl hm
  |x::l,i+1,y,m,h,hm=>by
   simp only[df,Yv,y7];exact .inr (ar2 (by simpa using h) hm)
  |[],_,_,_,h,_=>by simp at h
def YF (P:cc):List bE->List c3->Prop
 |[],[]=>True
 |t::ts,b::bs=>Nc P t b/\YF P ts bs
 |_,_=>False
theorem c3.ayU {F N:Nat->Prop} {w:aC} (b:c3) {zs l:List Int} {v:bf} (h:zs.length=b.num) (ha:b.at F N w zs v):b.at F N w (zs++l) v:=by
 cases b with
 |d x=>
  show v=x.val (zs++l);rw[D.auX x (l:=l) h];exact ha
 |rd sh=>match zs,h with|[z],_=>exact ha
 |rX sh e=>match zs,h with|[z],_=>exact ha
theorem asD {dM:Nat} {w:aC}:∀{ts:List bE} {bs:List c3} {vs:List bf} {xs:List (pX H)} {lx:List AU},YF P ts bs->(∀(j:Nat) t v,ts[j]?=some t->vs[j]?=some v->SA P w .any dM t v)->awA enc P w 0 (λ_=>true) true ts vs xs lx->
 (∀m∈Yu P ts xs,m<=reachBytes)->∃zs,ay (c7 bs) zs/\m7 (λg=>g<w.heap.size) (λ_=>False) w bs zs vs/\xs.length=bs.length
 |[],[],[],[],lx,_,_,h,_=>⟨[],trivial,trivial,rfl⟩
 |[],[],_::_,_,_,_,_,h,_=>h.elim
 |[],[],[],_::_,_,_,_,h,_=>h.elim
 |[],_::_,_,_,_,h,_,_,_=>h.elim
 |_::_,[],_,_,_,h,_,_,_=>h.elim
 |_::_,_::_,[],_,_,_,_,h,_=>by cases h
 |_::_,_::_,_::_,[],_,_,_,h,_=>by cases h
 |t::ts,b::bs,v::vs,x::xs,lx,aB,hv,h,hw=>by
  obtain⟨p,q,h1,h2,rfl⟩:=h;simp only[Yu,y7]at hw;obtain⟨zs,bR,a2,a3⟩:=aLE aB.1 (hv 0 t v rfl rfl) h1 λm hm=>hw m (.inl hm);obtain⟨iG,b4,cg,dh⟩:=asD aB.2 (λj t v h1 h2=>hv (j+1) t v (by simpa using h1) (by simpa using h2)) h2 λm hm=>hw m (.inr hm);refine⟨zs++iG,BP bR b4,⟨c3.ayU b a2 a3,?_⟩,by simp[dh]⟩;rw[<-a2,GX];exact cg
theorem aur (hl:laidOutB P=true) {W W':aC} (hb:Below W.heap.size W W'):∀{ts:List bE} {vs:List bf} {xs:List (pX H)} {lx:List AU},(∀t∈ts,P.readableRec t=true/\t<P.types.size)->awA enc P W 0 (λ_=>true) true ts vs xs lx->(∀x∈lx,x.block<W.heap.size)->
 awA enc P W' 0 (λb=>decide (b<W.heap.size)) true ts vs xs lx
 |[],[],[],_,_,h,_=>h
 |[],_::_,_,_,_,h,_=>h.elim
 |[],[],_::_,_,_,h,_=>h.elim
 |_::_,[],_,_,_,h,_=>by cases h
 |_::_,_::_,[],_,_,h,_=>by cases h
 |t::ts,v::vs,x::xs,lx,hr,h,hlt=>by
  obtain⟨p,q,h1,h2,rfl⟩:=h;exact⟨p,q,Below.trod hl (hr t (by simp)).1 (hr t (by simp)).2 h1 hb λx hx=>hlt x (List.mem_append.2 (.inl hx)),aur hl hb (λt aB=>hr t (e5 _ aB)) h2 λx hx=>hlt x (List.mem_append.2 (.inr hx)),rfl⟩
theorem aAq {C:Checked} {os:Os} {f:dv} {fn:Func} {s:ChangeSpec} {apart:Bool} {X:aC->Array bf->Prop}
 (cb:∀(w w':aC) (args:Array bf),w.heap=w'.heap->X w args->X w' args)
 (own:ownKnob C.prog.godebug=none) (started:os.Started) (age:C.prog.inits.idxOf? f=none) (FD:C.prog.funcs[f]?=some fn)
 (witness:∃(w:aC) (tape:Tape) (i:Input),w.os=os/\(w.forCall tape i).Shaped C.prog/\i.vars=[]/\aW9 C.prog (w.forCall tape i) .any w.heap.size f i/\
   ((s.pre enc C.prog fn [] apart (w.forCall tape i).memory i.args/\X (w.forCall tape i).memory i.args)/\sizedMet enc C.prog fn (ajm s) apart (w.forCall tape i).memory i.args)/\({}:Assume).holds C.prog (lone (aXa C.prog f i.args .normal) [] (w.forCall tape i)))
 (abO:∀(W:aC) (base:Nat) (args:Array bf) (ds gs:List (pX H)) (before:List AU),
   (∀(j:Nat) t v,fn.params[j]?=some t->args[j]?=some v->SA C.prog W .any base t v)->
   DataW.Whole enc C.prog fn.params.toList s.vars apart W args.toList ds gs before->(Yu C.prog (fn.params.toList++s.plain.varTypes C.prog) (ds++gs)).all (·<=reachBytes)=true->X W args->W.ShapedOpen C.prog->
   oo C.prog f args W λe W'=>∃v,e= .returned v/\s.post enc C.prog fn apart true false false W args v W'):
 ReturnsInHanded {} C os f .any (λw args=>(s.pre enc C.prog fn [] apart w args/\X w args)/\sizedMet enc C.prog fn (ajm s) apart w args) (s.post enc C.prog fn apart true false false):=by
 refine returnsInHanded_of_calls own started age witness ?_;intro w tape i _ mc _ cm rH aYc;obtain⟨_,_,_,aCf,OZ,_,_,_,_,qS⟩:=cm;have e:aCf=fn:=iI (OZ.symm.trans FD);subst e;obtain⟨⟨⟨ds,gs,before,hw,hc⟩,hx⟩,hz⟩:=rH;have ym:=a0B (w':=w.forCall tape i) (by rfl) hw;refine(abO (w.forCall tape i) w.heap.size i.args ds gs before qS ym (hz.weights hw) (cb _ _ _ (by rfl) hx) mc).mono λe W' ⟨v,he,hp⟩=>?_;subst he;exact a0C hp
theorem aH0 {C:Checked} {os:Os} {f:dv} {fn:Func} {s:ChangeSpec} {X:aC->Array bf->Prop} {apart:Bool} {ts:List bE} {tb:bE} {bs:List c3}
 (cb:∀(w w':aC) (args:Array bf),w.heap=w'.heap->X w args->X w' args)
 (own:ownKnob C.prog.godebug=none) (started:os.Started) (age:C.prog.inits.idxOf? f=none) (FD:C.prog.funcs[f]?=some fn)
 (witness:∃(w:aC) (tape:Tape) (i:Input),w.os=os/\(w.forCall tape i).Shaped C.prog/\i.vars=[]/\aW9 C.prog (w.forCall tape i) .any w.heap.size f i/\
   ((s.pre enc C.prog fn [] apart (w.forCall tape i).memory i.args/\X (w.forCall tape i).memory i.args)/\sizedMet enc C.prog fn (ajm s) apart (w.forCall tape i).memory i.args)/\({}:Assume).holds C.prog (lone (aXa C.prog f i.args .normal) [] (w.forCall tape i)))
 (hp:fn.params.toList=ts) (hr:fn.resultTypes.toList=[tb]) (hA:fn.resultTypes.size=1) (aFK:C.prog.underlying tb=some .bool) (Pr:YF C.prog ts bs) (zR:laidOutB C.prog=true) (zW:(ts.all λt=>C.prog.readableRec t&&decide (t<C.prog.types.size))=true) (aen:s.vars=[])
 (hs:∀xs:List (pX H),xs.length=bs.length->s.fn H xs={results:=[.lit (.bool true)],args:=xs,vars:=[]})
 (abO:∀(W:aC) (zs:List Int) (vs:List bf),ay (c7 bs) zs->m7 (λg=>g<W.heap.size) (λ_=>False) W bs zs vs->X W vs.toArray->W.ShapedOpen C.prog->oo C.prog f vs.toArray W λe W'=>e= .returned (.bool true)/\W.Extends W'):
 ReturnsInHanded {} C os f .any (λw args=>(s.pre enc C.prog fn [] apart w args/\X w args)/\sizedMet enc C.prog fn (ajm s) apart w args) (s.post enc C.prog fn apart true false false):=by
 refine aAq cb own started age FD witness ?_;intro W base args xs gs before aF1 qL hsz hx mc;have aDa:=qL;have hlt:=qL.lt;obtain⟨p,q,aV,adb,rfl,adI,aYk⟩:=qL;rw[hp]at aV;rw[aen]at adb;obtain⟨rfl,rfl⟩:gs=[]/\q=[]:=by
  cases gs with
  |nil=>exact⟨rfl,adb⟩
  |cons g r=>exact absurd adb (by intro h;cases h)
 have qS:∀(j:Nat) t v,ts[j]?=some t->args.toList[j]?=some v->SA C.prog W .any base t v:=λj t v h1 h2=>aF1 j t v (by rw[<-hp]at h1;simpa using h1) (by simpa using h2);have e:(fn.params.toList++s.plain.varTypes C.prog)=ts:=by rw[hp];simp[DataSpec.varTypes,a0E,aen]
 rw[e,gO,MV]at hsz;obtain⟨zs,hz,hat,hlen⟩:=asD Pr qS aV λn hn=>by simpa using hsz n hn
 have s4:args=args.toList.toArray:=by simp
 rw[s4]at hx;have adx:oo C.prog f args W λe W'=>e= .returned (.bool true)/\W.Extends W':=by
  have:=abO W zs args.toList hz hat hx mc
  rwa [<-s4]at this
 refine adx.mono λe W' ⟨he,hw⟩=>?_;subst he;have OZ:=hs (xs++[]) (by simp[hlen]);have aEf:Below W.heap.size W W':=⟨hw.os,hw.tape,hw.output,hw.size,λi hi=>hw.block i hi⟩;refine⟨_,rfl,_,_,_,[],p,[],aDa,?_,?_,?_,aHk hw _,λh=>by cases h⟩
 ·rw[OZ,hr,hA];exact trodAll_mk1 (shut_bool aFK true)
 ·rw[OZ,hp,gO];exact aur zR aEf (λt aB=>by
   have:=List.all_eq_true.1 zW t aB;simpa using this) aV λx hx=>hlt x (by simp[hx])
 ·rw[OZ,aen];rfl
section
variable {gl:fK} {wb:aC} {sh:Nat->List Nat×List Nat} {SB:Nat->List (List Int)->List (List Int)->Prop}
def ej (SB:zzS) (res:List c3) (id:Nat):List (List Int)->List (List Int)->Prop:=λzs rs=>ay (c7 res) rs.flatten/\SB id zs rs
theorem azk {c:eG} {bc:qz} {cal:gb} {li:dv->Nat->Option fB} {rounds d:Nat} {lsh:Nat->List Nat} {lens:List Nat} (hm:P.follows .mixedOrders=true) (di:∀r ex ro,im (du sh SB) P gl ⟨wb,r,ex,ro,[]⟩ cal) (hg:fJ gl ⟨wb,wb,λ_=>False,λ_=>False,[]⟩)
 (oB:∀(L:V->Env->Prop) (r:aC) (ro:Nat->Prop),xY (du sh SB) L ⟨wb,r,λ_=>False,ro,[]⟩ P bc) (hf:BG P c.f=true) (hl:lens=(sh c.id).1) (hd:D1 c.res=(sh c.id).2)
 (hv:iL sh lsh SB (ej SB c.res c.id) lens (c7 c.args) c.res (c.tree bc P gl cal li rounds d)):c.bH P wb (du sh SB c.id):=by
 refine eG.QJ (li:=li) (rounds:=rounds) (d:=d) hm di hg oB (enters hf) (tO λzs hz=>?_);have h:=m6 (aaw hv) hz;simp only[ej,uK]at h;rw[hl,hd]at h;exact h
theorem aHZ {c:eG} {W:aC} {vs:List bf} {zs:List Int} (hc:c.bH P W (du sh SB c.id)) (pG:c.res=[.d .bool]) (rH:c.pre=0) (hz:ay (c7 c.args) zs) (hat:m7 (λg=>g<W.heap.size) (λ_=>False) W c.args zs vs) (h1:∀a z,SB c.id a [[z]]->z=1) (h2:(sh c.id).2=[1]):
 oo P c.f vs.toArray W λe W'=>e= .returned (.bool true)/\W.Extends W':=by
 refine(hc.2 _ W vs zs (sd W) hz (by rw[rH];trivial) hat).mono λe W' ⟨hx,rs,us,hb,hs,hr,he⟩=>⟨?_,hx⟩;rw[pG]at hb hr
 match rs,hb,us,hr,hs,he with
 |[z],hb,[u],hr,hs,he=>
  unfold du at hs;rw[h2]at hs;have av:z=1:=h1 _ z hs;subst av;have:u= .bool true:=hr.1;subst this;rw[he];rfl
 |[z],hb,[],hr,hs,he=>exact hr.elim
 |[z],hb,_::_::_,hr,hs,he=>exact hr.2.elim
 |[],hb,_,_,_,_=>exact hb.elim
 |_::_::_,hb,_,_,_,_=>exact hb.2.2.elim
end
end Go.bX
namespace Go.bX
open M
structure aXk where
 f:dv
 id:Nat
 sh:List a8
 e:bE
 args:List c3
 pre:Nat:=0
section
variable {S:Nat->List Int->List Int->Prop} {L:V->Env->Prop} {w0:fg} {P:cc}
end
end Go.bX
namespace Go.bX
open M Go.RowKit
variable {S:Nat->List Int->List Int->Prop} {L:V->Env->Prop} {P:cc} {gl:fK} {cal:gb}
def ZP (P:cc) (f:dv):Prop:=(∀args w,(callFunc f args).run P w= .ok (.enter f args) w)/\∀(l bs vh:Nat) (sv:bf) (g off len cap c:Nat) (J:Nat->aC->Prop) (W:aC),0<c->len<=0x7fffffffffffffff->c∣len->len<=cap->c<=0x7fffffffffffffff->(sv= .slice (some ⟨g,off,none⟩) len cap∨(sv= .slice none 0 0/\len=0))->(∀i W,J i W->W.cell? ⟨bs,0,none⟩=some sv/\W.cell? ⟨vh,0,none⟩=some (.int .i64 c))->(∀i W,J i W->J i W.drew)->(∀i W,J i W->c*i<len->YieldAt JU 0 P l #[.slice (some ⟨g,off+c*i,none⟩) c c] W λe W'=>e= .returned (.bool true)/\J (i+1) W')->J 0 W->CallsIn JU 0 P f #[.func (.yield l) #[] #[],.pointer (some ⟨bs,0,none⟩),.pointer (some ⟨vh,0,none⟩)] W λe W'=>(∃v,e= .returned v)/\J (len/c) W'
theorem acv {b w w':aC} (h:b.Extends w) (h1:w'.os=w.os) (h2:w'.tape=w.tape) (h3:w'.output=w.output) (h4:w.heap.size<=w'.heap.size) (h5:∀k,k<b.heap.size->w'.heap[k]?=w.heap[k]?):b.Extends w':=
 ⟨h1.trans h.os,h2.trans h.tape,h3.trans h.output,nJ h.size h4,λa ha=>(World.cell?_of_block (h5 _ ha)).trans (h.cell a ha),λa ha=>(World.frozen?_of_block (h5 _ ha)).trans (h.frozen a ha),λi hi=>(h5 i hi).trans (h.block i hi)⟩
theorem Mem.yV {b r r':aC} {ex ro:Nat->Prop} {ds Hz:List GY} {ρ:Env} {m:Nat->Nat} {bl:List aM} {w w':aC} (h:Mem ⟨b,r,ex,ro,ds⟩ ρ m bl w) (l:Nat) (hl:b.heap.size<=l) (hex:¬ex l) (hlt:l<r.heap.size)
 (hr:r'.os=r.os/\r'.tape=r.tape/\r'.output=r.output/\r'.heap.size=r.heap.size) (hw:w'.os=w.os/\w'.tape=w.tape/\w'.output=w.output/\w'.heap.size=w.heap.size)
 (h1:∀k,k≠l->r'.heap[k]?=r.heap[k]?) (h2:∀k,k≠l->w'.heap[k]?=w.heap[k]?) (h3:w'.heap[l]?=r'.heap[l]?) (hc:∀o:Obj,r.heap[l]?=some o->o.isCells=false):Mem ⟨b,r',ex,ro,Hz⟩ ρ m bl w':=by
 have aF7:w.heap[l]?=r.heap[l]?:=h.kp l hlt hex;have ne:∀{g:Nat} {cs:Array bf} {t:bE} {fz:Nat×Nat},w.heap[g]?=some (.cells cs t fz)->g≠l:=λ{g cs t fz} hg e=>by
  subst e;rw[aF7]at hg;have:=hc _ hg;simp[Obj.isCells]at this
 refine⟨acv h.ext hw.1 hw.2.1 hw.2.2.1 (by omega) (λk ag=>h2 k (by simp only at hl ag;omega)),by rw[hw.1,h.kE];exact hr.1.symm,by rw[hw.2.1,h.mE];exact hr.2.1.symm,by rw[hw.2.2.1,h.lq];exact hr.2.2.1.symm,by have:=h.ia;simp only at this⊢;omega,λi hi hx=>?_,λi cs t hi aA=>?_,λi sh off code cap kind t hi=>?_,h.inj⟩
 ·by_cases e:i=l
  ·subst e;exact h3
  ·rw[h2 i e,h1 i e];exact h.kp i (by simp only at hi⊢;omega) hx
 ·obtain⟨g1,g2,Mo,zV,g3⟩:=h.gP i cs t hi aA;refine⟨g1,g2.imp id λh=>?_,Mo,zV,by rw[h2 _ (ne g3)];exact g3⟩;simp only at h⊢;omega
 ·intro ag;obtain⟨g1,g2⟩:=h.rws i sh off code cap kind t hi ag;refine⟨g1,λdR=>?_⟩;obtain⟨k1,cells,t',fz,k2,k3,k4⟩:=g2 dR;refine⟨k1.imp id (·.imp id λh=>by simp only at h⊢;omega),cells,t',fz,by rw[h2 _ (ne k2)];exact k2,k3,λOz=>?_⟩;obtain⟨dN,nY,o6,td,zZ,qU⟩:=k4 Oz;exact⟨dN,nY,o6,td,zZ,qU.imp id λh=>by simp only at h⊢;omega⟩
structure Sub (eU w0:fg):Prop where
 b:eU.b=w0.b
 os:eU.r.os=w0.r.os
 tape:eU.r.tape=w0.r.tape
 out:eU.r.output=w0.r.output
 size:w0.r.heap.size<=eU.r.heap.size
 ex:∀g,eU.ex g∨eU.r.heap.size<=g->w0.ex g∨w0.r.heap.size<=g
 ro:∀g,eU.ro g->w0.ro g
 kp:∀i,i<w0.r.heap.size->¬w0.ex i->eU.r.heap[i]?=w0.r.heap[i]?
theorem Mem.less {eU w0:fg} {ρ:Env} {m:Nat->Nat} {bl:List aM} {w:aC} (h:Mem eU ρ m bl w) (s:Sub eU w0):Mem w0 ρ m bl w:=by
 refine⟨s.b▸h.ext,h.kE.trans s.os,h.mE.trans s.tape,h.lq.trans s.out,nJ s.size h.ia,λi hi hx=>?_,λi cs t hi aA=>?_,λi sh off code cap kind t hi=>?_,h.inj⟩
 ·have dE:¬eU.ex i:=λe=>by
   rcases s.ex i (.inl e)with e|e
   ·exact hx e
   ·omega
  exact(h.kp i (JL hi s.size) dE).trans (s.kp i hi hx)
 ·obtain⟨g1,g2,g3⟩:=h.gP i cs t hi aA;exact⟨s.b▸g1,s.ex _ g2,g3⟩
 ·intro ag;obtain⟨g1,g2⟩:=h.rws i sh off code cap kind t hi ag;refine⟨g1,λdR=>?_⟩;obtain⟨k1,cells,t',fz,k2,k3,k4⟩:=g2 dR;refine⟨?_,cells,t',fz,k2,k3,λOz=>?_⟩
  ·rcases k1 with k1|k1|k1
   ·exact(s.ex _ (.inl k1)).imp id .inr
   ·exact .inr (.inl (s.ro _ k1))
   ·exact(s.ex _ (.inr k1)).imp id .inr
  ·obtain⟨dN,nY,o6,td,zZ,qU⟩:=k4 Oz;exact⟨dN,nY,o6,td,s.b▸zZ,s.ex _ qU⟩
def narrow (w0:fg) (W:aC) (ds:List GY):fg:=⟨w0.b,W,λg=>(w0.ex g∨w0.r.heap.size<=g)/\∃o:Obj,W.heap[g]?=some o/\o.isCells=true,w0.ro,ds⟩
theorem Mem.narrow {w0:fg} {ρ:Env} {m:Nat->Nat} {bl:List aM} {w:aC} (h:Mem w0 ρ m bl w) (ds:List GY):Mem (narrow w0 w ds) ρ m bl w:=by
 refine⟨h.ext,rfl,rfl,rfl,b1 _,λ_ _ _=>rfl,λi cs t hi aA=>?_,λi sh off code cap kind t hi=>?_,h.inj⟩
 ·obtain⟨g1,g2,Mo,zV,g3⟩:=h.gP i cs t hi aA;exact⟨g1,.inl ⟨g2,_,g3,rfl⟩,Mo,zV,g3⟩
 ·intro ag;obtain⟨g1,g2⟩:=h.rws i sh off code cap kind t hi ag;refine⟨g1,λdR=>?_⟩;obtain⟨k1,cells,t',fz,k2,k3,k4⟩:=g2 dR;refine⟨?_,cells,t',fz,k2,k3,λOz=>?_⟩
  ·rcases k1 with k1|k1|k1
   ·exact .inl ⟨.inl k1,_,k2,rfl⟩
   ·exact .inr (.inl k1)
   ·exact .inl ⟨.inr k1,_,k2,rfl⟩
  ·obtain⟨dN,nY,o6,td,zZ,qU⟩:=k4 Oz;exact⟨dN,nY,o6,td,zZ,.inl ⟨qU,_,k2,rfl⟩⟩
theorem Sub.narrow {w0:fg} {ρ:Env} {m:Nat->Nat} {bl:List aM} {w:aC} (h:Mem w0 ρ m bl w) (ds:List GY):Sub (narrow w0 w ds) w0:=
 ⟨rfl,h.kE,h.mE,h.lq,h.ia,λg hg=>by
  rcases hg with hg|hg
  ·exact hg.1
  ·exact .inr (nJ h.ia hg),λ_ h=>h,λi hi hx=>h.kp i hi hx⟩
theorem Sub.yV {w0:fg} {b r r':aC} {ex ro:Nat->Prop} {ds Hz:List GY} (s:Sub ⟨b,r,ex,ro,ds⟩ w0) (l:Nat) (hl:w0.r.heap.size<=l) (hr:r'.os=r.os/\r'.tape=r.tape/\r'.output=r.output/\r'.heap.size=r.heap.size)
 (h1:∀k,k≠l->r'.heap[k]?=r.heap[k]?):Sub ⟨b,r',ex,ro,Hz⟩ w0:=
 ⟨s.b,hr.1.trans s.os,hr.2.1.trans s.tape,hr.2.2.1.trans s.out,by have:=s.size;simp only at this⊢;omega,λg hg=>s.ex g (hg.imp id λh=>by simp only at h⊢;omega),s.ro,λi hi hx=>by
  rw[h1 i (by omega)];exact s.kp i hi hx⟩
theorem Mem.ds {b r:aC} {ex ro:Nat->Prop} {ds Hz:List GY} {ρ:Env} {m:Nat->Nat} {bl:List aM} {w:aC} (h:Mem ⟨b,r,ex,ro,ds⟩ ρ m bl w):Mem ⟨b,r,ex,ro,Hz⟩ ρ m bl w:=
 ⟨h.ext,h.kE,h.mE,h.lq,h.ia,h.kp,h.gP,h.rws,h.inj⟩
theorem im.ds {b r:aC} {ex ro:Nat->Prop} {ds Hz:List GY} (h:im S P gl ⟨b,r,ex,ro,ds⟩ cal):im S P gl ⟨b,r,ex,ro,Hz⟩ cal:=λf g hf L n ρ m bl vs xs h1 h2 h3 h4=>by
 obtain⟨w,hw⟩:=h2
 exactλG JV ah=>by
  obtain⟨ae,n',v,k1,k2,⟨k3,val,k4,te⟩,z1⟩:=h f g hf L n ρ m bl vs xs h1 ⟨w,hw.ds⟩ h3 h4 G JV ah;exact⟨ae,n',v,k1,k2,⟨k3,val,k4,λw hw=>te w hw.ds⟩,z1⟩
noncomputable def ag8 (P:cc) (gl:fK) (cal:gb) (inl:my) (li:Nat->Option fB) (rounds:Nat) (cells:List (Nat×Nat×Int×Int)) (BB:dv) (g:Operand) (lx:Array Tmp) (assign body:Code) (n:Nat) (tm:List V) (bl:List aM) (k:iK):T:=
 match cB tm g,lx.toList,hb cells 0 (n+1) bl with
 | .sZ f [.ptr bs 0,.ptr vh 0],[p],some (gd,l2,cg)=>match bl[bs]?,bl[vh]?,gd[bs]?,gd[vh]? with
  |some ([.sl b bL o ro len cap],_),some ([.int .i64 N],_),some ([xs],_),some ([RV],_)=>match N.l.fk with
   |some c=>cond (aU f BB&&decide (0<c)&&decide (c<=0x7fffffffffffffff)&&aU bL 1&&pK assign&&pK body&&qb tm tm&&qa gd gd&&A.beq xs (.sl b bL o ro len cap)&&A.beq RV (.int .i64 N)&&cy [xs]&&cy [RV])
    (.sY 70 [len,.const c] (.loop n (l2++[.const 0]) (n+1) (cg++[(0,0x7fffffffffffffff)])
      (.vj (.lt ((I.var (n+1+l2.length)).smul c) len)
        (p8 P gl cal inl li rounds assign (n+1+l2.length+1) (xF tm p (.w (.one (.sl b 1 o (ro.add ((I.var (n+1+l2.length)).smul c)) (.const c) (.const c))))) gd λx n' cR bF=>match x with
          | .normal=>p8 P gl cal inl li rounds body n' cR bF λx n' cR bF=>match x with
           | .normal=>match hb cells 0 (n+1) (bF.take bl.length)with
            |some (sr,v2,_)=>cond (qa gd sr) (.again n (v2++[(I.var (n+1+l2.length)).add (.const 1)])) .stuck
            |none=> .stuck
           |_=> .stuck
          |_=> .stuck)
        (k (n+1+l2.length+1) tm gd)))) .stuck
   |none=> .stuck
  |_,_,_,_=> .stuck
 |_,_,_=> .stuck
theorem apY {hL:List Nat}:∀(tm:List V) (i s:Nat),(∀j,i<=j->j<i+tm.length->hL.any (aU j)=true)->hs hL [] i s tm=some (tm,[],[])
 |[],_,_,_=>rfl
 |v::r,i,s,h=>by
  unfold hs;rw[h i (b1 _) (by simp),apY r (i+1) s λj h1 h2=>h j (by omega) (by simp only[kx];omega)];rfl
theorem aq4 (tm:List V) (s:Nat):hs (dP tm.length) [] 0 s tm=some (tm,[],[]):=
 apY tm 0 s λj _ h=>List.any_eq_true.2 ⟨j,List.mem_range.2 (by omega),JM j⟩
theorem B3 (w:aC) (l:Nat) (o:Obj):(w.putObj l o).os=w.os/\(w.putObj l o).tape=w.tape/\(w.putObj l o).output=w.output/\(w.putObj l o).heap.size=w.heap.size:=⟨rfl,rfl,rfl,ajo⟩
theorem Mem.amU {w0:fg} {ρ:Env} {m:Nat->Nat} {bl:List aM} {w:aC} (h:Mem w0 ρ m bl w) {i:Nat} {x:A} {t:bE×Bool} (hi:bl[i]?=some ([x],t)) (aA:cy [x]=true):w.cell? ⟨m i,0,none⟩=some (x.den ρ m):=by
 obtain⟨_,_,r,_,h3⟩:=h.gP i _ t hi aA;simp[oq,h3]
def ZM (c5:List Int->Prop) (w0:fg) (kl:aC) (n:Nat) (ρ:Env) (m:Nat->Nat) (tm:List V) (gd:List aM) (cg:List (Int×Int)) (k2:Nat) (tmps:Array bf) (i:Nat) (W:aC):Prop:=∃zs,zs.length=k2/\ay (cg++[(0,0x7fffffffffffffff)]) (zs++[(i:Int)])/\c5 (zs++[(i:Int)])/\R (narrow w0 kl []) (n+1+k2+1) (b0 ρ (n+1) (zs++[(i:Int)])) m tm gd {tmps:=tmps,defers:=[]} W
theorem aPn {w0:fg} {inl:my} {li:Nat->Option fB} {rounds:Nat} {cells:List (Nat×Nat×Int×Int)} {BB:dv} {g:Operand} {lx:Array Tmp} {assign body:Code} (nU:ZP P BB) (hm:P.follows .mixedOrders=true)
 (di:∀r ex ro,im S P gl ⟨w0.b,r,ex,ro,[]⟩ cal) (hg:fJ gl w0) (nV:∀r ex ro,rn S L ⟨w0.b,r,ex,ro,[]⟩ P inl)
 {n:Nat} {ρ:Env} {m:Nat->Nat} {tm:List V} {bl:List aM} {a:Act} {w:aC} {G:fx} {k:iK} {Q:Exit->Act->aC->Prop} (h:R w0 n ρ m tm bl a w) (sC:w0.ds=[])
 (ah:(ag8 P gl cal inl li rounds cells BB g lx assign body n tm bl k).holds S L G ρ)
 (ag:∀n' ae cR bF fm eU D eE w',ft n bl.length ρ m n' (pY bF) ae m->ga n G fm->Sub eU w0->¬eU.ex D->eU.r.heap[D]?=some (.deferred (some []))->w0.r.heap.size<=D->w0.b.heap.size<=D->eU.ds=[{target:= .collected D,args:=#[]}]->
   R eU n' ae m cR bF eE w'->(k n' cR bF).holds S L fm ae->Q .normal eE w'):(Code.rangeFunc g lx assign body).wpIn JU 0 P Q a w:=by
 unfold ag8 at ah;split at ah
 rotate_left
 ·exact ah.elim
 rename_i f bs vh p gd l2 cg av aH ca;split at ah
 rotate_left
 ·exact ah.elim
 rename_i b bL o ro len cap ts N aYK xs tv RV aYL aQ bn cj dU;split at ah
 rotate_left
 ·exact ah.elim
 rename_i c hc;generalize kD:(aU f BB&&decide (0<c)&&decide (c<=0x7fffffffffffffff)&&aU bL 1&&pK assign&&pK body&&qb tm tm&&qa gd gd&&A.beq xs (.sl b bL o ro len cap)&&A.beq RV (.int .i64 N)&&cy [xs]&&cy [RV])=dQ at ah;cases dQ with
 |false=>exact ah.elim
 |true=>
 simp only[bI,decide_eq_true_eq]at kD;obtain⟨⟨⟨⟨⟨⟨⟨⟨⟨⟨⟨c1,bQ⟩,cD⟩,dq⟩,fM⟩,hI⟩,oU⟩,nO⟩,qG⟩,vm⟩,Bs⟩,Kl⟩:=kD;have c1:=b8 c1;have dq:=b8 dq;subst c1;subst dq;have qG:=A.beq_eq qG;have vm:=A.beq_eq vm;subst qG;subst vm;simp only[cond_true,T.holds]at ah;obtain⟨K3,c5,ey,ac2,da⟩:=ah;have K3:c∣len.den ρ:=by simpa [aj,NY,I.bC]using K3
 have ad6:A.ok n bl.length ρ (.sl b 1 o ro len cap):=h.b _ (fw aQ) _ (by simp);obtain⟨OO,⟨uf,s7,apS,aYm⟩,yl⟩:=ad6;obtain⟨⟨s1,s2,bx,cG⟩,⟨er,eW⟩,gm,hO⟩:=yl;have aEM:a.eval g= .func (.func f) #[] #[.pointer (some ⟨m bs,0,none⟩),.pointer (some ⟨m vh,0,none⟩)]:=by
  have:=(c4 h.t g).2;rw[av]at this;exact this
 have aFq:lx=#[p]:=by rw[<-Array.toArray_toList (xs:=lx),aH]
 subst aFq;refine wpIn_rangeFunc ?_;intro fn FD;obtain⟨rec,Im⟩:∃rec:LoopState->Option Code->Loop,rec=λst Gc=>{state:=st,pending:=Gc,fn,tmps:=a.tmps,params:=#[p],assign,body,defers:=w.heap.size}:=⟨_,rfl⟩;obtain⟨kl,Uo⟩:∃kl,(w.alloc (.deferred (some []))).alloc (.loop (rec .ready none))=kl:=⟨_,rfl⟩;have yd:kl.heap[w.heap.size+1]?=some (.loop (rec .ready none)):=by
  rw[<-Uo];have:=aXe (w.alloc (.deferred (some []))) (.loop (rec .ready none));rwa [World.size_alloc]at this
 have ac3:kl.heap[w.heap.size]?=some (.deferred (some [])):=by
  rw[<-Uo];exact(Below.heap_alloc _ _ _ (by simp)).trans (aXe w _)
 have Ds:w.heap.size+1<kl.heap.size:=(Array.getElem?_eq_some_iff.1 yd).1;have aoN:Mem w0 ρ m bl kl:=by rw[<-Uo];exact h.bK.grow (((sd w).alloc _).alloc _)
 have bd:w0.b.heap.size<=w.heap.size:=h.bK.ext.size;have UJ:w0.r.heap.size<=w.heap.size:=h.bK.ia;generalize hl:w.heap.size+1=l at*;generalize nR:w.heap.size=D at*;have H4:∀(k:Nat) (o:Obj),kl.heap[k]?=some o->o.isCells=false->¬(narrow w0 kl []).ex k:=λk o ag aA ⟨_,cT,h1,h2⟩=>by
  rw[ag]at h1;cases h1;rw[aA]at h2;cases h2
 have axP:R (narrow w0 kl []) n ρ m tm bl {tmps:=a.tmps,defers:=[]} kl:=⟨h.t,rfl,h.b,aoN.narrow []⟩;have UN:∀v∈tm,V.ok n bl.length ρ v:=λv hv=>by
  obtain⟨i,hi⟩:=List.getElem?_of_mem hv;exact(h.t.2 i v hi).1
 have N8:hb cells 0 (n+1+([]:List I).length) bl=some (gd,l2,cg):=ca;obtain⟨adX,aYi⟩:=OM ca;have head:∀{n':Nat} {ae:Env} {m':Nat->Nat} {bF sr:List aM} {v2:List I} {zn:List (Int×Int)} {W:aC} {x:I},bl.length<=bF.length->agree n ρ ae->(∀b,b<bl.length->m' b=m b)->
  R (narrow w0 kl []) n' ae m' tm bF {tmps:=a.tmps,defers:=[]} W->hb cells 0 (n+1) (bF.take bl.length)=some (sr,v2,zn)->qa gd sr=true->
  v2.length=l2.length/\ay cg (v2.map (·.den ae))/\R (narrow w0 kl []) (n+1+l2.length+1) (b0 ρ (n+1) (v2.map (·.den ae)++[x.den ae])) m tm gd {tmps:=a.tmps,defers:=[]} W:=λ{n' ae m' bF sr v2 zn W x} k1 k2 k3 k4 te z1=>by
  obtain⟨dN,nY,o6,_⟩:=apu (li:={hL:=dP tm.length,ints:=[],cells:=cells}) (ext:=[x]) k1 k2 k3 UN h.b k4 (aq4 tm (n+1)) N8 (aq4 tm (n+1)) (v2:=v2) te oU z1;simp only[pr,y4,m3,eQ,kx,hQ,df,gr]at dN nY o6;exact⟨dN,nY,o6⟩
 obtain⟨i0,i1,i2⟩:=head (x:= .const 0) (b1 _) (agree.refl n ρ) (λ_ _=>rfl) axP (by rw[ai4];exact ca) nO;have aC0:ZM c5 w0 kl n ρ m tm gd cg l2.length a.tmps 0 kl:=by
  refine⟨l2.map (·.den ρ),by simp,oC i1 ⟨by simp,by simp,trivial⟩,?_,by simpa [I.bC]using i2⟩;simpa [I.bC]using ac2
 have still:∀{i:Nat} {W:aC} {k:Nat} {o:Obj},ZM c5 w0 kl n ρ m tm gd cg l2.length a.tmps i W->kl.heap[k]?=some o->o.isCells=false->W.heap[k]?=some o:=λ{i W k o} hJ ag aA=>by
  obtain⟨zs,ar,z2,z3,z4⟩:=hJ;exact(z4.bK.kp k (Array.getElem?_eq_some_iff.1 ag).1 (H4 k o ag aA)).trans ag
 obtain⟨C,kc⟩:∃C:Nat,(C:Int)=c:=⟨c.toNat,Sc (by omega)⟩;obtain⟨sf,ac7⟩:∃sf:Nat,(sf:Int)=len.den ρ:=⟨(len.den ρ).toNat,Sc (by omega)⟩;have adD:C∣sf:=by rw[<-kc,<-ac7]at K3;exact Int.natCast_dvd_natCast.1 K3
 have aEm:sf<=(cap.den ρ).toNat:=by
  by_cases h0:cap.den ρ<0
  ·have:=gm h0;omega
  ·have:=hO (by omega);omega
 have UR:∀{i:Nat} {zs:List Int},zs.length=l2.length->b0 ρ (n+1) (zs++[(i:Int)]) (n+1+l2.length)=i:=λ{i zs} hz=>by
  rw[MA _ _ _ _ (by simp[hz]),<-hz];simp
 have iS:∀{i:Nat} {zs:List Int},agree n ρ (b0 ρ (n+1) (zs++[(i:Int)])):=λ{i zs}=>(agree.b0 _ (n+1) ρ).mono (by omega);have main:=nU.2 l (m bs) (m vh) ((A.sl b 1 o ro len cap).den ρ m) (m b) ((o.den ρ).toNat+(ro.den ρ).toNat) sf (cap.den ρ).toNat C (ZM c5 w0 kl n ρ m tm gd cg l2.length a.tmps) kl (by omega) (by omega) adD aEm (by omega)
  (by
    simp only[A.den];by_cases h0:cap.den ρ<0
    ·rw[if_pos h0];have:=gm h0;exact .inr ⟨rfl,by omega⟩
    ·rw[if_neg h0];refine .inl ?_;rw[show(len.den ρ).toNat=sf by omega,CH])
  (λi W hJ=>by
    obtain⟨zs,ar,z2,z3,z4⟩:=hJ;have au:=z4.bK.amU cj Bs;have ao:=z4.bK.amU dU Kl;have ad6:A.ok n bl.length ρ (.sl b 1 o ro len cap):=h.b _ (fw aQ) _ (by simp);have aFh:A.ok n bl.length ρ (.int .i64 N):=h.b _ (fw bn) _ (by simp);rw[A.oz ad6 iS (λ_ _=>rfl)]at au;rw[A.oz aFh iS (λ_ _=>rfl)]at ao;refine⟨au,ao.trans ?_⟩;simp only[A.den,I.ll hc,kc])
  (λi W hJ=>by
    obtain⟨zs,ar,z2,z3,z4⟩:=hJ;exact⟨zs,ar,z2,z3,z4.t,z4.d,z4.b,z4.bK.grow (Ye (sd W))⟩)
  ?_ aC0
 ·refine⟨l,[{target:= .collected D,args:=#[]}],kl,{target:= .fn (.func f) #[.pointer (some ⟨m bs,0,none⟩),.pointer (some ⟨m vh,0,none⟩)],args:=#[.func (.yield l) #[] #[]]},kl,f,
   #[.func (.yield l) #[] #[],.pointer (some ⟨m bs,0,none⟩),.pointer (some ⟨m vh,0,none⟩)],kl,?_,?_,λnQ apy=>trivial,?_,λhs=>by simp[JU]at hs,?_⟩
  ·rw[<-Uo,Im,<-hl,<-nR];exact run_enterLoop_outer _ _ _ _ _
  ·simp only[resolve,aEM];simp[go_sem]
  ·simp[invoke,go_sem,nU.1]
  ·refine main.mono ?_
   rintro e axX ⟨⟨v,rfl⟩,hJ⟩
   have UB:=still hJ yd rfl;have aYh:=still hJ ac3 rfl;obtain⟨zs,ar,z2,z3,z4⟩:=hJ;have zL:=(m6 da z2 z3).2;have Pc:len.den (b0 ρ (n+1) (zs++[((sf/C:Nat):Int)]))=sf:=by rw[I.cq iS apS,ac7]
   have an:C*(sf/C)=sf:=Nat.mul_div_cancel' adD;have zM:bO.den (b0 ρ (n+1) (zs++[((sf/C:Nat):Int)])) (.lt ((I.var (n+1+l2.length)).smul c) len)=false:=by
    simp only[bO.den,I.na,I.de,UR ar,Pc,decide_eq_false_iff_not];rw[<-kc];have:(C:Int)*((sf/C:Nat):Int)=(sf:Int):=by exact_mod_cast an
    omega
   have zL:=zL zM;refine⟨none,_,by have:=run_endLoop (P:=P) UB (by rw[Im];simp);rw[Im]at this;exact this,?_⟩;simp only;obtain⟨ZQ,aCY⟩:∃o,o=Obj.loop {({state:= .ready,pending:=none,fn,tmps:=a.tmps,params:=#[p],assign,body,defers:=D}:Loop)with state:= .exhausted}:=⟨_,rfl⟩;rw[<-aCY];have axH:Mem ⟨w0.b,kl.putObj l ZQ,(narrow w0 kl []).ex,w0.ro,[{target:= .collected D,args:=#[]}]⟩ (b0 ρ (n+1) (zs++[((sf/C:Nat):Int)])) m gd (axX.putObj l ZQ):=
    Mem.yV z4.bK l (by omega) (H4 l _ yd rfl) Ds (B3 _ _ _) (B3 _ _ _) (λk ag=>A0 ag) (λk ag=>A0 ag) (by rw[EO (Array.getElem?_eq_some_iff.1 UB).1,EO Ds]) (λo aA=>by rw[yd]at aA;cases aA;rfl)
   refine ag _ _ _ _ _ ⟨w0.b,kl.putObj l ZQ,(narrow w0 kl []).ex,w0.ro,[{target:= .collected D,args:=#[]}]⟩ D _ _ ⟨by omega,iS,by omega,λ_ _=>rfl⟩ (λl' FE=>?_) (Sub.yV (Sub.narrow aoN []) l (by omega) (B3 _ _ _) (λk ag=>A0 ag)) (H4 D _ ac3 rfl) ((A0 (by omega)).trans ac3) UJ bd rfl ⟨z4.t,?_,z4.b,axH⟩ zL
   ·unfold fx.set;cases hb:aU l' n with
    |true=>have:=b8 hb;omega
    |false=>rfl
   ·show _++a.defers=_;rw[h.d,sC];rfl
 ·
  intro i W hJ hlt;have UB:=still hJ yd rfl;obtain⟨zs,ar,z2,z3,z4⟩:=hJ;have zL:=(m6 da z2 z3).1;have Pc:len.den (b0 ρ (n+1) (zs++[(i:Int)]))=sf:=by rw[I.cq iS apS,ac7]
  have zM:bO.den (b0 ρ (n+1) (zs++[(i:Int)])) (.lt ((I.var (n+1+l2.length)).smul c) len)=true:=by
   simp only[bO.den,I.na,I.de,UR ar,Pc,decide_eq_true_eq];rw[<-kc];exact_mod_cast hlt
  have zL:=zL zM;have lF:C*i+C<=sf:=by
   obtain⟨q,rfl⟩:=adD;have:i<q:=Nat.lt_of_mul_lt_mul_left hlt;have:C*(i+1)<=C*q:=Sq C this;rw[Nat.mul_succ]at this;omega
  have aX9:¬cap.den ρ<0:=λh0=>by have:=gm h0;omega
  have OQ:=hO (by omega);have hid:(ro.add ((I.var (n+1+l2.length)).smul c)).den (b0 ρ (n+1) (zs++[(i:Int)]))=ro.den ρ+(C*i:Nat):=by
   rw[I.den_add,I.na,I.de,UR ar,I.cq iS s7,<-kc];simp
  have apT:o.den (b0 ρ (n+1) (zs++[(i:Int)]))=o.den ρ:=I.cq iS uf;have FJ:(V.w (.one (.sl b 1 o (ro.add ((I.var (n+1+l2.length)).smul c)) (.const c) (.const c)))).ok (n+1+l2.length+1) gd.length (b0 ρ (n+1) (zs++[(i:Int)])):=by
   refine⟨by omega,⟨uf.mono (by omega),I.yT (s7.mono (by omega)) (I.xD (I.gU (by omega))),I.dX _ _,I.dX _ _⟩,?_⟩;rw[hid,apT,I.bC];exact⟨⟨s1,by omega,by omega,by omega⟩,⟨by omega,by omega⟩,λh=>by omega,λ_=>cn _⟩
  have aF3:(V.w (.one (.sl b 1 o (ro.add ((I.var (n+1+l2.length)).smul c)) (.const c) (.const c)))).rel (b0 ρ (n+1) (zs++[(i:Int)])) m (.slice (some ⟨m b,(o.den ρ).toNat+(ro.den ρ).toNat+C*i,none⟩) C C):=by
   simp only[V.rel,bX.W.den,A.den,hid,apT,I.bC,CH];rw[if_neg (by omega),show c.toNat=C by omega,show(ro.den ρ+(C*i:Nat)).toNat=(ro.den ρ).toNat+C*i by omega,Nat.add_assoc]
  have aoR:R (narrow w0 kl []) (n+1+l2.length+1) (b0 ρ (n+1) (zs++[(i:Int)])) m (xF tm p (.w (.one (.sl b 1 o (ro.add ((I.var (n+1+l2.length)).smul c)) (.const c) (.const c))))) gd
   (({tmps:=a.tmps,defers:=[]}:Act).put (some p) (.slice (some ⟨m b,(o.den ρ).toNat+(ro.den ρ).toNat+C*i,none⟩) C C)) W:=
   ⟨fo.put z4.t (some p) FJ aF3,z4.d,z4.b,z4.bK⟩
  have hy:=run_yield (P:=P) (args:=#[.slice (some ⟨m b,(o.den ρ).toNat+(ro.den ρ).toNat+C*i,none⟩) C C]) UB (by rw[Im];rfl);rw[Im]at hy;have aBn:(({tmps:=a.tmps,defers:=[]}:Act).put (some p) (.slice (some ⟨m b,(o.den ρ).toNat+(ro.den ρ).toNat+C*i,none⟩) C C))={tmps:=((#[p]:Array Tmp).zip #[So (some ⟨m b,(o.den ρ).toNat+(ro.den ρ).toNat+C*i,none⟩) C C]).foldl (λtmps (t,a)=>tmps.setIfInBounds t a) a.tmps,defers:=[]}:=by
   simp[Act.put]
  rw[aBn]at aoR;refine⟨fn,_,assign,body,hy,roundIn_of_wpIn trivial ?_⟩;refine Kx (rd:=some l) hm (di _ _ _) (λg cs h=>hg g cs h) (nV _ _ _) assign (.inr fM) _ _ _ _ _ _ _ _ W _ aoR zL λx bh a6 gk Xh tP G1 bR eU g1 g2 g3 g4=>?_;cases x with
  |exit id=>exact g4.elim
  |ret=>exact g4.elim
  |normal=>
   simp only at g4;have apK:eU.heap[l]?=some (.loop (rec .ready none)):=(g3.bK.kp l Ds (H4 l _ yd rfl)).trans yd;obtain⟨G0,ac0⟩:∃o,o=Obj.loop {rec .ready none with state:= .busy}:=⟨_,rfl⟩;have aCW:G0.isCells=false:=by rw[ac0];rfl
   have M2:Mem ⟨w0.b,kl.putObj l G0,(narrow w0 kl []).ex,w0.ro,[]⟩ a6 gk tP (eU.putObj l G0):=
    Mem.yV g3.bK l (by omega) (H4 l _ yd rfl) Ds (B3 _ _ _) (B3 _ _ _) (λk ag=>A0 ag) (λk ag=>A0 ag) (by rw[EO (Array.getElem?_eq_some_iff.1 apK).1,EO Ds]) (λo aA=>by rw[yd]at aA;cases aA;rfl)
   refine⟨eU.putObj l G0,by rw[ac0];exact run_beginRound apK (by rw[Im]),?_⟩;refine Kx (rd:=some l) hm (di _ _ _) (λg cs h=>hg g cs h) (nV _ _ _) body (.inr hI) bh Xh tP _ G1 a6 gk bR _ _ (⟨g3.t,g3.d,g3.b,M2⟩:R ⟨w0.b,kl.putObj l G0,(narrow w0 kl []).ex,w0.ro,[]⟩ bh a6 gk Xh tP bR (eU.putObj l G0)) g4 λx fF cd eJ aR1 sq SH a2 pn k1 k2 k3 k4=>?_;cases x with
   |exit id=>exact k4.elim
   |ret=>exact k4.elim
   |normal=>
    simp only at k4;split at k4
    rotate_left
    ·exact k4.elim
    rename_i sr v2 zn ht;cases hf:qa gd sr with
    |false=>rw[hf]at k4;exact k4.elim
    |true=>
    rw[hf]at k4;simp only[cond_true,T.holds]at k4;have O9:pn.heap[l]?=some G0:=(k3.bK.kp l (by rw[ajo];exact Ds) (H4 l _ yd rfl)).trans (EO Ds);have aE3:=(Array.getElem?_eq_some_iff.1 O9).1;rw[ac0]at O9;refine⟨_,_,run_endRound none O9,rfl,?_⟩;have aFw:({{rec .ready none with state:= .busy}with state:=if(none:Option Code).isNone then .ready else .done,pending:=none}:Loop)=rec .ready none:=by rw[Im];rfl
    rw[aFw];have axG:Mem (narrow w0 kl []) cd eJ sq (pn.putObj l (.loop (rec .ready none))):=
     Mem.yV k3.bK l (by omega) (H4 l _ yd rfl) (by rw[ajo];exact Ds) ⟨rfl,rfl,rfl,World.putObj_size.symm⟩ (B3 _ _ _) (λk ag=>(A0 ag).symm) (λk ag=>A0 ag) (by rw[EO aE3,yd]) (λo aA=>by rw[EO Ds]at aA;cases aA;exact aCW)
    have ac4:ft n bl.length ρ m (n+1+l2.length+1) gd.length (b0 ρ (n+1) (zs++[(i:Int)])) m:=⟨by omega,iS,by omega,λ_ _=>rfl⟩;have HV:=(ac4.trans g1).trans k1;have axQ:R (narrow w0 kl []) fF cd eJ tm sq {tmps:=a.tmps,defers:=[]} (pn.putObj l (.loop (rec .ready none))):=⟨h.t.ext HV.ha HV.hn HV.hb HV.hm,rfl,k3.b,axG⟩;obtain⟨kY,rb,yX⟩:=head (x:=(I.var (n+1+l2.length)).add (.const 1)) HV.hb HV.ha HV.hm axQ ht hf;have aqb:cd (n+1+l2.length)=i:=by rw[(g1.trans k1).ha _ (by omega),UR ar]
    have hx:((I.var (n+1+l2.length)).add (.const 1)).den cd=((i+1:Nat):Int):=by rw[I.den_add,I.de,I.bC,aqb];simp
    rw[hx]at yX;have ac1:SH n=λvs=>c5 vs/\ey vs<ey (zs++[(i:Int)]):=by
     rw[k2 n (by have:=g1.hn;omega),g2 n (by omega)];unfold fx.set;rw[show aU n n=true from JM n];rfl
    rw[ac1,hQ,df,gr,hx]at k4;have:i+1<=sf:=by
     have:=Nat.mul_le_mul_right i (show 1<=C by omega);omega
    exact⟨v2.map (·.den cd),by simp[kY],oC rb ⟨by omega,by omega,trivial⟩,k4.1,yX⟩
noncomputable def Kk (P:cc) (gl:fK) (cal:gb) (inl:my) (li:dv->Nat->Option fB) (rounds:Nat) (cells:List (Nat×Nat×Int×Int)) (BB:dv):my:=
 λf n vs bl k=>match P.funcs[f]? with
  |none=> .stuck
  |some fn=>match fn.body with
   |some (.seq dK (.seq (.seq c1 (.block _ (.rangeFunc g lx assign body))) cD))=>cond (!(fn.name== "runtime.NumGoroutine")&&cV vs.length fn.ntmps)
    (p8 P gl cal inl (li f) rounds dK n (vs++Ml (fn.ntmps-vs.length)) bl λx n tm bl=>match x with
      | .normal=>p8 P gl cal inl (li f) rounds c1 n tm bl λx n tm bl=>match x with
       | .normal=>ag8 P gl cal inl (li f) rounds cells BB g lx assign body n tm bl λn tm bl=>
        p8 P gl cal (λ_ _ _ _ _=> .stuck) (li f) rounds cD n tm bl λx n tm bl=>match x with
         | .exit _=> .stuck
         |_=>RD P gl fn n tm bl k
       |_=> .stuck
      |_=> .stuck) .stuck
   |_=> .stuck
theorem aGO {w0:fg}:rn S L w0 P (λ_ _ _ _ _=> .stuck):=λf n vs bl k G ρ m w xs R' _ _ _ _ ah _=>ah.elim
theorem amv {w0:fg} {inl:my} {li:dv->Nat->Option fB} {rounds:Nat} {cells:List (Nat×Nat×Int×Int)} {BB:dv} (nU:ZP P BB) (hm:P.follows .mixedOrders=true)
 (di:∀r ex ro,im S P gl ⟨w0.b,r,ex,ro,[]⟩ cal) (hg:fJ gl w0) (nV:∀r ex ro,rn S L ⟨w0.b,r,ex,ro,[]⟩ P inl) (sC:w0.ds=[]):rn S L w0 P (Kk P gl cal inl li rounds cells BB):=by
 have ap6:w0=⟨w0.b,w0.r,w0.ex,w0.ro,[]⟩:=by cases w0;simp at sC;subst sC;rfl
 have apg:im S P gl w0 cal:=by rw[ap6];exact di _ _ _
 have apD:rn S L w0 P inl:=by rw[ap6];exact nV _ _ _
 intro f n vs bl k G ρ m w xs R' hb nk lH hrel ah ag;unfold Kk at ah;cases hf:P.funcs[f]? with
 |none=>simp[hf,T.holds]at ah
 |some fn=>
  simp only[hf]at ah;split at ah
  rotate_left
  ·exact ah.elim
  rename_i dK c1 id g lx assign body cD Di;cases hc:(!(fn.name== "runtime.NumGoroutine")&&cV vs.length fn.ntmps)with
  |false=>simp[hc,T.holds]at ah
  |true=>
   simp only[hc,cond_true]at ah;simp only[bI,c6]at hc;have hlen:=Z8 hrel;refine⟨?_,?_⟩
   ·have h1:¬fn.name= "runtime.NumGoroutine" :=by have:=hc.1;simpa using this
    simp[callFunc,hf,Di,h1]
   ·refine(callsIn_wide (n:=0)).1 (callsIn_of_wp_marks hf Di trivial ?_ rfl);have hR:R w0 n ρ m (vs++Ml (fn.ntmps-vs.length)) bl {tmps:=xs.toArray++CJ (fn.ntmps-xs.toArray.size) undef,defers:=[]} w:=by
     refine⟨?_,sC.symm,hb,nk⟩;have:=SW (Z6 (fn.ntmps-vs.length) lH hrel);have e:(xs++dw (fn.ntmps-vs.length) undef).toArray=xs.toArray++CJ (fn.ntmps-xs.toArray.size) undef:=by
      simp[hlen]
     rw[e]at this;exact this
    refine wpIn_seq (Kx (rd:=none) hm apg hg apD dK (.inl rfl) n _ bl _ G ρ m _ w _ hR ah λx bh a6 gk Xh tP G1 bR eU h1 h2 h3 h4=>?_);cases x with
    |exit id=>exact h4.elim
    |ret=>exact h4.elim
    |normal=>
    refine wpIn_seq (wpIn_seq (Kx (rd:=none) hm apg hg apD c1 (.inl rfl) bh Xh tP _ G1 a6 gk bR eU _ h3 h4 λx fF cd eJ aR1 sq SH a2 pn k1 k2 k3 k4=>?_));cases x with
    |exit id=>exact k4.elim
    |ret=>exact k4.elim
    |normal=>
    refine wpIn_block (aPn nU hm di hg nV k3 sC k4 λsJ jb aR2 azi ZU dh D a3 uO bw bz cY fa fv hB lJ Al agF agE=>?_);have aEk:im S P gl dh cal:=by
     have e:dh=⟨w0.b,dh.r,dh.ex,dh.ro,dh.ds⟩:=by have:=cY.b;cases dh;simp at this;subst this;rfl
     rw[e];exact(di _ _ _).ds
    have H7:fJ gl dh:=λg cs h=>by rw[cY.b];exact hg g cs h
    refine Kx (rd:=none) hm aEk H7 aGO cD (.inl rfl) sJ aR2 azi _ ZU jb eJ a3 uO _ agF agE λx dO SF BW aun NC SI a4 ij aQ bn cj dU=>?_;have nR:ij.heap[D]?=some (.deferred (some [])):=(cj.bK.kp D (Array.getElem?_eq_some_iff.1 fv).1 fa).trans fv;have aE4:=(Array.getElem?_eq_some_iff.1 nR).1;have axI:Mem ⟨dh.b,dh.r.putObj D (.deferred none),dh.ex,dh.ro,[]⟩ SF BW NC (ij.putObj D (.deferred none)):=by
     have e:dh=⟨dh.b,dh.r,dh.ex,dh.ro,dh.ds⟩:=rfl;refine Mem.yV (e▸cj.bK) D (by rw[cY.b];exact lJ) fa (Array.getElem?_eq_some_iff.1 fv).1 (B3 _ _ _) (B3 _ _ _) (λk ag=>A0 ag) (λk ag=>A0 ag) (by rw[EO aE4,EO (Array.getElem?_eq_some_iff.1 fv).1]) (λo aA=>by rw[fv]at aA;cases aA;rfl)
    have G9:Sub ⟨dh.b,dh.r.putObj D (.deferred none),dh.ex,dh.ro,[]⟩ w0:=Sub.yV (ds:=dh.ds) cY D hB (B3 _ _ _) (λk ag=>A0 ag);have akH:Mem w0 SF BW NC (ij.putObj D (.deferred none)):=axI.less G9;have axR:R w0 dO SF BW aun NC {a4 with defers:=[]} (ij.putObj D (.deferred none)):=⟨cj.t,sC.symm,cj.b,akH⟩;have fin:(RD P gl fn dO aun NC k).holds S L SI SF->LeavesInM JU 0 P fn a4.tmps R' a4.defers .returning ij:=λhr=>by
     obtain⟨v,val,kY,rb,yX,XK⟩:=ahc hg axR hr;have eF:=(((h1.trans k1).trans bw).trans aQ);have aV:=(((h2.trans k2 h1.hn).trans bz (h1.trans k1).hn).trans bn ((h1.trans k1).trans bw).hn);rw[cj.d,Al];exact⟨by simp,.inl ⟨D,_,rfl,run_takeDeferred nR,val,yX,ag dO v NC SI SF BW _ val eF aV kY rb cj.b akH XK⟩⟩
    cases x with
    |exit id=>exact dU.elim
    |normal=>exact fin dU
    |ret=>exact fin dU
end Go.bX
namespace Go.bX
open M
variable {S:Nat->List Int->List Int->Prop} {L:V->Env->Prop} {P:cc} {gl:fK} {cal:gb}
structure kP where
 c:eG
 ty:bE
 nil:Bool
def F8 (p:kP) (g k:Nat):Array bf:=cond p.nil #[.slice (some ⟨g,0,none⟩) k k,.slice none 0 0] #[.slice (some ⟨g,0,none⟩) k k]
def kP.bH (P:cc) (wb:aC) (p:kP) (spec:List Int->List Int->Prop):Prop:=(∀args w,(callFunc p.c.f args).run P w= .ok (.enter p.c.f args) w)/\∀(F:Nat->Prop) (w:aC) (vs:List bf) (zs:List Int) (g:Nat),wb.Extends w->ay (c7 p.c.args) zs->L5 p.c.pre zs->m7 F (λ_=>False) w p.c.args zs vs->wb.heap.size<=g->¬F g->w.heap[g]?=some (.cells vs.toArray p.ty (0,0))->oo P p.c.f (F8 p g vs.length) w λe w'=>w.Extends w'/\∃rs us,ay (c7 p.c.res) rs/\spec zs rs/\m7 (λg=>F g∨w.heap.size<=g) (λg=>w.heap.size<=g) w' p.c.res rs us/\e= .returned (xM us)
def Wq (nil:Bool) (vs:List V):Option (Nat×Nat×Nat):=
 match vs with
 |[.w (.one (.slc b 0 len cap))]=>cond nil none (some (b,len,cap))
 |[.w (.one (.slc b 0 len cap)),.w (.one (.con (.slice none 0 0)))]=>cond nil (some (b,len,cap)) none
 |_=>none
def ny (a:A):V:= .w (.one a)
noncomputable def kP.E (p:kP) (n:Nat) (vs:List V) (bl:List aM) (k:RK):T:=
 match Wq p.nil vs with
 |some (b,len,cap)=>match bl[b]? with
  |some (cs,(t,false))=>cond (cy cs&&aU len cs.length&&aU cap cs.length&&aU t p.ty&& !(((cs.map ny).flatMap p6).any (aU b))) (p.c.Nd n (cs.map ny) bl k) .stuck
  |_=> .stuck
 |none=> .stuck
theorem Z9 {ρ:Env} {m:Nat->Nat}:∀(cs:List A),fN ρ m (cs.map ny) (cs.map (A.den ρ m))
 |[]=>trivial
 |a::r=>⟨rfl,Z9 r⟩
theorem aN3 {p:kP} {vs:List V} {b len cap:Nat} {ρ:Env} {m:Nat->Nat} {xs:List bf} (h:Wq p.nil vs=some (b,len,cap)) (hr:fN ρ m vs xs) (Pb:cap=len):xs.toArray=F8 p (m b) len:=by
 subst Pb;unfold Wq at h;split at h
 ·cases hn:p.nil with
  |true=>rw[hn]at h;cases h
  |false=>
   rw[hn]at h;cases h
   match xs,hr with
   |[x],hr=>have hx:x=_:=hr.1;rw[hx];simp[F8,hn,W.den,A.den]
 ·cases hn:p.nil with
  |false=>rw[hn]at h;cases h
  |true=>
   rw[hn]at h;cases h
   match xs,hr with
   |[x,y],hr=>have hx:x=_:=hr.1;have hy:y=_:=hr.2.1;rw[hx,hy];simp[F8,hn,W.den,A.den]
 ·cases h
theorem kP.Ng {w0:fg} {p:kP} {spec:List Int->List Int->Prop} (hc:p.bH P w0.b spec) (h8:∀zs rs,spec zs rs->S p.c.id zs rs) (n:Nat) (vs:List V) (bl:List aM) (k:RK) (G:fx) (ρ:Env) (m:Nat->Nat) (w:aC) (xs:List bf) (R':Ending->aC->Prop)
 (hb:dr n bl.length ρ bl) (hw:Mem w0 ρ m bl w) (hv:∀v∈vs,V.ok n bl.length ρ v) (hr:fN ρ m vs xs) (ah:(p.E n vs bl k).holds S L G ρ) (ag:G8 S L w0 k n bl.length ρ m G R'):
 (callFunc p.c.f xs.toArray).run P w= .ok (.enter p.c.f xs.toArray) w/\oo P p.c.f xs.toArray w R':=by
 refine⟨hc.1 _ _,?_⟩;unfold kP.E at ah;split at ah
 rotate_left
 ·exact ah.elim
 rename_i b len cap hp;split at ah
 rotate_left
 ·exact ah.elim
 rename_i cs t bd;cases kD:(cy cs&&aU len cs.length&&aU cap cs.length&&aU t p.ty&& !(((cs.map ny).flatMap p6).any (aU b)))with
 |false=>rw[kD]at ah;exact ah.elim
 |true=>
 rw[kD]at ah;simp only[bI,c6]at kD;obtain⟨⟨⟨⟨c1,bQ⟩,cD⟩,dq⟩,fM⟩:=kD;have bQ:=b8 bQ;have cD:=b8 cD;have dq:=b8 dq;subst dq;rw[aN3 hp hr (by omega),bQ];obtain⟨b4,cg,r,jY,dh⟩:=hw.gP b cs _ bd c1;have jY:=jY rfl;subst jY;rw[gO]at dh;refine eG.akx (f:=p.c.f) h8 n (cs.map ny) bl k G ρ m w (cs.map (A.den ρ m)) R' (λzs h1 h2 h3=>?_) hb hw (λv hv=>?_) (Z9 cs) ah ag
 ·have:=hc.2 _ w _ zs (m b) hw.ext h1 h2 h3 b4 (λhF=>?_) dh
  ·rwa [ps]at this
  ·obtain⟨⟨b',k1,k2,q,k3,k4,_⟩,_⟩:=hF;have dE:b≠b':=λe=>by
    subst e;rw[List.any_eq_true.2 ⟨b,k1,JM b⟩]at fM;cases fM
   rcases hw.inj b b' _ q bd k3 k2.symm with h|h|h|h
   ·exact dE h
   ·have:=n5 (ρ:=ρ) c1;simp only at h;omega
   ·have:=n5 (ρ:=ρ) c1;simp only at h;omega
   ·exact k4 h
 ·obtain⟨a,ha,rfl⟩:=List.mem_map.1 hv;exact hb _ (fw bd) a ha
def acy (p:kP) (vs:List V):Bool:=match Wq p.nil vs with
 |some (_,len,_)=>aU len p.c.args.length
 |none=>false
noncomputable def pd:List kP->qz->qz
 |[],bc=>bc
 |p::r,bc=>λf=>cond (aU p.c.f f) (some λn vs bl k=>cond (acy p vs) (p.E n vs bl k) (match pd r bc f with
  |some g=>g n vs bl k
  |none=> .stuck)) (pd r bc f)
theorem yA {w0:fg} {bc:qz} (oB:xY S L w0 P bc):∀{l:List kP},(∀p∈l,p.bH P w0.b (S p.c.id))->xY S L w0 P (pd l bc)
 |[],_=>oB
 |p::l,h=>λf g hf=>by
  unfold pd at hf;cases hb:aU p.c.f f with
  |true=>
   rw[hb]at hf;simp only[cond_true,bu]at hf;have:=b8 hb;subst this;subst hf;intro n vs bl k G ρ m w xs R' h1 h2 h3 h4 h5 h6;have h5:(cond (acy p vs) (p.E n vs bl k) (match pd l bc p.c.f with
    |some g=>g n vs bl k
    |none=> .stuck)).holds S L G ρ:=h5
   cases an:acy p vs with
   |true=>
    rw[an]at h5;exact kP.Ng (h p (by simp)) (λ_ _ h=>h) n vs bl k G ρ m w xs R' h1 h2 h3 h4 h5 h6
   |false=>
    rw[an]at h5;simp only[cond_false]at h5;cases hr:pd l bc p.c.f with
    |none=>rw[hr]at h5;exact h5.elim
    |some kq=>
     rw[hr]at h5;exact yA oB (λp hp=>h p (e5 _ hp)) p.c.f kq hr n vs bl k G ρ m w xs R' h1 h2 h3 h4 h5 h6
  |false=>
   rw[hb]at hf;exact yA oB (λp hp=>h p (e5 _ hp)) f g hf
def tk:W->A
 | .one a=>a
 |_=> .con undef
noncomputable def kP.tree (bc:qz) (P:cc) (gl:fK) (cal:gb) (li:dv->Nat->Option fB) (rounds d:Nat) (p:kP):T:=
 cond (sW p.c.args&& !(p.c.args.any c3.tc)) (Wu p.c.pre ((dP (c7 p.c.args).length).map LM) (zl p.c.args 0 (c7 p.c.args).length [] [] λn us bl=>
  cond (us.all (λu=>match u with| .one _=>true|_=>false)&&cy (us.map tk)) (Fc bc P gl cal li rounds d p.c.f n (cond p.nil [ny (.slc bl.length 0 us.length us.length),ny (.con (.slice none 0 0))] [ny (.slc bl.length 0 us.length us.length)]) (bl++[(us.map tk,(p.ty,false))]) λn' v bF=>match bF[bl.length]? with
   |some (cs,(t,false))=>cond (rr cs (us.map tk)&&aU t p.ty) (RE (eP bF bl.length gW) p.c.res v n' λos _=> .leaf (F5 os)) .stuck
   |_=> .stuck) .stuck)) .stuck
theorem Mem.more {b r:aC} {ex ex' ro:Nat->Prop} {ds:List GY} {ρ:Env} {m:Nat->Nat} {bl:List aM} {w:aC} (h:Mem ⟨b,r,ex,ro,ds⟩ ρ m bl w) (he:∀g,ex g->ex' g):Mem ⟨b,r,ex',ro,ds⟩ ρ m bl w:=
 ⟨h.ext,h.kE,h.mE,h.lq,h.ia,λi hi hx=>h.kp i hi λo5=>hx (he i o5),λi cs t hi aA=>by
  obtain⟨h1,h2,h3⟩:=h.gP i cs t hi aA;exact⟨h1,h2.imp (he _) id,h3⟩,λi sh off code cap kind t hi ag=>by
  obtain⟨g1,g2⟩:=h.rws i sh off code cap kind t hi ag;refine⟨g1,λhc=>?_⟩;obtain⟨k1,cells,t',fz,k2,k3,k4⟩:=g2 hc;refine⟨k1.imp (he _) id,cells,t',fz,k2,k3,λh2=>?_⟩;obtain⟨dN,nY,o6,td,zZ,qU⟩:=k4 h2;exact⟨dN,nY,o6,td,zZ,qU.imp (he _) id⟩,h.inj⟩
theorem Mem.drop {b r:aC} {ro:Nat->Prop} {ρ:Env} {m:Nat->Nat} {bl:List aM} {w:aC} {g i0:Nat} {cs:List A} {t:bE} (h:Mem ⟨b,r,λi=>i=g,ro,[]⟩ ρ m bl w) (hi:bl[i0]?=some (cs,(t,false))) (aA:cy cs=true) (hg:m i0=g) (hr:r.heap[g]?=some (.cells (cs.map (A.den ρ m)).toArray t (0,0))):
 Mem ⟨b,r,λ_=>False,ro,[]⟩ ρ m (eP bl i0 gW) w:=by
 have hlen:i0<bl.length:=(List.getElem?_eq_some_iff.1 hi).1;have eZ:∀(i:Nat) (q:aM),(eP bl i0 gW)[i]?=some q->(i=i0/\q=gW)∨(i≠i0/\bl[i]?=some q):=λi q an=>by
  rw[mK,wF]at an;split at an
  ·rename_i iT;subst iT;simp only[hlen,if_true,bu]at an;exact .inl ⟨rfl,an.symm⟩
  ·rename_i iT;exact .inr ⟨λe=>iT e.symm,an⟩
 have jX:b2 ρ gW.1=0:=by simp[gW,b2,I.bC]
 have nh:b2 ρ cs=2:=n5 aA;have dE:∀(i:Nat) (q:aM),i≠i0->bl[i]?=some q->b2 ρ q.1≠0->m i≠g:=λi q qe an ag e=>by
  rcases h.inj i i0 q _ an hi (by rw[e,hg])with h1|h1|h1|h1
  ·exact qe h1
  ·simp only at h1;omega
  ·exact ag h1
  ·simp only at h1;omega
 refine⟨h.ext,h.kE,h.mE,h.lq,h.ia,λi ks _=>?_,λi lD t' an kT=>?_,λi sh off code cap kind t' an=>?_,λi j p q hp an he=>?_⟩
 ·by_cases e:i=g
  ·subst e;obtain⟨_,_,Mo,pH,h3⟩:=h.gP i0 cs _ hi aA;have pH:=pH rfl;subst pH;rw[gO,hg]at h3;rw[h3];exact hr.symm
  ·exact h.kp i ks e
 ·rcases eZ i _ an with⟨_,e⟩|⟨qe,an⟩
  ·simp only[gW,fi]at e;rw[e.1]at kT;simp[cy]at kT
  ·obtain⟨h1,h2,h3⟩:=h.gP i lD t' an kT;refine⟨h1,?_,h3⟩;rcases h2 with h2|h2
   ·exact absurd h2 (dE i _ qe an (by rw[n5 kT];decide))
   ·exact .inr h2
 ·rcases eZ i _ an with⟨_,e⟩|⟨qe,an⟩
  ·simp only[gW,fi,hD,A.rows.injEq,and_true]at e;intro ag;exact absurd e.1.2.2.2.2 ag
  ·intro ag;obtain⟨g1,g2⟩:=h.rws i sh off code cap kind t' an ag;refine⟨g1,λhc=>?_⟩;have Ig:m i≠g:=dE i _ qe an (by simp only[b2];rw[if_neg (by omega)];exact ag);obtain⟨k1,cells,RS,fz,k2,k3,k4⟩:=g2 hc;refine⟨?_,cells,RS,fz,k2,k3,λh2=>?_⟩
   ·rcases k1 with k1|k1
    ·exact absurd k1 Ig
    ·exact .inr k1
   ·obtain⟨dN,nY,o6,td,zZ,qU⟩:=k4 h2;refine⟨dN,nY,o6,td,zZ,?_⟩;rcases qU with qU|qU
    ·exact absurd qU Ig
    ·exact .inr qU
 ·rcases eZ i _ hp with⟨_,e⟩|⟨qe,hp⟩
  ·subst e;exact .inr (.inr (.inl jX))
  ·rcases eZ j _ an with⟨_,e⟩|⟨apG,an⟩
   ·subst e;exact .inr (.inr (.inr jX))
   ·exact h.inj i j p q hp an he
theorem kP.QJ {wb:aC} {gl:fK} {p:kP} {bc:qz} {cal:gb} {li:dv->Nat->Option fB} {rounds d:Nat} {spec:List Int->List Int->Prop} (hm:P.follows .mixedOrders=true) (di:∀r ex ro,im S P gl ⟨wb,r,ex,ro,[]⟩ cal) (hg:fJ gl ⟨wb,wb,λ_=>False,λ_=>False,[]⟩)
 (oB:∀(L:V->Env->Prop) (r:aC) (ex ro:Nat->Prop),xY S L ⟨wb,r,ex,ro,[]⟩ P bc) (hf:∀args w,(callFunc p.c.f args).run P w= .ok (.enter p.c.f args) w)
 (aB:kQ (c7 p.c.args) λzs=>(p.tree bc P gl cal li rounds d).holds S (zb λrs=>ay (c7 p.c.res) rs/\spec zs rs) (λ_ _=>False) (b0 (λ_=>0) 0 zs)):p.bH P wb spec:=by
 refine⟨hf,λF w vs zs g hw hz Pl hat adv OF hcell=>?_⟩;have ah:=m6 aB hz;have qT:=dj hz;unfold kP.tree at ah;cases an:(sW p.c.args&& !(p.c.args.any c3.tc))with
 |false=>rw[an]at ah;exact ah.elim
 |true=>
  rw[an]at ah;simp only[cond_true]at ah;have ah:=preA_holds ah (by rw[<-qT,VX];exact Pl);simp only[bI,c6]at an;have nk:Mem ⟨wb,w,λ_=>False,F,[]⟩ (b0 (λ_=>0) 0 zs) (λ_=>0) [] w:=⟨hw,rfl,rfl,rfl,b1 _,λ_ _ _=>rfl,λi cs t h=>by simp at h,λi sh off code cap kind t h=>by simp at h,λi j p q h=>by simp at h⟩;have jL:(p.c.args.all λb=> !b.tc)=true:=by
   rw[MV];intro b hb;cases fW:b.tc with
   |false=>rfl
   |true=>rw[List.any_eq_true.2 ⟨b,hb,fW⟩]at an;cases an.2
  obtain⟨n',ae,m',us,bl,bw,bz,cY,fa,fv,hB⟩:=Hm (S:=S) (L:=_) (w0:=⟨wb,w,λ_=>False,F,[]⟩) (F:=F) (N:=λ_=>False) (λg hg=> .inr (.inl hg)) (λg hg=>hg.elim) (l:=p.c.args) (s:=0) (us:=[]) (bl:=[]) (m:=λ_=>0) an.1 (λp hp=>by simp at hp) nk (kM.b0 _ 0 zs) hz (by omega) hat (.inr λi p h=>by simp at h) (.inl jL) (λu hu=>by simp at hu) ah;cases yk:(us.all (λu=>match u with| .one _=>true|_=>false)&&cy (us.map tk))with
  |false=>rw[yk]at hB;exact hB.elim
  |true=>
  rw[yk]at hB;simp only[cond_true]at hB;simp only[bI]at yk;have ap4:∀u∈us,u= .one (tk u):=λu hu=>by
   have:=List.all_eq_true.1 yk.1 u hu;cases u with
   |one a=>rfl
   |_=>simp at this
  have lH:(us.map tk).map (A.den ae m')=vs:=by
   have e:us.map (W.den ae m')=vs:=by simpa using fa
   rw[<-e,lz];refine j5 λu hu=>?_;rw[ap4 u hu];rfl
  have aem:∀a∈us.map tk,A.ok n' bl.length ae a:=λa ha=>by
   obtain⟨u,hu,rfl⟩:=List.mem_map.1 ha;have h1:=fv u hu;rw[ap4 u hu]at h1;exact h1
  have Uv:g<w.heap.size:=(Array.getElem?_eq_some_iff.1 hcell).1;have ma:=(cY.more (ex':=λi=>i=g) λ_ h=>h.elim).push (x:=(us.map tk,(p.ty,false))) (g:=g) bz aem (λ_=>⟨adv,.inl rfl,[],λ_=>rfl,by rw[gO,lH];exact hcell⟩) (λsh off code cap kind he=>by
   simp only at he;rw[he]at yk;simp[cy]at yk) (λi q hi he=>by
    refine .inr (.inl ?_);by_cases h0:b2 ae q.1=0
    ·exact h0
    ·exfalso;obtain⟨cs,t⟩:=q;cases aA:cy cs with
     |true=>
      obtain⟨_,h2,_⟩:=cY.gP i cs t hi aA;rcases h2 with h2|h2
      ·exact h2
      ·simp only at h2;omega
     |false=>
      obtain⟨sh,off,code,cap,k,e⟩:=Wl aA;subst e;simp only[b2]at h0;split at h0
      ·exact h0 rfl
      ·rename_i hc;obtain⟨h1,_⟩:=(cY.rws i sh off code cap k t hi h0).2 (by omega);rcases h1 with h1|h1|h1
       ·exact h1
       ·rw[he]at h1;exact OF h1
       ·simp only at h1;omega)
  have H3:dr n' (bl++[(us.map tk,(p.ty,false))]).length ae (bl++[(us.map tk,(p.ty,false))]):=λq an a nS=>by
   rcases List.mem_append.1 an with an|an
   ·exact(bz q an a nS).ext (agree.refl _ _) (b1 _) (by simp)
   ·simp at an;subst an;exact(aem a nS).ext (agree.refl _ _) (b1 _) (by simp)
  have aFU:us.length=vs.length:=by rw[<-lH];simp
  have adM:fJ gl ⟨wb,w,λi=>i=g,F,[]⟩:=hg;have ap0:V.ok n' (bl++[(us.map tk,(p.ty,false))]).length ae (ny (.slc bl.length 0 us.length us.length)):=by
   show bl.length<_;simp
  have yl:(ny (.slc bl.length 0 us.length us.length)).rel ae (oe m' bl.length g) (.slice (some ⟨g,0,none⟩) vs.length vs.length):=by
   simp[V.rel,ny,W.den,A.den,pT,aFU]
  have s4:∀v∈(cond p.nil [ny (.slc bl.length 0 us.length us.length),ny (.con (.slice none 0 0))] [ny (.slc bl.length 0 us.length us.length)]),V.ok n' (bl++[(us.map tk,(p.ty,false))]).length ae v:=λv hv=>by
   have aEq:V.ok n' (bl++[(us.map tk,(p.ty,false))]).length ae (ny (.con (.slice none 0 0))):=rfl;cases hn:p.nil with
   |true=>
    rw[hn]at hv;simp only[cond_true,m2,uU,or_false]at hv;rcases hv with rfl|rfl
    ·exact ap0
    ·exact aEq
   |false=>
    rw[hn]at hv;simp only[cond_false,m2,uU,or_false]at hv;subst hv;exact ap0
  have hrel:fN ae (oe m' bl.length g) (cond p.nil [ny (.slc bl.length 0 us.length us.length),ny (.con (.slice none 0 0))] [ny (.slc bl.length 0 us.length us.length)]) (F8 p g vs.length).toList:=by
   unfold F8;cases hn:p.nil with
   |true=>simp only[cond_true];exact⟨yl,rfl,trivial⟩
   |false=>simp only[cond_false];exact⟨yl,trivial⟩
  have aEl:=(NV (S:=S) (w0:=⟨wb,w,λi=>i=g,F,[]⟩) (R':=λe w'=>w.Extends w'/\∃rs us,ay (c7 p.c.res) rs/\spec zs rs/\m7 (λg=>F g∨w.heap.size<=g) (λg=>w.heap.size<=g) w' p.c.res rs us/\e= .returned (xM us)) rfl hm (di w _ F) adM (oB _ _ _ _) d p.c.f n' _ _ _ _ ae (oe m' bl.length g) w _ H3 ma s4 hrel hB ?_).2
  ·simpa using aEl
  intro fF v bF fm cd eJ w' val h1 h2 h3 h4 h5 h6 h7;simp only at h7;split at h7
  rotate_left
  ·exact h7.elim
  rename_i cs t qM;cases kD:(rr cs (us.map tk)&&aU t p.ty)with
  |false=>rw[kD]at h7;exact h7.elim
  |true=>
  rw[kD]at h7;simp only[cond_true]at h7;simp only[bI]at kD;have aBd:=Hw kD.1;have BA:=b8 kD.2;subst aBd;subst BA;have ON:bl.length<(bl++[(us.map tk,(p.ty,false))]).length:=by simp
  have s5:eJ bl.length=g:=by rw[h1.hm _ ON,pT]
  have zM:(us.map tk).map (A.den cd eJ)=vs:=by
   rw[<-lH];refine j5 λa ha=>?_;rw[A.oz (aem a ha) h1.ha (λb hb=>?_)];rw[h1.hm b (by simp;omega),pk hb]
  have nR:=h6.drop qM yk.2 s5 (by rw[zM];exact hcell);have fW:dr fF (eP bF bl.length gW).length cd (eP bF bl.length gW):=by
   rw[lL];intro q an a ha;rw[mK]at an;rcases Sx an with an|an
   ·exact h5 q an a ha
   ·subst an;simp only[gW,m2,uU,or_false]at ha;subst ha;exact⟨⟨I.dX _ _,I.dX _ _,I.dX _ _⟩,by rw[I.bC];exact⟨cn _,zc⟩,by rw[I.bC];omega⟩
  obtain⟨jb,sJ,os,Du,w9,⟨xs,s9,lI⟩,hl⟩:=ahd (S:=S) (w0:=⟨wb,w,λ_=>False,F,[]⟩) (λg hg=>hg) fW nR (by rw[lL];exact h3) h4 fm _ h7;have hl:zb _ (F5 os) jb:=hl;rw[aae]at hl;refine⟨?_,os.map (O.den jb),xs,hl.1,hl.2,?_,by rw[s9]⟩
  ·have tY:∀i:Nat,i<w.heap.size->w'.heap[i]?=w.heap[i]?:=λi hi=>nR.kp i hi λh=>h;exact⟨nR.kE,nR.mE,nR.lq,nR.ia,λa ha=>by simp only[oq,tY a.block ha],λa ha=>by simp only[EH,tY a.block ha],tY⟩
  ·exact eG.QJ.Kb (λg hg=>by
    rcases hg with hg|hg|hg
    ·exact hg.elim
    ·exact .inl hg
    ·exact .inr hg) (λg hg=>hg) lI
section
variable {wb:aC} {sh:Nat->List Nat×List Nat} {SB:Nat->List (List Int)->List (List Int)->Prop}
theorem Ge {p:kP} {bc:qz} {cal:gb} {li:dv->Nat->Option fB} {rounds d:Nat} {lsh:Nat->List Nat} {lens:List Nat} (hm:P.follows .mixedOrders=true) (di:∀r ex ro,im (du sh SB) P gl ⟨wb,r,ex,ro,[]⟩ cal) (hg:fJ gl ⟨wb,wb,λ_=>False,λ_=>False,[]⟩)
 (oB:∀(L:V->Env->Prop) (r:aC) (ex ro:Nat->Prop),xY (du sh SB) L ⟨wb,r,ex,ro,[]⟩ P bc) (hf:BG P p.c.f=true) (hl:lens=(sh p.c.id).1) (hd:D1 p.c.res=(sh p.c.id).2)
 (hv:iL sh lsh SB (ej SB p.c.res p.c.id) lens (c7 p.c.args) p.c.res (p.tree bc P gl cal li rounds d)):p.bH P wb (du sh SB p.c.id):=by
 refine kP.QJ (li:=li) (rounds:=rounds) (d:=d) hm di hg oB (enters hf) (tO λzs hz=>?_);have h:=m6 (aaw hv) hz;simp only[ej,uK]at h;rw[hl,hd]at h;exact h
end
end Go.bX
namespace Go.bX
open M
variable {S:Nat->List Int->List Int->Prop} {L:V->Env->Prop} {P:cc} {gl:fK} {cal:gb}
inductive iJ where
 |int (k:eB) (c:Int)
 |fn (f:dv)
def iJ.val:iJ->bf
 |int k c=> .int k c
 |fn f=> .func (.func f) #[] #[]
def iJ.A:iJ->A
 |int k c=> .int k (bZ.const c)
 |fn f=> .con (.func (.func f) #[] #[])
def T3:iJ->A->Bool
 | .int k c,.int bJ x=>decide (k=bJ)&&(match x.l.fk with|some d=>decide (d=c)|none=>false)
 | .fn f,.con v=>match v with
  | .func (.func nQ) a b=>aU f nQ&&aU a.size 0&&aU b.size 0
  |_=>false
 |_,_=>false
def Ot:List iJ->List A->Bool
 |[],[]=>true
 |r::l,a::s=>T3 r a&&Ot l s
 |_,_=>false
def Oq:List iJ->List V->Bool
 |[],[]=>true
 |r::l,.w (.one a)::s=>T3 r a&&Oq l s
 |_,_=>false
theorem an4 {r:iJ} {a:A} {ρ:Env} {m:Nat->Nat} (h:T3 r a=true):a.den ρ m=r.val:=by
 unfold T3 at h;split at h
 ·rename_i k c bJ x;simp only[bI,decide_eq_true_eq]at h;obtain⟨h1,h2⟩:=h;cases hc:x.l.fk with
  |none=>rw[hc]at h2;cases h2
  |some d=>
   rw[hc]at h2;have h2:=of_decide_eq_true h2;subst h1;subst h2;simp[A.den,iJ.val,I.ll hc]
 ·rename_i f v;split at h
  ·rename_i nQ x y;simp only[bI]at h;obtain⟨⟨h1,h2⟩,h3⟩:=h;have h1:=b8 h1;have h2:=b8 h2;have h3:=b8 h3;rw[EL h2,EL h3,h1];rfl
  ·cases h
 ·cases h
theorem an5 {ρ:Env} {m:Nat->Nat}:∀{l:List iJ} {cs:List A},Ot l cs=true->cs.map (A.den ρ m)=l.map iJ.val
 |[],[],_=>rfl
 |r::l,a::s,h=>by
  simp only[Ot,bI]at h;simp[an4 h.1,an5 h.2]
 |[],_::_,h=>by cases h
 |_::_,[],h=>by cases h
theorem an3 {ρ:Env} {m:Nat->Nat}:∀{l:List iJ} {vs:List V} {xs:List bf},Oq l vs=true->fN ρ m vs xs->xs=l.map iJ.val
 |[],[],[],_,_=>rfl
 |r::l,.w (.one a)::s,x::xs,h,hr=>by
  simp only[Oq,bI]at h;have hx:x=a.den ρ m:=hr.1;rw[hx,an4 h.1,an3 h.2 hr.2];rfl
 |[],[],_::_,_,h=>h.elim
 |_::_,[],_,h,_=>by cases h
structure p5 where
 c:eG
 cells:List iJ
 ty:bE
 tail:List iJ
structure akz (g:Nat) (w w':aC):Prop where
 os:w'.os=w.os
 tape:w'.tape=w.tape
 out:w'.output=w.output
 size:w.heap.size<=w'.heap.size
 gP:∀i,i<w.heap.size->i≠g->w'.heap[i]?=w.heap[i]?
def p5.bH (P:cc) (wb:aC) (p:p5) (spec:List Int->List Int->Prop):Prop:=(∀args w,(callFunc p.c.f args).run P w= .ok (.enter p.c.f args) w)/\∀(F:Nat->Prop) (w:aC) (vs:List bf) (zs:List Int) (g:Nat),wb.Extends w->ay (c7 p.c.args) zs->L5 p.c.pre zs->m7 F (λ_=>False) w p.c.args zs vs->wb.heap.size<=g->¬F g->w.heap[g]?=some (.cells (p.cells.map iJ.val).toArray p.ty (0,0))->oo P p.c.f (.pointer (some ⟨g,0,none⟩)::(vs++p.tail.map iJ.val)).toArray w λe w'=>akz g w w'/\∃rs us,ay (c7 p.c.res) rs/\spec zs rs/\m7 (λg=>F g∨w.heap.size<=g) (λg=>w.heap.size<=g) w' p.c.res rs us/\e= .returned (xM us)
noncomputable def p5.E (p:p5) (n:Nat) (vs:List V) (bl:List aM) (k:RK):T:=
 match vs with
 | .w (.one (.ptr b 0))::us=>match bl[b]? with
  |some (cs,(t,false))=>cond (cy cs&&Ot p.cells cs&&aU t p.ty&&Oq p.tail (us.drop p.c.args.length)&&cV p.c.args.length us.length&& !(((us.take p.c.args.length).flatMap p6).any (aU b))&&sW p.c.res&& !(p.c.res.any c3.rJ))
   (HN bl p.c.args (us.take p.c.args.length) n λls bh=>agO p.c.pre ls (.call p.c.id ls bh (c7 p.c.res) (zl p.c.res bh (bh+(c7 p.c.res).length) [] (eP bl b gW) λfF us sq=>k fF (Gn us) sq))) .stuck
  |_=> .stuck
 |_=> .stuck
theorem Mem.but {w0:fg} {ρ:Env} {m:Nat->Nat} {bl:List aM} {w w':aC} {b:Nat} {cs:List A} {t:bE×Bool} (h:Mem w0 ρ m bl w) (hi:bl[b]?=some (cs,t)) (aA:cy cs=true) (hx:akz (m b) w w'):Mem w0 ρ m (eP bl b gW) w':=by
 have hlen:b<bl.length:=(List.getElem?_eq_some_iff.1 hi).1;have eZ:∀(i:Nat) (q:aM),(eP bl b gW)[i]?=some q->(i=b/\q=gW)∨(i≠b/\bl[i]?=some q):=λi q an=>by
  rw[mK,wF]at an;split at an
  ·rename_i iT;subst iT;simp only[hlen,if_true,bu]at an;exact .inl ⟨rfl,an.symm⟩
  ·rename_i iT;exact .inr ⟨λe=>iT e.symm,an⟩
 have jX:b2 ρ gW.1=0:=by simp[gW,b2,I.bC]
 have nh:b2 ρ cs=2:=n5 aA;have dE:∀(i:Nat) (q:aM),i≠b->bl[i]?=some q->b2 ρ q.1≠0->m i≠m b:=λi q qe an ag e=>by
  rcases h.inj i b q _ an hi e with h1|h1|h1|h1
  ·exact qe h1
  ·simp only at h1;omega
  ·exact ag h1
  ·simp only at h1;omega
 obtain⟨qd,qM,_⟩:=h.gP b cs t hi aA;refine⟨acv h.ext hx.os hx.tape hx.out hx.size (λk ag=>hx.gP k (JL ag h.ext.size) (by omega)),hx.os.trans h.kE,hx.tape.trans h.mE,hx.out.trans h.lq,nJ h.ia hx.size,λi ks hex=>?_,λi lD t' an kT=>?_,λi sh off code cap kind t' an=>?_,λi j p q hp an he=>?_⟩
 ·have Lc:i≠m b:=λe=>by
   subst e;rcases qM with h2|h2
   ·exact hex h2
   ·omega
  rw[hx.gP i (JL ks h.ia) Lc];exact h.kp i ks hex
 ·rcases eZ i _ an with⟨_,e⟩|⟨qe,an⟩
  ·simp only[gW,fi]at e;rw[e.1]at kT;simp[cy]at kT
  ·obtain⟨h1,h2,r,h3,h4⟩:=h.gP i lD t' an kT;exact⟨h1,h2,r,h3,by rw[hx.gP _ (Array.getElem?_eq_some_iff.1 h4).1 (dE i _ qe an (by rw[n5 kT];decide))];exact h4⟩
 ·rcases eZ i _ an with⟨_,e⟩|⟨qe,an⟩
  ·simp only[gW,fi,hD,A.rows.injEq,and_true]at e;intro ag;exact absurd e.1.2.2.2.2 ag
  ·intro ag;obtain⟨g1,g2⟩:=h.rws i sh off code cap kind t' an ag;refine⟨g1,λhc=>?_⟩;have Ig:=dE i _ qe an (by simp only[b2];rw[if_neg (by omega)];exact ag);obtain⟨k1,cells,RS,fz,k2,k3,k4⟩:=g2 hc;exact⟨k1,cells,RS,fz,by rw[hx.gP _ (Array.getElem?_eq_some_iff.1 k2).1 Ig];exact k2,k3,k4⟩
 ·rcases eZ i _ hp with⟨_,e⟩|⟨qe,hp⟩
  ·subst e;exact .inr (.inr (.inl jX))
  ·rcases eZ j _ an with⟨_,e⟩|⟨apG,an⟩
   ·subst e;exact .inr (.inr (.inr jX))
   ·exact h.inj i j p q hp an he
theorem dr.dead {n nb:Nat} {ρ:Env} {bl:List aM} (h:dr n nb ρ bl) (b:Nat):dr n nb ρ (eP bl b gW):=by
 intro q an a ha;rw[mK]at an;rcases Sx an with an|an
 ·exact h q an a ha
 ·subst an;simp only[gW,m2,uU,or_false]at ha;subst ha;exact⟨⟨I.dX _ _,I.dX _ _,I.dX _ _⟩,by rw[I.bC];exact⟨cn _,zc⟩,by rw[I.bC];omega⟩
theorem aaa {ρ:Env} {m:Nat->Nat}:∀(k:Nat) {vs:List V} {xs:List bf},fN ρ m vs xs->fN ρ m (vs.take k) (xs.take k)/\fN ρ m (vs.drop k) (xs.drop k)
 |0,vs,xs,h=>⟨by simp;trivial,by simpa using h⟩
 |k+1,[],[],_=>⟨trivial,trivial⟩
 |k+1,v::vs,x::xs,h=>⟨⟨h.1,(aaa k h.2).1⟩,(aaa k h.2).2⟩
 |_+1,[],_::_,h=>h.elim
 |_+1,_::_,[],h=>h.elim
theorem p5.Ng {w0:fg} {p:p5} {spec:List Int->List Int->Prop} (hc:p.bH P w0.b spec) (h8:∀zs rs,spec zs rs->S p.c.id zs rs) (n:Nat) (vs:List V) (bl:List aM) (k:RK) (G:fx) (ρ:Env) (m:Nat->Nat) (w:aC) (xs:List bf) (R':Ending->aC->Prop)
 (hb:dr n bl.length ρ bl) (hw:Mem w0 ρ m bl w) (hv:∀v∈vs,V.ok n bl.length ρ v) (hr:fN ρ m vs xs) (ah:(p.E n vs bl k).holds S L G ρ) (ag:G8 S L w0 k n bl.length ρ m G R'):
 (callFunc p.c.f xs.toArray).run P w= .ok (.enter p.c.f xs.toArray) w/\oo P p.c.f xs.toArray w R':=by
 refine⟨hc.1 _ _,?_⟩;unfold p5.E at ah;split at ah
 rotate_left
 ·exact ah.elim
 rename_i b us;split at ah
 rotate_left
 ·exact ah.elim
 rename_i cs t bd
 match xs,hr with
 |x::xs,hr=>
 cases kD:(cy cs&&Ot p.cells cs&&aU t p.ty&&Oq p.tail (us.drop p.c.args.length)&&cV p.c.args.length us.length&& !(((us.take p.c.args.length).flatMap p6).any (aU b))&&sW p.c.res&& !(p.c.res.any c3.rJ))with
 |false=>rw[kD]at ah;exact ah.elim
 |true=>
 rw[kD]at ah;simp only[cond_true]at ah;simp only[bI,c6]at kD;obtain⟨⟨⟨⟨⟨⟨⟨c1,bQ⟩,cD⟩,dq⟩,fM⟩,hI⟩,oU⟩,nO⟩:=kD;have cD:=b8 cD;subst cD;obtain⟨hx,hr⟩:=hr;have hx:x= .pointer (some ⟨m b,0,none⟩):=hx;subst hx;obtain⟨r1,r2⟩:=aaa p.c.args.length hr;have aFM:=an3 dq r2;have gY:xs=xs.take p.c.args.length++p.tail.map iJ.val:=by rw[<-aFM,nI]
 obtain⟨b4,cg,r,jY,dh⟩:=hw.gP b cs _ bd c1;have jY:=jY rfl;subst jY;rw[gO,an5 bQ]at dh;obtain⟨a6,bh,ls,h9,fV,⟨g1,g2,g3⟩,ah⟩:=T5 (S:=S) (L:=L) hb hw (λv xh=>hv v (e5 _ (List.mem_of_mem_take xh))) r1 G _ ah;obtain⟨rH,ah⟩:=preM_holds ah;simp only[T.holds]at ah;rw[gY];refine(hc.2 (uX w0 ρ m bl ((us.take p.c.args.length).flatMap p6) ((us.take p.c.args.length).flatMap yU)) w _ _ (m b) hw.ext g2 rH (g3 _ λ_ h=>h) b4 (λhF=>?_) dh).mono ?_
 ·obtain⟨⟨b',k1,k2,q,k3,k4,_⟩,_⟩:=hF;have dE:b≠b':=λe=>by
   subst e;rw[List.any_eq_true.2 ⟨b,k1,JM b⟩]at hI;cases hI
  rcases hw.inj b b' _ q bd k3 k2.symm with h|h|h|h
  ·exact dE h
  ·have:=n5 (ρ:=ρ) c1;simp only at h;omega
  ·have:=n5 (ρ:=ρ) c1;simp only at h;omega
  ·exact k4 h
 rintro e w' ⟨he,rs,pU,r1,r2,gS,rfl⟩
 have ah:=m6 ah r1 (h8 _ _ r2);have ma:=hw.but bd c1 he;have fW:=hb.dead b;have hl:(eP bl b gW).length=bl.length:=lL _ _ _;have eI:agree bh a6 (b0 a6 bh rs):=agree.b0 rs bh a6;have HY:=fV.trans eI h9;have qM:dr (bh+(c7 p.c.res).length) (eP bl b gW).length (b0 a6 bh rs) (eP bl b gW):=by rw[hl];exact fW.ext HY (by omega) (b1 _)
 have aC3:Mem w0 (b0 a6 bh rs) m (eP bl b gW) w':=ma.sP (by rw[hl];exact fW) HY;have aV:kM (b0 a6 bh rs) bh rs:=kM.b0 a6 bh rs;have ac6:ft n bl.length ρ m (bh+(c7 p.c.res).length) (eP bl b gW).length (b0 a6 bh rs) m:=⟨by omega,HY,by rw[hl];exact b1 _,λ_ _=>rfl⟩;have hF:∀g,(uX w0 ρ m bl ((us.take p.c.args.length).flatMap p6) ((us.take p.c.args.length).flatMap yU) g∨w.heap.size<=g)->w0.ex g∨w0.ro g∨w0.r.heap.size<=g:=λg hg=>by
  rcases hg with hg|hg
  ·exact hg.2
  ·exact .inr (.inr (nJ hw.ia hg))
 have cF:∀g,w.heap.size<=g->w0.b.heap.size<=g/\w0.r.heap.size<=g:=λg hg=>⟨nJ hw.ext.size hg,nJ hw.ia hg⟩;have zW:(p.c.res.all λb=> !b.rJ)=true:=by
  rw[MV];intro b hb;cases fW:b.rJ with
  |false=>rfl
  |true=>rw[List.any_eq_true.2 ⟨b,hb,fW⟩]at nO;cases nO
 obtain⟨n',ae,m',aUD,sq,bw,bz,cY,fa,fv,hB⟩:=Hm (S:=S) (L:=L) hF cF (l:=p.c.res) (us:=[]) (vals:=pU) oU qM aC3 aV r1 (b1 _) gS (.inl zW) (.inr λi q hi ng=>by
  by_cases h0:b2 (b0 a6 bh rs) q.1=0
  ·exact h0
  ·exfalso;rw[mK,wF]at hi;split at hi
   ·rename_i e;subst e;split at hi
    ·cases hi;exact h0 (by simp[gW,b2,I.bC])
    ·cases hi
   ·rw[yt (hb q (fw hi)) HY]at h0;have:=hw.lt hi h0;omega) (λu hu=>by simp at hu) ah
 have pG:=ate (m:=m') fv (by simpa using fa);exact ag n' (Gn aUD) sq G ae m' w' (xM pU) (ac6.trans bw) (ga.refl _ _) pG.1 pG.2 bz cY hB
noncomputable def AD:List p5->qz->qz
 |[],bc=>bc
 |p::r,bc=>λf=>cond (aU p.c.f f) (some p.E) (AD r bc f)
theorem RB {w0:fg} {bc:qz} (oB:xY S L w0 P bc):∀{l:List p5},(∀p∈l,p.bH P w0.b (S p.c.id))->xY S L w0 P (AD l bc)
 |[],_=>oB
 |p::l,h=>λf g hf=>by
  unfold AD at hf;cases hb:aU p.c.f f with
  |true=>
   rw[hb]at hf;simp only[cond_true,bu]at hf;have:=b8 hb;subst this;subst hf;intro n vs bl k G ρ m w xs R' h1 h2 h3 h4 h5 h6;exact p5.Ng (h p (by simp)) (λ_ _ h=>h) n vs bl k G ρ m w xs R' h1 h2 h3 h4 h5 h6
  |false=>
   rw[hb]at hf;exact RB oB (λp hp=>h p (e5 _ hp)) f g hf
noncomputable def p5.tree (f:my) (p:p5):T:=
 cond (sW p.c.args&& !(p.c.args.any c3.tc)) (Wu p.c.pre ((dP (c7 p.c.args).length).map LM) (zl p.c.args 0 (c7 p.c.args).length [] [] λn us bl=>
  cond (cy (p.cells.map iJ.A)) (f p.c.f n (ny (.ptr bl.length 0)::(us.map V.w++p.tail.map λr=>ny r.A)) (bl++[(p.cells.map iJ.A,(p.ty,false))]) λn' v bF=>match bF[bl.length]? with
   |some (cs,_)=>cond (cy cs) (RE (eP bF bl.length gW) p.c.res v n' λos _=> .leaf (F5 os)) .stuck
   |none=> .stuck) .stuck)) .stuck
theorem iJ.ajr (r:iJ) (ρ:Env) (m:Nat->Nat):r.A.den ρ m=r.val:=by cases r<;>simp[iJ.A,iJ.val,A.den,bZ.const,I.bC]
theorem iJ.ajs (r:iJ) (n nb:Nat) (ρ:Env):r.A.ok n nb ρ:=by
 cases r with
 |int k c=>exact bZ.qI _ _ _
 |fn f=>rfl
theorem akG {ρ:Env} {m:Nat->Nat}:∀{vs us:List V} {xs iG:List bf},fN ρ m vs xs->fN ρ m us iG->fN ρ m (vs++us) (xs++iG)
 |[],_,[],_,_,h=>h
 |_::_,_,_::_,_,h,aP=>⟨h.1,akG h.2 aP⟩
 |[],_,_::_,_,h,_=>h.elim
 |_::_,_,[],_,h,_=>h.elim
theorem Mem.aAV {b r r':aC} {ro:Nat->Prop} {ρ:Env} {m:Nat->Nat} {bl:List aM} {w:aC} {g i0:Nat} {cs:List A} {t:bE×Bool} (h:Mem ⟨b,r,λi=>i=g,ro,[]⟩ ρ m bl w) (hi:bl[i0]?=some (cs,t)) (aA:cy cs=true) (hg:m i0=g)
 (hr:r'.os=r.os/\r'.tape=r.tape/\r'.output=r.output/\r'.heap.size=r.heap.size) (h1:∀k,k≠g->r'.heap[k]?=r.heap[k]?) (h2:r'.heap[g]?=w.heap[g]?):
 Mem ⟨b,r',λ_=>False,ro,[]⟩ ρ m (eP bl i0 gW) w:=by
 have hlen:i0<bl.length:=(List.getElem?_eq_some_iff.1 hi).1;have eZ:∀(i:Nat) (q:aM),(eP bl i0 gW)[i]?=some q->(i=i0/\q=gW)∨(i≠i0/\bl[i]?=some q):=λi q an=>by
  rw[mK,wF]at an;split at an
  ·rename_i iT;subst iT;simp only[hlen,if_true,bu]at an;exact .inl ⟨rfl,an.symm⟩
  ·rename_i iT;exact .inr ⟨λe=>iT e.symm,an⟩
 have jX:b2 ρ gW.1=0:=by simp[gW,b2,I.bC]
 have nh:b2 ρ cs=2:=n5 aA;have dE:∀(i:Nat) (q:aM),i≠i0->bl[i]?=some q->b2 ρ q.1≠0->m i≠g:=λi q qe an ag e=>by
  rcases h.inj i i0 q _ an hi (by rw[e,hg])with h1|h1|h1|h1
  ·exact qe h1
  ·simp only at h1;omega
  ·exact ag h1
  ·simp only at h1;omega
 refine⟨h.ext,h.kE.trans hr.1.symm,h.mE.trans hr.2.1.symm,h.lq.trans hr.2.2.1.symm,by have:=h.ia;simp only at this⊢;omega,λi ks _=>?_,λi lD t' an kT=>?_,λi sh off code cap kind t' an=>?_,λi j p q hp an he=>?_⟩
 ·by_cases e:i=g
  ·subst e;exact h2.symm
  ·show w.heap[i]?=r'.heap[i]?;rw[h1 i e];exact h.kp i (by simp only at ks⊢;omega) e
 ·rcases eZ i _ an with⟨_,e⟩|⟨qe,an⟩
  ·simp only[gW,fi]at e;rw[e.1]at kT;simp[cy]at kT
  ·obtain⟨k1,k2,k3⟩:=h.gP i lD t' an kT;refine⟨k1,?_,k3⟩;rcases k2 with k2|k2
   ·exact absurd k2 (dE i _ qe an (by rw[n5 kT];decide))
   ·exact .inr (by simp only at k2⊢;omega)
 ·rcases eZ i _ an with⟨_,e⟩|⟨qe,an⟩
  ·simp only[gW,fi,hD,A.rows.injEq,and_true]at e;intro ag;exact absurd e.1.2.2.2.2 ag
  ·intro ag;obtain⟨g1,g2⟩:=h.rws i sh off code cap kind t' an ag;refine⟨g1,λhc=>?_⟩;have Ig:m i≠g:=dE i _ qe an (by simp only[b2];rw[if_neg (by omega)];exact ag);obtain⟨k1,cells,RS,fz,k2,k3,k4⟩:=g2 hc;refine⟨?_,cells,RS,fz,k2,k3,λh2=>?_⟩
   ·rcases k1 with k1|k1|k1
    ·exact absurd k1 Ig
    ·exact .inr (.inl k1)
    ·exact .inr (.inr (by simp only at k1⊢;omega))
   ·obtain⟨dN,nY,o6,td,zZ,qU⟩:=k4 h2;refine⟨dN,nY,o6,td,zZ,?_⟩;rcases qU with qU|qU
    ·exact absurd qU Ig
    ·exact .inr (by simp only at qU⊢;omega)
 ·rcases eZ i _ hp with⟨_,e⟩|⟨qe,hp⟩
  ·subst e;exact .inr (.inr (.inl jX))
  ·rcases eZ j _ an with⟨_,e⟩|⟨apG,an⟩
   ·subst e;exact .inr (.inr (.inr jX))
   ·exact h.inj i j p q hp an he
theorem p5.aJc {wb:aC} {p:p5} {inl:my} {spec:List Int->List Int->Prop}
 (nV:∀(L:V->Env->Prop) (r:aC) (ex ro:Nat->Prop),rn S L ⟨wb,r,ex,ro,[]⟩ P inl) (hf:∀args w,(callFunc p.c.f args).run P w= .ok (.enter p.c.f args) w)
 (aB:kQ (c7 p.c.args) λzs=>(p.tree inl).holds S (zb λrs=>ay (c7 p.c.res) rs/\spec zs rs) (λ_ _=>False) (b0 (λ_=>0) 0 zs)):p.bH P wb spec:=by
 refine⟨hf,λF w vs zs g hw hz Pl hat adv OF hcell=>?_⟩;have ah:=m6 aB hz;have qT:=dj hz;unfold p5.tree at ah;cases an:(sW p.c.args&& !(p.c.args.any c3.tc))with
 |false=>rw[an]at ah;exact ah.elim
 |true=>
  rw[an]at ah;simp only[cond_true]at ah;have ah:=preA_holds ah (by rw[<-qT,VX];exact Pl);simp only[bI,c6]at an;have nk:Mem ⟨wb,w,λ_=>False,F,[]⟩ (b0 (λ_=>0) 0 zs) (λ_=>0) [] w:=⟨hw,rfl,rfl,rfl,b1 _,λ_ _ _=>rfl,λi cs t h=>by simp at h,λi sh off code cap kind t h=>by simp at h,λi j p q h=>by simp at h⟩;have jL:(p.c.args.all λb=> !b.tc)=true:=by
   rw[MV];intro b hb;cases fW:b.tc with
   |false=>rfl
   |true=>rw[List.any_eq_true.2 ⟨b,hb,fW⟩]at an;cases an.2
  obtain⟨n',ae,m',us,bl,bw,bz,cY,fa,fv,hB⟩:=Hm (S:=S) (L:=_) (w0:=⟨wb,w,λ_=>False,F,[]⟩) (F:=F) (N:=λ_=>False) (λg hg=> .inr (.inl hg)) (λg hg=>hg.elim) (l:=p.c.args) (s:=0) (us:=[]) (bl:=[]) (m:=λ_=>0) an.1 (λp hp=>by simp at hp) nk (kM.b0 _ 0 zs) hz (by omega) hat (.inr λi p h=>by simp at h) (.inl jL) (λu hu=>by simp at hu) ah;cases yk:cy (p.cells.map iJ.A)with
  |false=>rw[yk]at hB;exact hB.elim
  |true=>
  rw[yk]at hB;simp only[cond_true]at hB;have Uv:g<w.heap.size:=(Array.getElem?_eq_some_iff.1 hcell).1;have zM:∀ρ m,(p.cells.map iJ.A).map (A.den ρ m)=p.cells.map iJ.val:=λρ m=>by
   rw[lz];exact j5 λr _=>r.ajr ρ m
  have apj:∀n nb ρ,∀a∈p.cells.map iJ.A,A.ok n nb ρ a:=λn nb ρ a ha=>by
   obtain⟨r,_,rfl⟩:=List.mem_map.1 ha;exact r.ajs n nb ρ
  have ma:=(cY.more (ex':=λi=>i=g) λ_ h=>h.elim).push (x:=(p.cells.map iJ.A,(p.ty,false))) (g:=g) bz (apj _ _ _) (λ_=>⟨adv,.inl rfl,[],λ_=>rfl,by rw[gO,zM];exact hcell⟩) (λsh off code cap kind he=>by
   simp only at he;rw[he]at yk;simp[cy]at yk) (λi q hi he=>by
    refine .inr (.inl ?_);by_cases h0:b2 ae q.1=0
    ·exact h0
    ·exfalso;obtain⟨cs,t⟩:=q;cases aA:cy cs with
     |true=>
      obtain⟨_,h2,_⟩:=cY.gP i cs t hi aA;rcases h2 with h2|h2
      ·exact h2
      ·simp only at h2;omega
     |false=>
      obtain⟨sh,off,code,cap,k,e⟩:=Wl aA;subst e;simp only[b2]at h0;split at h0
      ·exact h0 rfl
      ·rename_i hc;obtain⟨h1,_⟩:=(cY.rws i sh off code cap k t hi h0).2 (by omega);rcases h1 with h1|h1|h1
       ·exact h1
       ·rw[he]at h1;exact OF h1
       ·simp only at h1;omega)
  have H3:dr n' (bl++[(p.cells.map iJ.A,(p.ty,false))]).length ae (bl++[(p.cells.map iJ.A,(p.ty,false))]):=λq an a nS=>by
   rcases List.mem_append.1 an with an|an
   ·exact(bz q an a nS).ext (agree.refl _ _) (b1 _) (by simp)
   ·simp at an;subst an;exact apj _ _ _ a nS
  have s4:∀v∈(ny (.ptr bl.length 0)::(us.map V.w++p.tail.map λr=>ny r.A)),V.ok n' (bl++[(p.cells.map iJ.A,(p.ty,false))]).length ae v:=λv hv=>by
   rcases List.mem_cons.1 hv with rfl|hv
   ·show bl.length<_;simp
   ·rcases List.mem_append.1 hv with hv|hv
    ·obtain⟨u,hu,rfl⟩:=List.mem_map.1 hv;exact W.ok.ext (fv u hu) (agree.refl _ _) (b1 _) (by simp)
    ·obtain⟨r,_,rfl⟩:=List.mem_map.1 hv;exact r.ajs _ _ _
  have aFV:∀u∈us,W.den ae (oe m' bl.length g) u=W.den ae m' u:=λu hu=>W.oz (fv u hu) (agree.refl _ _) (λb hb=>pk hb);have hrel:fN ae (oe m' bl.length g) (ny (.ptr bl.length 0)::(us.map V.w++p.tail.map λr=>ny r.A)) (.pointer (some ⟨g,0,none⟩)::(vs++p.tail.map iJ.val)):=by
   refine⟨by simp[ny,V.rel,W.den,A.den,pT],akG (Z7 ?_) ?_⟩
   ·rw[j5 aFV];simpa using fa
   ·have:=Z9 (ρ:=ae) (m:=oe m' bl.length g) (p.tail.map iJ.A);rw[lz,lz]at this;have e:(A.den ae (oe m' bl.length g)∘iJ.A)=iJ.val:=funext λr=>r.ajr _ _;rw[e]at this;exact this
  refine((nV _ _ _ _ p.c.f n' _ _ _ _ ae (oe m' bl.length g) w _ _ H3 ma s4 hrel hB ?_).2);intro fF v bF fm cd eJ w' val h1 h2 h3 h4 h5 h6 h7;simp only at h7;split at h7
  rotate_left
  ·exact h7.elim
  rename_i cs t qM;cases kD:cy cs with
  |false=>rw[kD]at h7;exact h7.elim
  |true=>
  rw[kD]at h7;simp only[cond_true]at h7;have ON:bl.length<(bl++[(p.cells.map iJ.A,(p.ty,false))]).length:=by simp
  have s5:eJ bl.length=g:=by rw[h1.hm _ ON,pT]
  obtain⟨agn,aFe⟩:∃o,w'.heap[g]?=some o:=by
   obtain⟨_,_,r,_,ch⟩:=h6.gP bl.length cs t qM kD;rw[s5]at ch;exact⟨_,ch⟩
  have nR:=h6.aAV (r':=w.putObj g agn) qM kD s5 (B3 _ _ _) (λk ag=>A0 ag) (by rw[EO Uv,aFe]);have fW:dr fF (eP bF bl.length gW).length cd (eP bF bl.length gW):=by
   rw[lL];exact h5.dead _
  obtain⟨jb,sJ,os,Du,w9,⟨xs,s9,lI⟩,hl⟩:=ahd (S:=S) (w0:=⟨wb,w.putObj g agn,λ_=>False,F,[]⟩) (λg hg=>hg) fW nR (by rw[lL];exact h3) h4 fm _ h7;have hl:zb _ (F5 os) jb:=hl;rw[aae]at hl;refine⟨⟨h6.kE,h6.mE,h6.lq,h6.ia,λi hi Lc=>h6.kp i hi Lc⟩,os.map (O.den jb),xs,hl.1,hl.2,?_,by rw[s9]⟩;have hsz:(w.putObj g agn).heap.size=w.heap.size:=ajo;exact eG.QJ.Kb (λg hg=>by
   rcases hg with hg|hg|hg
   ·exact hg.elim
   ·exact .inl hg
   ·exact .inr (hsz▸hg)) (λg hg=>hsz▸hg) lI
section
variable {wb:aC} {sh:Nat->List Nat×List Nat} {SB:Nat->List (List Int)->List (List Int)->Prop}
theorem atf {p:p5} {inl:my} {lsh:Nat->List Nat} {lens:List Nat}
 (nV:∀(L:V->Env->Prop) (r:aC) (ex ro:Nat->Prop),rn (du sh SB) L ⟨wb,r,ex,ro,[]⟩ P inl) (hf:BG P p.c.f=true) (hl:lens=(sh p.c.id).1) (hd:D1 p.c.res=(sh p.c.id).2)
 (hv:iL sh lsh SB (ej SB p.c.res p.c.id) lens (c7 p.c.args) p.c.res (p.tree inl)):p.bH P wb (du sh SB p.c.id):=by
 refine p5.aJc nV (enters hf) (tO λzs hz=>?_);have h:=m6 (aaw hv) hz;simp only[ej,uK]at h;rw[hl,hd]at h;exact h
end
end Go.bX
namespace Go.bX
abbrev qm (p:Int->Prop):Prop:=∀z:Int,0<=z->z<=0x7fffffffffffffff->p z
abbrev ee (k:Nat) (l:List Int) (p:Int->Prop):Prop:=∀z:Int,0<=z->z<=0x7fffffffffffffff->z=cu k l->p z
abbrev dV (p:Int->Prop):Prop:=∀z:Int,0<=z->z<=cP->p z
abbrev ck (k:Nat) (l:List Int) (p:Int->Prop):Prop:=∀z:Int,0<=z->z<=cP->z=cu k l->p z
abbrev ag1 (p:Int->Prop):Prop:=∀z:Int,0<=z->z<=p3->p z
abbrev ax (p:Int->Prop):Prop:=∀z:Int,0<=z->z<=255->p z
abbrev iE (k:Nat) (l:List Int) (p:Int->Prop):Prop:=∀z:Int,0<=z->z<=255->z=cu k l->p z
abbrev dI (p:Int->Prop):Prop:=∀z:Int,0<=z->z<=1->p z
abbrev aI (p:Int->Prop):Prop:=∀z:Int,0<=z->z<=0xffffffffffffffff->p z
abbrev ql (k:Nat) (l:List Int) (p:Int->Prop):Prop:=∀z:Int,0<=z->z<=0xffffffffffffffff->z=cu k l->p z
abbrev vJ (p:Int->Prop):Prop:=∀z:Int,0<=z->z<=4294967295->p z
abbrev L8 (k:Nat) (l:List Int) (p:Int->Prop):Prop:=∀z:Int,0<=z->z<=4294967295->z=cu k l->p z
abbrev cz (p:Int->Prop):Prop:=∀z:Int,(-1)<=z->z<=0x7fffffffffffffff->p z
abbrev B8 (k:Nat) (l:List Int) (p:Int->Prop):Prop:=∀z:Int,0<=z->z<=0x8000000000000000->z=cu k l->p z
abbrev bY (p:Int->Prop):Prop:=∀z:Int,0<=z->p z
abbrev dy (a b:Int) (p:Int->Prop):Prop:=∀z:Int,a<=z->z<=b->p z
abbrev QR (a b:Int) (k:Nat) (l:List Int) (p:Int->Prop):Prop:=∀z:Int,a<=z->z<=b->z=cu k l->p z
abbrev bg (x m:Int) (p:Int->Prop):Prop:=∀z:Int,0<=z->z<=1->0<=x-m*z->x-m*z<m->p z
abbrev aq (a b x m:Int) (p:Int->Prop):Prop:=∀z:Int,a<=z->z<=b->0<=x-m*z->x-m*z<m->p z
abbrev eb (b:Bool) (p q:Prop):Prop:=(b=true->p)/\(b=false->q)
end Go.bX
namespace Go.bX
abbrev en:Int:=0x10000000000000000
abbrev a7:Int:=-0x10000000000000000
abbrev oF:Int:=0x7fffffffffffffff
abbrev BX:Int:=0x8000000000000001
abbrev LN:Int:=0xffffffffffffffff
end Go.bX
namespace Go.bX
abbrev aa:Int:=0x7fffffffffffffffffffffffffffffffffffffffffffffffffffffffffffffed
abbrev dT:Int:=0x10000000000000000000000000000000000000000000000000000000000000000
abbrev bt:Int:=0x10000000000000000
abbrev L0:Int:=0xffffffffffffffff
abbrev dH:Int:=0x8000000000000
end Go.bX
namespace Go.bX
abbrev eo (b x:Int) (p:Int->Prop):Prop:=∀z:Int,0<=z->z<=b->z=x->p z
abbrev dx (n:Nat) (S:Nat->List (List Int)->List (List Int)->Prop) (i:Nat) (a:List (List Int)) (p:List Int->Prop):Prop:=∀r:List Int,ay (aT 0 0xfffffffffffff n) r->S i a [r]->p r
abbrev bS (n:Nat) (p:List Int->Prop):Prop:=∀r:List Int,ay (aT 0 0xfffffffffffff n) r->p r
abbrev fb (n:Nat) (S:Nat->List (List Int)->List (List Int)->Prop) (i:Nat) (a:List (List Int)) (p:List Int->Prop):Prop:=∀r:List Int,ay (aT 0 0xffffffffffffffff n) r->S i a [r]->p r
abbrev dn (n:Nat) (p:List Int->Prop):Prop:=∀r:List Int,ay (aT 0 0xffffffffffffffff n) r->p r
abbrev oI (n:Nat) (S:Nat->List (List Int)->List (List Int)->Prop) (i:Nat) (a:List (List Int)) (p:List Int->Prop):Prop:=∀r:List Int,ay (aT 0 255 n) r->S i a [r]->p r
abbrev oc (n:Nat) (p:List Int->Prop):Prop:=∀r:List Int,ay (aT 0 255 n) r->p r
structure nK (p:Prop):Prop where
 h:p
theorem Iu {a b:Prop} (ha:a) (hb:b):nK (a/\b):=⟨ha,hb⟩
theorem s8 {a b c:Prop} (ha:a) (hb:b) (hc:c):nK (a/\b/\c):=⟨ha,hb,hc⟩
theorem gB {a b c d:Prop} (ha:a) (hb:b) (hc:c) (hd:d):nK (a/\b/\c/\d):=⟨ha,hb,hc,hd⟩
abbrev iU:Int:=16777216
abbrev iV:Int:=4294967296
abbrev iW:Int:=1099511627776
abbrev iX:Int:=281474976710656
abbrev jM:Int:=72057594037927936
abbrev ab:Int:=-0x10000000000000000
abbrev bk:Int:=0x10000000000000000
abbrev rM:Int:=0xffffffffffffff
abbrev rN:Int:=0xffffffffffff
abbrev ku:Int:=0xffffffffff
abbrev rK:Int:=4294967295
abbrev rL:Int:=16777215
abbrev kt:Int:=0xfffffffffffffffe0000000000000001
abbrev jo:Int:=0xfffffffffffffffe
abbrev nq:Int:=-0x5812631a5cf5d3ed0000000000000000
abbrev nZ:Int:=-0x14def9dea2f79cd60000000000000000
abbrev U0:Int:=-0x1000000000000000
abbrev xi:Int:=0x1000000000000000
abbrev PG:Int:=0x5812631a5cf5d3ec
abbrev nr:Int:=0x5812631a5cf5d3ed0
abbrev jq:Int:=0x5812631a5cf5d3ed
abbrev PH:Int:=0x14def9dea2f79cd5
abbrev n0:Int:=0x14def9dea2f79cd60
abbrev j0:Int:=0x14def9dea2f79cd6
abbrev eM:Int:=-0x8000000000000
abbrev xj:Int:=0x7fffffffffffffff
abbrev fD:Int:=0x8000000000000
abbrev Lq:Int:=2097152
abbrev Lr:Int:=536870912
abbrev Ls:Int:=137438953472
abbrev Lt:Int:=35184372088832
abbrev U1:Int:=9007199254740992
abbrev U2:Int:=0x2000000000000000
abbrev U3:Int:=0x200000000000000000
abbrev aeK:Int:=67108863
abbrev aqS:Int:=274877906944
abbrev Lu:Int:=67108864
abbrev Lv:Int:=17179869184
abbrev Lw:Int:=4398046511104
abbrev Lx:Int:=0x4000000000000
abbrev U4:Int:=0x400000000000000
abbrev U5:Int:=0x40000000000000000
abbrev U6:Int:=0x4000000000000000000
abbrev U7:Int:=0x400000000000000000000
abbrev Ly:Int:=549755813887
abbrev aqT:Int:=33554432
abbrev Lz:Int:=549755813888
abbrev LA:Int:=0x800000000000
abbrev U8:Int:=0x80000000000000
abbrev U9:Int:=0x8000000000000000
abbrev Va:Int:=0x800000000000000000
abbrev Vb:Int:=0x80000000000000000000
abbrev Vc:Int:=0x8000000000000000000000
abbrev Vd:Int:=0x800000000000000000000000
abbrev aqU:Int:=0xfffffffffffff
abbrev aeL:Int:=-0x40000000000000
abbrev aeM:Int:=-0x200000000000000
abbrev aeN:Int:=-4503599627370496
abbrev aeO:Int:=-0x80000000000000
abbrev aeP:Int:=8796093022207
abbrev aeQ:Int:=34359738367
abbrev aeR:Int:=134217727
abbrev aeS:Int:=70368744177663
abbrev aeT:Int:=274877906943
abbrev aeU:Int:=1073741823
abbrev aeV:Int:=4194303
abbrev aeW:Int:=562949953421311
abbrev aeX:Int:=2199023255551
abbrev aeY:Int:=8589934591
abbrev aeZ:Int:=33554431
abbrev ae0:Int:=0xfffffffffff
abbrev ae1:Int:=68719476735
abbrev ae2:Int:=268435455
abbrev aqV:Int:=8388608
abbrev ae3:Int:=1048575
abbrev aqW:Int:=2147483648
abbrev ae4:Int:=0x7fffffffffff
abbrev ae5:Int:=2147483647
abbrev aqX:Int:=1048576
abbrev ae6:Int:=8388607
abbrev aqY:Int:=268435456
abbrev aqZ:Int:=68719476736
abbrev aq0:Int:=17592186044416
abbrev aq1:Int:=9007199254740916
abbrev PI:Int:=9007199254740988
abbrev tf:Int:=0xffffffffffffe0000000000001
abbrev z6:Int:=0x12fffffffffffda0000000000013
abbrev z7:Int:=20890720927743
abbrev sE:Int:=0xffffffffffffffff
abbrev aq2:Int:=0xffffffffffffffeb
abbrev Vf:Int:=0xfffffffffffffff
abbrev ae7:Int:=0x61b274a0ea0b0
abbrev ae8:Int:=0xd5a5fc8f189d
abbrev ae9:Int:=0x7ef5e9cbd0c60
abbrev afa:Int:=0x78595a6804c9e
abbrev afb:Int:=765476049583133
abbrev PJ:Int:=929955233495203
abbrev PK:Int:=466365720129213
abbrev PL:Int:=0x5e7a26001c029
abbrev PM:Int:=0x739c663a03cbb
abbrev PF:Int:=0x52036cee2b6ff
abbrev aqA:Int:=0x62d608f25d51a
abbrev aqB:Int:=0x412a4b4f6592a
abbrev aqC:Int:=0x75b7171a4b31d
abbrev aqD:Int:=562264141797630
abbrev aqE:Int:=587772402128613
abbrev aqF:Int:=0x6666666666658
abbrev aqG:Int:=0x4cccccccccccc
abbrev aqH:Int:=450359962737049
abbrev aqI:Int:=900719925474099
abbrev aqJ:Int:=0x6666666666666
abbrev aqK:Int:=0xfffffffffffffffb
abbrev aqL:Int:=0x1fffffffffffffff
abbrev aqM:Int:=0xc9562d608f25d51a
abbrev aqN:Int:=0x692cc7609525a7b2
abbrev aqO:Int:=0xc0a4e231fdd6dc5c
abbrev aqP:Int:=0x216936d3cd6e53fe
abbrev aqQ:Int:=0x6666666666666658
abbrev UZ:Int:=0x6666666666666666
theorem bV {l u x m:Int} {p:Int->Prop} (h:∀z,nK (l<=z/\z<=u/\0<=x-m*z/\x-m*z<m)->p z):aq l u x m p:=λz a b c d=>h z ⟨a,b,c,d⟩
theorem kf {x m:Int} {p:Int->Prop} (h:∀z,nK (0<=z/\z<=1/\0<=x-m*z/\x-m*z<m)->p z):bg x m p:=λz a b c d=>h z ⟨a,b,c,d⟩
theorem pe {b x:Int} {p:Int->Prop} (h:∀z,nK (0<=z/\z<=b/\z=x)->p z):eo b x p:=λz a c d=>h z ⟨a,c,d⟩
theorem a2 {p q r:Prop} (h:p/\q) (k:r):p/\q/\r:=⟨h.1,h.2,k⟩
end Go.bX
namespace Go.Nl
def e1 (n:Nat):Prop:=1<n/\∀a,a% n≠0->∃b,a*b% n=1
def CT (n g:Nat):Prop:=1<n/\g^(n-1)% n=1/\∀a,a% n≠0->∃k,g^k% n=a% n
def pm:Nat->Nat->Nat->Nat->Nat
 |0,_,_,n=>1% n
 |f+1,b,e,n=>bif e% 2==1 then pm f (b*b% n) (e/2) n*b% n else pm f (b*b% n) (e/2) n
theorem Wt:∀(f b e n:Nat),e<2^f->pm f b e n=b^e% n
 |0,b,e,n,h=>by
  have:e=0:=by simpa using h
  subst this;rfl
 |f+1,b,e,n,h=>by
  have ih:=Wt f (b*b% n) (e/2) n (by rw[y1]at h;omega);have av:(b*b% n)^(e/2)% n=b^(2*(e/2))% n:=by
   rw[<-Nat.pow_mod,Nat.pow_mul,Nat.pow_two]
  rw[av]at ih;unfold pm;rw[ih];cases ah:(e% 2==1)with
  |true=>
   have h1:e% 2=1:=by simpa using ah
   simp only[cond_true]
   conv=>rhs;rw[show e=2*(e/2)+1 by omega,y1]
   rw[MT,Nat.mod_mod,<-MT]
  |false=>
   have h1:¬e% 2=1:=by simpa using ah
   simp only[cond_false]
   conv=>rhs;rw[show e=2*(e/2) by omega]
theorem asR:∀(N:Nat) (f:Nat->Nat),(∀i,i<N->f i<N)->(∀i,i<N->∀j,j<N->f i=f j->i=j)->∀y,y<N->∃i,i<N/\f i=y
 |0,_,_,_,y,h=>by omega
 |N+1,f,hr,hi,y,hy=>by
  have hv:∀i,i<N->f i≠f N:=λi h e=>by have:=hi i (by omega) N (by omega) e;omega
  have key:=asR N (λi=>if f i=N then f N else f i) (λi h=>by
   have h1:=hr i (by omega);have h2:=hr N (by omega);have h3:=hv i h;show(if f i=N then f N else f i)<N;split<;>omega) (λi h j aP e=>by
   have h3:=hv i h;have h4:=hv j aP;apply hi i (by omega) j (by omega);split at e<;>split at e<;>omega)
  by_cases aYp:y=N
  ·by_cases cF:f N=N
   ·exact⟨N,by omega,by omega⟩
   ·obtain⟨i,h1,h2⟩:=key (f N) (by have:=hr N (by omega);omega);split at h2
    ·rename_i h3;exact⟨i,by omega,by omega⟩
    ·exact absurd h2 (hv i h1)
  ·obtain⟨i,h1,h2⟩:=key y (by omega);split at h2
   ·exact⟨N,by omega,h2⟩
   ·exact⟨i,by omega,h2⟩
theorem least {p:Nat->Prop}:∀n,p n->∃m,m<=n/\p m/\∀k,k<m->¬p k:=by
 intro n;induction n using Nat.strongRecOn with
 |_ n ih=>
  intro hn;by_cases h:∃k,k<n/\p k
  ·obtain⟨k,ag,hp⟩:=h;obtain⟨m,h1,h2,h3⟩:=ih k ag hp;exact⟨m,by omega,h2,h3⟩
  ·exact⟨n,b1 _,hn,λk ag hp=>h ⟨k,ag,hp⟩⟩
theorem agM {n g d:Nat} (hn:1<n) (h:g^d% n=1) (k:Nat):g^(d*k)% n=1:=by
 rw[Nat.pow_mul,Nat.pow_mod,h,Nat.one_pow,MS hn]
theorem aAA {q m:Nat} (an:e1 q) (hm:¬q∣m):Nat.Coprime m q:=by
 obtain⟨b,hb⟩:=an.2 m (λh=>hm (aWb h));have h1:Nat.gcd m q∣m*b:=Nat.dvd_trans (Nat.gcd_dvd_left m q) (Nat.dvd_mul_right m b);have h2:Nat.gcd m q∣m*b% q:=(Nat.dvd_mod_iff (Nat.gcd_dvd_right m q)).2 h1;rw[hb]at h2;exact Nat.dvd_one.1 h2
def Wv:List Nat->Nat
 |[]=>1
 |q::r=>q*Wv r
theorem am2 {m:Nat}:∀(fs:List Nat),(∀q∈fs,e1 q)->(∀q∈fs,¬q∣m)->Nat.Coprime m (Wv fs)
 |[],_,_=>Nat.coprime_one_right m
 |q::r,h1,h2=>aYY (aAA (h1 q (by simp)) (h2 q (by simp))) (am2 r (λx hx=>h1 x (e5 _ hx)) (λx hx=>h2 x (e5 _ hx)))
theorem aCu {n g:Nat} {fs:List Nat} (hn:2<n) (hp:Wv fs=n-1) (hf:∀q∈fs,e1 q) (h1:g^(n-1)% n=1) (h2:∀q∈fs,g^((n-1)/q)% n≠1):CT n g:=by
 have h9:1<n:=by omega
 obtain⟨d,FB,⟨ub,OS⟩,OT⟩:=least (p:=λd=>0<d/\g^d% n=1) (n-1) ⟨by omega,h1⟩;have aEx:d∣n-1:=by
  have hr:g^((n-1)% d)% n=1:=by
   have e:g^(n-1)% n=g^((n-1)% d)% n:=by
    conv=>lhs;rw[<-X9 (n-1) d,xS,MT,agM h9 OS]
    rw[Nat.one_mul,Nat.mod_mod]
   rw[<-e];exact h1
  by_cases h0:(n-1)% d=0
  ·exact aWb h0
  ·exact absurd ⟨by omega,hr⟩ (OT ((n-1)% d) (MU _ ub))
 obtain⟨m,hm⟩:=aEx;have hd:d=n-1:=by
  by_cases UD:m=1
  ·rw[hm,UD,CH]
  ·exfalso;have hex:∃q,q∈fs/\q∣m:=by
    apply ai2;intro mD;have hc:=am2 fs hf (λq an aea=>mD ⟨q,an,aea⟩);rw[hp]at hc;have:m∣n-1:=⟨d,by rw[hm,xT]⟩;exact UD (aYZ hc this)
   obtain⟨q,an,x,hx⟩:=hex;have zU:=(hf q an).1;apply h2 q an;have e:(n-1)/q=d*x:=by
    rw[hm,hx,show d*(q*x)=(d*x)*q by rw[xT q x,Yb]];exact Nat.mul_div_cancel _ (by omega)
   rw[e];exact agM h9 OS x
 subst hd;refine⟨h9,h1,λa ha=>?_⟩;have Ih:∀i,i<=n-1->g^i% n≠0:=λi hi h0=>by
  have:g^(n-1)% n=0:=by
   rw[show n-1=i+(n-1-i) by omega,xS,MT,h0,Nat.zero_mul,Nat.zero_mod]
  omega
 have BM:∀i j,i<j->j<n-1->g^i% n≠g^j% n:=λi j Ld aR he=>by
  have:g^(j-i)% n=1:=by
   have av:g^(j+(n-1-i))% n=g^(i+(n-1-i))% n:=by
    rw[xS,xS,MT,<-he,<-MT]
   rw[show i+(n-1-i)=n-1 by omega,h1,show j+(n-1-i)=(j-i)+(n-1) by omega,xS,MT,h1,CH,Nat.mod_mod]at av;exact av
  exact OT (j-i) (by omega) ⟨by omega,this⟩
 obtain⟨i,hi,he⟩:=asR (n-1) (λi=>g^i% n-1) (λi hi=>by
  have:=MU (g^i) (show n>0 by omega);have:=Ih i (by omega);show g^i% n-1<n-1;omega) (λi hi j aR e=>by
  have h3:=Ih i (by omega);have h4:=Ih j (by omega);have c8:g^i% n=g^j% n:=by omega
  rcases Nat.lt_trichotomy i j with h|h|h
  ·exact absurd c8 (BM i j h aR)
  ·exact h
  ·exact absurd c8.symm (BM j i h hi)) (a% n-1) (by have:=MU a (show n>0 by omega);omega)
 refine⟨i,?_⟩;have:=Ih i (by omega);omega
theorem CT.Fj {n g a:Nat} (h:CT n g) (ha:a% n≠0):a^(n-1)% n=1:=by
 obtain⟨k,ag⟩:=h.2.2 a ha;rw[Nat.pow_mod,<-ag,<-Nat.pow_mod,<-Nat.pow_mul,xT];exact agM h.1 h.2.1 k
theorem CT.aBz {n g:Nat} (hn:2<n) (h:CT n g):e1 n:=
 ⟨h.1,λa ha=>⟨a^(n-2),by
  have:=h.Fj ha;rw[show n-1=(n-2)+1 by omega,y1,xT]at this;exact this⟩⟩
theorem c9:e1 2:=⟨by decide,λa h=>⟨1,by omega⟩⟩
theorem jl:e1 3:=⟨by decide,λa h=>⟨a% 3,by
 have:a% 3=1∨a% 3=2:=by omega
 rcases this with h|h<;>rw[h]<;>omega⟩⟩
def okB (n g:Nat) (fs:List Nat):Bool:=decide (2<n)&&decide (n-1<2^256)&&decide (Wv fs=n-1)&&decide (pm 256 g (n-1) n=1)&&fs.all λq=>decide (1<q)&&decide (pm 256 g ((n-1)/q) n≠1)
theorem aow {n g:Nat} {fs:List Nat} (h:okB n g fs=true) (hf:∀q∈fs,e1 q):CT n g:=by
 simp only[okB,bI,decide_eq_true_eq,MV]at h;obtain⟨⟨⟨⟨h1,h2⟩,h3⟩,h4⟩,h5⟩:=h;refine aCu h1 h3 hf ?_ λq an=>?_
 ·rw[<-Wt 256 g (n-1) n h2];exact h4
 ·have:=(h5 q an).2
  rwa [Wt 256 g ((n-1)/q) n (Nat.lt_of_le_of_lt (aWd _ _) h2)]at this
theorem gw {n g:Nat} {fs:List Nat} (h:okB n g fs=true) (hf:∀q∈fs,e1 q):e1 n:=by
 have h1:2<n:=by
  simp only[okB,bI,decide_eq_true_eq]at h;exact h.1.1.1.1
 exact(aow h hf).aBz h1
theorem all_nil:∀q∈([]:List Nat),e1 q:=λ_ h=>by cases h
theorem all_cons {x:Nat} {l:List Nat} (h:e1 x) (aP:∀q∈l,e1 q):∀q∈x::l,e1 q:=λq an=>by
 rcases List.mem_cons.1 an with rfl|an
 ·exact h
 ·exact aP q an
theorem BD:e1 5:=gw (g:=2) (fs:=[2,2]) (by decide+kernel) (all_cons c9 (all_cons c9 all_nil))
theorem BE:e1 7:=gw (g:=3) (fs:=[2,3]) (by decide+kernel) (all_cons c9 (all_cons jl all_nil))
theorem T8:e1 11:=gw (g:=2) (fs:=[2,5]) (by decide+kernel) (all_cons c9 (all_cons BD all_nil))
theorem acG:e1 13:=gw (g:=2) (fs:=[2,2,3]) (by decide+kernel) (all_cons c9 (all_cons c9 (all_cons jl all_nil)))
theorem acH:e1 17:=gw (g:=3) (fs:=[2,2,2,2]) (by decide+kernel) (all_cons c9 (all_cons c9 (all_cons c9 (all_cons c9 all_nil))))
theorem acI:e1 19:=gw (g:=2) (fs:=[2,3,3]) (by decide+kernel) (all_cons c9 (all_cons jl (all_cons jl all_nil)))
theorem aof:e1 23:=gw (g:=5) (fs:=[2,11]) (by decide+kernel) (all_cons c9 (all_cons T8 all_nil))
theorem aog:e1 29:=gw (g:=2) (fs:=[2,2,7]) (by decide+kernel) (all_cons c9 (all_cons c9 (all_cons BE all_nil)))
theorem aBN:e1 31:=gw (g:=3) (fs:=[2,3,5]) (by decide+kernel) (all_cons c9 (all_cons jl (all_cons BD all_nil)))
theorem aBR:e1 37:=gw (g:=2) (fs:=[2,2,3,3]) (by decide+kernel) (all_cons c9 (all_cons c9 (all_cons jl (all_cons jl all_nil))))
theorem aoh:e1 41:=gw (g:=6) (fs:=[2,2,2,5]) (by decide+kernel) (all_cons c9 (all_cons c9 (all_cons c9 (all_cons BD all_nil))))
theorem aoi:e1 43:=gw (g:=3) (fs:=[2,3,7]) (by decide+kernel) (all_cons c9 (all_cons jl (all_cons BE all_nil)))
theorem aoj:e1 47:=gw (g:=5) (fs:=[2,23]) (by decide+kernel) (all_cons c9 (all_cons aof all_nil))
theorem aBZ:e1 53:=gw (g:=2) (fs:=[2,2,13]) (by decide+kernel) (all_cons c9 (all_cons c9 (all_cons acG all_nil)))
theorem aB2:e1 59:=gw (g:=2) (fs:=[2,29]) (by decide+kernel) (all_cons c9 (all_cons aog all_nil))
theorem aB8:e1 83:=gw (g:=2) (fs:=[2,41]) (by decide+kernel) (all_cons c9 (all_cons aoh all_nil))
theorem aCb:e1 97:=gw (g:=5) (fs:=[2,2,2,2,2,3]) (by decide+kernel) (all_cons c9 (all_cons c9 (all_cons c9 (all_cons c9 (all_cons c9 (all_cons jl all_nil))))))
theorem aBA:e1 103:=gw (g:=5) (fs:=[2,3,17]) (by decide+kernel) (all_cons c9 (all_cons jl (all_cons acH all_nil)))
theorem aBB:e1 107:=gw (g:=2) (fs:=[2,53]) (by decide+kernel) (all_cons c9 (all_cons aBZ all_nil))
theorem aBC:e1 127:=gw (g:=3) (fs:=[2,3,3,7]) (by decide+kernel) (all_cons c9 (all_cons jl (all_cons jl (all_cons BE all_nil))))
theorem aBD:e1 131:=gw (g:=2) (fs:=[2,5,13]) (by decide+kernel) (all_cons c9 (all_cons BD (all_cons acG all_nil)))
theorem aBG:e1 173:=gw (g:=2) (fs:=[2,2,43]) (by decide+kernel) (all_cons c9 (all_cons c9 (all_cons aoi all_nil)))
theorem aBJ:e1 223:=gw (g:=3) (fs:=[2,3,37]) (by decide+kernel) (all_cons c9 (all_cons jl (all_cons aBR all_nil)))
theorem aBK:e1 239:=gw (g:=7) (fs:=[2,7,17]) (by decide+kernel) (all_cons c9 (all_cons BE (all_cons acH all_nil)))
theorem aBQ:e1 353:=gw (g:=3) (fs:=[2,2,2,2,2,11]) (by decide+kernel) (all_cons c9 (all_cons c9 (all_cons c9 (all_cons c9 (all_cons c9 (all_cons T8 all_nil))))))
theorem aBV:e1 419:=gw (g:=2) (fs:=[2,11,19]) (by decide+kernel) (all_cons c9 (all_cons T8 (all_cons acI all_nil)))
theorem aBX:e1 479:=gw (g:=13) (fs:=[2,239]) (by decide+kernel) (all_cons c9 (all_cons aBK all_nil))
theorem aBY:e1 487:=gw (g:=3) (fs:=[2,3,3,3,3,3]) (by decide+kernel) (all_cons c9 (all_cons jl (all_cons jl (all_cons jl (all_cons jl (all_cons jl all_nil))))))
theorem aCc:e1 991:=gw (g:=6) (fs:=[2,3,3,5,11]) (by decide+kernel) (all_cons c9 (all_cons jl (all_cons jl (all_cons BD (all_cons T8 all_nil)))))
theorem aBF:e1 1723:=gw (g:=3) (fs:=[2,3,7,41]) (by decide+kernel) (all_cons c9 (all_cons jl (all_cons BE (all_cons aoh all_nil))))
theorem aBL:e1 2437:=gw (g:=2) (fs:=[2,2,3,7,29]) (by decide+kernel) (all_cons c9 (all_cons c9 (all_cons jl (all_cons BE (all_cons aog all_nil)))))
theorem aBS:e1 3727:=gw (g:=3) (fs:=[2,3,3,3,3,23]) (by decide+kernel) (all_cons c9 (all_cons jl (all_cons jl (all_cons jl (all_cons jl (all_cons aof all_nil))))))
theorem aBU:e1 4153:=gw (g:=5) (fs:=[2,2,2,3,173]) (by decide+kernel) (all_cons c9 (all_cons c9 (all_cons c9 (all_cons jl (all_cons aBG all_nil)))))
theorem aCa:e1 9463:=gw (g:=3) (fs:=[2,3,19,83]) (by decide+kernel) (all_cons c9 (all_cons jl (all_cons acI (all_cons aB8 all_nil))))
theorem aBP:e1 32573:=gw (g:=2) (fs:=[2,2,17,479]) (by decide+kernel) (all_cons c9 (all_cons c9 (all_cons acH (all_cons aBX all_nil))))
theorem aBT:e1 37853:=gw (g:=2) (fs:=[2,2,9463]) (by decide+kernel) (all_cons c9 (all_cons c9 (all_cons aCa all_nil)))
theorem aB1:e1 57467:=gw (g:=2) (fs:=[2,59,487]) (by decide+kernel) (all_cons c9 (all_cons aB2 (all_cons aBY all_nil)))
theorem aB3:e1 65147:=gw (g:=2) (fs:=[2,32573]) (by decide+kernel) (all_cons c9 (all_cons aBP all_nil))
theorem aB7:e1 75707:=gw (g:=2) (fs:=[2,37853]) (by decide+kernel) (all_cons c9 (all_cons aBT all_nil))
theorem aBE:e1 132049:=gw (g:=26) (fs:=[2,2,2,2,3,3,7,131]) (by decide+kernel) (all_cons c9 (all_cons c9 (all_cons c9 (all_cons c9 (all_cons jl (all_cons jl (all_cons BE (all_cons aBD all_nil))))))))
theorem aBW:e1 430751:=gw (g:=17) (fs:=[2,5,5,5,1723]) (by decide+kernel) (all_cons c9 (all_cons BD (all_cons BD (all_cons BD (all_cons aBF all_nil)))))
theorem aB0:e1 569003:=gw (g:=2) (fs:=[2,7,97,419]) (by decide+kernel) (all_cons c9 (all_cons BE (all_cons aCb (all_cons aBV all_nil))))
theorem aBI:e1 1923133:=gw (g:=2) (fs:=[2,2,3,43,3727]) (by decide+kernel) (all_cons c9 (all_cons c9 (all_cons jl (all_cons aoi (all_cons aBS all_nil)))))
theorem aB9:e1 8574133:=gw (g:=2) (fs:=[2,2,3,7,103,991]) (by decide+kernel) (all_cons c9 (all_cons c9 (all_cons jl (all_cons BE (all_cons aBA (all_cons aCc all_nil))))))
theorem aBM:e1 2773320623:=gw (g:=5) (fs:=[2,2437,569003]) (by decide+kernel) (all_cons c9 (all_cons aBL (all_cons aB0 all_nil)))
theorem aB4:e1 72106336199:=gw (g:=7) (fs:=[2,13,2773320623]) (by decide+kernel) (all_cons c9 (all_cons acG (all_cons aBM all_nil)))
theorem aBH:e1 0x6d1cafa129d0b:=gw (g:=2) (fs:=[2,3,7,19,47,47,127,8574133]) (by decide+kernel) (all_cons c9 (all_cons jl (all_cons BE (all_cons acI (all_cons aoj (all_cons aoj (all_cons aBC (all_cons aB9 all_nil))))))))
theorem aBO:e1 0x70d382ab8b9939:=gw (g:=10) (fs:=[2,2,2,3,31,107,223,4153,430751]) (by decide+kernel) (all_cons c9 (all_cons c9 (all_cons c9 (all_cons jl (all_cons aBN (all_cons aBB (all_cons aBJ (all_cons aBU (all_cons aBW all_nil)))))))))
theorem aB6:e1 0xe87c2a477b815a1793787395b23e1:=gw (g:=7) (fs:=[2,2,2,2,2,3,3,5,5,75707,72106336199,0x6d1cafa129d0b]) (by decide+kernel) (all_cons c9 (all_cons c9 (all_cons c9 (all_cons c9 (all_cons c9 (all_cons jl (all_cons jl (all_cons BD (all_cons BD (all_cons aB7 (all_cons aB4 (all_cons aBH all_nil))))))))))))
theorem aB5:e1 0xabaf8c6b094fd0f32c2ccabab864dbecd99144679c1adf804898fb2042b:=gw (g:=2) (fs:=[2,3,353,57467,132049,1923133,0x70d382ab8b9939,0xe87c2a477b815a1793787395b23e1]) (by decide+kernel) (all_cons c9 (all_cons jl (all_cons aBQ (all_cons aB1 (all_cons aBE (all_cons aBI (all_cons aBO (all_cons aB6 all_nil))))))))
theorem aCt:CT 0x7fffffffffffffffffffffffffffffffffffffffffffffffffffffffffffffed 2:=aow (fs:=[2,2,3,65147,0xabaf8c6b094fd0f32c2ccabab864dbecd99144679c1adf804898fb2042b]) (by decide+kernel) (all_cons c9 (all_cons c9 (all_cons jl (all_cons aB3 (all_cons aB5 all_nil)))))
theorem aCs:CT 0x7fffffffffffffffffffffffffffffffffffffffffffffffffffffffffffffed 2:=aCt
end Go.Nl
namespace Go.dg
open Go Go.bX
def uF:List Int:=[0x428a2f98d728ae22,0x7137449123ef65cd,0xb5c0fbcfec4d3b2f,0xe9b5dba58189dbbc,0x3956c25bf348b538,0x59f111f1b605d019,0x923f82a4af194f9b,0xab1c5ed5da6d8118,0xd807aa98a3030242,0x12835b0145706fbe,0x243185be4ee4b28c,0x550c7dc3d5ffb4e2,0x72be5d74f27b896f,0x80deb1fe3b1696b1,0x9bdc06a725c71235,0xc19bf174cf692694,0xe49b69c19ef14ad2,0xefbe4786384f25e3,0xfc19dc68b8cd5b5,0x240ca1cc77ac9c65,0x2de92c6f592b0275,0x4a7484aa6ea6e483,0x5cb0a9dcbd41fbd4,0x76f988da831153b5,0x983e5152ee66dfab,0xa831c66d2db43210,0xb00327c898fb213f,0xbf597fc7beef0ee4,0xc6e00bf33da88fc2,0xd5a79147930aa725,0x6ca6351e003826f,0x142929670a0e6e70,0x27b70a8546d22ffc,0x2e1b21385c26c926,0x4d2c6dfc5ac42aed,0x53380d139d95b3df,0x650a73548baf63de,0x766a0abb3c77b2a8,0x81c2c92e47edaee6,0x92722c851482353b,0xa2bfe8a14cf10364,0xa81a664bbc423001,0xc24b8b70d0f89791,0xc76c51a30654be30,0xd192e819d6ef5218,0xd69906245565a910,0xf40e35855771202a,0x106aa07032bbd1b8,0x19a4c116b8d2d0c8,0x1e376c085141ab53,0x2748774cdf8eeb99,0x34b0bcb5e19b48a8,0x391c0cb3c5c95a63,0x4ed8aa4ae3418acb,0x5b9cca4f7763e373,0x682e6ff3d6b2b8a3,0x748f82ee5defb2fc,0x78a5636f43172f60,0x84c87814a1f0ab72,0x8cc702081a6439ec,0x90befffa23631e28,0xa4506cebde82bde9,0xbef9a3f7b2c67915,0xc67178f2e372532b,0xca273eceea26619c,0xd186b8c721c0c207,0xeada7dd6cde0eb1e,0xf57d4f7fee6ed178,0x6f067aa72176fba,0xa637dc5a2c898a6,0x113f9804bef90dae,0x1b710b35131c471b,0x28db77f523047d84,0x32caab7b40c72493,0x3c9ebe0a15c9bebc,0x431d67c49c100d4c,0x4cc5d4becb3e42b6,0x597f299cfc657e2a,0x5fcb6fab3ad6faec,0x6c44198c4a475817]
def Hv:List Int:=[0x6a09e667f3bcc908,0xbb67ae8584caa73b,0x3c6ef372fe94f82b,0xa54ff53a5f1d36f1,0x510e527fade682d1,0x9b05688c2b3e6c1f,0x1f83d9abfb41bd6b,0x5be0cd19137e2179]
structure jc where
 k:eB
 w:Nat
 s:Nat
 t:Nat
 a:List Nat
 b:List Nat
 c:List Nat
 d:List Nat
 n:Nat
def bN:jc:=⟨.u32,32,3,10,[2,13,22],[6,11,25],[7,18],[17,19],64⟩
def bP:jc:=⟨.u64,64,7,6,[28,34,39],[14,18,41],[1,8],[19,61],80⟩
def fc (w n:Nat) (x:Int):Int:=x/2^n+(x% 2^n)*2^(w-n)
def Ej (p:jc) (l:List Nat) (x:Int):Int:=l.foldl (λy n=>br .xor p.k y (fc p.w n x)) 0
def Qy (a b c:Nat) (s x:Int):Int:=br .xor .u64 (br .xor .u64 (br .xor .u64 0 (fc 64 a x)) (fc 64 b x)) (if s=1 then x/2^c else fc 64 c x)
def nD (n:Nat) (x:Int):Int:=br .or .u64 (x/2^n) (x*2^(32-n)% 0x10000000000000000)% 4294967296
def DX (a b c:Nat) (s x:Int):Int:=br .xor .u64 (br .xor .u64 (nD a x) (nD b x)) (if s=1 then x/2^c else nD c x)
def Qz (a b c:Nat) (s x:Int):Int:=br .xor .u32 (br .xor .u32 (br .xor .u32 0 (fc 32 a x)) (fc 32 b x)) (if s=1 then x/2^c else fc 32 c x)
def vk (p:jc) (x:Int):Int:=Ej p p.a x
def vl (p:jc) (x:Int):Int:=Ej p p.b x
def Cj (p:jc) (x:Int):Int:=br .xor p.k (Ej p p.c x) (x/2^p.s)
def Ck (p:jc) (x:Int):Int:=br .xor p.k (Ej p p.d x) (x/2^p.t)
def md (p:jc) (x:Int):Int:=x% 2^p.w
def wZ (p:jc) (e f g:Int):Int:=br .xor p.k (br .and p.k e f) (br .and p.k (2^p.w-1-e) g)
def Ah (p:jc) (a b c:Int):Int:=br .xor p.k (br .xor p.k (br .and p.k a b) (br .and p.k a c)) (br .and p.k b c)
def AE (p:jc) (i:Nat):Int:=uF.getD i 0/2^(64-p.w)
def tj (p:jc) (m:List Int):Int:=md p (m.getD (m.length-16) 0+Cj p (m.getD (m.length-15) 0)+m.getD (m.length-7) 0+Ck p (m.getD (m.length-2) 0))
def nd (p:jc):Nat->List Int->List Int
 |0,m=>m
 |j+1,m=>nd p j (m++[tj p m])
def sched (p:jc) (m:List Int):List Int:=nd p (p.n-16) m
def Cl (p:jc) (i:Nat) (x:Int):List Int->List Int
 |[a,b,c,d,e,f,g,h]=>
  let t:=md p (h+vl p e+wZ p e f g+AE p i+x);let u:=md p (vk p a+Ah p a b c)
  [md p (t+u),a,b,c,md p (d+t),e,f,g]
 |l=>l
def q7 (p:jc):Nat->List Int->List Int->List Int
 |_,[],v=>v
 |i,x::m,v=>q7 p (i+1) m (Cl p i x v)
def uM (p:jc) (h m:List Int):List Int:=tG (λa b=>md p (a+b)) h (q7 p 0 (sched p m) h)
def tx (p:jc) (b:List Int) (j:Nat):Int:=(dP (p.w/8)).foldl (λy q=>y*256+b.getD (j*(p.w/8)+q) 0) 0
def re (p:jc) (b:List Int):List Int:=(dP 16).map (tx p b)
def ru (p:jc) (b:List Int):Nat->List Int->List Int
 |0,h=>h
 |i+1,h=>uM p (ru p b i h) (re p ((b.drop (2*p.w*i)).take (2*p.w)))
def mB (p:jc):List Int:=Hv.map (·/2^(64-p.w))
def nN (p:jc) (x:Int) (q:Nat):Int:=x/2^(p.w-8-8*q)% 256
def oH (p:jc) (h:List Int):List Int:=h.flatMap λx=>(dP (p.w/8)).map (nN p x)
def pC (p:jc) (b:List Int):List Int:=oH p (ru p b (b.length/(2*p.w)) (mB p))
def lf (w n:Nat):Nat:=(n+1+w/4+(2*w-1))/(2*w)*(2*w)
def Br (n:Nat):List Int:=(dP 8).map λq=>((n/2^(56-8*q)% 256:Nat):Int)
def q4 (p:jc) (b:List Int):List Int:=b++[128]++dw (lf p.w b.length-b.length-9) 0++Br (8*b.length)
def jy (p:jc) (b:List Int):List Int:=pC p (q4 p b)
def aJ (z:Int):List Int:=(af z).map λr=>r.getD 0 0
def pM (n w:Int):Int:=if n<0∨1099511627776<n∨(w≠32/\w≠64)then 0 else lf w.toNat n.toNat
def digit (n:Int):UInt8:=([48,49,50,51,52,53,54,55,56,57,97,98,99,100,101,102]:List UInt8).getD n.toNat 0
def apx (b:List Int):List UInt8:=b.flatMap λx=>[digit (x/16),digit (x% 16)]
def axT:Nat->List (List Int)->List (List Int)->Prop
 |440,[[n],[w]],rs=>rs=[[pM n w]]
 |441,[[n],[w]],rs=>rs=[[pM n w]]
 |442,[[z]],[[r]]=>aJ r=q4 bN (aJ z)
 |443,[[z]],[[r]]=>aJ r=q4 bP (aJ z)
 |444,[[x]],rs=>rs=[[vk bN x]]
 |445,[[x]],rs=>rs=[[vl bN x]]
 |446,[[x]],rs=>rs=[[Cj bN x]]
 |447,[[x]],rs=>rs=[[Ck bN x]]
 |448,[[x]],rs=>rs=[[vk bP x]]
 |449,[[x]],rs=>rs=[[vl bP x]]
 |450,[[x]],rs=>rs=[[Cj bP x]]
 |451,[[x]],rs=>rs=[[Ck bP x]]
 |452,[[z]],rs=>rs=[jy bN (aJ z)]
 |453,[[z]],rs=>rs=[jy bP (aJ z)]
 |454,[[z]],[[s]]=>bD s=apx (aJ z)
 |455,[[z]],[[s]]=>bD s=apx (aJ z)
 |456,[],rs=>rs=[[1]]
 |457,[_,_],[[r]]=>r=1
 |458,[_,_,_],[[r]]=>r=1
 |459,[_,_,_],[[r]]=>r=1
 |460,[[z]],[[r]]=>af r=af z
 |461,[[z]],[[r]]=>af r=af z
 |462,[[z]],[[r]]=>af r=af z
 |463,[[z]],[[r]]=>af r=af z
 |468,[[a],[b],[c],[d]],[[r]]=>af r=af a++(af b++(af c++af d))
 |469,[[a],[b],[c]],[[r]]=>af r=af a++(af b++af c)
 |470,[[a],[b],[c],[d]],rs=>rs=[jy bN (aJ a++(aJ b++(aJ c++aJ d)))]
 |471,[[a],[b],[c]],rs=>rs=[jy bP (aJ a++(aJ b++aJ c))]
 |476,[[x]],rs=>rs=[[x]]
 |477,[[z]],[[r]]=>aJ r=jy bP (aJ z)
 |478,[[z]],rs=>rs=[jy bP (aJ z)]
 |479,[[x],_,[s]],rs=>rs=[[Qy 28 34 39 s x]]
 |480,[[x],_,[s]],rs=>rs=[[Qy 14 18 41 s x]]
 |481,[[x],_,[s]],rs=>rs=[[Qy 1 8 7 s x]]
 |482,[[x],_,[s]],rs=>rs=[[Qy 19 61 6 s x]]
 |483,[[x]],rs=>rs=[[x% 4294967296]]
 |484,[[x],_,[s]],[[r]]=>(0<=x->x<=4294967295->r=Qz 2 13 22 s x)/\r=DX 2 13 22 s x
 |485,[[x],_,[s]],[[r]]=>(0<=x->x<=4294967295->r=Qz 6 11 25 s x)/\r=DX 6 11 25 s x
 |486,[[x],_,[s]],[[r]]=>(0<=x->x<=4294967295->r=Qz 7 18 3 s x)/\r=DX 7 18 3 s x
 |487,[[x],_,[s]],[[r]]=>(0<=x->x<=4294967295->r=Qz 17 19 10 s x)/\r=DX 17 19 10 s x
 |488,[[z]],[[r]]=>aJ r=jy bN (aJ z)
 |489,[[z]],rs=>rs=[jy bN (aJ z)]
 |802,[[x],_],[[r]]=>(0<=x->x<=4294967295->r=fc 32 2 x)/\r=nD 2 x
 |803,[[x],_],[[r]]=>(0<=x->x<=4294967295->r=fc 32 3 x)/\r=nD 3 x
 |806,[[x],_],[[r]]=>(0<=x->x<=4294967295->r=fc 32 6 x)/\r=nD 6 x
 |807,[[x],_],[[r]]=>(0<=x->x<=4294967295->r=fc 32 7 x)/\r=nD 7 x
 |810,[[x],_],[[r]]=>(0<=x->x<=4294967295->r=fc 32 10 x)/\r=nD 10 x
 |811,[[x],_],[[r]]=>(0<=x->x<=4294967295->r=fc 32 11 x)/\r=nD 11 x
 |813,[[x],_],[[r]]=>(0<=x->x<=4294967295->r=fc 32 13 x)/\r=nD 13 x
 |817,[[x],_],[[r]]=>(0<=x->x<=4294967295->r=fc 32 17 x)/\r=nD 17 x
 |818,[[x],_],[[r]]=>(0<=x->x<=4294967295->r=fc 32 18 x)/\r=nD 18 x
 |819,[[x],_],[[r]]=>(0<=x->x<=4294967295->r=fc 32 19 x)/\r=nD 19 x
 |822,[[x],_],[[r]]=>(0<=x->x<=4294967295->r=fc 32 22 x)/\r=nD 22 x
 |825,[[x],_],[[r]]=>(0<=x->x<=4294967295->r=fc 32 25 x)/\r=nD 25 x
 |490,[[z]],[[r]]=>af r=af z
 |491,[[z]],[[r]]=>r=0->(af z).length<=5000
 |492,[[z]],[[r]]=>af r=af z
 |493,[[z]],rs=>rs=[jy bN (aJ z)]
 |494,[[z]],rs=>rs=[jy bP (aJ z)]
 |495,[_],[[r]]=>r=1
 |701,[[x],_],rs=>rs=[[fc 64 1 x]]
 |706,[[x],_],rs=>rs=[[fc 64 6 x]]
 |707,[[x],_],rs=>rs=[[fc 64 7 x]]
 |708,[[x],_],rs=>rs=[[fc 64 8 x]]
 |714,[[x],_],rs=>rs=[[fc 64 14 x]]
 |718,[[x],_],rs=>rs=[[fc 64 18 x]]
 |719,[[x],_],rs=>rs=[[fc 64 19 x]]
 |728,[[x],_],rs=>rs=[[fc 64 28 x]]
 |734,[[x],_],rs=>rs=[[fc 64 34 x]]
 |739,[[x],_],rs=>rs=[[fc 64 39 x]]
 |741,[[x],_],rs=>rs=[[fc 64 41 x]]
 |761,[[x],_],rs=>rs=[[fc 64 61 x]]
 |466,[[i]],rs=>rs=[[AE bN i.toNat]]
 |467,[[i]],rs=>rs=[[AE bP i.toNat]]
 |464,[[z]],[[r]]=>aJ r=pC bN (aJ z)
 |465,[[z]],[[r]]=>aJ r=pC bP (aJ z)
 |_,_,_=>False
end Go.dg
namespace Go.dg
open Go Go.bX
def abK (c b:Int):Nat->Nat->List Int->(List Int->Prop)->Prop
 |0,_,acc,k=>k acc
 |n+1,i,acc,k=>aj 21 [c,(b+(i:Int))]/\∀y:Int,0<=y->y<=255->y=cu 21 [c,(b+(i:Int)),0]->abK c b n (i+1) (acc++[y]) k
def abI (l:List Int):Nat->Nat->Int->(Int->Prop)->Prop
 |0,_,c,k=>k c
 |n+1,j,c,k=>∀y:Int,0<=y->y<=cP->y=cu 23 [c,((72057594037927936*U l (8*j) 0)+((281474976710656*U l (8*j+1) 0)+((1099511627776*U l (8*j+2) 0)+((4294967296*U l (8*j+3) 0)+((16777216*U l (8*j+4) 0)+((65536*U l (8*j+5) 0)+((256*U l (8*j+6) 0)+U l (8*j+7) 0)))))))]->abI l n (j+1) y k
def Gs (x c l k:Int) (Next:Int->Int->Int->Prop):Prop:=∃(c5:List (List Int)->Prop) (ey:List (List Int)->Nat),c5 [[7],[c],[l],[k]]/\(∀aS:Int,(-1)<=aS->aS<=7->∀ba:Int,0<=ba->ba<=cP->∀aW:Int,0<=aW->aW<=0x7fffffffffffffff->∀bm:Int,(-1)<=bm->bm<=0x7fffffffffffffff->c5 [[aS],[ba],[aW],[bm]]->(((decide (0<=aS))=true->∀bp:Int,0<=bp->bp<=0xffffffffffffffff->bp=x/2^((8*aS)).toNat->∀z20:Int,0<=z20->z20<=0xffffffffffffff->0<=bp-256*z20->bp-256*z20<256->aj 31 [ba,aW]/\aj 23 [ba,1]/\∀z21:Int,0<=z21->z21<=cP->z21=cu 23 [ba,(bp+((-256)*z20))]->∀z22:Int,(-1)<=z22->z22<=0x7fffffffffffffff->(c5 [[(aS+(-1))],[z21],[(aW+1)],[z22]]/\ey [[(aS+(-1))],[z21],[(aW+1)],[z22]]<ey [[aS],[ba],[aW],[bm]]))/\((decide (0<=aS))=false->Next ba aW bm)))
end Go.dg
namespace Go.dg
open Go Go.bX
def abL (c b:Int):Nat->Nat->List Int->(List Int->Prop)->Prop
 |0,_,acc,k=>k acc
 |n+1,i,acc,k=>aj 21 [c,(b+(i:Int))]/\∀y:Int,0<=y->y<=255->y=cu 21 [c,(b+(i:Int)),0]->abL c b n (i+1) (acc++[y]) k
def abJ (l:List Int):Nat->Nat->Int->(Int->Prop)->Prop
 |0,_,c,k=>k c
 |n+1,j,c,k=>∀y:Int,0<=y->y<=cP->y=cu 23 [c,((16777216*U l (4*j) 0)+((65536*U l (4*j+1) 0)+((256*U l (4*j+2) 0)+U l (4*j+3) 0)))]->abJ l n (j+1) y k
def Gt (x c l k:Int) (Next:Int->Int->Int->Prop):Prop:=∃(c5:List (List Int)->Prop) (ey:List (List Int)->Nat),c5 [[3],[c],[l],[k]]/\(∀aS:Int,(-1)<=aS->aS<=3->∀ba:Int,0<=ba->ba<=cP->∀aW:Int,0<=aW->aW<=0x7fffffffffffffff->∀bm:Int,(-1)<=bm->bm<=0x7fffffffffffffff->c5 [[aS],[ba],[aW],[bm]]->(((decide (0<=aS))=true->∀bp:Int,0<=bp->bp<=4294967295->bp=x/2^((8*aS)).toNat->∀z20:Int,0<=z20->z20<=16777215->0<=bp-256*z20->bp-256*z20<256->aj 31 [ba,aW]/\aj 23 [ba,1]/\∀z21:Int,0<=z21->z21<=cP->z21=cu 23 [ba,(bp+((-256)*z20))]->∀z22:Int,(-1)<=z22->z22<=0x7fffffffffffffff->(c5 [[(aS+(-1))],[z21],[(aW+1)],[z22]]/\ey [[(aS+(-1))],[z21],[(aW+1)],[z22]]<ey [[aS],[ba],[aW],[bm]]))/\((decide (0<=aS))=false->Next ba aW bm)))
end Go.dg
namespace Go.dg
open Go Go.bX
def agA:List Int:=[0x5812631a5cf5d3ed,0x14def9dea2f79cd6,0,0x1000000000000000]
def ah5:List Int:=[0x5812631a5cf5d3ed,0x14def9dea2f79cd6]
def agu:List Int:=[1,0,0,0,0]
def agt:List Int:=[929955233495203,466365720129213,0x5e7a26001c029,0x739c663a03cbb,0x52036cee2b6ff]
def cE:fK:=[(0,agA.map λz=>(.u64,z)),(1,uF.map λz=>(.u64,z)),(2,Hv.map λz=>(.u64,z)),(3,Hv.map λz=>(.u64,z)),(4,uF.map λz=>(.u64,z)),(5,agu.map λz=>(.u64,z)),(6,agt.map λz=>(.u64,z)),(7,ah5.map λz=>(.u64,z))]
end Go.dg
namespace Go.Fd
open Go.bX
def gl:fK:=Go.dg.cE
def bB:dv->Nat->Option fB:=λ_ _=>none
def cf:Nat->List Nat:=λ_=>[]
def gX:D:= .agg .u64 5 0 0xfffffffffffff
def aAX:D:= .agg .u64 5 0 0x7fffffffffffffff
def dO:D:= .agg .u64 4 0 0xffffffffffffffff
def gK:D:= .agg .u8 32 0 255
def c1:D:= .int .u64 0 1
def pl:D:= .mix (dw 15 (.int .u64 0 0xfffffffffffff))
def uz:D:= .mix (dw 20 (.int .u64 0 0xfffffffffffff))
def AF:D:= .mix (dw 12 (.int .u64 0 0xffffffffffffffff))
def qJ:D:= .int .i64 0 1
def nt:bq:=⟨45,37,[gK],[dO]⟩
def tg:bq:=⟨62,27,[dO],[gK]⟩
def oE:bq:=⟨90,28,[],[dO]⟩
def n2:bq:=⟨44,42,[dO,dO],[.bool]⟩
def n3:bq:=⟨97,55,[dO,dO],[dO,c1]⟩
def n4:bq:=⟨96,56,[dO,dO],[dO,c1]⟩
def rR:bq:=⟨123,39,[dO],[dO]⟩
def vC:bq:=⟨92,40,[dO,dO],[dO]⟩
def rS:bq:=⟨42,41,[dO,dO],[dO]⟩
def vA:bq:=⟨122,54,[dO,dO],[dO]⟩
def nu:bq:=⟨91,36,[dO,dO],[dO]⟩
def rT:bq:=⟨124,44,[dO,dO],[dO]⟩
def arx:dv->Nat->Option fB:=λf r=>match f,r with
 |124,3=>some ⟨[2,3,4,5],[(6,-1,255)],[(3,0,0,0xffffffffffffffff),(3,1,0,0xffffffffffffffff),(3,2,0,0xffffffffffffffff),(3,3,0,0xffffffffffffffff)],[],[],[],[]⟩
 |_,_=>none
def aIp:Nat->List Nat
 |8=>[1,4]
 |_=>[]
def vB:bq:=⟨95,45,[dO],[dO]⟩
def ys:bq:=⟨94,38,[dO],[dO,.bool]⟩
def la:bq:=⟨118,46,[aAX],[gX]⟩
def rP:bq:=⟨114,29,[gK],[gX]⟩
def iY:bq:=⟨100,31,[gX],[gK]⟩
def js:bq:=⟨79,34,[gX,gX],[gX]⟩
def jr:bq:=⟨75,32,[gX,gX],[gX]⟩
def ib:bq:=⟨78,33,[gX,gX],[gX]⟩
def mF:bq:=⟨115,47,[gX],[gX]⟩
def pJ:bq:=⟨34,50,[gX],[gX]⟩
def qY:bq:=⟨125,43,[gX,dO],[gX]⟩
def afP:dv->Nat->Option fB:=λf r=>match f,r with
 |125,3=>some ⟨[2,3,4,5],[(6,-1,255)],[(3,0,0,0xfffffffffffff),(3,1,0,0xfffffffffffff),(3,2,0,0xfffffffffffff),(3,3,0,0xfffffffffffff),(3,4,0,0xfffffffffffff)],[],[],[],[]⟩
 |_,_=>none
def arI:Nat->List Nat
 |9=>[1,5]
 |_=>[]
def rQ:bq:=⟨99,35,[gX],[gX]⟩
def q0:bq:=⟨117,48,[gX,gX],[.bool]⟩
def qX:bq:=⟨101,49,[gX],[.bool]⟩
def uq:bq:=⟨116,30,[gX],[gX,.bool]⟩
def oD:bq:=⟨129,14,[gK],[gK]⟩
def n1:bq:=⟨113,22,[gK],[.bool]⟩
def vE:bq:=⟨80,100,[],[gX]⟩
def o9:bq:=⟨82,101,[gX,gX],[uz]⟩
def sF:bq:=⟨38,102,[],[uz]⟩
def vw:bq:=⟨76,103,[],[uz]⟩
def rO:bq:=⟨81,104,[gX,gX,gX,gX],[uz]⟩
def sG:bq:=⟨37,105,[uz,uz],[uz]⟩
def vx:bq:=⟨77,106,[pl],[uz]⟩
def pa:bq:=⟨36,107,[uz,gK],[uz]⟩
def afO:dv->Nat->Option fB:=λf r=>match f,r with
 |36,3=>some ⟨[2,3,4,5],[(6,-1,255)],[(3,0,0,0xfffffffffffff),(3,1,0,0xfffffffffffff),(3,2,0,0xfffffffffffff),(3,3,0,0xfffffffffffff),(3,4,0,0xfffffffffffff),(3,5,0,0xfffffffffffff),(3,6,0,0xfffffffffffff),(3,7,0,0xfffffffffffff),(3,8,0,0xfffffffffffff),(3,9,0,0xfffffffffffff),(3,10,0,0xfffffffffffff),(3,11,0,0xfffffffffffff),(3,12,0,0xfffffffffffff),(3,13,0,0xfffffffffffff),(3,14,0,0xfffffffffffff),(3,15,0,0xfffffffffffff),(3,16,0,0xfffffffffffff),(3,17,0,0xfffffffffffff),(3,18,0,0xfffffffffffff),(3,19,0,0xfffffffffffff)],[],[],[],[]⟩
 |_,_=>none
def arH:Nat->List Nat
 |72=>[1,5,5,5,5]
 |_=>[]
def qh:bq:=⟨52,108,[pl],[gK]⟩
def th:bq:=⟨74,109,[gK],[uz,.bool]⟩
def Ab:bq:=⟨15,112,[gK],[gK,qJ]⟩
def z8:bq:=⟨22,114,[gK],[gK]⟩
def Aa:bq:=⟨16,115,[gK,gK,gK],[gK,qJ]⟩
def um:bq:=⟨93,120,[],[dO]⟩
def vD:bq:=⟨98,121,[],[AF]⟩
def vz:bq:=⟨47,122,[AF,AF],[AF]⟩
def qZ:bq:=⟨48,123,[gK,AF],[AF]⟩
def afQ:dv->Nat->Option fB:=λf r=>match f,r with
 |48,3=>some ⟨[2,3,4,5],[(6,-1,255)],[(3,0,0,0xffffffffffffffff),(3,1,0,0xffffffffffffffff),(3,2,0,0xffffffffffffffff),(3,3,0,0xffffffffffffffff),(3,4,0,0xffffffffffffffff),(3,5,0,0xffffffffffffffff),(3,6,0,0xffffffffffffffff),(3,7,0,0xffffffffffffffff),(3,8,0,0xffffffffffffffff),(3,9,0,0xffffffffffffffff),(3,10,0,0xffffffffffffffff),(3,11,0,0xffffffffffffffff)],[],[],[],[]⟩
 |_,_=>none
def arJ:Nat->List Nat
 |56=>[1,4,4,4]
 |_=>[]
def vy:bq:=⟨43,124,[AF],[gK]⟩
def uo:bq:=⟨49,126,[],[AF]⟩
def Ac:bq:=⟨25,131,[gK],[gK]⟩
def yr:bq:=⟨46,133,[],[dO]⟩
def sh:Nat->List Nat×List Nat
 |37=>([32],[4])
 |27=>([4],[32])
 |28=>([],[4])
 |42=>([4,4],[1])
 |55=>([4,4],[4,1])
 |56=>([4,4],[4,1])
 |39=>([4],[4])
 |40=>([4,4],[4])
 |41=>([4,4],[4])
 |54=>([4,4],[4])
 |36=>([4,4],[4])
 |44=>([4,4],[4])
 |45=>([4],[4])
 |38=>([4],[4,1])
 |46=>([5],[5])
 |29=>([32],[5])
 |31=>([5],[32])
 |34=>([5,5],[5])
 |32=>([5,5],[5])
 |33=>([5,5],[5])
 |47=>([5],[5])
 |50=>([5],[5])
 |43=>([5,4],[5])
 |35=>([5],[5])
 |48=>([5,5],[1])
 |49=>([5],[1])
 |30=>([5],[5,1])
 |14=>([32],[32])
 |22=>([32],[1])
 |100=>([],[5])
 |101=>([5,5],[5,5,5,5])
 |102=>([],[5,5,5,5])
 |103=>([],[5,5,5,5])
 |104=>([5,5,5,5],[5,5,5,5])
 |105=>([5,5,5,5,5,5,5,5],[5,5,5,5])
 |106=>([5,5,5],[5,5,5,5])
 |107=>([5,5,5,5,32],[5,5,5,5])
 |108=>([5,5,5],[32])
 |109=>([32],[5,5,5,5,1])
 |110=>([32],[1])
 |111=>([32,32],[32,1])
 |112=>([32],[32,1])
 |113=>([32,32],[32,1])
 |114=>([32],[32])
 |115=>([32,32,32],[32,1])
 |120=>([],[4])
 |121=>([],[4,4,4])
 |122=>([4,4,4,4,4,4],[4,4,4])
 |123=>([32,4,4,4],[4,4,4])
 |124=>([4,4,4],[32])
 |125=>([32],[4,4,4,1])
 |126=>([],[4,4,4])
 |127=>([32],[1])
 |128=>([32,32],[32,1])
 |129=>([32],[32,1])
 |130=>([32,32],[32,1])
 |131=>([32],[32])
 |132=>([32,32,32],[32,1])
 |133=>([],[4])
 |140=>([],[1])
 |141=>([32],[1])
 |142=>([32,32,32],[1])
 |143=>([32,32],[1])
 |144=>([32,32],[1])
 |145=>([32,32,32],[1])
 |146=>([32,32],[1])
 |150=>([32,32,32],[32])
 |147=>([32,32],[1])
 |_=>([],[])
abbrev ad:List Int->Int:=num 0x10000000000000000
abbrev nb:List Int->Int:=num 256
abbrev v5:List Int->Int:=num 0x8000000000000
def cJ (a:Int) (e:Nat):Int:=a^e% aa
def vp:Nat:=0x7fffffffffffffffffffffffffffffffffffffffffffffffffffffffffffffeb
def p9:Nat:=0xffffffffffffffffffffffffffffffffffffffffffffffffffffffffffffffe
def AI:Int:=0x2b8324804fc1df0b2b4d00993dfbd7a72f431806ad2fe478c4ee1b274a0ea0b0
def yV:Int:=0x2b8324804fc1df0b2b4d00993dfbd7a72f431806ad2fe478c4ee1b274a0ea0b0
def vQ (a:Int):Int×Int:=
 let dK:=cJ a p9;let c:=if dK*dK% aa=a then dK else dK*AI% aa
 if c*c% aa=a then(if c% 2=1 then(0-c)% aa else c,1)else(0,0)
def nC (a:Int):Int×Int:=
 let dK:=cJ a p9
 if dK*dK% aa=a then(if dK% 2=1 then(0-dK)% aa else dK,1)else
 let c:=dK*yV% aa
 if c*c% aa=a then(if c% 2=1 then(0-c)% aa else c,1)else(0,0)
def dQ:Int:=0x52036cee2b6ffe738cc740797779e89800700a4d4141d8ab75eb4dca135978a3
def lR (a:Int):Int:=cJ a vp
def on (A:Int×Int):Prop:=(0<=A.1/\A.1<aa)/\(0<=A.2/\A.2<aa)/\(A.2*A.2-A.1*A.1)% aa=(1+dQ*(A.1*A.1*(A.2*A.2)))% aa
def fO (A B:Int×Int):Int×Int:=((A.1*B.2+A.2*B.1)*lR (1+dQ*(A.1*B.1*(A.2*B.2)))% aa,(A.2*B.2+A.1*B.1)*lR (1-dQ*(A.1*B.1*(A.2*B.2)))% aa)
def om:Int×Int:=(0,1)
def rU (A:Int×Int):Int×Int:=((0-A.1)% aa,A.2)
def eK:Nat->Int×Int->Int×Int
 |0,_=>om
 |n+1,A=>fO (eK n A) A
def kn:Int×Int:=(0x216936d3cd6e53fec0a4e231fdd6dc5c692cc7609525a7b2c9562d608f25d51a,0x6666666666666666666666666666666666666666666666666666666666666658)
def fl:Int:=0x8000000000000000000000000000000000000000000000000000000000000000
def enc (A:Int×Int):Int:=A.2+fl*(A.1% 2)
def dec (b:Int):Option (Int×Int):=
 let y:=b% fl;let aJb:=b/fl
 if y<aa then
  let q:=nC ((y*y-1)*lR (dQ*(y*y)+1)% aa)
  if q.2=0 then none else
  if aJb=1 then(if q.1=0 then none else some ((0-q.1)% aa,y))else some (q.1,y)
 else none
def m5 (x y z t:Int) (A:Int×Int):Prop:=z% aa≠0/\x% aa=A.1*z% aa/\y% aa=A.2*z% aa/\t% aa=A.1*A.2*z% aa
def l6 (x y z:Int) (A:Int×Int):Prop:=z% aa≠0/\x% aa=A.1*z% aa/\y% aa=A.2*z% aa
def Bz (x y z:Int):Int:=y*lR z% aa+fl*(x*lR z% aa% 2)
def bit (b:Prop) [Decidable b]:Int:=if b then 1 else 0
abbrev eH:=List (List Int)->List (List Int)->Prop
def uH:eH|[a],[r]=>ad r=nb a|_,_=>True
def uG:eH|[a],[r]=>nb r=ad a|_,_=>True
def aQB:eH|[],[r]=>ad r=aa|_,_=>True
def xA:eH|[a,b],[[z]]=>z=bit (ad a<ad b)|_,_=>True
def q8:eH|[a,b],[r,[c]]=>ad r=ad a-ad b+dT*c|_,_=>True
def q9:eH|[a,b],[r,[c]]=>ad r=ad a+ad b-dT*c|_,_=>True
def aQq:eH|[a],[r]=>ad r=ad a% aa|_,_=>True
def xB:eH|[a,b],[r]=>ad r=(ad a+ad b)% dT% aa|_,_=>True
def aQr:eH|[a,b],[r]=>ad r=(ad a-ad b+(if ad a<ad b then aa else 0))% dT|_,_=>True
def aQv:eH|[a,b],[r]=>ad r=(ad a+dT*ad b)% aa|_,_=>True
def aQC:eH|[a,b],[r]=>ad r=ad a*ad b% aa|_,_=>True
def aQO:eH|[a,n],[r]=>ad r=cJ (ad a) (ad n).toNat|_,_=>True
def aQx:eH|[a],[r]=>ad r=cJ (ad a) vp|_,_=>True
def uJ:eH|[a],[[z]]=>z=bit (nb a<aa)|_,_=>True
def uI:eH|[a],[r]=>nb r=nb a% aa|_,_=>True
def atF:eH|[a,b],[r]=>nb r=(nb a+nb b)% aa|_,_=>True
def atO:eH|[a,b],[r]=>nb r=(nb a-nb b)% aa|_,_=>True
def atK:eH|[a,b],[r]=>nb r=nb a*nb b% aa|_,_=>True
def atJ:eH|[a],[r]=>nb r=cJ (nb a) vp|_,_=>True
def atL:eH|[a,n],[r]=>nb r=cJ (nb a) (nb n).toNat|_,_=>True
def aQM:eH|[a],[r,[z]]=>(ad r,z)=vQ (ad a)|_,_=>True
def aQJ:eH|[a],[r,[z]]=>(nb r,z)=vQ (nb a% aa)|_,_=>True
def aQp:eH|[a],[r]=>v5 r% aa=v5 a% aa/\v5 r<aa+38|_,_=>True
def aQw:eH|[a],[r]=>v5 r% aa=nb a% aa|_,_=>True
def aQs:eH|[a],[r]=>nb r=v5 a% aa|_,_=>True
def aQu:eH|[a,b],[r]=>v5 r% aa=(v5 a+v5 b)% aa|_,_=>True
def aQt:eH|[a,b],[r]=>v5 r% aa=(v5 a-v5 b)% aa|_,_=>True
def aQP:eH|[a,b],[r]=>v5 r% aa=v5 a*v5 b% aa|_,_=>True
def aQN:eH|[a],[r]=>v5 r% aa=v5 a*v5 a% aa|_,_=>True
def aQz:eH|[a],[r]=>v5 r% aa=(0-v5 a)% aa|_,_=>True
def aQD:eH|[a,n],[r]=>v5 r% aa=cJ (v5 a) (ad n).toNat|_,_=>True
def aQy:eH|[a],[r]=>v5 r% aa=cJ (v5 a) vp|_,_=>True
def aQK:eH|[a,b],[[z]]=>z=bit (v5 a% aa=v5 b% aa)|_,_=>True
def aQA:eH|[a],[[z]]=>z=v5 a% aa% 2|_,_=>True
def aQH:eH|[a],[r,[z]]=>(v5 r% aa,z)=nC (v5 a% aa)|_,_=>True
def aQG:eH|[a],[r,[z]]=>(nb r,z)=nC (nb a% aa)|_,_=>True
def xC:eH|_,[[z]]=>z=1|_,_=>True
def atP:eH|[],[r]=>v5 r% aa=2*dQ% aa|_,_=>True
def RO:eH|[x,y],[a,b,c,d]=>v5 a% aa=v5 x% aa/\v5 b% aa=v5 y% aa/\v5 c% aa=1/\v5 d% aa=v5 x*v5 y% aa|_,_=>True
def RN:eH|[],[x,y,z,t]=>v5 x% aa=kn.1/\v5 y% aa=kn.2/\v5 z% aa=1/\v5 t% aa=kn.1*kn.2% aa|_,_=>True
def ahv:eH|[],[x,y,z,t]=>v5 x% aa=0/\v5 y% aa=1/\v5 z% aa=1/\v5 t% aa=0|_,_=>True
def aht:eH|[e,f,g,h],[x,y,z,t]=>v5 x% aa=v5 e*v5 f% aa/\v5 y% aa=v5 g*v5 h% aa/\v5 z% aa=v5 f*v5 g% aa/\v5 t% aa=v5 e*v5 h% aa|_,_=>True
def W0:eH|[ak,au,ar,t1,ai,ao,z2,t2],[x,y,z,t]=>∀A B,on A->on B->m5 (v5 ak) (v5 au) (v5 ar) (v5 t1) A->m5 (v5 ai) (v5 ao) (v5 z2) (v5 t2) B->m5 (v5 x) (v5 y) (v5 z) (v5 t) (fO A B)|_,_=>True
def atI:eH|[ak,au,ar],[x,y,z,t]=>∀A,on A->l6 (v5 ak) (v5 au) (v5 ar) A->m5 (v5 x) (v5 y) (v5 z) (v5 t) (fO A A)|_,_=>True
def Ms:eH|[ak,au,ar,t1,k],[x,y,z,t]=>∀A,on A->m5 (v5 ak) (v5 au) (v5 ar) (v5 t1) A->m5 (v5 x) (v5 y) (v5 z) (v5 t) (eK (nb k).toNat A)|_,_=>True
def Mr:eH|[x,y,z],[r]=>nb r=Bz (v5 x) (v5 y) (v5 z)|_,_=>True
def RP:eH|[b],[x,y,z,t,[k]]=>(match dec (nb b)with|none=>k=0|some A=>k=1/\v5 x% aa=A.1/\v5 y% aa=A.2/\v5 z% aa=1/\v5 t% aa=A.1*A.2% aa)|_,_=>True
def atH:eH|[b],[[k]]=>k=bit ((dec (nb b)).isSome=true)|_,_=>True
def tJ (r:List Int) (e:Int):Option (Int×Int)->Prop
 |none=>e=1/\nb r=0
 |some A=>e=0/\nb r=enc A
def atG:eH|[a,b],[r,[e]]=>tJ r e ((dec (nb a)).bind λA=>(dec (nb b)).map λB=>fO A B)|_,_=>True
def WZ:eH|[a],[r,[e]]=>tJ r e ((dec (nb a)).map rU)|_,_=>True
def ahu:eH|[k,a],[r,[e]]=>tJ r e ((dec (nb a)).map (eK (nb k).toNat))|_,_=>True
def WX:eH|[k],[r]=>nb r=enc (eK (nb k).toNat kn)|_,_=>True
def WY:eH|[k,a,l],[r,[e]]=>tJ r e ((dec (nb a)).map λA=>fO (eK (nb k).toNat A) (eK (nb l).toNat kn))|_,_=>True
def aQE:eH|[],[r]=>ad r=dQ|_,_=>True
def ahy:eH|[],[x,y,z]=>ad x=0/\ad y=1/\ad z=1|_,_=>True
def ahx:eH|[],[x,y,z]=>ad x=kn.1/\ad y=kn.2/\ad z=1|_,_=>True
def ahw:eH|[ak,au,ar,ai,ao,z2],[x,y,z]=>∀A B,on A->on B->l6 (ad ak) (ad au) (ad ar) A->l6 (ad ai) (ad ao) (ad z2) B->l6 (ad x) (ad y) (ad z) (fO A B)|_,_=>True
def atN:eH|[k,ak,au,ar],[x,y,z]=>∀A,on A->l6 (ad ak) (ad au) (ad ar) A->l6 (ad x) (ad y) (ad z) (eK (nb k).toNat A)|_,_=>True
def atM:eH|[x,y,z],[r]=>nb r=Bz (ad x) (ad y) (ad z)|_,_=>True
def aQI:eH|[b],[x,y,z,[k]]=>(match dec (nb b)with|none=>k=0|some A=>k=1/\ad x=A.1/\ad y=A.2/\ad z=1)|_,_=>True
def dG:Nat:=0x1000000000000000000000000000000014def9dea2f79cd65812631a5cf5d3ed
def aQL:eH|[a,b,c],[r]=>nb r=(nb a*nb b+nb c)% (dG:Int)|_,_=>True
def aQF:eH|[],[r]=>ad r=(dG:Int)|_,_=>True
def SB:Nat->eH
 |37=>uH
 |27=>uG
 |28=>aQB
 |42=>xA
 |55=>q8
 |56=>q9
 |39=>aQq
 |40=>xB
 |41=>aQr
 |54=>aQv
 |36=>aQC
 |44=>aQO
 |45=>aQx
 |23=>uJ
 |21=>uI
 |19=>atF
 |20=>atO
 |17=>atK
 |26=>atJ
 |25=>atL
 |38=>aQM
 |18=>aQJ
 |46=>aQp
 |29=>aQw
 |31=>aQs
 |34=>aQu
 |32=>aQt
 |33=>aQP
 |47=>aQN
 |50=>aQz
 |43=>aQD
 |35=>aQy
 |48=>aQK
 |49=>aQA
 |30=>aQH
 |14=>uI
 |22=>uJ
 |15=>atF
 |12=>atO
 |13=>atK
 |16=>atJ
 |11=>aQG
 |24=>atL
 |100=>atP
 |101=>RO
 |102=>RN
 |103=>ahv
 |104=>aht
 |105=>W0
 |106=>atI
 |107=>Ms
 |108=>Mr
 |109=>RP
 |110=>atH
 |111=>atG
 |112=>WZ
 |113=>ahu
 |114=>WX
 |115=>WY
 |120=>aQE
 |121=>ahy
 |122=>ahw
 |123=>atN
 |124=>atM
 |125=>aQI
 |126=>ahx
 |127=>atH
 |128=>atG
 |129=>WZ
 |130=>ahu
 |131=>WX
 |132=>WY
 |133=>aQF
 |150=>aQL
 |_=>xC
def fu (G:Nat->List Int->List Int):Nat->eH:=λid a r=>SB id a r/\r.flatten=G id a.flatten
def e6 (ds:List D) (id:Nat):eH:=λa r=>ay (aX ds) r.flatten/\SB id a r
theorem nX {lo hi:Int} {r:List Int} (h:ay (aT lo hi 4) r):∃dp ak ai aw,r=[dp,ak,ai,aw]/\lo<=dp/\dp<=hi/\lo<=ak/\ak<=hi/\lo<=ai/\ai<=hi/\lo<=aw/\aw<=hi:=by
 match r,h with
 |[dp,ak,ai,aw],h=>
  simp only[aT,ay,and_true]at h;exact⟨dp,ak,ai,aw,rfl,h⟩
theorem BR {lo hi:Int} {r:List Int} (h:ay (aT lo hi 5) r):∃dp ak ai aw dk,r=[dp,ak,ai,aw,dk]/\lo<=dp/\dp<=hi/\lo<=ak/\ak<=hi/\lo<=ai/\ai<=hi/\lo<=aw/\aw<=hi/\lo<=dk/\dk<=hi:=by
 match r,h with
 |[dp,ak,ai,aw,dk],h=>
  simp only[aT,ay,and_true]at h;exact⟨dp,ak,ai,aw,dk,rfl,h⟩
theorem Iy {lo hi:Int} {r:List Int} (h:ay (aT lo hi 32) r):∃dp ak ai aw dk jz jR lW mW mX nE ik ki mP vV vW vX vY vZ v7 v8 wa wc we wg wh wi wj wk wm wo wq,r=[dp,ak,ai,aw,dk,jz,jR,lW,mW,mX,nE,ik,ki,mP,vV,vW,vX,vY,vZ,v7,v8,wa,wc,we,wg,wh,wi,wj,wk,wm,wo,wq]/\lo<=dp/\dp<=hi/\lo<=ak/\ak<=hi/\lo<=ai/\ai<=hi/\lo<=aw/\aw<=hi/\lo<=dk/\dk<=hi/\lo<=jz/\jz<=hi/\lo<=jR/\jR<=hi/\lo<=lW/\lW<=hi/\lo<=mW/\mW<=hi/\lo<=mX/\mX<=hi/\lo<=nE/\nE<=hi/\lo<=ik/\ik<=hi/\lo<=ki/\ki<=hi/\lo<=mP/\mP<=hi/\lo<=vV/\vV<=hi/\lo<=vW/\vW<=hi/\lo<=vX/\vX<=hi/\lo<=vY/\vY<=hi/\lo<=vZ/\vZ<=hi/\lo<=v7/\v7<=hi/\lo<=v8/\v8<=hi/\lo<=wa/\wa<=hi/\lo<=wc/\wc<=hi/\lo<=we/\we<=hi/\lo<=wg/\wg<=hi/\lo<=wh/\wh<=hi/\lo<=wi/\wi<=hi/\lo<=wj/\wj<=hi/\lo<=wk/\wk<=hi/\lo<=wm/\wm<=hi/\lo<=wo/\wo<=hi/\lo<=wq/\wq<=hi:=by
 match r,h with
 |[dp,ak,ai,aw,dk,jz,jR,lW,mW,mX,nE,ik,ki,mP,vV,vW,vX,vY,vZ,v7,v8,wa,wc,we,wg,wh,wi,wj,wk,wm,wo,wq],h=>
  simp only[aT,ay,and_true]at h;exact⟨dp,ak,ai,aw,dk,jz,jR,lW,mW,mX,nE,ik,ki,mP,vV,vW,vX,vY,vZ,v7,v8,wa,wc,we,wg,wh,wi,wj,wk,wm,wo,wq,rfl,h⟩
theorem afM {n:Nat} {l:List Int} {lo hi:Int} (h:ay (aT lo hi n) l):l.length=n:=by rw[dj h,Jn]
theorem dF {l:List Int} (h:ay (aT 0 0xffffffffffffffff 4) l):0<=ad l/\ad l<dT:=⟨num_nonneg (by decide) (cn _) h,V9 (b:=0x10000000000000000) (by decide) h⟩
theorem aga {l:List Int} (h:ay (aT 0 255 32) l):0<=nb l/\nb l<dT:=⟨num_nonneg (by decide) (cn _) h,V9 (b:=256) (by decide) h⟩
theorem ti {l l':List Int} (h:ay (aT 0 255 32) l) (aP:ay (aT 0 255 32) l') (e:nb l=nb l'):l=l':=QG (b:=256) (by decide) h aP e
theorem xq {l l':List Int} (h:ay (aT 0 0xffffffffffffffff 4) l) (aP:ay (aT 0 0xffffffffffffffff 4) l') (e:ad l=ad l'):l=l':=QG (b:=0x10000000000000000) (by decide) h aP e
theorem k0 {l:List Int} {b:List (Int×Int)} (h:ay b l):ay (b++[]) (l++[]):=by simpa using h
theorem mG (a b c d:Int):ad [a,b,c,d]=a+0x10000000000000000*b+0x100000000000000000000000000000000*c+0x1000000000000000000000000000000000000000000000000*d:=by simp only[num];omega
theorem Ep (a b c d e:Int):v5 [a,b,c,d,e]=a+0x8000000000000*b+0x40000000000000000000000000*c+0x200000000000000000000000000000000000000*d+0x1000000000000000000000000000000000000000000000000000*e:=by simp only[num];omega
theorem aol {low hi t c s1 d s2 e bx:Int} (h0:t+dT*c=38*hi) (h1:s1=low+t-dT*d) (h2:s2=s1+38*(c+d)-dT*e) (h3:bx=s2+38*e):bx% aa=(low+dT*hi)% aa:=by
 have:low+dT*hi=bx+aa*(2*(e+c+d+hi)):=by(unfold aa dT at*;omega)
 rw[this,xQ]
theorem agP (a0 bR a2 a3 dM b4 cg dh:Int):(a0+0x10000000000000000*bR+0x100000000000000000000000000000000*a2+0x1000000000000000000000000000000000000000000000000*a3)*(dM+0x10000000000000000*b4+0x100000000000000000000000000000000*cg+0x1000000000000000000000000000000000000000000000000*dh)=a0*dM+0x10000000000000000*(a0*b4)+0x100000000000000000000000000000000*(a0*cg)+0x1000000000000000000000000000000000000000000000000*(a0*dh)+0x10000000000000000*(bR*dM)+0x100000000000000000000000000000000*(bR*b4)+0x1000000000000000000000000000000000000000000000000*(bR*cg)+dT*(bR*dh)+0x100000000000000000000000000000000*(a2*dM)+0x1000000000000000000000000000000000000000000000000*(a2*b4)+dT*(a2*cg)+0x100000000000000000000000000000000000000000000000000000000000000000000000000000000*(a2*dh)+0x1000000000000000000000000000000000000000000000000*(a3*dM)+dT*(a3*b4)+0x100000000000000000000000000000000000000000000000000000000000000000000000000000000*(a3*cg)+0x1000000000000000000000000000000000000000000000000000000000000000000000000000000000000000000000000*(a3*dh):=by grind
theorem asx (x:Int):ad [x,0,0,0]=x:=by rw[mG];omega
theorem QH (l:List Int):ad l% 2=l.getD 0 0% 2:=by
 cases l with
 |nil=>rfl
 |cons x r=>simp only[num,gp];omega
theorem aIX (l:List Int):nb l% 2=l.getD 0 0% 2:=by
 cases l with
 |nil=>rfl
 |cons x r=>simp only[num,gp];omega
theorem amq {a b:Prop} [Decidable a] [Decidable b] (h:a↔b):bit a=bit b:=by
 unfold bit;by_cases ha:a
 ·rw[if_pos ha,if_pos (h.1 ha)]
 ·rw[if_neg ha,if_neg (λhb=>ha (h.2 hb))]
theorem abg {b:Prop} [Decidable b]:0<=bit b/\bit b<=1:=by unfold bit;split<;>decide
theorem C9 {b:Prop} [Decidable b] (h:bit b=1):b:=by
 unfold bit at h;split at h
 ·assumption
 ·omega
theorem Ki {b:Prop} [Decidable b] (h:¬bit b=1):¬b:=λhb=>h (if_pos hb)
theorem dup {x d q fG:Int} (h1:0<=x-d*q) (h2:x-d*q<d) (h3:0<=x-d*fG) (h4:x-d*fG<d):q=fG:=Rs h1 h2 h3 h4
theorem Rr {x d q:Int} (hd:0<d) (h1:0<=x-d*q) (h2:x-d*q<d):x/d=q:=by
 have e:=ai0 x d;have av:=sV x (show d≠0 by omega);have aH:=ri x hd;exact Rs (x:=x) (d:=d) (by omega) (by omega) h1 h2
theorem an6 {r0 r1 r2 gS bb:Int} (h0:0<=r0/\r0<0x8000000000000) (h1:0<=r1/\r1<0x8000000000000) (h2:0<=r2/\r2<0x8000000000000) (h3:0<=gS/\gS<0x8000000000000) (h4:0<=bb/\bb<0x8000000000000):
 0<=r0+0x8000000000000*r1+0x40000000000000000000000000*r2+0x200000000000000000000000000000000000000*gS+0x1000000000000000000000000000000000000000000000000000*bb/\r0+0x8000000000000*r1+0x40000000000000000000000000*r2+0x200000000000000000000000000000000000000*gS+0x1000000000000000000000000000000000000000000000000000*bb<0x8000000000000000000000000000000000000000000000000000000000000000:=by omega
theorem canon {A c e:Int} (h0:0<=A) (h1:A<aa+38) (dK:0<=A+19-0x8000000000000000000000000000000000000000000000000000000000000000*c) (c1:A+19-0x8000000000000000000000000000000000000000000000000000000000000000*c<0x8000000000000000000000000000000000000000000000000000000000000000)
 (cv:0<=A+19*c-0x8000000000000000000000000000000000000000000000000000000000000000*e) (av:A+19*c-0x8000000000000000000000000000000000000000000000000000000000000000*e<0x8000000000000000000000000000000000000000000000000000000000000000):A+19*c-0x8000000000000000000000000000000000000000000000000000000000000000*e=A% aa:=by
 have hc:c=0∨c=1:=by(unfold aa at*;omega)
 rcases hc with rfl|rfl
 ·have he:e=0:=by omega
  subst he;rw[lO h0 (by(unfold aa at*;omega))];(unfold aa at*;omega)
 ·have he:e=1:=by omega
  subst he;have h2:0<=A-aa:=by(unfold aa at*;omega)
  have h3:A-aa<aa:=by omega
  rw[show A=(A-aa)+aa*1 by(unfold aa at*;omega),xQ,lO h2 h3];(unfold aa at*;omega)
theorem aVu {l:List Int} (h:ay (aT 0 0xfffffffffffff 5) l):0<=v5 l:=num_nonneg (by decide) (cn _) h
theorem aRY (dp ak ai aw dk gV au ao az oh:Int):(dp+0x8000000000000*ak+0x40000000000000000000000000*ai+0x200000000000000000000000000000000000000*aw+0x1000000000000000000000000000000000000000000000000000*dk)*(gV+0x8000000000000*au+0x40000000000000000000000000*ao+0x200000000000000000000000000000000000000*az+0x1000000000000000000000000000000000000000000000000000*oh)=(1*(dp*gV)+0x8000000000000*(dp*au)+0x40000000000000000000000000*(dp*ao)+0x200000000000000000000000000000000000000*(dp*az)+0x1000000000000000000000000000000000000000000000000000*(dp*oh)+0x8000000000000*(ak*gV)+0x40000000000000000000000000*(ak*au)+0x200000000000000000000000000000000000000*(ak*ao)+0x1000000000000000000000000000000000000000000000000000*(ak*az)+1*(ak*(19*oh))+0x40000000000000000000000000*(ai*gV)+0x200000000000000000000000000000000000000*(ai*au)+0x1000000000000000000000000000000000000000000000000000*(ai*ao)+1*(ai*(19*az))+0x8000000000000*(ai*(19*oh))+0x200000000000000000000000000000000000000*(aw*gV)+0x1000000000000000000000000000000000000000000000000000*(aw*au)+1*(aw*(19*ao))+0x8000000000000*(aw*(19*az))+0x40000000000000000000000000*(aw*(19*oh))+0x1000000000000000000000000000000000000000000000000000*(dk*gV)+1*(dk*(19*au))+0x8000000000000*(dk*(19*ao))+0x40000000000000000000000000*(dk*(19*az))+0x200000000000000000000000000000000000000*(dk*(19*oh)))+aa*(1*(ak*oh)+1*(ai*az)+0x8000000000000*(ai*oh)+1*(aw*ao)+0x8000000000000*(aw*az)+0x40000000000000000000000000*(aw*oh)+1*(dk*au)+0x8000000000000*(dk*ao)+0x40000000000000000000000000*(dk*az)+0x200000000000000000000000000000000000000*(dk*oh)):=by grind
theorem V7 {c:Int} (h0:0<c) (h1:c<aa):(0-c)% aa=aa-c:=by
 rw[<-lO (show 0<=aa-c by omega) (show aa-c<aa by omega),show aa-c=(0-c)+aa*1 by omega,xQ]
theorem vn {b:Prop} [Decidable b]:(cond (decide b) 1 0:Int)=bit b:=by
 unfold bit;by_cases h:b<;>simp[h]
theorem agf (w:Nat):∀{n:Nat} {l:List Int} (i:Nat),ay (aT 0 (2^w-1) n) l->i<w*n->num (2^w) l/2^i% 2=l.getD (i/w) 0/2^(i% w)% 2
 |0,_,i,_,h=>by omega
 |n+1,[],i,h,_=>by simp[aT,ay]at h
 |n+1,x::l,i,h,hi=>by
  obtain⟨h0,h1,h2⟩:=h;have hp:∀k:Nat,(0:Int)<2^k:=λk=>by have:=CG k;exact_mod_cast this
  have hw:0<w:=by
   rcases Nat.eq_zero_or_pos w with rfl|h
   ·simp at hi
   ·exact h
  simp only[num];by_cases apE:i<w
  ·rw[aiZ apE,MS apE,gp];obtain⟨k,rfl⟩:∃k,w=i+(k+1):=⟨w-i-1,by omega⟩;rw[Ya 2 i,CD,awa _ _ (by have:=hp i;omega),Se,kL (2^k) 2,CD];rw[xQ]
  ·obtain⟨k,rfl⟩:∃k,i=k+w:=⟨i-w,by omega⟩;have ih:=agf w (n:=n) (l:=l) k h2 (by rw[Nat.mul_add]at hi;omega);have av:(k+w)/w=k/w+1:=Nat.add_div_right k hw;have aH:(k+w)% w=k% w:=Nat.add_mod_right k w;rw[av,aH,hq,<-ih]
   congr 1
   rw[Nat.add_comm k w,Ya,<-Int.ediv_ediv_of_nonneg (qv (hp w)),awa _ _ (by have:=hp w;omega)];rw[Int.ediv_eq_zero_of_lt h0 (by omega),Int.zero_add]
theorem Ta {l:List Int} {i:Nat} {q x fG y h:Int} (hl:ay (aT 0 0xffffffffffffffff 4) l) (hi:(i:Int)<=255) (c:0<=(i:Int)-64*q) (d:(i:Int)-64*q<64) (e:x=l.getD q.toNat 0)
 (ek:0<=(i:Int)-64*fG) (tQ:(i:Int)-64*fG<64) (c8:y=x/2^((i:Int)+(-64)*fG).toNat) (bQ:0<=y-2*h) (d2:y-2*h<2):y+(-2)*h=(((ad l).toNat/2^i% 2:Nat):Int):=by
 have hb:=agf 64 (n:=4) (l:=l) i hl (by omega);have h0:=(dF hl).1;have aQ:q.toNat=i/64:=by omega
 have bn:((i:Int)+(-64)*fG).toNat=i% 64:=by omega
 rw[aQ]at e;rw[bn]at c8;have ca:(((ad l).toNat/2^i% 2:Nat):Int)=ad l/2^i% 2:=by
  have:((ad l).toNat:Int)=ad l:=Sc h0;rw[X7,Int.natCast_ediv,this];simp
 rw[ca];have hb:ad l/2^i% 2=l.getD (i/64) 0/2^(i% 64)% 2:=hb;rw[hb,<-e,<-c8];omega
theorem B6 (a:Int):cJ a 0=1:=by simp[aa,cJ]
theorem sI (a b:Int):a% aa*b% aa=a*b% aa:=by rw[sU,Int.emod_emod,<-sU]
theorem xp (a b:Int):a*(b% aa)% aa=a*b% aa:=by rw[kL,sI,kL]
theorem yC (a:Int) (k:Nat):cJ a (k+1)=cJ a k*a% aa:=by unfold cJ;rw[Se,sI]
theorem I6 (a:Int) (k:Nat):cJ a (2*k)=cJ a k*cJ a k% aa:=by unfold cJ;rw[sI,xp,<-Ya,Nat.two_mul]
theorem B5 (a:Int) (k:Nat):cJ (a% aa) k=cJ a k:=by
 induction k with
 |zero=>rw[B6,B6]
 |succ k ih=>rw[yC,yC,ih,xp]
theorem L6 (a:Int) (k:Nat):0<=cJ a k/\cJ a k<aa:=⟨sV _ (by decide),ri _ (by decide)⟩
theorem V5 (N i:Nat):N/2^i=2*(N/2^(i+1))+N/2^i% 2:=by
 have:N/2^(i+1)=N/2^i/2:=by rw[y1,Sf]
 omega
theorem asV {a:Int} {N i:Nat} (h:N/2^i% 2=1):cJ a (N/2^i)=cJ a (N/2^(i+1))*cJ a (N/2^(i+1))% aa*a% aa:=by
 rw[V5 N i,h,yC,I6]
theorem asU {a:Int} {N i:Nat} (h:N/2^i% 2≠1):cJ a (N/2^i)=cJ a (N/2^(i+1))*cJ a (N/2^(i+1))% aa:=by
 have h0:N/2^i% 2=0:=by omega
 rw[V5 N i,h0,m3,I6]
theorem aup {l:List Int} (hl:ay (aT 0 0xffffffffffffffff 4) l):(ad l).toNat/2^(255+1:Int).toNat=0:=by
 have h:=dF hl;have e:(255+1:Int).toNat=256:=by decide
 rw[e];apply aiZ;have:((ad l).toNat:Int)<2^256:=by rw[Sc h.1];exact h.2
 exact_mod_cast this
def yJ (G:Nat->List Int->List Int) (e:List Int) (N:Nat):Nat->List Int
 |0=>[1,0,0,0,0]
 |k+1=>bif N/2^(255-k)% 2==1 then G 33 (G 47 (yJ G e N k)++e)else G 47 (yJ G e N k)
theorem zF:(ad [0xfffffffffffffffe,0xffffffffffffffff,0xffffffffffffffff,0xfffffffffffffff]).toNat=p9:=by decide
theorem asX (a e:Nat) (h:e<2^256):cJ (a:Int) e=((Nl.pm 256 a e 0x7fffffffffffffffffffffffffffffffffffffffffffffffffffffffffffffed:Nat):Int):=by
 rw[Nl.Wt 256 a e 0x7fffffffffffffffffffffffffffffffffffffffffffffffffffffffffffffed h];unfold cJ;rw[X7];congr 1
theorem ahN:cJ (ad [2,0,0,0]) (ad [0xfffffffffffffffb,0xffffffffffffffff,0xffffffffffffffff,0x1fffffffffffffff]).toNat=AI:=by
 rw[show ad [2,0,0,0]=((2:Nat):Int) by decide,asX 2 _ (by decide)];decide+kernel
theorem ah9:v5 [0x61b274a0ea0b0,0xd5a5fc8f189d,0x7ef5e9cbd0c60,0x78595a6804c9e,765476049583133]=yV:=by decide
theorem aA2:(ad [0xffffffffffffffeb,0xffffffffffffffff,0xffffffffffffffff,0x7fffffffffffffff]).toNat=vp:=by decide
def Z5 (G:Nat->List Int->List Int):eH:=λa r=>e6 qY.res 43 a r/\(match a with|[e,n]=>r.flatten=yJ G e (ad n).toNat 256|_=>True)
theorem aVt:v5 [1,0,0,0,0]=1:=by decide
def xo (G:Nat->List Int->List Int) (p:List Int) (N:Nat):Nat->List Int
 |0=>G 103 []
 |k+1=>bif N/2^(255-k)% 2==1 then G 105 (G 106 ((xo G p N k).take 15)++p)else G 106 ((xo G p N k).take 15)
def uE (G:Nat->List Int->List Int) (p:List Int) (N:Nat):Nat->List Int
 |0=>G 121 []
 |k+1=>bif N/2^(255-k)% 2==1 then G 122 (G 122 (uE G p N k++uE G p N k)++p)else G 122 (uE G p N k++uE G p N k)
def Z3 (G:Nat->List Int->List Int):eH:=λa r=>e6 pa.res 107 a r/\(match a with|[x,y,z,t,k]=>r.flatten=xo G [x,y,z,t].flatten (nb k).toNat 256|_=>True)
def Z4 (G:Nat->List Int->List Int):eH:=λa r=>e6 qZ.res 123 a r/\(match a with|[k,x,y,z]=>r.flatten=uE G [x,y,z].flatten (nb k).toNat 256|_=>True)
theorem ay8:aX [uz]=aT 0 0xfffffffffffff 5++(aT 0 0xfffffffffffff 5++(aT 0 0xfffffffffffff 5++(aT 0 0xfffffffffffff 5++[]))):=rfl
theorem ay9:aX [uz,.bool]=aT 0 0xfffffffffffff 5++(aT 0 0xfffffffffffff 5++(aT 0 0xfffffffffffff 5++(aT 0 0xfffffffffffff 5++[(0,1)]))):=rfl
theorem aza:aX [AF]=aT 0 0xffffffffffffffff 4++(aT 0 0xffffffffffffffff 4++(aT 0 0xffffffffffffffff 4++[])):=rfl
theorem amj:aX [gK,qJ]=aT 0 255 32++[(0,1)]:=rfl
theorem IA {a b c d:List Int} (ha:ay (aT 0 0xfffffffffffff 5) a) (hb:ay (aT 0 0xfffffffffffff 5) b) (hc:ay (aT 0 0xfffffffffffff 5) c) (hd:ay (aT 0 0xfffffffffffff 5) d):ay (aX [uz]) [a,b,c,d].flatten:=by
 rw[ay8];exact oC ha (oC hb (oC hc (k0 hd)))
theorem PD {a b c d:List Int} {k:Int} (ha:ay (aT 0 0xfffffffffffff 5) a) (hb:ay (aT 0 0xfffffffffffff 5) b) (hc:ay (aT 0 0xfffffffffffff 5) c) (hd:ay (aT 0 0xfffffffffffff 5) d) (ag:0<=k/\k<=1):ay (aX [uz,.bool]) [a,b,c,d,[k]].flatten:=by
 rw[ay9];exact oC ha (oC hb (oC hc (oC hd ⟨ag.1,ag.2,trivial⟩)))
theorem aeC {a b c:List Int} (ha:ay (aT 0 0xffffffffffffffff 4) a) (hb:ay (aT 0 0xffffffffffffffff 4) b) (hc:ay (aT 0 0xffffffffffffffff 4) c):ay (aX [AF]) [a,b,c].flatten:=by
 rw[aza];exact oC ha (oC hb (k0 hc))
theorem Lm {a:List Int} {k:Int} (ha:ay (aT 0 255 32) a) (ag:0<=k/\k<=1):ay (aX [gK,qJ]) [a,[k]].flatten:=by
 rw[amj];exact oC ha ⟨ag.1,ag.2,trivial⟩
theorem yp:ay (aT 0 0xfffffffffffff 5) [0,0,0,0,0]:=by simp[aT,ay]
theorem aGM:ay (aT 0 0xfffffffffffff 5) [1,0,0,0,0]:=by simp[aT,ay]
theorem aGN:ay (aT 0 0xffffffffffffffff 4) [0,0,0,0]:=by simp[aT,ay]
theorem aqt:ay (aT 0 0xffffffffffffffff 4) [1,0,0,0]:=by simp[aT,ay]
theorem aqv:ay (aT 0 255 32) (dw 32 0):=by simp[aT,ay,dw]
theorem asC:v5 [929955233495203,466365720129213,0x5e7a26001c029,0x739c663a03cbb,0x52036cee2b6ff]=dQ:=by decide
end Go.Fd
