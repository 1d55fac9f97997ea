/- A contract out of a tree. -/
import Derived.Test.YtponpidccjmlnaaGreatDoorPab
import Derived.Laws.Externs
import Derived.ChangeMaps5
import Derived.ChangeSame
import Derived.OpenShut
import Derived.Handed
import Derived.ProofKit
import Derived.LaidMore
import Derived.Stop.Joined
import Derived.HandedShaped
import Derived.SizedLaws
import Derived.Carry
import Derived.RangeFuncOwn
import Derived.RangeFuncLeaves
import Derived.KernelRfl
import Derived.Test.YtponpidccjmlnaaGreatDoorPaa
open Array renaming replicate->uG,eq_empty_of_size_eq_zero->wy
open Bool renaming and_eq_true->aS,not_eq_true'->gW,false_eq_true->qb,or_eq_true->sZ
open Function renaming comp->HD
open Go renaming World->ar,Value->aF,TypeId->aX,Program->bH,FuncId->cw,IntKind->dp,Calls->jY,DataW->oc,MemPlace->s3,Ending->wq,Deferred->yu
open Go.ChangeSpec renaming post_blind->aE0,plain->aE2
open Go.DataW renaming weightsEach->L7,weightsAll->L8,weights->L9,trod->Tc,trod_int->acE,TrodAll->ac2,trod_array->azQ,lit->azR,trod_string->aAv
open Go.DataW.Whole renaming of_heap->aEZ
open Go.DataW.agg renaming injEq->aDD
open Go.Extern renaming findNext->LS,find->LU
open Go.Extern.BytealgCompare renaming compare->Tv,cmp->ac1
open Go.Extern.BytealgIndexByte renaming indexByte->Tu
open Go.Fence renaming wide->Be
open Go.Frame renaming enter->aAy
open Go.Input renaming okWide->aAx
open Go.Op renaming bytesLess->dy
open Go.OpenSpec renaming ofChange->Tw
open Go.Value renaming int->s4,cells->Ba,okWide->HW,slice->L3,bool->azO,agg->aAw
open Go.World renaming cell?->jW,putObj_heap_other->ta,frozen?->uH,putObj_heap_same->wA,putObj_size->Ty,alloc_heap_new->aAC
open Go.World.Extends renaming refl->oi,drew->LO
open Int renaming le_refl->bX,lt_or_le->jX,le_trans->oe,mul_comm->uI,mul_add->HE,ediv_eq_iff_of_pos->LR,toNat_of_nonneg->aAD
open List renaming getD->ae,map_cons->cI,range->cU,mem_cons_of_mem->dn,replicate->du,length_cons->dv,length_append->dN,mem_of_getElem?->eh,map_nil->eo,map_append->ft,length_nil->fM,map_congr_left->h8,append_nil->h9,take_of_length_le->jd,append_assoc->je,nil_append->jr,getElem?_eq_getElem->kg,map_map->k7,length_map->k8,length->lN,length_take->m8,take_append_drop->oj,mem_cons->oT,getElem?_set->oU,zipWith->pA,flatMap_cons->qa,length_drop->q2,getD_cons_zero->rN,getElem?_cons_zero->rQ,mem_append->rU,all_eq_true->sY,flatten_cons->s9,replicate_succ->uO,cons_append->wu,map_take->yr,map_drop->ys,not_mem_nil->D8,map_id->D9,getD_cons_succ->Ea,mem_of_find?_eq_some->Ed,drop_left->Ee,mem_cons_self->Ef,drop_of_length_le->HA,drop_drop->HP,mem_or_eq_of_mem_set->HS,zipWith_cons_cons->LQ,take_length->S9,getElem?_eq_none->Tl,find?_cons->Tt,mapM_cons->acD,range_succ_eq_map->ac0,find?_map->aAu
open List.cons renaming injEq->hX
open Nat renaming beq->aG,le_refl->br,ble->bB,eq_of_beq_eq_true->bG,blt->cf,le_of_ble_eq_true->eC,le_trans->iL,add_zero->mv,zero_add->pB,succ_mul->s6,lt_of_lt_of_le->wo,beq_refl->ym,pow_succ->yo,mul_comm->yp,le_add_right->Eb,mul_one->Eg,mul_le_mul_left->LX
open Option renaming getD_some->rP
open Option.some renaming injEq->aQ,inj->hZ
open Prod.mk renaming injEq->cA
open Pure renaming pure->A7
open UInt8 renaming ofNat->mu,toNat_inj->S2
set_option linter.unusedVariables false
set_option linter.unusedSimpArgs false
namespace Go.bo
open M
theorem Io:∀{b:List (Int×Int)} {P Q:List Int->Prop},(∀rs,P rs->Q rs)->nJ b P->nJ b Q
 |[],_,_,h,hp=>h _ hp
 |(l,u)::b,P,Q,h,hp=>λr h1 h2=>Io (b:=b) (P:=λrs=>P (r::rs)) (Q:=λrs=>Q (r::rs)) (λrs=>h (r::rs)) (hp r h1 h2)
theorem tj:∀{b:List (Int×Int)} {P:List Int->Prop},(∀rs,aV b rs->P rs)->nJ b P
 |[],_,h=>h [] trivial
 |(l,u)::b,P,h=>λr h1 h2=>tj (b:=b) (P:=λrs=>P (r::rs)) λrs hi=>h (r::rs) ⟨h1,h2,hi⟩
theorem iQ {S:Nat->List Int->List Int->Prop} {L Vd:V->Env->Prop} (h:∀v ρ,L v ρ->Vd v ρ):∀(t:T) (G:dT) (ρ:Env),t.holds S L G ρ->t.holds S Vd G ρ
 | .stuck,_,_,ai=>ai
 | .leaf v,_,ρ,ai=>h v ρ ai
 | .div n x d lo hi r,G,ρ,ai=>λq h1 h2 h3 h4=>iQ h r G _ (ai q h1 h2 h3 h4)
 | .mul n x y lo hi r,G,ρ,ai=>λq h1 h2 h3=>iQ h r G _ (ai q h1 h2 h3)
 | .bit n op k x y r,G,ρ,ai=>λq h1 h2 h3=>iQ h r G _ (ai q h1 h2 h3)
 | .shr n x y lo hi r,G,ρ,ai=>λq h1 h2 h3=>iQ h r G _ (ai q h1 h2 h3)
 | .qP n cs aU lo hi r,G,ρ,ai=>λq h1 h2 h3=>iQ h r G _ (ai q h1 h2 h3)
 | .nM b t e,G,ρ,ai=>⟨λhb=>iQ h t G ρ (ai.1 hb),λhb=>iQ h e G ρ (ai.2 hb)⟩
 | .call id args n bds r,G,ρ,ai=>Io (λrs hr hs=>iQ h r G _ (hr hs)) ai
 | .loop iU init n bds r,G,ρ,ai=>by
  obtain⟨I,jZ,h1,h2⟩:=ai
  exact⟨I,jZ,h1,Io (λzs hz hI=>iQ h r _ _ (hz hI)) h2⟩
 | .again iU vals,G,ρ,ai=>ai
 | .both x y,G,ρ,ai=>⟨iQ h x G ρ ai.1,iQ h y G ρ ai.2⟩
 | .fn n op args lo hi r,G,ρ,ai=>λq h1 h2 h3=>iQ h r G _ (ai q h1 h2 h3)
 | .nO op args r,G,ρ,ai=>⟨ai.1,iQ h r G ρ ai.2⟩
 | .p7 n lo hi r,G,ρ,ai=>λz h1 h2=>iQ h r G _ (ai z h1 h2)
 | .nat n r,G,ρ,ai=>λz h1=>iQ h r G _ (ai z h1)
 | .qi op args r,G,ρ,ai=>λh1=>iQ h r G ρ (ai h1)
 | .ind n b r,G,ρ,ai=>λz h1 h2 h3=>iQ h r G _ (ai z h1 h2 h3)
def T.plain:T->Bool
 |stuck=>true
 |leaf _=>true
 |fn _ _ _ _ _ r|nO _ _ r|ind _ _ r|div _ _ _ _ _ r|mul _ _ _ _ _ r|bit _ _ _ _ _ r|shr _ _ _ _ _ r|qP _ _ _ _ _ r|call _ _ _ _ r=>r.plain
 |nM _ t e=>t.plain&&e.plain
 |loop .. =>false
 |again .. =>false
 |both .. =>false
 |p7 .. =>false
 |nat .. =>false
 |qi .. =>false
def Path (S:Nat->List Int->List Int->Prop):T->Env->V->Env->Prop
 | .stuck,_,_,_=>False
 | .leaf v,ρ,v',ah=>v'=v/\ah=ρ
 | .div n x d lo hi r,ρ,v,ah=>∃q,0<=x.den ρ-d*q/\x.den ρ-d*q<d/\Path S r (c6 ρ n q) v ah
 | .mul n x y lo hi r,ρ,v,ah=>Path S r (c6 ρ n (x.den ρ*y.den ρ)) v ah
 | .bit n op k x y r,ρ,v,ah=>Path S r (c6 ρ n (cD op k (x.den ρ) (y.den ρ))) v ah
 | .shr n x y lo hi r,ρ,v,ah=>Path S r (c6 ρ n (x.den ρ/2^(y.den ρ).toNat)) v ah
 | .qP n cs aU lo hi r,ρ,v,ah=>Path S r (c6 ρ n ((cs.map (·.den ρ)).getD (aU.den ρ).toNat 0)) v ah
 | .nM b t e,ρ,v,ah=>(b.den ρ=true/\Path S t ρ v ah)∨(b.den ρ=false/\Path S e ρ v ah)
 | .call id args n bds r,ρ,v,ah=>∃rs,S id (args.map (·.den ρ)) rs/\Path S r (bL ρ n rs) v ah
 | .loop ..,_,_,_=>False
 | .again ..,_,_,_=>False
 | .both ..,_,_,_=>False
 | .p7 ..,_,_,_=>False
 | .nat ..,_,_,_=>False
 | .qi ..,_,_,_=>False
 | .ind n b r,ρ,v,ah=>Path S r (c6 ρ n (cond (b.den ρ) 1 0)) v ah
 | .fn n op args lo hi r,ρ,v,ah=>Path S r (c6 ρ n (au op (args.map (·.den ρ)))) v ah
 | .nO op args r,ρ,v,ah=>Path S r ρ v ah
theorem rp {S:Nat->List Int->List Int->Prop} {L:V->Env->Prop}:∀(t:T) (G:dT) (ρ:Env),t.plain=true->t.holds S L G ρ->t.holds S (λv ah=>L v ah/\Path S t ρ v ah) G ρ
 | .stuck,_,_,_,ai=>ai
 | .leaf v,_,ρ,_,ai=>⟨ai,rfl,rfl⟩
 | .div n x d lo hi r,G,ρ,hp,ai=>λq h1 h2 h3 h4=>iQ (λv ah h=>⟨h.1,q,h3,h4,h.2⟩) r G _ (rp r G _ hp (ai q h1 h2 h3 h4))
 | .mul n x y lo hi r,G,ρ,hp,ai=>λq h1 h2 h3=>iQ (λv ah h=>⟨h.1,by subst h3;exact h.2⟩) r G _ (rp r G _ hp (ai q h1 h2 h3))
 | .bit n op k x y r,G,ρ,hp,ai=>λq h1 h2 h3=>iQ (λv ah h=>⟨h.1,by subst h3;exact h.2⟩) r G _ (rp r G _ hp (ai q h1 h2 h3))
 | .shr n x y lo hi r,G,ρ,hp,ai=>λq h1 h2 h3=>iQ (λv ah h=>⟨h.1,by subst h3;exact h.2⟩) r G _ (rp r G _ hp (ai q h1 h2 h3))
 | .qP n cs aU lo hi r,G,ρ,hp,ai=>λq h1 h2 h3=>iQ (λv ah h=>⟨h.1,by subst h3;exact h.2⟩) r G _ (rp r G _ hp (ai q h1 h2 h3))
 | .nM b t e,G,ρ,hp,ai=>by
  simp only[T.plain,aS]at hp
  exact⟨λhb=>iQ (λv ah h=>⟨h.1,.inl ⟨hb,h.2⟩⟩) t G ρ (rp t G ρ hp.1 (ai.1 hb)),λhb=>iQ (λv ah h=>⟨h.1,.inr ⟨hb,h.2⟩⟩) e G ρ (rp e G ρ hp.2 (ai.2 hb))⟩
 | .call id args n bds r,G,ρ,hp,ai=>Io (λrs hr hs=>iQ (λv ah h=>⟨h.1,rs,hs,h.2⟩) r G _ (rp r G _ hp (hr hs))) ai
 | .loop ..,_,_,hp,_=>by simp[T.plain]at hp
 | .again ..,_,_,hp,_=>by simp[T.plain]at hp
 | .both ..,_,_,hp,_=>by simp[T.plain]at hp
 | .p7 ..,_,_,hp,_=>by simp[T.plain]at hp
 | .nat ..,_,_,hp,_=>by simp[T.plain]at hp
 | .qi ..,_,_,hp,_=>by simp[T.plain]at hp
 | .ind n b r,G,ρ,hp,ai=>λq h1 h2 h3=>iQ (λv ah h=>⟨h.1,by
  have:q=cond (b.den ρ) 1 0:=by rw[h3];by_cases hq:q=1<;>simp[hq]<;>omega
  rw[this]at h;exact h.2⟩) r G _ (rp r G _ hp (ai q h1 h2 h3))
 | .fn n op args lo hi r,G,ρ,hp,ai=>λq h1 h2 h3=>iQ (λv ah h=>⟨h.1,by subst h3;exact h.2⟩) r G _ (rp r G _ hp (ai q h1 h2 h3))
 | .nO op args r,G,ρ,hp,ai=>⟨ai.1,iQ (λv ah h=>⟨h.1,h.2⟩) r G ρ (rp r G ρ hp ai.2)⟩
theorem aty {x d q q':Int} (h1:0<=x-d*q) (h2:x-d*q<d) (h3:0<=x-d*q') (h4:x-d*q'<d):q=q':=by
 have hd:0<d:=by omega
 have e1:x/d=q:=by
  rw[LR hd];constructor<;>rw[uI]<;>(try rw[HE])<;>omega
 have e2:x/d=q':=by
  rw[LR hd];constructor<;>rw[uI]<;>(try rw[HE])<;>omega
 omega
theorem rB {S:Nat->List Int->List Int->Prop} (cL:∀id a rs ey,S id a rs->S id a ey->rs=ey):∀(t:T) (ρ:Env) {v v':V} {aE bT:Env},Path S t ρ v aE->Path S t ρ v' bT->v=v'/\aE=bT
 | .stuck,_,_,_,_,_,h,_=>h.elim
 | .leaf v,_,_,_,_,_,h,h'=>⟨h.1.trans h'.1.symm,h.2.trans h'.2.symm⟩
 | .div n x d lo hi r,ρ,_,_,_,_,⟨q,a1,a2,a3⟩,⟨q',b1,b2,b3⟩=>by
  have:=aty a1 a2 b1 b2
  subst this
  exact rB cL r _ a3 b3
 | .mul n x y lo hi r,ρ,_,_,_,_,h,h'=>rB cL r _ h h'
 | .bit n op k x y r,ρ,_,_,_,_,h,h'=>rB cL r _ h h'
 | .shr n x y lo hi r,ρ,_,_,_,_,h,h'=>rB cL r _ h h'
 | .qP n cs aU lo hi r,ρ,_,_,_,_,h,h'=>rB cL r _ h h'
 | .nM b t e,ρ,_,_,_,_,h,h'=>by
  rcases h with⟨h1,h2⟩|⟨h1,h2⟩<;>rcases h' with⟨h3,h4⟩|⟨h3,h4⟩
  ·exact rB cL t ρ h2 h4
  ·rw[h1]at h3;cases h3
  ·rw[h1]at h3;cases h3
  ·exact rB cL e ρ h2 h4
 | .call id args n bds r,ρ,_,_,_,_,⟨rs,a1,a2⟩,⟨ey,b1,b2⟩=>by
  have:=cL _ _ _ _ a1 b1
  subst this
  exact rB cL r _ a2 b2
 | .loop ..,_,_,_,_,_,h,_=>h.elim
 | .again ..,_,_,_,_,_,h,_=>h.elim
 | .both ..,_,_,_,_,_,h,_=>h.elim
 | .p7 ..,_,_,_,_,_,h,_=>h.elim
 | .nat ..,_,_,_,_,_,h,_=>h.elim
 | .qi ..,_,_,_,_,_,h,_=>h.elim
 | .ind n b r,ρ,_,_,_,_,h,h'=>rB cL r _ h h'
 | .fn n op args lo hi r,ρ,_,_,_,_,h,h'=>rB cL r _ h h'
 | .nO op args r,ρ,_,_,_,_,h,h'=>rB cL r _ h h'
inductive O where
 |l (x:aa)
 |b (x:bd)
def O.den (ρ:Env):O->Int
 |l x=>x.den ρ
 |b x=>cond (x.den ρ) 1 0
def iG (k:dp):List A->Option (List O)
 |[]=>some []
 | .int a6 x::r=>cond (decide (k=a6)) (match iG k r with|some l=>some (.l x.l::l)|none=>none) none
 |_::_=>none
def aB.out:aB->A->Option O
 | .int k _ _,.int a6 x=>cond (decide (k=a6)) (some (.l x.l)) none
 | .str,.str l=>some (.l l)
 | .bool,.bool e=>some (.b e)
 |_,_=>none
def n3:List aB->List A->Option (List O)
 |[],[]=>some []
 |c::d,a::r=>match c.out a,n3 d r with|some o,some l=>some (o::l)|_,_=>none
 |_,_=>none
def qL:D->W->Option (List O)
 | .int k _ _,.one (.int a6 x)=>cond (decide (k=a6)) (some [.l x.l]) none
 | .bool,.one (.bool x)=>some [.b x]
 | .agg k n _ _,.agg l=>cond (aG l.length n) (iG k l) none
 | .str,.one (.str l)=>some [.l l]
 | .mix d,.agg l=>n3 d l
 |_,_=>none
def xT:List D->List W->Option (List O)
 |[],[]=>some []
 |d::r,w::s=>match qL d w,xT r s with|some a,some b=>some (a++b)|_,_=>none
 |_,_=>none
def outs (ds:List D):V->Option (List O)
 | .w u=>match ds with|[d]=>qL d u|_=>none
 | .fY l=>match ds with|[_]=>none|_=>xT ds l
 |_=>none
def nG (ds:List D) (K:List Int->Prop) (v:V) (ρ:Env):Prop:=
 match outs ds v with
 |some os=>K (os.map (O.den ρ))
 |none=>False
theorem aap {ρ:Env} {m:Nat->Nat} {k:dp}:∀{l:List A} {os:List O},iG k l=some os->os.length=l.length/\l.map (A.den ρ m)=(os.map (O.den ρ)).map (.int k)
 |[],os,h=>by simp[iG]at h;subst h;exact⟨rfl,rfl⟩
 | .int a6 x::r,os,h=>by
  simp only[iG]at h
  by_cases hk:k=a6
  ·simp only[hk,decide_true,cond_true]at h
   cases hr:iG a6 r with
   |none=>simp[hr]at h
   |some o=>
    simp only[hr,aQ]at h
    subst h
    subst hk
    obtain⟨h1,h2⟩:=aap (ρ:=ρ) (m:=m) hr
    exact⟨by simp[h1],by simp only[cI,h2,A.den,O.den]⟩
  ·simp[hk]at h
 | .bool _::_,_,h=>by simp[iG]at h
 | .ptr .. ::_,_,h=>by simp[iG]at h
 | .mU .. ::_,_,h=>by simp[iG]at h
 | .gptr .. ::_,_,h=>by simp[iG]at h
 | .slc .. ::_,_,h=>by simp[iG]at h
 | .con _::_,_,h=>by simp[iG]at h
 | .str _::_,_,h=>by simp[iG]at h
theorem aB.arw {ρ:Env} {m:Nat->Nat} {c:aB} {a:A} {o:O} (h:c.out a=some o):a.den ρ m=c.val (o.den ρ):=by
 unfold aB.out at h
 split at h
 ·rename_i k lo hi a6 x
  by_cases hk:k=a6
  ·subst hk
   simp only[decide_true,cond_true,aQ]at h
   subst h;rfl
  ·simp[hk]at h
 ·simp only[aQ]at h;subst h;rfl
 ·rename_i e
  simp only[aQ]at h;subst h
  have hb:∀b:Bool,azO b=azO (decide ((cond b 1 0:Int)=1)):=by intro b;cases b<;>rfl
  exact hb (e.den ρ)
 ·cases h
theorem aas {ρ:Env} {m:Nat->Nat}:∀{d:List aB} {l:List A} {os:List O},n3 d l=some os->os.length=d.length/\l.map (A.den ρ m)=pA aB.val d (os.map (O.den ρ))
 |[],[],os,h=>by simp[n3]at h;subst h;exact⟨rfl,rfl⟩
 |c::d,a::r,os,h=>by
  simp only[n3]at h
  cases h1:c.out a with
  |none=>simp[h1]at h
  |some o=>
   cases hr:n3 d r with
   |none=>simp[h1,hr]at h
   |some l=>
    simp only[h1,hr,aQ]at h
    subst h
    obtain⟨p1,bJ⟩:=aas (ρ:=ρ) (m:=m) hr
    exact⟨by simp[p1],by simp only[cI,bJ,aB.arw h1,LQ]⟩
 |[],_::_,_,h=>by simp[n3]at h
 |_::_,[],_,h=>by simp[n3]at h
theorem Rd {ρ:Env} {m:Nat->Nat} {d:D} {u:W} {os:List O} (h:qL d u=some os):os.length=d.num/\∀zs,d.val (os.map (O.den ρ)++zs)=u.den ρ m:=by
 unfold qL at h
 split at h
 ·rename_i k _ _ a6 x
  by_cases hk:k=a6
  ·subst hk
   simp only[decide_true,cond_true,aQ]at h
   subst h
   exact⟨rfl,λzs=>by simp[D.val,W.den,A.den,O.den]⟩
  ·simp[hk]at h
 ·rename_i x
  simp only[aQ]at h
  subst h
  exact⟨rfl,λzs=>by cases hx:x.den ρ<;>simp[D.val,W.den,A.den,O.den,hx]⟩
 ·rename_i k n' _ _ l
  cases hc:aG l.length n' with
  |false=>simp[hc]at h
  |true=>
   simp only[hc,cond_true]at h
   have hl:=bG hc
   subst hl
   obtain⟨h1,h2⟩:=aap (ρ:=ρ) (m:=m) h
   exact⟨h1,λzs=>by simp only[D.val,W.den,h2];rw[List.take_append_of_le_length (by simp[h1]),jd (by simp[h1])]⟩
 ·simp only[aQ]at h;subst h
  exact⟨rfl,λzs=>rfl⟩
 ·rename_i d l
  obtain⟨h1,h2⟩:=aas (ρ:=ρ) (m:=m) h
  refine⟨h1,λzs=>?_⟩
  simp only[D.val,W.den,h2]
  congr 2
  have key:∀(a:List aB) (b c:List Int),b.length=a.length->pA aB.val a (b++c)=pA aB.val a b:=by
   intro a
   induction a with
   |nil=>intro b c _;simp
   |cons p a ih=>
    intro b c hb
    cases b with
    |nil=>simp at hb
    |cons z b=>simp[ih b c (by simpa using hb)]
  exact key _ _ _ (by simp[h1])
 ·cases h
theorem aaq {ρ:Env} {m:Nat->Nat}:∀{ds:List D} {l:List W} {os:List O},xT ds l=some os->m2 ds (os.map (O.den ρ))=l.map (W.den ρ m)
 |[],[],os,h=>by simp[xT]at h;subst h;rfl
 |d::ds,u::l,os,h=>by
  simp only[xT]at h
  cases h1:qL d u with
  |none=>simp[h1]at h
  |some a=>
   cases h2:xT ds l with
   |none=>simp[h1,h2]at h
   |some b=>
    simp only[h1,h2,aQ]at h
    subst h
    obtain⟨p1,bJ⟩:=Rd (ρ:=ρ) (m:=m) h1
    rw[ft]
    simp only[m2,bJ,cI]
    rw[show d.num=(a.map (O.den ρ)).length by simp[p1],Ee,aaq h2]
 |[],_::_,_,h=>by simp[xT]at h
 |_::_,[],_,h=>by simp[xT]at h
theorem aya (ds:List D):∀zs,(m2 ds zs).length=ds.length:=by
 induction ds with
 |nil=>intro zs;rfl
 |cons d r ih=>intro zs;simp[m2,ih]
theorem yM {ds:List D} {K:List Int->Prop} {v:V} {ρ:Env} {m:Nat->Nat} {val:aF} (h:nG ds K v ρ) (hr:v.rel ρ m val):∃rs,K rs/\val=fb ds rs:=by
 unfold nG at h
 cases ho:outs ds v with
 |none=>simp[ho]at h
 |some os=>
  simp only[ho]at h
  refine⟨_,h,?_⟩
  unfold outs at ho
  cases v with
  |any=>cases ho
  |n2 _ _ _=>cases ho
  |oy _ _=>cases ho
  |w u=>
   simp only at ho
   split at ho
   ·rename_i d
    obtain⟨p1,bJ⟩:=Rd (ρ:=ρ) (m:=m) ho
    simp only[V.rel]at hr
    have:=bJ []
    rw[h9]at this
    simp[fb,m2,this,hr]
   ·cases ho
  |fY l=>
   simp only at ho
   split at ho
   ·cases ho
   ·rename_i hne
    have:=aaq (ρ:=ρ) (m:=m) ho
    simp only[V.rel]at hr
    unfold fb
    split
    ·rename_i x heq
     exfalso
     have hl:=aya ds (os.map (O.den ρ))
     rw[heq]at hl
     match ds,hl with
     |[d],_=>exact hne d rfl
    ·rw[hr,this]
noncomputable def aA1 (cons:List bu) (apo aey auY:cw):eI:=λf=>
 cond (aG f apo) (some apm) <| cond (aG f aey) (some aew) <| cond (aG f auY) (some auX) <|
 match cons.find? (λc=>aG f c.f)with
 |some c=>some c.M
 |none=>none
section
variable {S:Nat->List Int->List Int->Prop} {P:bH} {gl:ei} {wb:ar}
noncomputable def IH (cons:List bu):eI:=λf=>
 match cons.filter (λc=>aG f c.f)with
 |[]=>none
 |l=>some λbl vs n k=>match l.find? (λc=>(qo c.args vs).isSome)with
  |some c=>c.M bl vs n k
  |none=>match l with
   |c::_=>c.M bl vs n k
   |[]=> .stuck
theorem V5 {w0:dK} {cons:List bu} (hc:∀c∈cons,c.dh P w0.b (S c.id)):fS S P gl w0 (IH cons):=by
 intro f g qz L n ρ m bl vs xs h1 h2 h3 h4
 unfold IH at qz
 split at qz
 ·cases qz
 ·rename_i l hl
  simp only[aQ]at qz
  subst qz
  intro G k hk
  simp only at hk
  split at hk
  ·rename_i c OX
   have cN:=List.mem_filter.1 (Ed OX)
   have FR:=bG cN.2
   subst FR
   exact bu.snd (hc c cN.1) (λ_ _ h=>h) L n ρ m bl vs xs h3 h4 G k hk
  ·split at hk
   ·rename_i c r hl2
    have cN:=List.mem_filter.1 (show c∈cons.filter (λc=>aG f c.f) from by rw[hl2];exact Ef (a:=c) (l:=r))
    have FR:=bG cN.2
    subst FR
    exact bu.snd (hc c cN.1) (λ_ _ h=>h) L n ρ m bl vs xs h3 h4 G k hk
   ·exact hk.elim
theorem Calls.some {f:cw} {args:Array aF} {w:ar} {R:wq->ar->Prop} (h:jY P f args w R):∃e w',R e w':=by
 obtain⟨e,w',wY,h1,_⟩:=h []
 exact⟨e,w',h1⟩
noncomputable def bu.tree (P:bH) (gl:ei) (cal:eI) (li:cw->Nat->Option c7) (rounds d:Nat) (c:bu):T:=
 II P gl cal li rounds d c.f (dC c.args).length ((sQ 0 c.args).map V.w) [] λ_ v _=> .leaf v
theorem Mx {ρ:Env} {m:Nat->Nat}:∀(l:List W),eD ρ m (l.map V.w) (l.map (W.den ρ m))
 |[]=>trivial
 |_::r=>⟨rfl,Mx r⟩
theorem bu.calls {c:bu} {cal:eI} {li:cw->Nat->Option c7} {rounds d:Nat} {L:V->Env->Prop} (hm:P.follows .mixedOrders=true) (cQ:∀r ex ro,fS S P gl ⟨wb,r,ex,ro,[]⟩ cal) (hg:fg gl ⟨wb,wb,λ_=>False,λ_=>False,[]⟩) {zs:List Int} (hz:aV (dC c.args) zs)
 (ht:(c.tree P gl cal li rounds d).holds S L (λ_ _=>False) (bL (λ_=>0) 0 zs)) (w:ar) (hw:wb.Extends w):
 jY P c.f (m2 c.args zs).toArray w λe w'=>∃v ah m val,e= .returned val/\v.rel ah m val/\L v ah/\w.Extends w':=by
 have hs:=Lh (m:=λ_=>0) (nb:=0) (N:=(dC c.args).length) c.args hz (gJ.bL (λ_=>0) 0 zs) (by omega)
 have:=V7 (L:=L) (b:=wb) (w:=w) hm (cQ w _ _) hg c.f _ _ _ ((sQ 0 c.args).map (W.den (bL (λ_=>0) 0 zs) λ_=>0)) hw (λv hv=>by
  obtain⟨u,hu,rfl⟩:=List.mem_map.1 hv
  exact hs.1 u hu) (Mx _) ht
 rw[hs.2]at this
 refine this.mono λe w' ⟨v,ah,m,val,nb,h1,h2,_,h3,h4⟩=>⟨v,ah,m,val,h1,h2,h3,h4⟩
end
end Go.bo
namespace Go.bo
open M
structure aAS where
 f:cw
 id:Nat
 k:dp
 N:Nat
 lo:Int
 hi:Int
 ty:aX
 off:Nat
 len:Nat
 cap:Nat
 args:List D
 res:List D
section
variable {S:Nat->List Int->List Int->Prop} {P:bH} {gl:ei} {w0:dK}
end
end Go.bo
namespace Go.bo
theorem aex {P:bH} {f:cw} {fn:Func} (hf:P.funcs[f]?=some fn) (Ga:(fn.name== "runtime.NumGoroutine")=false) (hb:fn.body.isNone=true) (hn:LS fn=none) (he:LU fn=some add64Entry):TD P f:=by
 intro x y c hx hy hc hc1 w
 refine .inl ?_
 rw[run_callFunc_extern hf Ga hb hn he,run_add64 x y c hx hy hc hc1]
 rfl
def tA (P:bH) (f:cw):Bool:=match P.funcs[f]? with
 |some fn=> !(fn.name== "runtime.NumGoroutine")&&fn.body.isSome
 |none=>false
theorem enters {P:bH} {f:cw} (h:tA P f=true) (args:Array aF) (w:ar):(callFunc f args).run P w= .ok (.enter f args) w:=by
 unfold tA at h
 cases hf:P.funcs[f]? with
 |none=>simp[hf]at h
 |some fn=>
  simp only[hf,aS,gW]at h
  have h1:fn.name≠ "runtime.NumGoroutine" :=by simpa using h.1
  obtain⟨c,hc⟩:=Option.isSome_iff_exists.1 h.2
  simp[callFunc,hf,h1,hc,Sem.run]
section
variable {S:Nat->List Int->List Int->Prop} {P:bH} {gl:ei} {wb:ar}
end
def QY (K:List Int->List Int->Prop):Prop:=
 ∀z0:Int,0<=z0->z0<=18446744073709551615->
 ∀ag:Int,0<=ag->ag<=18446744073709551615->
 ∀z2:Int,0<=z2->z2<=4294967295->0<=((1*z0+0)+0)-4294967296*z2->((1*z0+0)+0)-4294967296*z2<4294967296->
 ∀z3:Int,0<=z3->z3<=4294967295->0<=((1*z0+0)+0)-4294967296*z3->((1*z0+0)+0)-4294967296*z3<4294967296->
 ∀z4:Int,0<=z4->z4<=4294967295->0<=((1*ag+0)+0)-4294967296*z4->((1*ag+0)+0)-4294967296*z4<4294967296->
 ∀z5:Int,0<=z5->z5<=4294967295->0<=((1*ag+0)+0)-4294967296*z5->((1*ag+0)+0)-4294967296*z5<4294967296->
 ∀z6:Int,0<=z6->z6<=18446744065119617025->z6=((1*z0+((-4294967296)*z2+0))+0)*((1*ag+((-4294967296)*z4+0))+0)->
 ∀z7:Int,0<=z7->z7<=18446744065119617025->z7=((1*z3+0)+0)*((1*ag+((-4294967296)*z4+0))+0)->
 ∀z8:Int,0<=z8->z8<=4294967294->0<=((1*z6+0)+0)-4294967296*z8->((1*z6+0)+0)-4294967296*z8<4294967296->
 ∀z9:Int,0<=z9->z9<=4294967294->0<=((1*z7+(1*z8+0))+0)-4294967296*z9->((1*z7+(1*z8+0))+0)-4294967296*z9<4294967296->
 ∀aj:Int,0<=aj->aj<=4294967294->0<=((1*z7+(1*z8+0))+0)-4294967296*aj->((1*z7+(1*z8+0))+0)-4294967296*aj<4294967296->
 ∀ak:Int,0<=ak->ak<=18446744065119617025->ak=((1*z0+((-4294967296)*z2+0))+0)*((1*z5+0)+0)->
 ∀z12:Int,0<=z12->z12<=18446744065119617025->z12=((1*z3+0)+0)*((1*z5+0)+0)->
 ∀ad:Int,0<=ad->ad<=4294967295->0<=((1*z7+(1*z8+((-4294967296)*z9+(1*ak+0))))+0)-4294967296*ad->((1*z7+(1*z8+((-4294967296)*z9+(1*ak+0))))+0)-4294967296*ad<4294967296->
 ∀ao:Int,0<=ao->ao<=340282366920938463426481119284349108225->ao=((1*z0+0)+0)*((1*ag+0)+0)->
 ∀az:Int,0<=az->az<=18446744073709551614->0<=((1*ao+0)+0)-18446744073709551616*az->((1*ao+0)+0)-18446744073709551616*az<18446744073709551616->
 K [z0,ag] [((1*aj+(1*z12+(1*ad+0)))+0),((1*ao+((-18446744073709551616)*az+0))+0)]
def wd:D:= .int .u64 0 18446744073709551615
def IG (f:cw):bu:=⟨f,0,[wd,wd],[wd,wd]⟩
theorem aps (x y a b:Int):x*y=(x+(-4294967296)*a)*(y+(-4294967296)*b)+4294967296*(a*(y+(-4294967296)*b)+(x+(-4294967296)*a)*b)+18446744073709551616*(a*b):=by
 grind
theorem mulVC_holds:QY λzs rs=>aV (dC [wd,wd]) rs/\rs=[zs.getD 0 0*zs.getD 1 0/18446744073709551616,zs.getD 0 0*zs.getD 1 0% 18446744073709551616]:=by
 unfold QY
 intro x h1 h2 y h3 h4 a h5 h6 h7 bD di bg b9 cH dw b dj dA e0 gA cp ju lq lr rh p l3 pL jv q ng kD qp c qq jL BZ B0 d Jh tB B1 w5 d' w6 w7 Ji Xj r Xk Xl Oa s B2 ri Ob t pM l4 Jj sc m Xn Xo Jk u Xp Xq Xr Xs
 have e1:di=a:=by omega
 have e2:cp=b:=by omega
 have bN:d'=d:=by omega
 subst e1;subst e2;subst bN
 simp only[Int.one_mul,Int.add_zero]at*
 have:=aps x y di cp
 rw[<-Jk,<-jv,<-qp,<-Oa,<-Ob]at this
 simp only[rN,Ea,<-Jk,dC,wd,D.bds,wu,jr,aV,and_true,hX]
 omega
theorem apn {P:bH} {f:cw} (hm:P.follows .mixedOrders=true) (hf:∀args w,(callFunc f args).run P w= .ok (.enter f args) w)
 (h:∀K,(nJ (dC (IG f).args) λzs=>((IG f).tree P [] (λ_=>none) (λ_ _=>none) 600 6).holds (λ_ _ _=>True) (nG (IG f).res (K zs)) (λ_ _=>False) (bL (λ_=>0) 0 zs))=QY K):Vl P f:=by
 intro x y hx hx1 hy JU w
 have hv:=mulVC_holds
 rw[<-h]at hv
 have cN:aV (dC (IG f).args) [x,y]:=⟨hx,by omega,hy,by omega,trivial⟩
 refine .inr ⟨hf _ _,?_⟩
 have:=bu.calls (wb:=w) hm (λr ex ro f g qz=>by cases qz) (λg cs hg=>by cases hg) cN (lT hv cN) w (oi w)
 refine this.mono λe w' ⟨v,ah,m,val,h1,h2,h3,h4⟩=>?_
 obtain⟨rs,⟨_,hr⟩,hv⟩:=yM h3 h2
 rw[h1,hv,hr]
 exact⟨rfl,h4⟩
end Go.bo
namespace Go.bo
abbrev hh:=List (Nat×Nat)
abbrev gZ:=List (List Int)
def rA:hh->gZ->Nat->Int
 |(s,k)::st,l::aM,i=>cond (bB s i&&cf i (s+k)) (l.getD (i-s) 0) (rA st aM i)
 |_,_,_=>0
def QI:hh->gZ->Prop
 |(_,k)::st,l::aM=>l.length=k/\QI st aM
 |[],[]=>True
 |_,_=>False
def nI (ρ:Env) (st:hh) (aM:gZ):Prop:=QI st aM/\∀i,ρ i=rA st aM i
def BJ (st:hh) (aM:gZ):List (Int×Nat)->Int
 |[]=>0
 |(k,i)::r=>match r with
  |[]=>cond (k==1) (rA st aM i) (k*rA st aM i)
  |_=>cond (k==1) (rA st aM i) (k*rA st aM i)+BJ st aM r
def aa.eS (st:hh) (aM:gZ) (l:aa):Int:=
 match l.ts with
 |[]=>l.c
 |ts=>cond (l.c==0) (BJ st aM ts) (BJ st aM ts+l.c)
theorem Wi {ρ:Env} {st:hh} {aM:gZ} (h:∀i,ρ i=rA st aM i):∀ts,BJ st aM ts=hE ρ ts
 |[]=>rfl
 |(k,i)::[]=>by
  simp only[BJ,hE,<-h i]
  cases hk:(k==1)with
  |true=>have:k=1:=by simpa using hk
         subst this;simp
  |false=>simp
 |(k,i)::t::r=>by
  have ih:=Wi h (t::r)
  rw[BJ,hE,ih,<-h i]
  ·cases hk:(k==1)with
   |true=>have:k=1:=by simpa using hk
          subst this;simp
   |false=>simp
  ·intro hc;cases hc
theorem aa.jg {ρ:Env} {st:hh} {aM:gZ} (h:∀i,ρ i=rA st aM i) (l:aa):l.eS st aM=l.den ρ:=by
 unfold aa.eS aa.den
 cases hl:l.ts with
 |nil=>simp[hE]
 |cons t r=>
  simp only[Wi h]
  cases hc:(l.c==0)with
  |true=>have:l.c=0:=by simpa using hc
         rw[this];simp
  |false=>simp
def y5:hh->gZ->Nat->Nat->Option (List Int)
 |(s,k)::st,l::aM,i,len=>cond (aG s i&&aG k len) (some l) (cond (bB (i+len) s||bB (s+k) i) (y5 st aM i len) none)
 |_,_,_,_=>none
theorem WJ:∀{st:hh} {aM:gZ} {i len:Nat} {l:List Int},y5 st aM i len=some l->QI st aM->l.length=len/\∀j,j<len->rA st aM (i+j)=l.getD j 0
 |[],_,_,_,_,h,_=>by simp[y5]at h
 |_::_,[],_,_,_,h,_=>by simp[y5]at h
 |(s,k)::st,bQ::aM,i,len,l,h,hl=>by
  unfold y5 at h
  cases h1:(aG s i&&aG k len)with
  |true=>
   simp only[h1,cond_true,aQ]at h
   subst h
   simp only[aS]at h1
   have e1:=bG h1.1
   have e2:=bG h1.2
   subst e1;subst e2
   refine⟨hl.1,λj hj=>?_⟩
   unfold rA
   have:(bB s (s+j)&&cf (s+j) (s+k))=true:=by simp[cf];omega
   rw[this,cond_true,Nat.add_sub_cancel_left]
  |false=>
   simp only[h1,cond_false]at h
   cases h2:(bB (i+len) s||bB (s+k) i)with
   |false=>simp[h2]at h
   |true=>
    simp only[h2,cond_true]at h
    obtain⟨g1,g2⟩:=WJ h hl.2
    refine⟨g1,λj hj=>?_⟩
    rw[<-g2 j hj]
    conv=>lhs;unfold rA
    have:(bB s (i+j)&&cf (i+j) (s+k))=false:=by
     simp only[sZ,Nat.ble_eq]at h2
     cases h3:(bB s (i+j)&&cf (i+j) (s+k))with
     |false=>rfl
     |true=>simp[cf]at h3;omega
    rw[this,cond_false]
def GC:Nat->List aa->Bool
 |_,[]=>true
 |i,l::r=>(l.c==0&&(match l.ts with|[(k,j)]=>k==1&&aG i j|_=>false))&&GC (i+1) r
def firstVar:List aa->Nat
 |[]=>0
 |l::_=>match l.ts with|[(_,j)]=>j|_=>0
theorem Zk {ρ:Env}:∀{ls:List aa} {i:Nat},GC i ls=true->∀j,j<ls.length->(ls.map (·.den ρ)).getD j 0=ρ (i+j)
 |[],_,_,j,hj=>by simp at hj
 |l::r,i,h,j,hj=>by
  simp only[GC,aS]at h
  cases j with
  |zero=>
   obtain⟨⟨h1,h2⟩,_⟩:=h
   have hc:l.c=0:=by simpa using h1
   cases hl:l.ts with
   |nil=>simp[hl]at h2
   |cons t s=>
    cases s with
    |cons t' auj=>simp[hl]at h2
    |nil=>
     obtain⟨k,q⟩:=t
     simp only[hl,aS]at h2
     have e1:k=1:=by simpa using h2.1
     have e2:=bG h2.2
     subst e1;subst e2
     simp[aa.den,hl,hE,hc]
  |succ j=>
   have:=Zk (ρ:=ρ) h.2 j (by simpa using hj)
   simp only[cI,Ea]
   rw[this]
   congr 1;omega
def ur (st:hh) (aM:gZ) (ls:List aa):List Int:=
 cond (cf 1 ls.length&&GC (firstVar ls) ls) (match y5 st aM (firstVar ls) ls.length with|some l=>l|none=>ls.map (aa.eS st aM)) (ls.map (aa.eS st aM))
theorem ZG {l bQ:List Int} (hl:l.length=bQ.length) (h:∀j,j<l.length->l.getD j 0=bQ.getD j 0):l=bQ:=by
 apply List.ext_getElem hl
 intro j h1 h2
 have:=h j h1
 simpa [List.getD_eq_getElem?_getD,kg h1,kg h2]using this
theorem K8 {ρ:Env} {st:hh} {aM:gZ} (h:nI ρ st aM) (ls:List aa):ur st aM ls=ls.map (·.den ρ):=by
 have aZ:ls.map (aa.eS st aM)=ls.map (·.den ρ):=h8 λl _=>aa.jg h.2 l
 unfold ur
 cases h1:(cf 1 ls.length&&GC (firstVar ls) ls)with
 |false=>simpa using aZ
 |true=>
  simp only[cond_true]
  simp only[aS]at h1
  cases h2:y5 st aM (firstVar ls) ls.length with
  |none=>exact aZ
  |some l=>
   obtain⟨g1,g2⟩:=WJ h2 h.1
   show l=_
   refine ZG (by simp[g1]) λj hj=>?_
   rw[Zk h1.2 j (by omega),h.2,g2 j (by omega)]
def nf:bd->Option (List aa×List aa)
 | .eq a b=>some ([a],[b])
 | .and (.eq a b) r=>match nf r with|some (x,y)=>some (a::x,b::y)|none=>none
 |_=>none
def bd.eS (st:hh) (aM:gZ):bd->Bool
 |lit b=>b
 |eq a b=>decide (a.eS st aM=b.eS st aM)
 |lt a b=>decide (a.eS st aM<b.eS st aM)
 |le a b=>decide (a.eS st aM<=b.eS st aM)
 |not a=> !a.eS st aM
 |and a b=>match nf (.and a b)with
  |some (x,y)=>decide (ur st aM x=ur st aM y)
  |none=>a.eS st aM&&b.eS st aM
 |iff a b=>a.eS st aM==b.eS st aM
theorem WE {ρ:Env}:∀{b:bd} {x y:List aa},nf b=some (x,y)->b.den ρ=decide (x.map (·.den ρ)=y.map (·.den ρ))
 | .eq a b,x,y,h=>by
  simp only[nf,aQ,cA]at h
  obtain⟨rfl,rfl⟩:=h
  simp[bd.den]
 | .and (.eq a b) r,x,y,h=>by
  simp only[nf]at h
  cases hr:nf r with
  |none=>simp[hr]at h
  |some p=>
   obtain⟨gp,kb⟩:=p
   simp only[hr,aQ,cA]at h
   obtain⟨rfl,rfl⟩:=h
   have ih:=WE (ρ:=ρ) hr
   simp only[bd.den,ih,cI,hX]
   simp
 | .lit _,_,_,h=>by simp[nf]at h
 | .lt _ _,_,_,h=>by simp[nf]at h
 | .le _ _,_,_,h=>by simp[nf]at h
 | .not _,_,_,h=>by simp[nf]at h
 | .iff _ _,_,_,h=>by simp[nf]at h
 | .and (.lit _) _,_,_,h=>by simp[nf]at h
 | .and (.lt _ _) _,_,_,h=>by simp[nf]at h
 | .and (.le _ _) _,_,_,h=>by simp[nf]at h
 | .and (.not _) _,_,_,h=>by simp[nf]at h
 | .and (.and _ _) _,_,_,h=>by simp[nf]at h
 | .and (.iff _ _) _,_,_,h=>by simp[nf]at h
theorem bd.jg {ρ:Env} {st:hh} {aM:gZ} (h:nI ρ st aM):∀b:bd,b.eS st aM=b.den ρ
 |lit _=>rfl
 |eq a b=>by simp only[eS,den,aa.jg h.2]
 |lt a b=>by simp only[eS,den,aa.jg h.2]
 |le a b=>by simp only[eS,den,aa.jg h.2]
 |not a=>by simp only[eS,den,bd.jg h a]
 |and a b=>by
  have e1:=bd.jg h a
  have e2:=bd.jg h b
  unfold eS
  cases hq:nf (.and a b)with
  |none=>simp only[den,e1,e2]
  |some p=>
   obtain⟨x,y⟩:=p
   simp only[WE (ρ:=ρ) hq,K8 h]
 |iff a b=>by simp only[eS,den,bd.jg h a,bd.jg h b]
def gU {α:Type}:List Nat->List α->List (List α)
 |[],[]=>[]
 |[],x::l=>[x::l]
 |k::mb,l=>l.take k::gU mb (l.drop k)
theorem Lc {α β:Type} (f:α->β):∀(mb:List Nat) (l:List α),gU mb (l.map f)=(gU mb l).map (List.map f)
 |[],[]=>rfl
 |[],_::_=>rfl
 |k::mb,l=>by simp only[gU,cI,<-yr,<-ys,Lc f mb]
def wL:List Nat->Nat->List (Int×Int)->(hh->gZ->List (List Int)->Prop)->hh->gZ->Prop
 |[],_,[],P,st,aM=>P st aM []
 |[],_,_::_,_,_,_=>False
 |k::mb,n,bds,P,st,aM=>cond (aG k 1)
  (match bds with
  |(lo,hi)::VM=>∀z:Int,lo<=z->z<=hi->wL mb (n+1) VM (λoN oA ls=>P oN oA ([z]::ls)) ((n,1)::st) ([z]::aM)
  |[]=>False)
  (cond (bB k bds.length) (∀r:List Int,aV (bds.take k) r->wL mb (n+k) (bds.drop k) (λoN oA ls=>P oN oA (r::ls)) ((n,k)::st) (r::aM)) False)
theorem ab8:∀(a b:List Int) (n:Nat) (ρ:Env),bL ρ n (a++b)=bL (bL ρ n a) (n+a.length) b
 |[],b,n,ρ=>rfl
 |z::a,b,n,ρ=>by
  simp only[wu,bL,dv]
  rw[ab8 a b]
  congr 1;omega
theorem ab9:∀(l:List Int) (n:Nat) (ρ:Env) (i:Nat),bL ρ n l i=cond (bB n i&&cf i (n+l.length)) (l.getD (i-n) 0) (ρ i)
 |[],n,ρ,i=>by
  have:(bB n i&&cf i (n+0))=false:=by
   cases h:(bB n i&&cf i (n+0))with
   |false=>rfl
   |true=>simp[cf]at h;omega
  simp only[bL,fM,this,cond_false]
 |z::l,n,ρ,i=>by
  simp only[bL]
  rw[ab9 l (n+1)]
  by_cases h1:i=n
  ·subst h1
   have e1:(bB (i+1) i&&cf i (i+1+l.length))=false:=by
    have:bB (i+1) i=false:=by
     cases h:bB (i+1) i with
     |false=>rfl
     |true=>exact absurd (eC h) (by omega)
    simp[this]
   have e2:(bB i i&&cf i (i+(z::l).length))=true:=by simp[cf]
   rw[e1,e2]
   simp[c6]
  ·have hu:c6 ρ n z i=ρ i:=Sq ρ z h1
   by_cases h2:n<=i/\i<n+1+l.length
   ·have e1:(bB (n+1) i&&cf i (n+1+l.length))=true:=by simp[cf];omega
    have e2:(bB n i&&cf i (n+(z::l).length))=true:=by simp[cf];omega
    rw[e1,e2]
    simp only[cond_true]
    rw[show i-n=(i-(n+1))+1 by omega,Ea]
   ·have e1:(bB (n+1) i&&cf i (n+1+l.length))=false:=by
     cases h:(bB (n+1) i&&cf i (n+1+l.length))with
     |false=>rfl
     |true=>simp[cf]at h;omega
    have e2:(bB n i&&cf i (n+(z::l).length))=false:=by
     cases h:(bB n i&&cf i (n+(z::l).length))with
     |false=>rfl
     |true=>simp[cf]at h;omega
    rw[e1,e2]
    simp[hu]
theorem nI.push {ρ:Env} {st:hh} {aM:gZ} (h:nI ρ st aM) (n:Nat) (l:List Int):nI (bL ρ n l) ((n,l.length)::st) (l::aM):=
 ⟨⟨rfl,h.1⟩,λi=>by rw[ab9,rA,<-h.2 i]⟩
theorem Zf:∀{bds:List (Int×Int)} {zs:List Int} (k:Nat),aV bds zs->aV (bds.take k) (zs.take k)/\aV (bds.drop k) (zs.drop k)
 |[],[],k,_=>by simp[aV]
 |[],_::_,_,h=>h.elim
 |(_,_)::_,[],_,h=>h.elim
 |(l,u)::b,z::zs,0,h=>by simpa [aV]using h
 |(l,u)::b,z::zs,k+1,h=>by
  obtain⟨h1,h2,h3⟩:=h
  obtain⟨g1,g2⟩:=Zf (bds:=b) (zs:=zs) k h3
  exact⟨⟨h1,h2,g1⟩,g2⟩
theorem Bs:∀{mb:List Nat} {n:Nat} {bds:List (Int×Int)} {P:hh->gZ->List (List Int)->Prop} {st:hh} {aM:gZ} {ρ:Env} {zs:List Int},wL mb n bds P st aM->nI ρ st aM->aV bds zs->∃oN oA,nI (bL ρ n zs) oN oA/\P oN oA (gU mb zs)
 |[],n,[],P,st,aM,ρ,[],h,ht,_=>⟨st,aM,ht,h⟩
 |[],_,[],_,_,_,_,_::_,_,_,hi=>hi.elim
 |[],_,_::_,_,_,_,_,_,h,_,_=>h.elim
 |k::mb,n,bds,P,st,aM,ρ,zs,h,ht,hi=>by
  unfold wL at h
  cases hk:aG k 1 with
  |true=>
   have e:=bG hk
   subst e
   simp only[hk,cond_true]at h
   cases bds with
   |nil=>exact h.elim
   |cons b VM=>
    obtain⟨lo,nR⟩:=b
    cases zs with
    |nil=>exact hi.elim
    |cons z zs=>
     obtain⟨h1,h2,h3⟩:=hi
     have:=Bs (h z h1 h2) (ht.push n [z]) h3
     obtain⟨oN,oA,g1,g2⟩:=this
     refine⟨oN,oA,g1,?_⟩
     simpa [gU]using g2
  |false=>
   simp only[hk,cond_false]at h
   cases hb:bB k bds.length with
   |false=>simp only[hb,cond_false]at h
   |true=>
    simp only[hb,cond_true]at h
    have iO:k<=bds.length:=by simpa using hb
    have hlen:=gS hi
    obtain⟨i1,i2⟩:=Zf k hi
    have e:(zs.take k).length=k:=by simp;omega
    have ly:=ht.push n (zs.take k)
    rw[e]at ly
    obtain⟨oN,oA,g1,g2⟩:=Bs (h _ i1) ly i2
    refine⟨oN,oA,?_,g2⟩
    have e2:=ab8 (zs.take k) (zs.drop k) n ρ
    rw[oj,e]at e2
    rw[e2];exact g1
abbrev Bh:=Nat->List (List Int)->Prop
def Bh.set (A:Bh) (iU:Nat) (p:List (List Int)->Prop):Bh:=λi=>cond (aG i iU) p (A i)
def T.l7 (sh:Nat->List Nat×List Nat) (lsh:Nat->List Nat) (S:Nat->List (List Int)->List (List Int)->Prop) (L:V->hh->gZ->Prop):T->Bh->hh->gZ->Prop
 |stuck,_,_,_=>False
 |leaf v,_,st,aM=>L v st aM
 |div n x d lo hi r,A,st,aM=>∀q:Int,lo<=q->q<=hi->0<=x.eS st aM-d*q->x.eS st aM-d*q<d->r.l7 sh lsh S L A ((n,1)::st) ([q]::aM)
 |mul n x y lo hi r,A,st,aM=>∀p:Int,lo<=p->p<=hi->p=x.eS st aM*y.eS st aM->r.l7 sh lsh S L A ((n,1)::st) ([p]::aM)
 |bit n op k x y r,A,st,aM=>∀z:Int,0<=z->z<=k.max->z=cD op k (x.eS st aM) (y.eS st aM)->r.l7 sh lsh S L A ((n,1)::st) ([z]::aM)
 |shr n x y lo hi r,A,st,aM=>∀z:Int,lo<=z->z<=hi->z=x.eS st aM/2^(y.eS st aM).toNat->r.l7 sh lsh S L A ((n,1)::st) ([z]::aM)
 |qP n cs aU lo hi r,A,st,aM=>∀z:Int,lo<=z->z<=hi->z=(ur st aM cs).getD (aU.eS st aM).toNat 0->r.l7 sh lsh S L A ((n,1)::st) ([z]::aM)
 |nM b t e,A,st,aM=>(b.eS st aM=true->t.l7 sh lsh S L A st aM)/\(b.eS st aM=false->e.l7 sh lsh S L A st aM)
 |call id args n bds r,A,st,aM=>wL (sh id).2 n bds (λoN oA rs=>S id ((gU (sh id).1 args).map (ur st aM)) rs->r.l7 sh lsh S L A oN oA) st aM
 |loop iU init n bds r,A,st,aM=>∃(I:List (List Int)->Prop) (jZ:List (List Int)->Nat),I ((gU (lsh iU) init).map (ur st aM))/\
  wL (lsh iU) n bds (λoN oA zs=>I zs->r.l7 sh lsh S L (A.set iU λvs=>I vs/\jZ vs<jZ zs) oN oA) st aM
 |again iU vals,A,st,aM=>A iU ((gU (lsh iU) vals).map (ur st aM))
 |both a b,A,st,aM=>a.l7 sh lsh S L A st aM/\b.l7 sh lsh S L A st aM
 |fn n op args lo hi r,A,st,aM=>∀z:Int,lo<=z->z<=hi->z=au op (args.map (aa.eS st aM))->r.l7 sh lsh S L A ((n,1)::st) ([z]::aM)
 |ind n b r,A,st,aM=>∀z:Int,0<=z->z<=1->b.eS st aM=decide (z=1)->r.l7 sh lsh S L A ((n,1)::st) ([z]::aM)
 |p7 n lo hi r,A,st,aM=>∀z:Int,lo<=z->z<=hi->r.l7 sh lsh S L A ((n,1)::st) ([z]::aM)
 |nat n r,A,st,aM=>∀z:Int,0<=z->r.l7 sh lsh S L A ((n,1)::st) ([z]::aM)
 |qi op args r,A,st,aM=>ab op (args.map (aa.eS st aM))->r.l7 sh lsh S L A st aM
 |nO op args r,A,st,aM=>ab op (args.map (aa.eS st aM))/\r.l7 sh lsh S L A st aM
theorem RP {ρ:Env} {st:hh} {aM:gZ} (h:nI ρ st aM) (mb:List Nat) (l:List aa):(gU mb l).map (ur st aM)=gU mb (l.map (·.den ρ)):=by
 rw[Lc];exact h8 λx _=>K8 h x
def b6 (sh:Nat->List Nat×List Nat) (S:Nat->List (List Int)->List (List Int)->Prop):Nat->List Int->List Int->Prop:=λid zs rs=>S id (gU (sh id).1 zs) (gU (sh id).2 rs)
theorem QR {ρ:Env} {st:hh} {aM:gZ} (h:nI ρ st aM) (l:List aa):l.map (aa.eS st aM)=l.map (·.den ρ):=h8 λx _=>aa.jg h.2 x
theorem mH {sh:Nat->List Nat×List Nat} {lsh:Nat->List Nat} {S:Nat->List (List Int)->List (List Int)->Prop} {Vg:V->hh->gZ->Prop} {L:V->Env->Prop} (cF:∀v ρ st aM,nI ρ st aM->Vg v st aM->L v ρ):
 ∀(t:T) (gw:Bh) (A:dT) (ρ:Env) (st:hh) (aM:gZ),(∀iU vs,gw iU (gU (lsh iU) vs)->A iU vs)->nI ρ st aM->t.l7 sh lsh S Vg gw st aM->t.holds (b6 sh S) L A ρ
 | .stuck,_,_,_,_,_,_,_,h=>h
 | .leaf v,_,_,ρ,st,aM,_,ht,h=>cF v ρ st aM ht h
 | .div n x d lo hi r,gw,A,ρ,st,aM,hA,ht,h=>λq h1 h2 h3 h4=>mH cF r gw A _ _ _ hA (ht.push n [q]) (h q h1 h2 (by rw[aa.jg ht.2];exact h3) (by rw[aa.jg ht.2];exact h4))
 | .mul n x y lo hi r,gw,A,ρ,st,aM,hA,ht,h=>λq h1 h2 h3=>mH cF r gw A _ _ _ hA (ht.push n [q]) (h q h1 h2 (by rw[aa.jg ht.2,aa.jg ht.2];exact h3))
 | .bit n op k x y r,gw,A,ρ,st,aM,hA,ht,h=>λq h1 h2 h3=>mH cF r gw A _ _ _ hA (ht.push n [q]) (h q h1 h2 (by rw[aa.jg ht.2,aa.jg ht.2];exact h3))
 | .shr n x y lo hi r,gw,A,ρ,st,aM,hA,ht,h=>λq h1 h2 h3=>mH cF r gw A _ _ _ hA (ht.push n [q]) (h q h1 h2 (by rw[aa.jg ht.2,aa.jg ht.2];exact h3))
 | .qP n cs aU lo hi r,gw,A,ρ,st,aM,hA,ht,h=>λq h1 h2 h3=>mH cF r gw A _ _ _ hA (ht.push n [q]) (h q h1 h2 (by rw[K8 ht,aa.jg ht.2];exact h3))
 | .nM b t e,gw,A,ρ,st,aM,hA,ht,h=>⟨λhb=>mH cF t gw A _ _ _ hA ht (h.1 (by rw[bd.jg ht];exact hb)),λhb=>mH cF e gw A _ _ _ hA ht (h.2 (by rw[bd.jg ht];exact hb))⟩
 | .call id args n bds r,gw,A,ρ,st,aM,hA,ht,h=>by
  refine tj λrs hi hs=>?_
  obtain⟨oN,oA,h1,h2⟩:=Bs h ht hi
  exact mH cF r gw A _ _ _ hA h1 (h2 (by rw[RP ht];exact hs))
 | .loop iU init n bds r,gw,A,ρ,st,aM,hA,ht,h=>by
  obtain⟨I,jZ,h1,h2⟩:=h
  refine⟨λzs=>I (gU (lsh iU) zs),λzs=>jZ (gU (lsh iU) zs),?_,?_⟩
  ·rw[RP ht]at h1;exact h1
  ·refine tj λzs hi hI=>?_
   obtain⟨oN,oA,g1,g2⟩:=Bs h2 ht hi
   refine mH cF r _ _ _ _ _ (λaoj vs hv=>?_) g1 (g2 hI)
   unfold Bh.set at hv
   unfold dT.set
   cases hq:aG aoj iU with
   |true=>
    rw[hq]at hv
    have e:=bG hq
    subst e
    exact hv
   |false=>rw[hq]at hv;exact hA _ _ hv
 | .again iU vals,gw,A,ρ,st,aM,hA,ht,h=>hA iU _ (by rw[<-RP ht];exact h)
 | .both x y,gw,A,ρ,st,aM,hA,ht,h=>⟨mH cF x gw A ρ st aM hA ht h.1,mH cF y gw A ρ st aM hA ht h.2⟩
 | .fn n op args lo hi r,gw,A,ρ,st,aM,hA,ht,h=>λq h1 h2 h3=>mH cF r gw A _ _ _ hA (ht.push n [q]) (h q h1 h2 (by rw[QR ht];exact h3))
 | .ind n b r,gw,A,ρ,st,aM,hA,ht,h=>λq h1 h2 h3=>mH cF r gw A _ _ _ hA (ht.push n [q]) (h q h1 h2 (by rw[bd.jg ht];exact h3))
 | .p7 n lo hi r,gw,A,ρ,st,aM,hA,ht,h=>λq h1 h2=>mH cF r gw A _ _ _ hA (ht.push n [q]) (h q h1 h2)
 | .nat n r,gw,A,ρ,st,aM,hA,ht,h=>λq h1=>mH cF r gw A _ _ _ hA (ht.push n [q]) (h q h1)
 | .qi op args r,gw,A,ρ,st,aM,hA,ht,h=>λh1=>mH cF r gw A ρ st aM hA ht (h (by rw[QR ht];exact h1))
 | .nO op args r,gw,A,ρ,st,aM,hA,ht,h=>⟨by rw[<-QR ht];exact h.1,mH cF r gw A _ _ _ hA ht h.2⟩
def xK:List O->Option (List aa)
 |[]=>some []
 | .l x::r=>match xK r with|some l=>some (x::l)|none=>none
 | .b _::_=>none
def O.eS (st:hh) (aM:gZ):O->Int
 |l x=>x.eS st aM
 |b x=>cond (x.eS st aM) 1 0
def DE (st:hh) (aM:gZ) (os:List O):List Int:=
 match xK os with
 |some ls=>ur st aM ls
 |none=>os.map (O.eS st aM)
theorem ZE {ρ:Env}:∀{os:List O} {ls:List aa},xK os=some ls->ls.map (·.den ρ)=os.map (O.den ρ)
 |[],ls,h=>by simp[xK]at h;subst h;rfl
 | .l x::r,ls,h=>by
  simp only[xK]at h
  cases hr:xK r with
  |none=>simp[hr]at h
  |some l=>
   simp only[hr,aQ]at h
   subst h
   simp only[cI,ZE hr,O.den]
 | .b _::_,_,h=>by simp[xK]at h
theorem O.jg {ρ:Env} {st:hh} {aM:gZ} (h:nI ρ st aM):∀o:O,o.eS st aM=o.den ρ
 | .l x=>aa.jg h.2 x
 | .b x=>by simp only[eS,den,bd.jg h]
theorem aby {ρ:Env} {st:hh} {aM:gZ} (h:nI ρ st aM) (os:List O):DE st aM os=os.map (O.den ρ):=by
 unfold DE
 cases hl:xK os with
 |some ls=>exact(K8 h ls).trans (ZE hl)
 |none=>exact h8 λo _=>O.jg h o
def apj (k:Nat):List Nat:=match k with
 |12=>[4,4,4]
 |15=>[5,5,5]
 |20=>[5,5,5,5]
 |k=>[k]
def D.nums:D->List Nat
 | .mix l=>apj l.length
 | .kP _=>[]
 | .qH .. =>[]
 |d=>[d.num]
def tX (ds:List D):List Nat:=ds.flatMap D.nums
def My (ds:List D) (K:List (List Int)->Prop) (v:V) (st:hh) (aM:gZ):Prop:=
 match outs ds v with
 |some os=>K ((gU (tX ds) os).map (DE st aM))
 |none=>False
theorem ady {ds:List D} {K:List (List Int)->Prop} (v:V) (ρ:Env) (st:hh) (aM:gZ) (ht:nI ρ st aM) (h:My ds K v st aM):nG ds (λrs=>K (gU (tX ds) rs)) v ρ:=by
 unfold My at h
 unfold nG
 cases ho:outs ds v with
 |none=>simp[ho]at h
 |some os=>
  simp only[ho]at h⊢
  rw[Lc]
  rwa [show(gU (tX ds) os).map (DE st aM)=(gU (tX ds) os).map (List.map (O.den ρ)) from h8 λo _=>aby ht o]at h
def te (sh:Nat->List Nat×List Nat) (lsh:Nat->List Nat) (S:Nat->List (List Int)->List (List Int)->Prop) (K:List (List Int)->List (List Int)->Prop) (lens:List Nat) (bds:List (Int×Int)) (ds:List D) (t:T):Prop:=
 wL lens 0 bds (λst aM zs=>t.l7 sh lsh S (My ds (K zs)) (λ_ _=>False) st aM) [] []
theorem Vv {sh:Nat->List Nat×List Nat} {lsh:Nat->List Nat} {S:Nat->List (List Int)->List (List Int)->Prop} {K:List (List Int)->List (List Int)->Prop} {lens:List Nat} {bds:List (Int×Int)} {ds:List D} {t:T}
 (h:te sh lsh S K lens bds ds t):nJ bds λzs=>t.holds (b6 sh S) (nG ds λrs=>K (gU lens zs) (gU (tX ds) rs)) (λ_ _=>False) (bL (λ_=>0) 0 zs):=by
 refine tj λzs hi=>?_
 obtain⟨st,aM,h1,h2⟩:=Bs h (show nI (λ_=>0) [] [] from⟨trivial,λ_=>rfl⟩) hi
 exact mH (λv ρ st aM ht hl=>ady v ρ st aM ht hl) t _ _ _ st aM (λ_ _ hf=>hf.elim) h1 h2
end Go.bo
namespace Go.bo
open Go.ChangeShapes Go.WideShapes Go.RowKit
variable {H:Type} {enc:aX×aF->H} {P:bH}
theorem acg {k:dp} {z:Int}:(Lit.int k z).wf=true↔k.min<=z/\z<=k.max:=by simp[Lit.wf]
theorem Wa {k:dp}:∀(cs:List aF) (xs:List (oc H×List s3)),cs.length=xs.length->
 (∀i,i<xs.length->∃z,(cs.drop i).take 1=[.int k z]/\xs[i]?=some (.lit (.int k z),[])/\(Lit.int k z).wf=true)->
 ∃zs:List Int,cs=zs.map (.int k)/\xs=zs.map (λz=>(.lit (.int k z),[]))/\∀z∈zs,(Lit.int k z).wf=true
 |[],[],_,_=>⟨[],rfl,rfl,λ_ h=>by cases h⟩
 |[],_::_,h,_=>by simp at h
 |_::_,[],h,_=>by simp at h
 |c::cs,x::xs,hl,h=>by
  obtain⟨z,h1,h2,h3⟩:=h 0 (by simp)
  simp at h1 h2
  obtain⟨zs,e1,e2,bN⟩:=Wa cs xs (by simpa using hl) λi hi=>by
   obtain⟨y,g1,g2,g3⟩:=h (i+1) (by simpa using hi)
   exact⟨y,by simpa using g1,by simpa using g2,g3⟩
  refine⟨z::zs,by rw[h1,e1];rfl,by rw[h2,e2];rfl,λy hy=>?_⟩
  rcases List.mem_cons.1 hy with rfl|hy
  ·exact h3
  ·exact bN y hy
theorem Zc:∀{b cp:List (Int×Int)} {l bQ:List Int},aV b l->aV cp bQ->aV (b++cp) (l++bQ)
 |[],_,[],_,_,h=>h
 |_::_,_,_::_,_,h,h'=>⟨h.1,h.2.1,Zc h.2.2 h'⟩
 |[],_,_::_,_,h,_=>h.elim
 |_::_,_,[],_,h,_=>h.elim
theorem D.acd (d:D) {zs l:List Int} (h:zs.length=d.num):d.val (zs++l)=d.val zs:=by
 cases d with
 |str=>match zs,h with|[z],_=>rfl
 |int k lo hi=>match zs,h with|[z],_=>rfl
 |bool=>match zs,h with|[z],_=>rfl
 |agg k n lo hi=>simp only[D.num]at h;simp only[D.val,<-h];simp
 |kP p=>rfl
 |qH k c=>rfl
 |mix p=>
  simp only[D.num]at h
  simp only[D.val]
  congr 2
  revert zs
  induction p with
  |nil=>intro zs h;simp
  |cons a p ih=>
   intro zs h
   match zs,h with
   |z::zs,h=>simp only[wu,LQ,ih (zs:=zs) (by simpa using h)]
theorem anc {w w':ar} (h:w.Extends w') (may:s3->Prop):w.keptBut w' may:=
 Below.frame (W:=w) ⟨h.os,h.tape,h.output,h.size,λi hi=>h.block i hi⟩ may
theorem Je {w:ar} {name:String} {g:Nat} {t e:aX} {k:dp} {n:Nat} {cs:Array aF} {fuel:Nat} {p:List s3} {zs:List Int} {spare:Nat->Bool} {held:Bool} {base:Nat} {enc:aX×aF->Unit}
 (hg:P.globalNamed name=some g) (ht:P.underlying t=some (.array n e)) (he:P.underlying e=some (.int k)) (Ju:P.cellsOf e=1) (ib:P.cellsOf t=n)
 (hv:w.var? P name=some cs) (hd:Tc enc P w base spare held fuel t cs.toList=some (.agg (zs.map λz=> .lit (.int k z)),p)):
 g<w.heap.size/\∃t' wY,w.heap[g]?=some (Obj.cells (zs.map (s4 k)).toArray t' wY):=by
 obtain⟨xs,m,rfl,hx,hlen,hn,Ce⟩:=azQ ht hd
 obtain⟨fE,e1,e2,bN⟩:=Wa (k:=k) cs.toList xs (by rw[hlen,ib,hn]) λi hi=>by
  have:=Ce i (by omega)
  rw[Ju,Eg]at this
  cases YZ:xs[i]? with
  |none=>simp at YZ;omega
  |some y=>
   rw[YZ]at this
   obtain⟨z,g1,g2,g3⟩:=acE he this
   exact⟨z,g1,by rw[g2],g3⟩
 simp only[cA,aDD]at hx
 have hy:fE=zs:=by
  have h1:=hx.1
  rw[e2,k7]at h1
  have zu:∀a b:Int,(azR (.int k a):oc Unit)= .lit (.int k b)->a=b:=λa b h=>by cases h;rfl
  exact((List.map_inj_right (f:=λz:Int=>(azR (.int k z):oc Unit)) zu).1 h1).symm
 subst hy
 simp only[World.var?,hg,Option.bind_some]at hv
 split at hv
 ·rename_i iB t' wY hb
  simp only[aQ]at hv
  subst hv
  refine⟨?_,t',wY,?_⟩
  ·exact(Array.getElem?_eq_some_iff.1 hb).1
  ·rw[hb,<-e1]
 ·cases hv
end Go.bo
namespace Go.bo
open M
inductive ck where
 |d (x:D)
 |rd (sh:List aB)
 |kN (sh:List aB) (e:aX)
def ck.num:ck->Nat
 |d x=>x.num
 |_=>1
noncomputable def ck.bds:ck->List (Int×Int)
 |d x=>x.bds
 |_=>[(0,bK)]
noncomputable def cR:List ck->List (Int×Int)
 |[]=>[]
 |x::r=>x.bds++cR r
def ck.ej:ck->Bool
 |d _=>true
 |_=>false
def ck.oF:ck->Bool
 |kN _ _=>true
 |_=>false
def ck.nq:ck->Bool
 |rd _=>true
 |_=>false
def ov:List ck->Bool
 |[]=>true
 | .d _::r=>ov r
 | .rd _::r=>r.all (λb=> !b.oF)&&ov r
 | .kN _ _::r=>r.all ck.ej&&ov r
def r0 (F:Nat->Prop) (w:ar) (sh:List aB) (rows:List (List Int)) (v:aF):Prop:=
 (v= .slice none 0 0/\rows=[])∨∃(g o cap:Nat) (cells:Array aF) (t:aX) (fz:Nat×Nat),v= .slice (some ⟨g,o,none⟩) rows.length cap/\(rows.length<=cap/\(cap:Int)<=9223372036854775807)/\F g/\w.heap[g]?=some (.cells cells t fz)/\lg cells o sh rows
def q5 (N:Nat->Prop) (w:ar) (sh:List aB) (e:aX) (rows:List (List Int)) (v:aF):Prop:=
 (v= .slice none 0 0/\rows=[])∨∃(g cap:Nat) (cells:Array aF),v= .slice (some ⟨g,0,none⟩) rows.length cap/\(rows.length<=cap/\(cap:Int)<=9223372036854775807)/\N g/\w.heap[g]?=some (.cells cells e (0,0))/\lg cells 0 sh rows/\cells.size=cap*sh.length
def ck.at (F N:Nat->Prop) (w:ar):ck->List Int->aF->Prop
 |d x,zs,v=>v=x.val zs
 |rd sh,zs,v=>r0 F w sh (af (zs.getD 0 0)) v
 |kN sh e,zs,v=>q5 N w sh e (af (zs.getD 0 0)) v
def jt (F N:Nat->Prop) (w:ar):List ck->List Int->List aF->Prop
 |[],_,[]=>True
 |b::r,zs,v::vs=>b.at F N w zs v/\jt F N w r (zs.drop b.num) vs
 |_,_,_=>False
def qT (us:List aF):aF:=match us with|[x]=>x|l=> .tuple l.toArray
structure dJ where
 f:cw
 id:Nat
 args:List ck
 res:List ck
 pre:Nat:=0
def Ar:Nat->List Int->Prop
 |0,_=>True
 |p+1,l=>ab (p+1) l
def KM:Nat->List aa->T->T
 |0,_,r=>r
 |p+1,ls,r=> .nO (p+1) ls r
def KL:Nat->List aa->T->T
 |0,_,r=>r
 |p+1,ls,r=> .qi (p+1) ls r
theorem preM_holds {S:Nat->List Int->List Int->Prop} {L:V->Env->Prop} {A:dT} {ρ:Env} {p:Nat} {ls:List aa} {r:T} (h:(KM p ls r).holds S L A ρ):Ar p (ls.map (·.den ρ))/\r.holds S L A ρ:=by
 cases p with
 |zero=>exact⟨trivial,h⟩
 |succ p=>exact h
theorem preA_holds {S:Nat->List Int->List Int->Prop} {L:V->Env->Prop} {A:dT} {ρ:Env} {p:Nat} {ls:List aa} {r:T} (h:(KL p ls r).holds S L A ρ) (hp:Ar p (ls.map (·.den ρ))):r.holds S L A ρ:=by
 cases p with
 |zero=>exact h
 |succ p=>exact h hp
def dJ.eY (P:bH) (wb:ar) (c:dJ) (spec:List Int->List Int->Prop):Prop:=
 (∀args w,(callFunc c.f args).run P w= .ok (.enter c.f args) w)/\
 ∀(F:Nat->Prop) (w:ar) (vs:List aF) (zs:List Int),wb.Extends w->aV (cR c.args) zs->Ar c.pre zs->jt F (λ_=>False) w c.args zs vs->
  jY P c.f vs.toArray w λe w'=>w.Extends w'/\∃rs us,aV (cR c.res) rs/\spec zs rs/\jt (λg=>F g∨w.heap.size<=g) (λg=>w.heap.size<=g) w' c.res rs us/\e= .returned (qT us)
noncomputable def q6:List ck->Nat->Nat->List W->List ax->(Nat->List W->List ax->T)->T
 |[],_,n,us,bl,k=>k n us bl
 | .d x::r,s,n,us,bl,k=>q6 r (s+x.num) n (us++[x.sym s]) bl k
 | .rd sh::r,s,n,us,bl,k=> .nat n (.p7 (n+1) (-1) 9223372036854775807 (.fn (n+2) 20 [.var s] 0 9223372036854775807
  (q6 r (s+1) (n+3) (us++[.one (.sl bl.length sh.length (.var n) (.const 0) (.var (n+2)) (.var (n+1)))]) (bl++[([.rows sh (.var n) (.var s) (.var (n+1)) 1],(0,false))]) k)))
 | .kN sh e::r,s,n,us,bl,k=> .p7 n (-1) 9223372036854775807 (.fn (n+1) 20 [.var s] 0 9223372036854775807
  (q6 r (s+1) (n+2) (us++[.one (.sl bl.length sh.length (.const 0) (.const 0) (.var (n+1)) (.var n))]) (bl++[([.rows sh (.const 0) (.var s) (.var n) 2],(e,false))]) k))
section
variable {S:Nat->List Int->List Int->Prop} {L:V->Env->Prop} {w0:dK} {P:bH} {gl:ei} {cal:eI}
theorem gJ.agree {ρ ah:Env} {s n:Nat} {zs:List Int} (h:gJ ρ s zs) (ha:agree n ρ ah) (hn:s+zs.length<=n):gJ ah s zs:=λj hj=>by rw[ha (s+j) (by omega)];exact h j hj
theorem rJ {ρ:Env} {n i:Nat} {z:Int} (h:i<n):c6 ρ n z i=ρ i:=Sq ρ z (by omega)
theorem wN {F N:Nat->Prop} (hF:∀g,F g->w0.ex g∨w0.ro g∨w0.r.heap.size<=g) (hN:∀g,N g->w0.b.heap.size<=g/\w0.r.heap.size<=g):∀{l:List ck} {s n:Nat} {us:List W} {bl:List ax} {k:Nat->List W->List ax->T} {G:dT} {ρ:Env} {m:Nat->Nat} {w:ar} {zs:List Int} {vals:List aF},
 ov l=true->cK n bl.length ρ bl->Mem w0 ρ m bl w->gJ ρ s zs->aV (cR l) zs->s+(cR l).length<=n->jt F N w l zs vals->
 ((l.all λb=> !b.nq)=true∨∀(i:Nat) (p:ax),bl[i]?=some p->F (m i)->bp ρ p.1<=1)->((l.all λb=> !b.oF)=true∨∀(i:Nat) (p:ax),bl[i]?=some p->N (m i)->bp ρ p.1=0)->
 (∀u∈us,W.ok n bl.length ρ u)->
 (q6 l s n us bl k).holds S L G ρ->∃n' ah m' kn a8,dO n bl.length ρ m n' (lN a8) ah m'/\cK n' a8.length ah a8/\Mem w0 ah m' a8 w/\kn.map (W.den ah m')=us.map (W.den ρ m)++vals/\(∀u∈kn,W.ok n' a8.length ah u)/\(k n' kn a8).holds S L G ah
 |[],s,n,us,bl,k,G,ρ,m,w,zs,vals,_,hb,hm,_,_,_,hat,_,_,qF,ai=>by
  match vals,hat with
  |[],_=>exact⟨n,ρ,m,us,bl,dO.refl _ _ _ _,hb,hm,by simp,qF,ai⟩
 | .d x::r,s,n,us,bl,k,G,ρ,m,w,zs,vals,bm,hb,hm,hA,hz,hn,hat,h1,h2,qF,ai=>by
  match vals,hat with
  |v::vs,hat=>
   obtain⟨hv,hat⟩:=hat
   have hv:v=x.val zs:=hv
   simp only[cR,ck.bds]at hz hn
   simp only[dN]at hn
   obtain⟨i1,i2⟩:=JZ hz
   rw[D.EJ]at i1 i2 hn
   have hs:=D.Hl (ρ:=ρ) (m:=m) (N:=n) (nb:=bl.length) x i1 hA (by omega)
   obtain⟨n',ah,m',kn,a8,g1,g2,g3,g4,g5,g6⟩:=wN hF hN (l:=r) (s:=s+x.num) (us:=us++[x.sym s]) (zs:=zs.drop x.num) bm hb hm (hA.drop x.num) i2 (by omega) hat (by
    rcases h1 with h1|h1
    ·left;simpa [ck.nq]using h1
    ·exact .inr h1) (by
    rcases h2 with h2|h2
    ·left;simpa [ck.oF]using h2
    ·exact .inr h2) (λu hu=>by
    rcases List.mem_append.1 hu with hu|hu
    ·exact qF u hu
    ·simp at hu;subst hu;exact hs.1) ai
   exact⟨n',ah,m',kn,a8,g1,g2,g3,by rw[g4,ft,hv];simp[hs.2],g5,g6⟩
 | .rd sh::r,s,n,us,bl,k,G,ρ,m,w,zs,vals,bm,hb,hm,hA,hz,hn,hat,h1,h2,qF,ai=>by
  match vals,hat with
  |v::vs,hat=>
   obtain⟨hv,hat⟩:=hat
   match zs,hz with
   |z::zs,hz=>
    obtain⟨ag,z2,hz⟩:=hz
    have hv:r0 F w sh (af z) v:=hv
    obtain⟨w8,nP⟩:=hA.tail
    have h1:∀(i:Nat) (p:ax),bl[i]?=some p->F (m i)->bp ρ p.1<=1:=by
     rcases h1 with h1|h1
     ·simp[ck.nq]at h1
     ·exact h1
    simp only[cR,ck.bds,dN,dv,fM]at hn
    simp only[ov,aS]at bm
    have hlen:(af z).length<=9223372036854775807:=by
     rcases hv with⟨_,h⟩|⟨_,_,cap,_,_,_,_,⟨h3,h4⟩,_⟩
     ·simp[h]
     ·omega
    have mK:zs.length=(cR r).length:=gS hz
    obtain⟨g,o,cap,hg1,vf,zt,hg4,FV⟩:∃(g:Nat) (o:Nat) (cap:Int),(-1<=cap/\cap<=9223372036854775807)/\(cap<0->af z=[])/\(0<=cap->((af z).length:Int)<=cap)/\
     (v=if cap<0 then L3 none 0 0 else .slice (some ⟨g,o,none⟩) (af z).length cap.toNat)/\
     (0<=cap->F g/\∃cells t fz,w.heap[g]?=some (.cells cells t fz)/\lg cells o sh (af z)):=by
     rcases hv with⟨h3,h4⟩|⟨g,o,cap,cells,t,fz,h3,⟨h4,h5⟩,h6,h7,bD⟩
     ·exact⟨0,0,-1,by omega,λ_=>h4,λh=>by omega,by simp[h3],λh=>by omega⟩
     ·exact⟨g,o,cap,by omega,λh=>by omega,λ_=>by omega,by rw[if_neg (by omega)];simpa using h3,λ_=>⟨h6,cells,t,fz,h7,bD⟩⟩
    have FY:=ai (o:Int) (by omega) cap hg1.1 hg1.2 (af z).length (by omega) (by omega) (by
     simp only[cI,eo,au,aa.cE]
     rw[rJ (by omega),rJ (by omega),w8])
    generalize oE:c6 (c6 (c6 ρ n (o:Int)) (n+1) cap) (n+2) ((af z).length:Int)=gv at FY
    have ha:agree n ρ gv:=by
     rw[<-oE]
     intro i hi
     rw[rJ (by omega),rJ (by omega),rJ hi]
    have aZ:gv n=o:=by rw[<-oE,rJ (by omega),rJ (by omega),jC]
    have e1:gv (n+1)=cap:=by rw[<-oE,rJ (by omega),jC]
    have e2:gv (n+2)=(af z).length:=by rw[<-oE,jC]
    have bN:gv s=z:=by rw[ha s (by omega)];exact w8
    have Px:=hm.mZ hb ha
    have FC:=hb.ext ha (show n<=n+3 by omega) (br bl.length)
    have Fp:(A.rows sh (.var n) (.var s) (.var (n+1)) 1).ok (n+3) bl.length gv:=⟨⟨aa.eV (by omega),aa.eV (by omega),aa.eV (by omega)⟩,by rw[aa.cE,bN];exact⟨ag,z2⟩,by rw[aa.cE,e1];exact hg1⟩
    have fj:=Px.push (x:=([.rows sh (.var n) (.var s) (.var (n+1)) 1],(0,false))) (g:=g) FC (λy hy=>by simp at hy;subst hy;exact Fp) (λho=>by cases ho) (λeK gT code' gL mN he=>by
     cases he
     intro _
     refine⟨λh=>by rw[aa.cE,e1]at h;rw[aa.cE,bN];exact vf h,λh=>?_⟩
     rw[aa.cE,e1]at h
     obtain⟨Fs,cells,t,fz,k1,k2⟩:=FV h
     exact⟨hF g Fs,cells,t,fz,k1,⟨by rw[aa.cE,aZ];omega,by rw[aa.cE,aa.cE,aZ,bN];exact k2⟩,λh2=>by omega⟩) (λi p hi he=>by
      by_cases hc:0<=cap
      ·refine .inl ⟨?_,?_⟩
       ·rw[qK (hb _ (eh hi)) ha]
        exact h1 i p hi (by rw[he];exact(FV hc).1)
       ·rw[oJ (by decide) (by rw[aa.cE,e1];exact hc)];exact br 1
      ·refine .inr (.inr ?_)
       simp only[bp,aa.cE,e1]
       rw[if_pos (by omega)])
    have Pr:dO n bl.length ρ m (n+3) (bl++[([A.rows sh (.var n) (.var s) (.var (n+1)) 1],((0:aX),false))]).length gv (j9 m bl.length g):=⟨by omega,ha,by simp,λb hb=>kR hb⟩
    have zl:cK (n+3) (bl++[([A.rows sh (.var n) (.var s) (.var (n+1)) 1],((0:aX),false))]).length gv (bl++[([.rows sh (.var n) (.var s) (.var (n+1)) 1],(0,false))]):=λp hp a j1=>by
     rcases List.mem_append.1 hp with hp|hp
     ·exact(FC p hp a j1).ext (agree.refl _ _) (br _) (by simp)
     ·simp at hp;subst hp;simp at j1;subst j1
      exact Fp.ext (agree.refl _ _) (br _) (by simp)
    have P5:W.ok (n+3) (bl++[([A.rows sh (.var n) (.var s) (.var (n+1)) 1],((0:aX),false))]).length gv (.one (.sl bl.length sh.length (.var n) (.const 0) (.var (n+2)) (.var (n+1)))):=by
     refine⟨by simp,⟨aa.eV (by omega),aa.cT _ _,aa.eV (by omega),aa.eV (by omega)⟩,?_⟩
     simp only[aa.cE,aa.aW,aZ,e1,e2]
     exact⟨by omega,by omega,λh=>by rw[vf h];rfl,zt⟩
    obtain⟨n',ah,m',kn,a8,g1,g2,g3,g4,g5,g6⟩:=wN hF hN (l:=r) (s:=s+1) (us:=us++[.one (.sl bl.length sh.length (.var n) (.const 0) (.var (n+2)) (.var (n+1)))]) (zs:=zs) (vals:=vs) bm.2 zl fj (nP.agree ha (by omega)) hz (by omega) hat (.inr λi p hi hf=>by
     rw[List.getElem?_append]at hi
     split at hi
     ·rename_i c9
      rw[kR c9]at hf
      rw[qK (hb _ (eh hi)) ha]
      exact h1 i p hi hf
     ·have:i=bl.length:=by
       have:=(List.getElem?_eq_some_iff.1 hi).1
       simp at this;omega
      subst this
      simp at hi
      subst hi
      simp only[bp];split<;>omega) (.inl bm.1) (λu hu=>by
     rcases List.mem_append.1 hu with hu|hu
     ·exact(qF u hu).ext ha (by omega) (by simp)
     ·simp at hu;subst hu;exact P5) FY
    refine⟨n',ah,m',kn,a8,Pr.trans g1,g2,g3,?_,g5,g6⟩
    rw[g4,ft,je]
    congr 1
    ·exact h8 λu hu=>W.ki (qF u hu) ha (λb hb=>kR hb)
    ·simp only[cI,eo,wu,jr,W.den,A.den,aa.cE,aa.aW,aZ,e1,e2,lF]
     rw[hg4]
     simp
 | .kN sh e::r,s,n,us,bl,k,G,ρ,m,w,zs,vals,bm,hb,hm,hA,hz,hn,hat,h1,h2,qF,ai=>by
  match vals,hat with
  |v::vs,hat=>
   obtain⟨hv,hat⟩:=hat
   match zs,hz with
   |z::zs,hz=>
    obtain⟨ag,z2,hz⟩:=hz
    have hv:q5 N w sh e (af z) v:=hv
    obtain⟨w8,nP⟩:=hA.tail
    simp only[cR,ck.bds,dN,dv,fM]at hn
    simp only[ov,aS]at bm
    have h2:∀(i:Nat) (p:ax),bl[i]?=some p->N (m i)->bp ρ p.1=0:=by
     rcases h2 with h2|h2
     ·simp[ck.oF]at h2
     ·exact h2
    have hlen:(af z).length<=9223372036854775807:=by
     rcases hv with⟨_,h⟩|⟨_,cap,_,_,⟨h3,h4⟩,_⟩
     ·simp[h]
     ·omega
    have mK:zs.length=(cR r).length:=gS hz
    obtain⟨g,cap,hg1,vf,zt,hg4,FV⟩:∃(g:Nat) (cap:Int),(-1<=cap/\cap<=9223372036854775807)/\(cap<0->af z=[])/\(0<=cap->((af z).length:Int)<=cap)/\
     (v=if cap<0 then L3 none 0 0 else .slice (some ⟨g,0,none⟩) (af z).length cap.toNat)/\
     (0<=cap->N g/\∃cells,w.heap[g]?=some (.cells cells e (0,0))/\lg cells 0 sh (af z)/\cells.size=cap.toNat*sh.length):=by
     rcases hv with⟨h3,h4⟩|⟨g,cap,cells,h3,⟨h4,h5⟩,h6,h7,bD,bg⟩
     ·exact⟨0,-1,by omega,λ_=>h4,λh=>by omega,by simp[h3],λh=>by omega⟩
     ·exact⟨g,cap,by omega,λh=>by omega,λ_=>by omega,by rw[if_neg (by omega)];simpa using h3,λ_=>⟨h6,cells,h7,bD,by simpa using bg⟩⟩
    have FY:=ai cap hg1.1 hg1.2 (af z).length (by omega) (by omega) (by
     simp only[cI,eo,au,aa.cE]
     rw[rJ (by omega),w8])
    generalize oE:c6 (c6 ρ n cap) (n+1) ((af z).length:Int)=gv at FY
    have ha:agree n ρ gv:=by
     rw[<-oE]
     intro i hi
     rw[rJ (by omega),rJ hi]
    have e1:gv n=cap:=by rw[<-oE,rJ (by omega),jC]
    have e2:gv (n+1)=(af z).length:=by rw[<-oE,jC]
    have bN:gv s=z:=by rw[ha s (by omega)];exact w8
    have Px:=hm.mZ hb ha
    have FC:=hb.ext ha (show n<=n+2 by omega) (br bl.length)
    have Fp:(A.rows sh (.const 0) (.var s) (.var n) 2).ok (n+2) bl.length gv:=⟨⟨aa.cT _ _,aa.eV (by omega),aa.eV (by omega)⟩,by rw[aa.cE,bN];exact⟨ag,z2⟩,by rw[aa.cE,e1];exact hg1⟩
    have fj:=Px.push (x:=([.rows sh (.const 0) (.var s) (.var n) 2],(e,false))) (g:=g) FC (λy hy=>by simp at hy;subst hy;exact Fp) (λho=>by cases ho) (λeK gT code' gL mN he=>by
     cases he
     intro _
     refine⟨λh=>by rw[aa.cE,e1]at h;rw[aa.cE,bN];exact vf h,λh=>?_⟩
     rw[aa.cE,e1]at h
     obtain⟨aiY,cells,k1,k2,k3⟩:=FV h
     have eN:=hN g aiY
     exact⟨.inr (.inr eN.2),cells,e,(0,0),k1,⟨by rw[aa.aW];exact bX _,by rw[aa.aW,aa.cE,bN];exact k2⟩,λ_=>⟨rfl,aa.aW _ _,.GL,by rw[aa.cE,e1];exact k3,eN.1,.inr eN.2⟩⟩) (λi p hi he=>by
      by_cases hc:0<=cap
      ·refine .inr (.inl ?_)
       rw[qK (hb _ (eh hi)) ha]
       exact h2 i p hi (by rw[he];exact(FV hc).1)
      ·refine .inr (.inr ?_)
       simp only[bp,aa.cE,e1]
       rw[if_pos (by omega)])
    have Pr:dO n bl.length ρ m (n+2) (bl++[([A.rows sh (.const 0) (.var s) (.var n) 2],(e,false))]).length gv (j9 m bl.length g):=⟨by omega,ha,by simp,λb hb=>kR hb⟩
    have zl:cK (n+2) (bl++[([A.rows sh (.const 0) (.var s) (.var n) 2],(e,false))]).length gv (bl++[([.rows sh (.const 0) (.var s) (.var n) 2],(e,false))]):=λp hp a j1=>by
     rcases List.mem_append.1 hp with hp|hp
     ·exact(FC p hp a j1).ext (agree.refl _ _) (br _) (by simp)
     ·simp at hp;subst hp;simp at j1;subst j1
      exact Fp.ext (agree.refl _ _) (br _) (by simp)
    have P5:W.ok (n+2) (bl++[([A.rows sh (.const 0) (.var s) (.var n) 2],(e,false))]).length gv (.one (.sl bl.length sh.length (.const 0) (.const 0) (.var (n+1)) (.var n))):=by
     refine⟨by simp,⟨aa.cT _ _,aa.cT _ _,aa.eV (by omega),aa.eV (by omega)⟩,?_⟩
     simp only[aa.cE,aa.aW,e1,e2]
     exact⟨by omega,by omega,λh=>by rw[vf h];rfl,zt⟩
    obtain⟨n',ah,m',kn,a8,g1,g2,g3,g4,g5,g6⟩:=VI (w0:=w0) (l:=r) (s:=s+1) (us:=us++[.one (.sl bl.length sh.length (.const 0) (.const 0) (.var (n+1)) (.var n))]) (zs:=zs) (vals:=vs) bm.1 zl fj (nP.agree ha (by omega)) hz (by omega) hat (λu hu=>by
     rcases List.mem_append.1 hu with hu|hu
     ·exact(qF u hu).ext ha (by omega) (by simp)
     ·simp at hu;subst hu;exact P5) FY
    refine⟨n',ah,m',kn,a8,Pr.trans g1,g2,g3,?_,g5,g6⟩
    rw[g4,ft,je]
    congr 1
    ·exact h8 λu hu=>W.ki (qF u hu) ha (λb hb=>kR hb)
    ·simp only[cI,eo,wu,jr,W.den,A.den,aa.cE,aa.aW,e1,e2,lF]
     rw[hg4]
     simp
where
 VI {w0:dK} {F N:Nat->Prop}:∀{l:List ck} {s n:Nat} {us:List W} {bl:List ax} {k:Nat->List W->List ax->T} {G:dT} {ρ:Env} {m:Nat->Nat} {w:ar} {zs:List Int} {vals:List aF},
  (l.all ck.ej)=true->cK n bl.length ρ bl->Mem w0 ρ m bl w->gJ ρ s zs->aV (cR l) zs->s+(cR l).length<=n->jt F N w l zs vals->
  (∀u∈us,W.ok n bl.length ρ u)->
  (q6 l s n us bl k).holds S L G ρ->∃n' ah m' kn a8,dO n bl.length ρ m n' (lN a8) ah m'/\cK n' a8.length ah a8/\Mem w0 ah m' a8 w/\kn.map (W.den ah m')=us.map (W.den ρ m)++vals/\(∀u∈kn,W.ok n' a8.length ah u)/\(k n' kn a8).holds S L G ah
 |[],s,n,us,bl,k,G,ρ,m,w,zs,vals,_,hb,hm,_,_,_,hat,qF,ai=>by
  match vals,hat with
  |[],_=>exact⟨n,ρ,m,us,bl,dO.refl _ _ _ _,hb,hm,by simp,qF,ai⟩
 | .d x::r,s,n,us,bl,k,G,ρ,m,w,zs,vals,bm,hb,hm,hA,hz,hn,hat,qF,ai=>by
  match vals,hat with
  |v::vs,hat=>
   obtain⟨hv,hat⟩:=hat
   have hv:v=x.val zs:=hv
   simp only[cR,ck.bds]at hz hn
   simp only[dN]at hn
   obtain⟨i1,i2⟩:=JZ hz
   rw[D.EJ]at i1 i2 hn
   have hs:=D.Hl (ρ:=ρ) (m:=m) (N:=n) (nb:=bl.length) x i1 hA (by omega)
   obtain⟨n',ah,m',kn,a8,g1,g2,g3,g4,g5,g6⟩:=VI (l:=r) (s:=s+x.num) (us:=us++[x.sym s]) (zs:=zs.drop x.num) (by simpa [ck.ej]using bm) hb hm (hA.drop x.num) i2 (by omega) hat (λu hu=>by
    rcases List.mem_append.1 hu with hu|hu
    ·exact qF u hu
    ·simp at hu;subst hu;exact hs.1) ai
   exact⟨n',ah,m',kn,a8,g1,g2,g3,by rw[g4,ft,hv];simp[hs.2],g5,g6⟩
 | .rd _::_,_,_,_,_,_,_,_,_,_,_,_,bm,_,_,_,_,_,_,_,_=>by simp[ck.ej]at bm
 | .kN _ _::_,_,_,_,_,_,_,_,_,_,_,_,bm,_,_,_,_,_,_,_,_=>by simp[ck.ej]at bm
end
end Go.bo
namespace Go.bo
open M
theorem Kd (x:Nat) (r:List Nat):lc (x::r)=2^x*(2*lc r+1):=rfl
theorem anH (x:Nat) (r:List Nat):lc r<=lc (x::r):=by
 rw[Kd]
 have h1:1<=2^x:=Nat.one_le_two_pow
 have h2:2*lc r+1<=2^x*(2*lc r+1):=Nat.le_mul_of_pos_left _ h1
 omega
theorem Zv:∀(a:Nat) (l:List Nat),lc (l.drop a)<=lc l
 |0,l=>by simp
 |a+1,[]=>by simp
 |a+1,x::r=>by rw[List.drop_succ_cons];exact iL (Zv a r) (anH x r)
theorem Zw:∀(k:Nat) (l:List Nat),lc (l.take k)<=lc l
 |0,l=>by simp[lc]
 |k+1,[]=>by simp
 |k+1,x::r=>by
  rw[List.take_succ_cons,Kd,Kd]
  exact LX _ (by have:=Zw k r;omega)
theorem aaU (l:List (List Int)) (a k:Nat):rc ((l.drop a).take k)<=rc l:=by
 unfold rc
 rw[yr,ys]
 exact_mod_cast iL (Zw k _) (Zv a _)
theorem aAM (n:Nat):uP (yh n)=n:=by
 unfold uP yh
 by_cases h:n% 2=0
 ·rw[if_pos h,if_pos (by omega)];omega
 ·rw[if_neg h,if_neg (by omega)];omega
theorem ab4:∀(f n:Nat),0<n->n<=f->n=2^oQ f n*(2*(n/2^oQ f n/2)+1)
 |0,n,h,h'=>by omega
 |f+1,n,h,h'=>by
  unfold oQ
  by_cases hn:n% 2=0
  ·rw[if_pos hn]
   have ih:=ab4 f (n/2) (by omega) (by omega)
   have e:n/2^(oQ f (n/2)+1)=n/2/2^oQ f (n/2):=by rw[yo,yp,Nat.div_div_eq_div_mul]
   rw[e,yo,yp (2^_) 2,Nat.mul_assoc,<-ih];omega
  ·rw[if_neg hn];simp;omega
theorem QG:∀(f n:Nat),n<=f->lc (aN f n)=n
 |0,n,h=>by
  have:n=0:=by omega
  subst this;rfl
 |f+1,n,h=>by
  unfold aN
  by_cases hn:n=0
  ·rw[if_pos hn,hn];rfl
  ·rw[if_neg hn,Kd]
   have hp:0<2^oQ n n:=Nat.two_pow_pos _
   have hd:n/2^oQ n n/2<=f:=by
    have h1:n/2^oQ n n<=n:=Nat.div_le_self _ _
    omega
   rw[QG f _ hd]
   exact(ab4 n n (by omega) (br _)).symm
theorem aaT {z:Int} (h:0<=z):rc (af z)=z:=by
 unfold rc af
 rw[k7]
 have e:((λrow:List Int=>lc (row.map uP))∘λn=>(aN n n).map yh)=id:=by
  funext n
  simp only[HD,k7,id]
  have:(uP∘yh)=id:=by funext k;exact aAM k
  rw[this,D9,QG n n (br _)]
 rw[e,D9,QG _ _ (br _)]
 omega
def lh:V->List Nat
 | .w (.one (.sl b _ _ _ _ _))=>[b]
 | .w (.one (.slc b _ _ _))=>[b]
 |_=>[]
def M6 (cap dL:aa):M Unit:=cond (aa.beq cap dL) (pure ()) (fy 40 [cap,dL])
noncomputable def KU (sh:List aB) (bl:List ax) (v:V):M aa:=
 match v with
 | .w (.one (.con (.slice none 0 0)))=>pure (.const 0)
 | .w (.one (.sl b a7 o ro len cap))=>match bl[b]? with
  |some ([.rows eK off code dL kind],_)=>cond (cf 0 kind&&nu sh eK&&aa.beq o off&&aG a7 sh.length) (bind (fy 22 [code,ro,ro.add len]) λ_=>bind (M6 cap dL) λ_=>eT 22 [code,ro,ro.add len] 0 bK) fail
  |_=>fail
 | .w (.one (.slc b off len cap))=>match sr bl b off (len*sh.length)with
  |some cs=>cond (mm sh&&bB len 1073741824&&bB len cap&&bB cap 9223372036854775807) (wM sh (nc sh.length len cs) (.const 0)) fail
  |none=>fail
 |_=>fail
noncomputable def Re (sh:List aB) (e:aX) (bl:List ax) (v:V):M aa:=
 match v with
 | .w (.one (.con (.slice none 0 0)))=>pure (.const 0)
 | .w (.one (.sl b a7 o ro len cap))=>match bl[b]? with
  |some ([.rows eK off code dL kind],t)=>cond (aG kind 2&&nu sh eK&&aa.beq o (.const 0)&&aa.beq off (.const 0)&&aa.beq ro (.const 0)&&aa.beq cap dL&&aG a7 sh.length&&aG t.1 e) (bind (fy 22 [code,.const 0,len]) λ_=>eT 22 [code,.const 0,len] 0 bK) fail
  |_=>fail
 | .w (.one (.slc b off len cap))=>match bl[b]? with
  |some (C,t)=>match sr bl b off (len*sh.length)with
   |some cs=>cond (mm sh&&bB len 1073741824&&bB len cap&&bB cap 9223372036854775807&&aG off 0&&aG C.length (cap*sh.length)&& !t.2&&aG t.1 e) (wM sh (nc sh.length len cs) (.const 0)) fail
   |none=>fail
  |none=>fail
 |_=>fail
def p5:V->List Nat
 | .w (.one (.slc b _ _ _))=>[b]
 |_=>[]
def oq (w0:dK) (ρ:Env) (m:Nat->Nat) (bl:List ax) (bs os:List Nat) (g:Nat):Prop:=
 (∃b∈bs,m b=g/\∃p,bl[b]?=some p/\bp ρ p.1≠0/\(bV p.1=true->b∈os))/\(w0.ex g∨w0.ro g∨w0.r.heap.size<=g)
section
variable {S:Nat->List Int->List Int->Prop} {L:V->Env->Prop} {n:Nat} {ρ:Env} {m:Nat->Nat} {bl:List ax} {gl:ei} {w0:dK} {P:bH} {w:ar}
theorem r0.mono {F wB:Nat->Prop} {sh:List aB} {rows:List (List Int)} {v:aF} (h:r0 F w sh rows v) (hF:∀g,F g->wB g):r0 wB w sh rows v:=by
 rcases h with h|⟨g,o,cap,cells,t,fz,h1,h2,h3,h4⟩
 ·exact .inl h
 ·exact .inr ⟨g,o,cap,cells,t,fz,h1,h2,hF g h3,h4⟩
theorem abG {b off len:Nat} {C:List A} {t:aX×Bool} {cs:List A} {sh:List aB} {rows:List (List Int)} (hb:cK n bl.length ρ bl) (hw:Mem w0 ρ m bl w) (hbl:bl[b]?=some (C,t)) (hcs:sr bl b off (len*sh.length)=some cs)
 (jx:∀row∈rows,cl sh row) (iP:bf sh rows=cs.map (A.den ρ m)):w0.b.heap.size<=m b/\(w0.ex (m b)∨w0.r.heap.size<=m b)/\∃cells:Array aF,w.heap[m b]?=some (.cells cells t.1 (0,0))/\lg cells off sh rows/\(t.2=false->cells.size=C.length):=by
 unfold sr at hcs
 rw[hbl]at hcs
 simp only at hcs
 cases hc:(bB (off+len*sh.length) C.length&&bV C)with
 |false=>rw[hc]at hcs;cases hcs
 |true=>
  rw[hc]at hcs
  simp only[cond_true,aQ]at hcs
  simp only[aS]at hc
  have hle:=eC hc.1
  obtain⟨g1,g2,r,hr,g3⟩:=hw.eR b C t hbl hc.2
  refine⟨g1,g2,_,g3,⟨jx,(C.take off).map (A.den ρ m),((C.drop off).drop (len*sh.length)).map (A.den ρ m)++r,?_,by simp;omega⟩,λht=>by rw[hr ht];simp⟩
  rw[iP,<-hcs]
  show C.map (A.den ρ m)++r=_
  have e:C=C.take off++((C.drop off).take (len*sh.length)++(C.drop off).drop (len*sh.length)):=by rw[oj,oj]
  conv=>lhs;rw[e]
  simp only[ft,je]
theorem G6:af ((aa.const 0).den ρ)=[]:=by rw[aa.aW];exact fa
theorem ou:(0:Int)<=bK:=oe (gm []) (oX (l:=[]) (by simp) (by simp))
theorem abF {sh:List aB} {len:Nat} {cs:List A} (ig:mm sh=true) (hl:len<=1073741824) (bm:∀a∈cs,A.ok n bl.length ρ a) (gP:cs.length=len*sh.length):
 aw S L (wM sh (nc sh.length len cs) (.const 0)) n ρ λah n' l=>l.bk n'/\(0<=l.den ah/\l.den ah<=bK)/\(af (l.den ah)).length=len/\(∀row∈af (l.den ah),cl sh row)/\bf sh (af (l.den ah))=cs.map (A.den ρ m):=by
 have j2:=EW (w:=sh.length) (k:=len) gP
 refine(EF (nb:=bl.length) (m:=m) ig (rs:=nc sh.length len cs) (c:= .const 0) (λrow hr a ha=>bm a (EX row hr a ha)) (aa.cT _ _) (by rw[aa.aW];exact⟨bX _,ou⟩) (by rw[G6];intro _ h;simp at h) (by rw[G6,j2.1];simpa using hl)).mono λaE n1 l hn ha ⟨p1,bJ,dF,cP,ea,ed,gf⟩=>?_
 rw[G6,jr]at cP
 rw[cP]
 exact⟨p1,bJ,by rw[ea,j2.1],ed,by rw[gf,j2.2]⟩
theorem afx {cap dL:aa} {α:Type} {x:M α} {R:Env->Nat->α->Prop} (h:(0<=cap.den ρ->0<=dL.den ρ)->aw S L x n ρ R):aw S L (bind (M6 cap dL) λ_=>x) n ρ R:=by
 unfold M6
 cases hc:aa.beq cap dL with
 |true=>exact h (by rw[aa.beq_eq hc];exact id)
 |false=>exact gM h
theorem aaV {sh:List aB} {v:V} {X:aF} (hb:cK n bl.length ρ bl) (hw:Mem w0 ρ m bl w) (hv:v.ok n bl.length ρ) (bP:v.rel ρ m X):
 aw S L (KU sh bl v) n ρ λah n' l=>l.bk n'/\(0<=l.den ah/\l.den ah<=bK)/\r0 (oq w0 ρ m bl (lh v) (p5 v)) w sh (af (l.den ah)) X:=by
 unfold KU
 split
 ·refine aw.pure ⟨aa.cT _ _,by rw[aa.aW];exact⟨bX _,ou⟩,.inl ⟨bP,G6⟩⟩
 ·rename_i b a7 o ro len cap
  split
  ·rename_i eK off code dL kind t hbl
   refine dV λhc=>gM λhk=>?_
   simp only[aS]at hc
   obtain⟨⟨⟨c1,c2⟩,c3⟩,c4⟩:=hc
   have c1:0<kind:=eC c1
   have c2:=vZ c2;have c3:=aa.beq_eq c3;have c4:=bG c4
   subst c2;subst c3;subst c4
   simp only[cI,eo,ab,aa.den_add]at hk
   have Gs:(A.sl b sh.length o ro len cap).ok n bl.length ρ:=hv
   obtain⟨ptr,e1,e2,bN⟩:=p4 (m:=m) Gs
   have bP:X=(A.sl b sh.length o ro len cap).den ρ m:=bP
   obtain⟨x1,⟨x2,gF,gq,gG⟩,⟨gV,ka,lH,lI⟩,⟨mq,kT⟩,fQ,hV⟩:=Gs
   have e7:(A.rows sh o code dL kind).ok n bl.length ρ:=hb _ (eh hbl) _ (by simp)
   have hf:au 22 ([code,ro,ro.add len].map (·.den ρ))=rc (((af (code.den ρ)).drop (ro.den ρ).toNat).take (len.den ρ).toNat):=by
    simp only[cI,eo,au,aa.den_add]
    congr 2;omega
   have fO:rc (((af (code.den ρ)).drop (ro.den ρ).toNat).take (len.den ρ).toNat)<=bK:=by
    have h1:=aaU (af (code.den ρ)) (ro.den ρ).toNat (len.den ρ).toNat
    rw[aaT e7.2.1.1]at h1
    exact oe h1 e7.2.1.2
   refine afx λxb=>?_
   refine(fT (by rw[hf];exact gm _) (by rw[hf];exact fO)).mono λaE n1 l hn ha ⟨k1,k2⟩=>?_
   rw[hf]at k2
   refine⟨k1,by rw[k2];exact⟨gm _,fO⟩,?_⟩
   rw[k2,ee]
   have hlen:(((af (code.den ρ)).drop (ro.den ρ).toNat).take (len.den ρ).toNat).length=(len.den ρ).toNat:=by simp;omega
   rcases jX (cap.den ρ) 0 with c0|c0
   ·left
    have:=fQ c0
    refine⟨by rw[bP,e1,e2 c0,if_pos c0,this];rfl,by rw[this];simp⟩
   ·right
    clear fO
    rcases jX (dL.den ρ) 0 with va|va
    ·have:=xb c0;omega
    ·obtain⟨fJ,cells,iZ,fz,bq,⟨bE,b5⟩,_⟩:=(hw.rws b sh o code dL kind t hbl (by omega)).2 va
     refine⟨m b,(o.den ρ).toNat+(ro.den ρ).toNat*sh.length,(cap.den ρ).toNat,cells,iZ,fz,?_,⟨by rw[hlen];have:=hV c0;omega,by omega⟩,⟨⟨b,by simp[lh],rfl,_,hbl,by rw[oJ (by omega) va];omega,λh=>by cases h⟩,fJ⟩,bq,?_⟩
     ·rw[bP,e1,bN c0,hlen,if_neg (by omega)]
     ·exact b5.sub _ _ (by omega)
  ·exact aw.fail
 ·rename_i b off len cap
  split
  ·rename_i cs hcs
   refine dV λhc=>?_
   simp only[aS]at hc
   obtain⟨⟨⟨c1,c2⟩,c3⟩,c4⟩:=hc
   have c2:=eC c2;have c3:=eC c3;have c4:=eC c4
   obtain⟨d1,d2,d3⟩:=FN hw hb hcs
   refine(abF (m:=m) c1 c2 d2 d1).mono λaE n1 l hn ha ⟨k1,k2,k3,k4,qI⟩=>⟨k1,k2,.inr ?_⟩
   have bP:X= .slice (some ⟨m b,off,none⟩) len cap:=bP
   cases hbl:bl[b]? with
   |none=>unfold sr at hcs;rw[hbl]at hcs;cases hcs
   |some q=>
    obtain⟨C,t⟩:=q
    obtain⟨g1,g2,cells,g3,g4,_⟩:=abG hb hw hbl hcs k4 qI
    have kK:bV C=true:=by
     unfold sr at hcs
     rw[hbl]at hcs
     simp only at hcs
     cases hc:(bB (off+len*sh.length) C.length&&bV C)with
     |false=>rw[hc]at hcs;cases hcs
     |true=>simp only[aS]at hc;exact hc.2
    exact⟨m b,off,cap,cells,t.1,(0,0),by rw[bP,k3],⟨by omega,by omega⟩,⟨⟨b,by simp[lh],rfl,_,hbl,by rw[jA kK];decide,λ_=>by simp[p5]⟩,g2.elim .inl λh=> .inr (.inr h)⟩,g3,g4⟩
  ·exact aw.fail
 ·exact aw.fail
theorem arx {sh:List aB} {e:aX} {v:V} {X:aF} (hex:∀g,¬w0.ex g) (hb:cK n bl.length ρ bl) (hw:Mem w0 ρ m bl w) (hv:v.ok n bl.length ρ) (bP:v.rel ρ m X):
 aw S L (Re sh e bl v) n ρ λah n' l=>l.bk n'/\(0<=l.den ah/\l.den ah<=bK)/\q5 (λg=>w0.r.heap.size<=g) w sh e (af (l.den ah)) X:=by
 unfold Re
 split
 ·refine aw.pure ⟨aa.cT _ _,by rw[aa.aW];exact⟨bX _,ou⟩,.inl ⟨bP,G6⟩⟩
 ·rename_i b a7 o ro len cap
  split
  ·rename_i eK off code dL kind t hbl
   refine dV λhc=>gM λhk=>?_
   simp only[aS]at hc
   obtain⟨⟨⟨⟨⟨⟨⟨c1,c2⟩,c3⟩,EP⟩,M3⟩,hQ⟩,c4⟩,c5⟩:=hc
   have c1:=bG c1
   have c2:=vZ c2;have c3:=aa.beq_eq c3;have EP:=aa.beq_eq EP;have M3:=aa.beq_eq M3;have hQ:=aa.beq_eq hQ;have c4:=bG c4;have c5:=bG c5
   subst c2;subst c3;subst c4;subst EP;subst M3;subst hQ;subst c5;subst c1
   simp only[cI,eo,ab,aa.aW]at hk
   have Gs:(A.sl b sh.length (.const 0) (.const 0) len cap).ok n bl.length ρ:=hv
   obtain⟨ptr,e1,e2,bN⟩:=p4 (m:=m) Gs
   have bP:X=(A.sl b sh.length (.const 0) (.const 0) len cap).den ρ m:=bP
   obtain⟨x1,⟨x2,gF,gq,gG⟩,⟨gV,ka,lH,lI⟩,⟨mq,kT⟩,fQ,hV⟩:=Gs
   rw[aa.aW]at kT
   have e7:(A.rows sh (.const 0) code cap 2).ok n bl.length ρ:=hb _ (eh hbl) _ (by simp)
   have hf:au 22 ([code,.const 0,len].map (·.den ρ))=rc (((af (code.den ρ)).drop 0).take (len.den ρ).toNat):=by
    simp only[cI,eo,au,aa.aW]
    congr 2
   have fO:rc (((af (code.den ρ)).drop 0).take (len.den ρ).toNat)<=bK:=by
    have h1:=aaU (af (code.den ρ)) 0 (len.den ρ).toNat
    rw[aaT e7.2.1.1]at h1
    exact oe h1 e7.2.1.2
   refine(fT (by rw[hf];exact gm _) (by rw[hf];exact fO)).mono λaE n1 l hn ha ⟨k1,k2⟩=>?_
   rw[hf]at k2
   refine⟨k1,by rw[k2];exact⟨gm _,fO⟩,?_⟩
   rw[k2,ee]
   have hlen:(((af (code.den ρ)).drop 0).take (len.den ρ).toNat).length=(len.den ρ).toNat:=by simp;omega
   rcases jX (cap.den ρ) 0 with c0|c0
   ·left
    have:=fQ c0
    refine⟨by rw[bP,e1,e2 c0,if_pos c0,this];rfl,by rw[this];simp⟩
   ·right
    clear fO
    obtain⟨fJ,cells,iZ,fz,bq,⟨bE,b5⟩,dm⟩:=(hw.rws b sh (.const 0) code cap 2 t hbl (by omega)).2 c0
    obtain⟨p0,p1,bJ,cP,ea,ed⟩:=dm (by omega)
    have bJ:=bJ.two
    subst p0;subst bJ
    rw[aa.aW]at b5
    refine⟨m b,(cap.den ρ).toNat,cells,?_,⟨by rw[hlen];have:=hV c0;omega,by omega⟩,ed.elim (λh=>absurd h (hex _)) id,bq,?_,cP⟩
    ·rw[bP,e1,bN c0,hlen,if_neg (by omega)];simp[aa.aW]
    ·have:=b5.sub 0 (len.den ρ).toNat (by omega)
     simpa using this
  ·exact aw.fail
 ·rename_i b off len cap
  split
  ·rename_i C t hbl
   split
   ·rename_i cs hcs
    refine dV λhc=>?_
    simp only[aS]at hc
    obtain⟨⟨⟨⟨⟨⟨⟨c1,c2⟩,c3⟩,c4⟩,c5⟩,hQ⟩,ox⟩,nN⟩:=hc
    have c2:=eC c2;have c3:=eC c3;have c4:=eC c4
    have c5:=bG c5;have hQ:=bG hQ;have nN:=bG nN
    subst c5;subst nN
    obtain⟨d1,d2,d3⟩:=FN hw hb hcs
    refine(abF (m:=m) c1 c2 d2 d1).mono λaE n1 l hn ha ⟨k1,k2,k3,k4,qI⟩=>⟨k1,k2,.inr ?_⟩
    have bP:X= .slice (some ⟨m b,0,none⟩) len cap:=bP
    obtain⟨g1,g2,cells,g3,g4,g5⟩:=abG hb hw hbl hcs k4 qI
    exact⟨m b,cap,cells,by rw[bP,k3],⟨by omega,by omega⟩,g2.elim (λh=>absurd h (hex _)) id,g3,g4,by rw[g5 (by simpa using ox),hQ]⟩
   ·exact aw.fail
  ·exact aw.fail
 ·exact aw.fail
end
def NY (d:D) (v:V):M (List aa):=
 match d,v with
 | .bool,.w (.one (.bool e))=>match e with
  | .lit v=>pure [.const (cond v 1 0)]
  |e=>bind (zQ e) λl=>pure [l]
 | .int k lo hi,.w (.one (.int a6 x))=>cond (decide (k=a6)) (cond (o7 lo hi x) (pure [x.l]) (bind (fy 39 [x.l,.const lo,.const hi]) λ_=>pure [x.l])) fail
 | .mix l,.w (.agg s)=>vV l s
 | .str,.w (.one (.str l))=>pure [l]
 | .kP l,.w (.one (.str x))=>match x.dM with|some c=>cond (decide (c=ev (ru l))) (pure []) fail|none=>fail
 | .qH k c,.w (.one (.int a6 x))=>match x.l.dM with|some d=>cond (decide (k=a6)&&decide (d=c)) (pure []) fail|none=>fail
 | .agg k n lo hi,.w (.agg l)=>cond (aG l.length n) (match l0 k lo hi l with|some r=>pure r|none=>fail) fail
 |_,_=>fail
noncomputable def wX (bl:List ax):List ck->List V->M (List aa)
 |[],[]=>pure []
 | .d x::r,v::s=>bind (NY x v) λa=>bind (wX bl r s) λb=>pure (a++b)
 | .rd sh::r,v::s=>bind (KU sh bl v) λa=>bind (wX bl r s) λb=>pure (a::b)
 |_,_=>fail
section
variable {S:Nat->List Int->List Int->Prop} {L:V->Env->Prop} {w0:dK} {P:bH} {w:ar}
theorem RC:∀{sh:List aB} {zs:List Int},cl sh zs->aV (sh.map aB.eL) zs/\pA aB.val sh zs=de sh zs
 |[],[],_=>⟨trivial,rfl⟩
 |c::sh,z::zs,h=>⟨⟨h.1.1,h.1.2,(RC h.2).1⟩,by simp[de,(RC h.2).2]⟩
 |[],_::_,h=>h.elim
 |_::_,[],h=>h.elim
theorem agK {d:D} {v:V} {X:aF} {n nb:Nat} {ρ:Env} {m:Nat->Nat} (hv:v.ok n nb ρ) (bP:v.rel ρ m X):aw S L (NY d v) n ρ λah n' ls=>(∀x∈ls,aa.bk n' x)/\aV d.bds (ls.map (·.den ah))/\X=d.val (ls.map (·.den ah)):=by
 unfold NY
 split
 ·rename_i e
  have bP:X= .bool (e.den ρ):=bP
  have key:aw S L (bind (zQ e) λl=>pure [l]) n ρ λah n' ls=>(∀x∈ls,aa.bk n' x)/\aV D.bool.bds (ls.map (·.den ah))/\X=D.bool.val (ls.map (·.den ah)):=
   J0.bind λaE n1 l hn ha ⟨g1,g2,g3⟩=>aw.pure ⟨λx hx=>by simp at hx;subst hx;exact g1,⟨g2.1,g2.2,trivial⟩,by rw[bP,g3];rfl⟩
  cases e with
  |lit b=>
   refine aw.pure ⟨λx hx=>by simp at hx;subst hx;exact aa.cT _ _,?_,?_⟩
   ·simp only[cI,eo,aa.aW,D.bds];cases b<;>exact⟨by decide,by decide,trivial⟩
   ·rw[bP];simp only[cI,eo,aa.aW];cases b<;>rfl
  |_=>exact key
 ·rename_i k lo hi a6 x
  refine dV λhk=>?_
  have hk:k=a6:=by simpa using hk
  subst hk
  have hv:x.ok n ρ:=hv
  have bP:X= .int k (x.l.den ρ):=bP
  cases hf:o7 lo hi x with
  |true=>
   have:=E4 hf hv
   exact aw.pure ⟨λy hy=>by simp at hy;subst hy;exact hv.1,⟨this.1,this.2,trivial⟩,bP⟩
  |false=>
   refine gM λhk=>aw.pure ?_
   simp only[cI,eo,ab,aa.aW]at hk
   exact⟨λy hy=>by simp at hy;subst hy;exact hv.1,⟨hk.1,hk.2,trivial⟩,bP⟩
 ·rename_i l s
  have bP:X= .agg (s.map (A.den ρ m)).toArray:=bP
  refine(DB (nb:=nb) (m:=m) hv).mono λaE n1 ls hn ha ⟨g1,g2,g3⟩=>?_
  have:=RC g2
  refine⟨g1,this.1,?_⟩
  rw[bP,<-g3]
  simp only[D.val,this.2]
 ·rename_i l
  have bP:X= .string (bw (U (l.den ρ))):=bP
  have hv:l.bk n/\0<=l.den ρ/\l.den ρ<=bM:=hv
  exact aw.pure ⟨λy hy=>by simp at hy;subst hy;exact hv.1,⟨hv.2.1,hv.2.2,trivial⟩,bP⟩
 ·rename_i l x
  have bP:X= .string (bw (U (x.den ρ))):=bP
  cases hc:x.dM with
  |none=>exact aw.fail
  |some c=>
   refine dV λhd=>aw.pure ⟨λy hy=>by simp at hy,trivial,?_⟩
   rw[bP,abR (n:=n) hc (by simpa using hd)];rfl
 ·rename_i k c a6 x
  have bP:X= .int a6 (x.l.den ρ):=bP
  cases hc:x.l.dM with
  |none=>exact aw.fail
  |some d=>
   refine dV λhd=>aw.pure ⟨λy hy=>by simp at hy,trivial,?_⟩
   simp only[aS,decide_eq_true_eq]at hd
   rw[bP,aa.ia hc,<-hd.1,hd.2];rfl
 ·rename_i k n' lo hi l
  refine dV λhk=>?_
  have hk:=bG hk
  have bP:X= .agg (l.map (A.den ρ m)).toArray:=bP
  cases hf:l0 k lo hi l with
  |none=>exact aw.fail
  |some r=>
   obtain⟨g1,g2,g3⟩:=NW (m:=m) hf hv
   rw[hk]at g2
   refine aw.pure ⟨NV hf hv,g2,?_⟩
   rw[bP,g3]
   simp only[D.val]
   rw[jd (by simp[g1,hk])]
 ·exact aw.fail
theorem ZP {n:Nat} {ρ ah:Env} {ls:List aa} (h:∀x∈ls,aa.bk n x) (ha:agree n ρ ah):ls.map (·.den ah)=ls.map (·.den ρ):=h8 λx hx=>aa.bR ha (h x hx)
theorem oq.later {n nb:Nat} {ρ ah:Env} {m:Nat->Nat} {bl:List ax} {bs os:List Nat} {g:Nat} (hb:cK n nb ρ bl) (ha:agree n ρ ah) (h:oq w0 ah m bl bs os g):oq w0 ρ m bl bs os g:=by
 obtain⟨⟨b,h1,h2,p,h3,h4,h6⟩,h5⟩:=h
 exact⟨⟨b,h1,h2,p,h3,by rw[<-qK (hb p (eh h3)) ha];exact h4,h6⟩,h5⟩
theorem E9 {bl:List ax} {m:Nat->Nat}:∀{ds:List ck} {vs:List V} {xs:List aF} {n:Nat} {ρ:Env},cK n bl.length ρ bl->Mem w0 ρ m bl w->(∀v∈vs,V.ok n bl.length ρ v)->eD ρ m vs xs->
 aw S L (wX bl ds vs) n ρ λah n' ls=>(∀x∈ls,aa.bk n' x)/\aV (cR ds) (ls.map (·.den ah))/\∀F:Nat->Prop,(∀g,oq w0 ρ m bl (vs.flatMap lh) (vs.flatMap p5) g->F g)->jt F (λ_=>False) w ds (ls.map (·.den ah)) xs
 |[],[],[],n,ρ,_,_,_,_=>aw.pure ⟨λ_ h=>by simp at h,trivial,λ_ _=>trivial⟩
 | .d x::r,v::s,X::xs,n,ρ,hb,hw,hv,hr=>by
  unfold wX
  refine(agK (hv v (by simp)) hr.1).bind λaE n1 a hn ha ⟨g1,g2,g3⟩=>?_
  refine(E9 (ds:=r) (vs:=s) (xs:=xs) (hb.ext ha hn (br _)) (hw.mZ hb ha) (λu hu=>(hv u (dn _ hu)).ext ha hn (br _)) (eD.later (λu hu=>hv u (dn _ hu)) ha hr.2)).bind λbT en b eN dD ⟨k1,k2,k3⟩=>aw.pure ⟨λy hy=>?_,?_,λF hF=>?_⟩
  ·rcases List.mem_append.1 hy with hy|hy
   ·exact(g1 y hy).mono eN
   ·exact k1 y hy
  ·rw[ft,ZP g1 dD]
   exact sB g2 k2
  ·have hl:(a.map (·.den aE)).length=x.num:=by rw[gS g2,D.EJ]
   rw[ft,ZP g1 dD]
   refine⟨?_,?_⟩
   ·show X=x.val _
    rw[D.acd x hl];exact g3
   ·show jt F _ w r (List.drop x.num _) xs
    rw[<-hl,Ee]
    exact k3 F λg hg=>hF g (by
     have:=oq.later hb ha hg
     obtain⟨⟨cp,h1,h2,p,h4,h5,h6⟩,h3⟩:=this
     exact⟨⟨cp,by simp only[qa,rU];exact .inr h1,h2,p,h4,h5,λh=>by simp only[qa,rU];exact .inr (h6 h)⟩,h3⟩)
 | .rd sh::r,v::s,X::xs,n,ρ,hb,hw,hv,hr=>by
  unfold wX
  refine(aaV hb hw (hv v (by simp)) hr.1).bind λaE n1 a hn ha ⟨g1,g2,g3⟩=>?_
  refine(E9 (ds:=r) (vs:=s) (xs:=xs) (hb.ext ha hn (br _)) (hw.mZ hb ha) (λu hu=>(hv u (dn _ hu)).ext ha hn (br _)) (eD.later (λu hu=>hv u (dn _ hu)) ha hr.2)).bind λbT en b eN dD ⟨k1,k2,k3⟩=>aw.pure ⟨λy hy=>?_,?_,λF hF=>?_⟩
  ·rcases List.mem_cons.1 hy with rfl|hy
   ·exact g1.mono eN
   ·exact k1 y hy
  ·simp only[cI,aa.bR dD g1]
   exact⟨g2.1,g2.2,k2⟩
  ·simp only[cI,aa.bR dD g1]
   refine⟨?_,?_⟩
   ·show r0 F w sh (af _) X
    exact g3.mono λg hg=>hF g (by
     obtain⟨⟨cp,h1,h2,p,h4,h5,h6⟩,h3⟩:=hg
     exact⟨⟨cp,by simp only[qa,rU];exact .inl h1,h2,p,h4,h5,λh=>by simp only[qa,rU];exact .inl (h6 h)⟩,h3⟩)
   ·exact k3 F λg hg=>hF g (by
     have:=oq.later hb ha hg
     obtain⟨⟨cp,h1,h2,p,h4,h5,h6⟩,h3⟩:=this
     exact⟨⟨cp,by simp only[qa,rU];exact .inr h1,h2,p,h4,h5,λh=>by simp only[qa,rU];exact .inr (h6 h)⟩,h3⟩)
 |[],_::_,_,_,_,_,_,_,_=>aw.fail
 | .d _::_,[],_,_,_,_,_,_,_=>aw.fail
 | .rd _::_,[],_,_,_,_,_,_,_=>aw.fail
 | .kN _ _::_,[],_,_,_,_,_,_,_=>aw.fail
 | .kN _ _::_,_::_,_,_,_,_,_,_,_=>aw.fail
 |_,[],_::_,_,_,_,_,_,hr=>hr.elim
 |_,_::_,[],_,_,_,_,_,hr=>hr.elim
where
 eD.later {n nb:Nat} {ρ ah:Env} {m:Nat->Nat}:∀{vs:List V} {xs:List aF},(∀v∈vs,V.ok n nb ρ v)->agree n ρ ah->eD ρ m vs xs->eD ah m vs xs
 |[],[],_,_,_=>trivial
 |v::vs,x::xs,hv,ha,hr=>⟨V.rel.ext hr.1 (hv v (by simp)) ha (λ_ _=>rfl),eD.later (λu hu=>hv u (dn _ hu)) ha hr.2⟩
 |[],_::_,_,_,hr=>hr.elim
 |_::_,[],_,_,hr=>hr.elim
end
end Go.bo
namespace Go.bo
open M
def wZ:List Nat->List ax->List ax
 |[],bl=>bl
 |b::r,bl=>match bl[b]? with
  |some ([.rows sh off code cap (k+1)],t)=>wZ r (df bl b ([.rows sh off code cap 1],t))
  |_=>wZ r bl
def uj (us:List W):V:=match us with|[u]=> .w u|l=> .fY l
def tW:List V->Bool
 |[]=>true
 | .w (.one (.slc ..))::_=>false
 |_::r=>tW r
noncomputable def dJ.Ev (c:dJ) (n:Nat) (vs:List V) (bl:List ax) (k:RK):T:=
 wX bl c.args vs n λls n1=>cond (ov c.res&&(!(c.res.any ck.nq)||tW vs)) (KM c.pre ls (.call c.id ls n1 (cR c.res) (q6 c.res n1 (n1+(cR c.res).length) [] (cond (c.res.any ck.nq) (wZ (vs.flatMap lh) bl) bl) λen us lj=>k en (uj us) lj))) .stuck
def ac7 (sh:List aB) (b:Nat):V:= .w (.one (.sl b sh.length (.const 0) (.const 0) (.const 0) (.const 0)))
def SZ (rd:Bool) (sh:List aB) (b:Nat) (bl:List ax):Option (List ax):=
 match bl[b]? with
 |some ([],(t,false))=>cond rd (some (df bl b ([.rows sh (.const 0) (.const 0) (.const 0) 1],(t,false)))) none
 |some ([.rows eK off code cap kind],t)=>cond (nu sh eK&&aa.beq off (.const 0)&&aa.beq cap (.const 0)&&cf 0 kind) (some bl) none
 |_=>none
def ku (rd:Bool):List ck->List V->List ax->List V×List ax
 | .rd sh::r,v::s,bl=>match v with
  | .w (.one (.slc b 0 0 0))=>match SZ rd sh b bl with
   |some o4=>(ac7 sh b::(ku rd r s o4).1,(ku rd r s o4).2)
   |none=>(v::(ku rd r s bl).1,(ku rd r s bl).2)
  |_=>(v::(ku rd r s bl).1,(ku rd r s bl).2)
 |_::r,v::s,bl=>(v::(ku rd r s bl).1,(ku rd r s bl).2)
 |_,vs,bl=>(vs,bl)
noncomputable def dJ.E (c:dJ) (n:Nat) (vs:List V) (bl:List ax) (k:RK):T:=
 c.Ev n (ku (c.res.any ck.nq) c.args vs bl).1 (ku (c.res.any ck.nq) c.args vs bl).2 k
section
variable {S:Nat->List Int->List Int->Prop} {L:V->Env->Prop} {w0:dK} {P:bH}
theorem Mem.zero {ρ:Env} {m:Nat->Nat} {bl:List ax} {w:ar} {b:Nat} {sh:List aB} {t:aX} (h:Mem w0 ρ m bl w) (hbl:bl[b]?=some ([],(t,false))):Mem w0 ρ m (df bl b ([.rows sh (.const 0) (.const 0) (.const 0) 1],(t,false))) w:=by
 have mD:b<bl.length:=(List.getElem?_eq_some_iff.1 hbl).1
 obtain⟨bq,bE,r,hr,b5⟩:=h.eR b [] (t,false) hbl rfl
 have hr:=hr rfl
 subst hr
 have dc:∀(i:Nat) (p:ax),(df bl b ([.rows sh (.const 0) (.const 0) (.const 0) 1],(t,false)))[i]?=some p->(i=b/\p=([.rows sh (.const 0) (.const 0) (.const 0) 1],(t,false)))∨(i≠b/\bl[i]?=some p):=λi p hi=>by
  rw[iX,oU]at hi
  split at hi
  ·rename_i eM
   subst eM
   simp only[mD,if_true,aQ]at hi
   exact .inl ⟨rfl,hi.symm⟩
  ·rename_i eM;exact .inr ⟨λe=>eM e.symm,hi⟩
 have hold:bp ρ ([]:List A)=2:=jA rfl
 refine⟨h.ext,h.gQ,h.jz,h.ic,h.e8,h.gz,λi iB t' hi hH=>?_,λi eK gT code' gL mN t' hi=>?_,λi j p q hi hj he=>?_⟩
 ·rcases dc i _ hi with⟨rfl,cX⟩|⟨hne,hi⟩
  ·cases cX;cases hH
  ·exact h.eR i iB t' hi hH
 ·rcases dc i _ hi with⟨rfl,cX⟩|⟨hne,hi⟩
  ·cases cX
   intro _
   simp only[aa.aW]
   exact⟨λh0=>by omega,λ_=>⟨bE.elim .inl λh=> .inr (.inr h),_,_,_,b5,⟨bX _,by rw[fa];intro _ h;simp at h,[],[],by simp[fa,bf],rfl⟩,λbg=>by omega⟩⟩
  ·exact h.rws i eK gT _ gL mN t' hi
 ·rcases dc i _ hi with⟨rfl,cX⟩|⟨hne,nR⟩
  ·rcases dc j _ hj with⟨rfl,pQ⟩|⟨alj,hj⟩
   ·exact .inl rfl
   ·rcases h.inj i j _ q hbl hj he with h1|h1|h1|h1
    ·exact .inl h1
    ·simp only[hold]at h1;omega
    ·simp only[hold]at h1;omega
    ·exact .inr (.inr (.inr h1))
  ·rcases dc j _ hj with⟨zv,pQ⟩|⟨alj,hj⟩
   ·subst zv
    rcases h.inj i j p _ nR hbl he with h1|h1|h1|h1
    ·exact .inl h1
    ·simp only[hold]at h1;omega
    ·exact .inr (.inr (.inl h1))
    ·simp only[hold]at h1;omega
   ·exact h.inj i j p q nR hj he
theorem azw {n:Nat} {ρ:Env} {m:Nat->Nat} {w:ar} {rd:Bool} {sh:List aB} {b:Nat} {bl o4:List ax} (h:SZ rd sh b bl=some o4) (hm:Mem w0 ρ m bl w) (hb:cK n bl.length ρ bl):Mem w0 ρ m o4 w/\cK n o4.length ρ o4/\o4.length=bl.length/\b<bl.length:=by
 unfold SZ at h
 split at h
 ·rename_i t hbl
  cases rd with
  |false=>cases h
  |true=>
   simp only[cond_true,aQ]at h
   subst h
   refine⟨hm.zero hbl,hb.set (λa ha=>?_),iY _ _ _,(List.getElem?_eq_some_iff.1 hbl).1⟩
   have ha:a= .rows sh (.const 0) (.const 0) (.const 0) 1:=by simpa using ha
   subst ha
   refine⟨⟨aa.cT _ _,aa.cT _ _,aa.cT _ _⟩,?_,?_⟩
   ·simp only[aa.aW];exact⟨bX _,ou⟩
   ·simp only[aa.aW];omega
 ·rename_i eK off code cap kind t hbl
  cases hc:(nu sh eK&&aa.beq off (.const 0)&&aa.beq cap (.const 0)&&cf 0 kind)with
  |false=>rw[hc]at h;cases h
  |true=>
   rw[hc]at h
   simp only[cond_true,aQ]at h
   subst h
   exact⟨hm,hb,rfl,(List.getElem?_eq_some_iff.1 hbl).1⟩
 ·cases h
theorem S0 {n:Nat} {ρ:Env} {m:Nat->Nat} {w:ar} {rd:Bool}:∀{ds:List ck} {vs:List V} {bl:List ax} {xs:List aF},Mem w0 ρ m bl w->cK n bl.length ρ bl->(∀v∈vs,V.ok n bl.length ρ v)->eD ρ m vs xs->
 Mem w0 ρ m (ku rd ds vs bl).2 w/\cK n (ku rd ds vs bl).2.length ρ (ku rd ds vs bl).2/\(ku rd ds vs bl).2.length=bl.length/\(∀v∈(ku rd ds vs bl).1,V.ok n bl.length ρ v)/\eD ρ m (ku rd ds vs bl).1 xs
 |[],vs,bl,xs,hm,hb,hv,hr=>⟨hm,hb,rfl,hv,hr⟩
 |d::r,[],bl,xs,hm,hb,hv,hr=>by
  cases d<;>exact⟨hm,hb,rfl,hv,hr⟩
 |d::r,v::s,bl,xs,hm,hb,hv,hr=>by
  match xs,hr with
  |x::xs,hr=>
  have fl:Mem w0 ρ m (ku rd r s bl).2 w/\cK n (ku rd r s bl).2.length ρ (ku rd r s bl).2/\(ku rd r s bl).2.length=bl.length/\(∀u∈(v::(ku rd r s bl).1),V.ok n bl.length ρ u)/\eD ρ m (v::(ku rd r s bl).1) (x::xs):=by
   obtain⟨g1,g2,g3,g4,g5⟩:=S0 (rd:=rd) (ds:=r) (vs:=s) hm hb (λu hu=>hv u (dn _ hu)) hr.2
   exact⟨g1,g2,g3,λu hu=>by
    rcases List.mem_cons.1 hu with rfl|hu
    ·exact hv u (by simp)
    ·exact g4 u hu,hr.1,g5⟩
  cases d with
  |d y=>exact fl
  |kN sh e=>exact fl
  |rd sh=>
   unfold ku
   split
   ·rename_i b _
    split
    ·rename_i o4 hz
     obtain⟨bq,bE,b5,dm⟩:=azw hz hm hb
     obtain⟨g1,g2,g3,g4,g5⟩:=S0 (rd:=rd) (ds:=r) (vs:=s) bq bE (λu hu=>by rw[b5];exact hv u (dn _ hu)) hr.2
     refine⟨g1,g2,by rw[g3,b5],λu hu=>?_,?_,g5⟩
     ·rcases List.mem_cons.1 hu with rfl|hu
      ·refine⟨dm,⟨aa.cT _ _,aa.cT _ _,aa.cT _ _,aa.cT _ _⟩,?_⟩
       simp only[aa.aW]
       exact⟨⟨by omega,by omega,by omega,by omega⟩,⟨by omega,by omega⟩,λh=>by omega,λ_=>by omega⟩
      ·rw[<-b5];exact g4 u hu
     ·have h0:x= .slice (some ⟨m b,0,none⟩) 0 0:=hr.1
      rw[h0]
      simp[ac7,V.rel,W.den,A.den,aa.aW]
    ·exact fl
   ·exact fl
theorem Mem.low {ρ:Env} {m:Nat->Nat} {bl:List ax} {w:ar} {b k:Nat} {sh:List aB} {off code cap:aa} {t:aX×Bool} (h:Mem w0 ρ m bl w) (hbl:bl[b]?=some ([.rows sh off code cap (k+1)],t)):Mem w0 ρ m (df bl b ([.rows sh off code cap 1],t)) w:=by
 have mD:b<bl.length:=(List.getElem?_eq_some_iff.1 hbl).1
 have dc:∀(i:Nat) (p:ax),(df bl b ([.rows sh off code cap 1],t))[i]?=some p->(i=b/\p=([.rows sh off code cap 1],t))∨(i≠b/\bl[i]?=some p):=λi p hi=>by
  rw[iX,oU]at hi
  split at hi
  ·rename_i eM
   subst eM
   simp only[mD,if_true,aQ]at hi
   exact .inl ⟨rfl,hi.symm⟩
  ·rename_i eM;exact .inr ⟨λe=>eM e.symm,hi⟩
 have hk:∀(i:Nat) (p:ax),(df bl b ([.rows sh off code cap 1],t))[i]?=some p->∃p',bl[i]?=some p'/\bp ρ p.1<=bp ρ p'.1/\(bp ρ p'.1≠0->True):=λi p hi=>by
  rcases dc i p hi with⟨rfl,rfl⟩|⟨hne,hi⟩
  ·refine⟨_,hbl,?_,λ_=>trivial⟩
   simp only[bp];split<;>omega
  ·exact⟨p,hi,br _,λ_=>trivial⟩
 refine⟨h.ext,h.gQ,h.jz,h.ic,h.e8,h.gz,λi iB t' hi ho=>?_,λi eK gT code' gL mN t' hi=>?_,λi j p q hi hj he=>?_⟩
 ·rcases dc i _ hi with⟨rfl,cX⟩|⟨hne,hi⟩
  ·cases cX;cases ho
  ·exact h.eR i iB t' hi ho
 ·rcases dc i _ hi with⟨rfl,cX⟩|⟨hne,hi⟩
  ·cases cX
   intro _
   obtain⟨g1,g2⟩:=h.rws i _ _ _ _ (k+1) _ hbl (by omega)
   refine⟨g1,λhc=>?_⟩
   obtain⟨g3,cells,iZ,fz,g4,g5,_⟩:=g2 hc
   exact⟨g3,cells,iZ,fz,g4,g5,λh2=>by omega⟩
  ·exact h.rws i eK gT _ gL mN t' hi
 ·obtain⟨p',h1,h2,_⟩:=hk i p hi
  obtain⟨q',h3,h4,_⟩:=hk j q hj
  rcases h.inj i j p' q' h1 h3 he with h5|h5|h5|h5
  ·exact .inl h5
  ·exact .inr (.inl ⟨by omega,by omega⟩)
  ·exact .inr (.inr (.inl (by omega)))
  ·exact .inr (.inr (.inr (by omega)))
theorem N3 {n nb:Nat} {ρ:Env} {m:Nat->Nat} {w:ar}:∀{bs:List Nat} {bl:List ax},Mem w0 ρ m bl w->cK n nb ρ bl->Mem w0 ρ m (wZ bs bl) w/\cK n nb ρ (wZ bs bl)/\(wZ bs bl).length=bl.length/\
 ∀(i:Nat) (p:ax),(wZ bs bl)[i]?=some p->∃p',bl[i]?=some p'/\bp ρ p.1<=bp ρ p'.1/\(i∈bs->bV p'.1=false->bp ρ p.1<=1)
 |[],bl,h,hb=>⟨h,hb,rfl,λi p hi=>⟨p,hi,br _,λh=>by simp at h⟩⟩
 |b::r,bl,h,hb=>by
  unfold wZ
  split
  ·rename_i sh off code cap k t hbl
   have mD:b<bl.length:=(List.getElem?_eq_some_iff.1 hbl).1
   have iO:cK n nb ρ (df bl b ([.rows sh off code cap 1],t)):=λp hp a ha=>by
    rw[iX]at hp
    rcases HS hp with hp|hp
    ·exact hb p hp a ha
    ·subst hp
     simp at ha;subst ha
     have h0:A.ok n nb ρ (.rows sh off code cap (k+1)):=hb _ (eh hbl) _ (by simp)
     exact h0
   obtain⟨g1,g2,g3,g4⟩:=N3 (bs:=r) (h.low hbl) iO
   refine⟨g1,g2,by rw[g3,iY],λi p hp=>?_⟩
   obtain⟨p',h1,h2,h3⟩:=g4 i p hp
   by_cases iD:i=b
   ·subst iD
    rw[iX,List.getElem?_set_self mD]at h1
    cases h1
    refine⟨_,hbl,iL h2 (by simp only[bp];split<;>omega),λ_ _=>iL h2 (by simp only[bp];split<;>omega)⟩
   ·rw[iX,List.getElem?_set_ne (λe=>iD e.symm)]at h1
    exact⟨p',h1,h2,λhi ho=>h3 (by simpa [iD]using hi) ho⟩
  ·rename_i hno
   obtain⟨g1,g2,g3,g4⟩:=N3 (bs:=r) h hb
   refine⟨g1,g2,g3,λi p hp=>?_⟩
   obtain⟨p',h1,h2,h3⟩:=g4 i p hp
   refine⟨p',h1,h2,λhi ho=>?_⟩
   rcases List.mem_cons.1 hi with rfl|hi
   ·obtain⟨C,t⟩:=p'
    obtain⟨sh,off,code,cap,k,rfl⟩:=KC ho
    cases k with
    |zero=>
     have:bp ρ [A.rows sh off code cap 0]=0:=by simp[bp]
     simp only[this]at h2;omega
    |succ k=>exact absurd h1 (hno _ _ _ _ _ _)
   ·exact h3 hi ho
theorem Rz {n nb:Nat} {ρ:Env} {m:Nat->Nat} {us:List W} {vals:List aF} (h:∀u∈us,W.ok n nb ρ u) (hm:us.map (W.den ρ m)=vals):(uj us).ok n nb ρ/\(uj us).rel ρ m (qT vals):=by
 subst hm
 unfold uj qT
 split
 ·exact⟨h _ (by simp),rfl⟩
 ·rename_i hne
  refine⟨h,?_⟩
  split
  ·rename_i x hx
   match us,hne,hx with
   |[u],hne,_=>exact absurd rfl (hne u)
  ·rfl
theorem aaa:∀{vs:List V},tW vs=true->vs.flatMap p5=[]
 |[],_=>rfl
 |v::r,h=>by
  unfold tW at h
  split at h
  ·rename_i heq;cases heq
  ·cases h
  ·rename_i hne heq
   cases heq
   rw[qa,aaa h,h9]
   unfold p5
   split
   ·exact(hne _ _ _ _ rfl).elim
   ·rfl
theorem aab:∀{vs:List V} {b:Nat},tW vs=true->b∈vs.flatMap lh->∃a7 o ro len cap,V.w (.one (.sl b a7 o ro len cap))∈vs
 |[],b,_,h=>by simp at h
 |v::r,b,h,hb=>by
  simp only[qa,rU]at hb
  rcases hb with hb|hb
  ·unfold lh at hb
   split at hb
   ·simp at hb;subst hb;exact⟨_,_,_,_,_,Ef ..⟩
   ·simp[tW]at h
   ·simp at hb
  ·have h':tW r=true:=by
    unfold tW at h
    split at h
    ·rename_i heq;cases heq
    ·cases h
    ·rename_i heq;cases heq;exact h
   obtain⟨a7,o,ro,len,cap,h1⟩:=aab h' hb
   exact⟨a7,o,ro,len,cap,dn _ h1⟩
theorem dJ.U7 {c:dJ} {spec:List Int->List Int->Prop} {f:cw} {VJ:Array aF} (cL:∀zs rs,spec zs rs->S c.id zs rs) (n:Nat) (vs:List V) (bl:List ax) (k:RK) (G:dT) (ρ:Env) (m:Nat->Nat) (w:ar) (xs:List aF) (R':wq->ar->Prop)
 (hc:∀zs,aV (cR c.args) zs->Ar c.pre zs->jt (oq w0 ρ m bl (vs.flatMap lh) (vs.flatMap p5)) (λ_=>False) w c.args zs xs->
   jY P f VJ w λe w'=>w.Extends w'/\∃rs us,aV (cR c.res) rs/\spec zs rs/\jt (λg=>oq w0 ρ m bl (vs.flatMap lh) (vs.flatMap p5) g∨w.heap.size<=g) (λg=>w.heap.size<=g) w' c.res rs us/\e= .returned (qT us))
 (hb:cK n bl.length ρ bl) (hw:Mem w0 ρ m bl w) (hv:∀v∈vs,V.ok n bl.length ρ v) (hr:eD ρ m vs xs) (ai:(c.Ev n vs bl k).holds S L G ρ) (hk:uS S L w0 k n bl.length ρ m G R'):
 jY P f VJ w R':=by
 unfold dJ.Ev at ai
 obtain⟨aE,n1,ls,fq,dP,⟨g1,g2,g3⟩,ai⟩:=E9 (S:=S) (L:=L) hb hw hv hr G _ ai
 cases hq:(ov c.res&&(!(c.res.any ck.nq)||tW vs))with
 |false=>rw[hq]at ai;exact ai.elim
 |true=>
  rw[hq]at ai
  simp only[cond_true]at ai
  obtain⟨ie,ai⟩:=preM_holds ai
  simp only[T.holds]at ai
  simp only[aS,sZ,gW]at hq
  refine(hc _ g2 ie (g3 _ λ_ h=>h)).mono ?_
  rintro e w' ⟨he,rs,us,r1,r2,jm,rfl⟩
  have ai:=lT ai r1 (cL _ _ r2)
  have hb1:=hb.ext dP fq (br bl.length)
  have Qa:=(hw.grow he).mZ hb dP
  have dD:agree n1 aE (bL aE n1 rs):=agree.bL rs n1 aE
  have hb2:=hb1.ext dD (Eb n1 (cR c.res).length) (br bl.length)
  have Cq:=Qa.mZ hb1 dD
  have hA:gJ (bL aE n1 rs) n1 rs:=gJ.bL aE n1 rs
  have JP:rs.length=(cR c.res).length:=gS r1
  have tC:=dP.trans dD fq
  have Fu:dO n bl.length ρ m (n1+(cR c.res).length) bl.length (bL aE n1 rs) m:=⟨by omega,tC,br _,λ_ _=>rfl⟩
  have gd:∀(i:Nat) (p:ax),bl[i]?=some p->bp (bL aE n1 rs) p.1=bp ρ p.1:=λi p hi=>qK (hb p (eh hi)) tC
  have FL:∀(i:Nat) (p:ax),bl[i]?=some p->w.heap.size<=m i->bp ρ p.1=0:=λi p hi ec=>by
   by_cases h0:bp ρ p.1=0
   ·exact h0
   ·have:=hw.lt hi h0;omega
  have fin:∀a8:List ax,cK (n1+(cR c.res).length) a8.length (bL aE n1 rs) a8->Mem w0 (bL aE n1 rs) m a8 w'->a8.length=bl.length->
   (∀(i:Nat) (p:ax),a8[i]?=some p->(oq w0 ρ m bl (vs.flatMap lh) (vs.flatMap p5) (m i)∨w.heap.size<=m i)->(c.res.any ck.nq)=true->bp (bL aE n1 rs) p.1<=1)->
   (∀(i:Nat) (p:ax),a8[i]?=some p->w.heap.size<=m i->bp (bL aE n1 rs) p.1=0)->
   (q6 c.res n1 (n1+(cR c.res).length) [] a8 λen us lj=>k en (uj us) lj).holds S L G (bL aE n1 rs)->R' (.returned (qT us)) w':=λa8 iO tK hlen dZ akd ai=>by
   have hF:∀g,(oq w0 ρ m bl (vs.flatMap lh) (vs.flatMap p5) g∨w.heap.size<=g)->w0.ex g∨w0.ro g∨w0.r.heap.size<=g:=λg hg=>by
    rcases hg with hg|hg
    ·exact hg.2
    ·exact .inr (.inr (iL hw.e8 hg))
   have hN:∀g,w.heap.size<=g->w0.b.heap.size<=g/\w0.r.heap.size<=g:=λg hg=>⟨iL hw.ext.size hg,iL hw.e8 hg⟩
   have h1:(c.res.all λb=> !b.nq)=true∨∀(i:Nat) (p:ax),a8[i]?=some p->(oq w0 ρ m bl (vs.flatMap lh) (vs.flatMap p5) (m i)∨w.heap.size<=m i)->bp (bL aE n1 rs) p.1<=1:=by
    cases sy:c.res.any ck.nq with
    |true=>exact .inr λi p hi hf=>dZ i p hi hf sy
    |false=>
     left
     rw[sY]
     intro b hb
     cases fO:b.nq with
     |false=>rfl
     |true=>rw[List.any_eq_true.2 ⟨b,hb,fO⟩]at sy;cases sy
   obtain⟨n',ah,m',kn,lj,p1,bJ,cP,ea,ed,gf⟩:=wN (S:=S) (L:=L) hF hN (l:=c.res) (us:=[]) (vals:=us) hq.1 iO tK hA r1 (br _) jm h1 (.inr akd) (λu hu=>by simp at hu) ai
   have lv:=Rz (m:=m') ed (by simpa using ea)
   exact hk n' (uj kn) lj G ah m' w' (qT us) (Fu.trans (hlen▸p1)) (eu.refl _ _) lv.1 lv.2 bJ cP gf
  cases sy:c.res.any ck.nq with
  |false=>
   rw[sy]at ai
   exact fin bl hb2 Cq rfl (λ_ _ _ _ h=>by rw[sy]at h;cases h) (λi p hi ec=>by rw[gd i p hi];exact FL i p hi ec) ai
  |true=>
   rw[sy]at ai hq
   obtain⟨f1,f2,f3,f4⟩:=N3 (bs:=vs.flatMap lh) Cq hb2
   have pa:tW vs=true:=by
    rcases hq.2 with h|h
    ·cases h
    ·exact h
   refine fin _ (by rw[f3];exact f2) f1 f3 (λi p hi hf _=>?_) (λi p hi ec=>?_) ai
   ·obtain⟨p',h1,h2,h3⟩:=f4 i p hi
    rw[gd i p' h1]at h2
    rcases hf with⟨⟨b,XX,OT,q,rq,pT,alE⟩,_⟩|ec
    ·obtain⟨a7,o,ro,len,cap,lu⟩:=aab pa XX
     rcases hw.inj i b p' q h1 rq (by rw[OT])with h5|h5|h5|h5
     ·subst h5
      rw[h1]at rq;cases rq
      cases ho:bV p'.1 with
      |false=>exact h3 XX ho
      |true=>
       have:=alE ho
       rw[aaa pa]at this
       simp at this
     ·omega
     ·omega
     ·exact absurd h5 pT
    ·have:=FL i p' h1 ec;omega
   ·obtain⟨p',h1,h2,_⟩:=f4 i p hi
    rw[gd i p' h1]at h2
    have:=FL i p' h1 ec;omega
theorem dJ.adh {c:dJ} {spec:List Int->List Int->Prop} (hc:c.eY P w0.b spec) (cL:∀zs rs,spec zs rs->S c.id zs rs) (n:Nat) (vs:List V) (bl:List ax) (k:RK) (G:dT) (ρ:Env) (m:Nat->Nat) (w:ar) (xs:List aF) (R':wq->ar->Prop)
 (hb:cK n bl.length ρ bl) (hw:Mem w0 ρ m bl w) (hv:∀v∈vs,V.ok n bl.length ρ v) (hr:eD ρ m vs xs) (ai:(c.Ev n vs bl k).holds S L G ρ) (hk:uS S L w0 k n bl.length ρ m G R'):
 (callFunc c.f xs.toArray).run P w= .ok (.enter c.f xs.toArray) w/\jY P c.f xs.toArray w R':=by
 exact⟨hc.1 _ _,dJ.U7 cL n vs bl k G ρ m w xs R' (λzs h1 h2 h3=>hc.2 _ w xs zs hw.ext h1 h2 h3) hb hw hv hr ai hk⟩
theorem dJ.yC {c:dJ} {spec:List Int->List Int->Prop} (hc:c.eY P w0.b spec) (cL:∀zs rs,spec zs rs->S c.id zs rs) (n:Nat) (vs:List V) (bl:List ax) (k:RK) (G:dT) (ρ:Env) (m:Nat->Nat) (w:ar) (xs:List aF) (R':wq->ar->Prop)
 (hb:cK n bl.length ρ bl) (hw:Mem w0 ρ m bl w) (hv:∀v∈vs,V.ok n bl.length ρ v) (hr:eD ρ m vs xs) (ai:(c.E n vs bl k).holds S L G ρ) (hk:uS S L w0 k n bl.length ρ m G R'):
 (callFunc c.f xs.toArray).run P w= .ok (.enter c.f xs.toArray) w/\jY P c.f xs.toArray w R':=by
 obtain⟨g1,g2,g3,g4,g5⟩:=S0 (rd:=c.res.any ck.nq) (ds:=c.args) hw hb hv hr
 exact c.adh hc cL n _ _ k G ρ m w xs R' g2 g1 (λv hv=>by rw[g3];exact g4 v hv) g5 ai (by rw[g3];exact hk)
end
end Go.bo
namespace Go.bo
open M
def O.bk (n:Nat):O->Prop
 |l x=>x.bk n
 |b x=>x.bk n
theorem O.bR {n:Nat} {ρ ah:Env} (ha:agree n ρ ah):∀{o:O},o.bk n->o.den ah=o.den ρ
 | .l x,h=>aa.bR ha h
 | .b x,h=>by simp only[O.den];rw[bd.bR ha h]
theorem aao {k:dp} {n nb:Nat} {ρ:Env}:∀{l:List A} {os:List O},iG k l=some os->(∀a∈l,A.ok n nb ρ a)->∀o∈os,O.bk n o
 |[],os,h,_=>by simp[iG]at h;subst h;intro x hx;simp at hx
 | .int a6 x::s,os,h,bm=>by
  simp only[iG]at h
  cases hc:decide (k=a6)with
  |false=>simp[hc]at h
  |true=>
   cases hr:iG k s with
   |none=>simp[hc,hr]at h
   |some r'=>
    simp only[hc,hr,cond_true,aQ]at h
    subst h
    intro y hy
    rcases List.mem_cons.1 hy with hy|hy
    ·rw[hy]
     have h0:A.ok n nb ρ (.int a6 x):=bm _ (Ef ..)
     have h0:x.ok n ρ:=h0
     exact h0.1
    ·exact aao hr (λa ha=>bm a (dn _ ha)) y hy
 | .bool _::_,_,h,_=>by simp[iG]at h
 | .ptr .. ::_,_,h,_=>by simp[iG]at h
 | .mU .. ::_,_,h,_=>by simp[iG]at h
 | .gptr .. ::_,_,h,_=>by simp[iG]at h
 | .slc .. ::_,_,h,_=>by simp[iG]at h
 | .con _::_,_,h,_=>by simp[iG]at h
 | .str _::_,_,h,_=>by simp[iG]at h
 | .rows .. ::_,_,h,_=>by simp[iG]at h
 | .sl .. ::_,_,h,_=>by simp[iG]at h
 | .ep .. ::_,_,h,_=>by simp[iG]at h
theorem aB.arv {c:aB} {a:A} {o:O} {n nb:Nat} {ρ:Env} (h:c.out a=some o) (ha:a.ok n nb ρ):o.bk n:=by
 unfold aB.out at h
 split at h
 ·rename_i k _ _ a6 x
  cases hk:decide (k=a6)with
  |false=>simp[hk]at h
  |true=>
   simp only[hk,cond_true,aQ]at h
   subst h
   have ha:x.ok n ρ:=ha
   exact ha.1
 ·simp only[aQ]at h;subst h
  exact ha.1
 ·simp only[aQ]at h;subst h
  exact ha
 ·cases h
theorem aar {n nb:Nat} {ρ:Env}:∀{d:List aB} {l:List A} {os:List O},n3 d l=some os->(∀a∈l,A.ok n nb ρ a)->∀o∈os,O.bk n o
 |[],[],os,h,_=>by simp[n3]at h;subst h;intro x hx;simp at hx
 |c::d,a::s,os,h,bm=>by
  simp only[n3]at h
  cases h1:c.out a with
  |none=>simp[h1]at h
  |some o=>
   cases h2:n3 d s with
   |none=>simp[h1,h2]at h
   |some aam=>
    simp only[h1,h2,aQ]at h
    subst h
    intro y hy
    rcases List.mem_cons.1 hy with hy|hy
    ·rw[hy];exact aB.arv h1 (bm a (Ef ..))
    ·exact aar h2 (λb hb=>bm b (dn _ hb)) y hy
 |[],_::_,_,h,_=>by simp[n3]at h
 |_::_,[],_,h,_=>by simp[n3]at h
theorem aru {d:D} {u:W} {os:List O} {n nb:Nat} {ρ:Env} (h:qL d u=some os) (hu:u.ok n nb ρ):∀o∈os,O.bk n o:=by
 unfold qL at h
 split at h
 ·rename_i k _ _ a6 x
  cases hk:decide (k=a6)with
  |false=>simp[hk]at h
  |true=>
   simp only[hk,cond_true,aQ]at h
   subst h
   have hu:x.ok n ρ:=hu
   intro o ho;simp at ho;subst ho;exact hu.1
 ·simp only[aQ]at h;subst h
  intro o ho;simp at ho;subst ho;exact hu
 ·rename_i k n' _ _ l
  cases hk:aG l.length n' with
  |false=>simp[hk]at h
  |true=>
   simp only[hk,cond_true]at h
   exact aao h hu
 ·simp only[aQ]at h;subst h
  intro o ho;simp at ho;subst ho;exact hu.1
 ·exact aar h hu
 ·cases h
noncomputable def Dz (bl:List ax):ck->W->M (List O)
 | .d x,u=>match qL x u with|some os=>pure os|none=>fail
 | .rd sh,u=>bind (KU sh bl (.w u)) λl=>pure [.l l]
 | .kN sh e,u=>bind (Re sh e bl (.w u)) λl=>pure [.l l]
noncomputable def KV (bl:List ax):List ck->List W->M (List O)
 |[],[]=>pure []
 |b::r,u::s=>bind (Dz bl b u) λa=>bind (KV bl r s) λc=>pure (a++c)
 |_,_=>fail
noncomputable def G9 (bl:List ax) (ds:List ck) (v:V):M (List O):=
 match v with
 | .w u=>match ds with|[d]=>Dz bl d u|_=>fail
 | .fY l=>match ds with|[_]=>fail|_=>KV bl ds l
 |_=>fail
def O.toW:O->W
 |l x=> .one (.int .u8 ⟨x,0,0⟩)
 |b x=> .one (.bool x)
def W.toO:W->O
 | .one (.int _ x)=> .l x.l
 | .one (.bool e)=> .b e
 |_=> .l (.const 0)
theorem O.toW_toO (o:O):o.toW.toO=o:=by cases o<;>rfl
def xR (os:List O):V:= .fY (os.map O.toW)
def rZ (K:List Int->Prop) (v:V) (ρ:Env):Prop:=
 match v with
 | .fY l=>K (l.map λu=>u.toO.den ρ)
 |_=>False
theorem MA {K:List Int->Prop} {os:List O} {ρ:Env}:rZ K (xR os) ρ=K (os.map (O.den ρ)):=by
 unfold rZ xR
 simp only[k7]
 congr 1
 exact h8 λo _=>by simp[HD,O.toW_toO]
section
variable {S:Nat->List Int->List Int->Prop} {L:V->Env->Prop} {w0:dK} {P:bH} {w:ar}
theorem q5.mono {N Ey:Nat->Prop} {sh:List aB} {e:aX} {rows:List (List Int)} {v:aF} (h:q5 N w sh e rows v) (hN:∀g,N g->Ey g):q5 Ey w sh e rows v:=by
 rcases h with h|⟨g,cap,cells,h1,h2,h3,h4⟩
 ·exact .inl h
 ·exact .inr ⟨g,cap,cells,h1,h2,hN g h3,h4⟩
def Mj (w0:dK) (g:Nat):Prop:=w0.ex g∨w0.ro g∨w0.r.heap.size<=g
theorem aa1 {d:ck} {u:W} {n:Nat} {ρ:Env} {m:Nat->Nat} {bl:List ax} (hex:∀g,¬w0.ex g) (hb:cK n bl.length ρ bl) (hw:Mem w0 ρ m bl w) (hu:u.ok n bl.length ρ):
 aw S L (Dz bl d u) n ρ λah n' os=>(∀o∈os,O.bk n' o)/\os.length=d.num/\(d.ej=false->aV d.bds (os.map (O.den ah)))/\∀zs,d.at (Mj w0) (λg=>w0.r.heap.size<=g) w (os.map (O.den ah)++zs) (u.den ρ m):=by
 cases d with
 |d x=>
  unfold Dz
  cases ho:qL x u with
  |none=>simp only[ho];exact aw.fail
  |some os=>
   simp only[ho]
   have:=Rd (ρ:=ρ) (m:=m) ho
   exact aw.pure ⟨aru ho hu,this.1,λh=>(by simp[ck.ej]at h),λzs=>(this.2 zs).symm⟩
 |rd sh=>
  unfold Dz
  refine(aaV (v:= .w u) hb hw hu rfl).bind λaE n1 l hn ha ⟨g1,g2,g3⟩=>aw.pure ⟨λo ho=>by simp at ho;subst ho;exact g1,rfl,λ_=>⟨g2.1,g2.2,trivial⟩,λzs=>?_⟩
  exact g3.mono λg hg=>hg.2
 |kN sh e=>
  unfold Dz
  refine(arx (v:= .w u) hex hb hw hu rfl).bind λaE n1 l hn ha ⟨g1,g2,g3⟩=>aw.pure ⟨λo ho=>by simp at ho;subst ho;exact g1,rfl,λ_=>⟨g2.1,g2.2,trivial⟩,λzs=>g3⟩
theorem ao8 {n:Nat} {ρ ah:Env} {os:List O} (h:∀x∈os,O.bk n x) (ha:agree n ρ ah):os.map (O.den ah)=os.map (O.den ρ):=h8 λx hx=>O.bR ha (h x hx)
theorem aa2 {m:Nat->Nat} {bl:List ax} (hex:∀g,¬w0.ex g):∀{ds:List ck} {us:List W} {n:Nat} {ρ:Env},cK n bl.length ρ bl->Mem w0 ρ m bl w->(∀u∈us,W.ok n bl.length ρ u)->
 aw S L (KV bl ds us) n ρ λah n' os=>(∀o∈os,O.bk n' o)/\jt (Mj w0) (λg=>w0.r.heap.size<=g) w ds (os.map (O.den ah)) (us.map (W.den ρ m))
 |[],[],n,ρ,_,_,_=>aw.pure ⟨λ_ h=>by simp at h,trivial⟩
 |b::r,u::s,n,ρ,hb,hw,hu=>by
  unfold KV
  refine(aa1 hex hb hw (hu u (by simp))).bind λaE n1 a hn ha ⟨g1,g2,_,g3⟩=>?_
  refine(aa2 (ds:=r) (us:=s) hex (hb.ext ha hn (br _)) (hw.mZ hb ha) (λx hx=>(hu x (dn _ hx)).ext ha hn (br _))).bind λbT en c eN dD ⟨k1,k2⟩=>aw.pure ⟨λo ho=>?_,?_⟩
  ·rcases List.mem_append.1 ho with ho|ho
   ·have:=g1 o ho
    cases o with
    |l x=>exact aa.bk.mono this eN
    |b x=>exact bd.bk.mono eN this
   ·exact k1 o ho
  ·rw[ft,ao8 g1 dD]
   refine⟨g3 _,?_⟩
   rw[<-g2,<-k8 (f:=O.den aE) (as:=a),Ee]
   have e:s.map (W.den ρ m)=s.map (W.den aE m):=h8 λx hx=>(W.ki (hu x (dn _ hx)) ha (λ_ _=>rfl)).symm
   rw[e];exact k2
 |[],_::_,_,_,_,_,_=>aw.fail
 |_::_,[],_,_,_,_,_=>aw.fail
theorem Rx {ds:List ck} {v:V} {val:aF} {n:Nat} {ρ:Env} {m:Nat->Nat} {bl:List ax} (hex:∀g,¬w0.ex g) (hb:cK n bl.length ρ bl) (hw:Mem w0 ρ m bl w) (hv:v.ok n bl.length ρ) (hr:v.rel ρ m val):
 aw S L (G9 bl ds v) n ρ λah n' os=>∃us,val=qT us/\jt (Mj w0) (λg=>w0.r.heap.size<=g) w ds (os.map (O.den ah)) us:=by
 unfold G9
 split
 ·rename_i u
  split
  ·rename_i d
   refine(aa1 hex hb hw hv).mono λaE n1 os hn ha ⟨g1,g2,_,g3⟩=>⟨[u.den ρ m],hr,?_,trivial⟩
   have:=g3 []
   rwa [h9]at this
  ·exact aw.fail
 ·rename_i l
  split
  ·exact aw.fail
  ·rename_i hne
   refine(aa2 (ds:=ds) hex hb hw hv).mono λaE n1 os hn ha ⟨g1,g2⟩=>⟨l.map (W.den ρ m),?_,g2⟩
   have hr:val= .tuple (l.map (W.den ρ m)).toArray:=hr
   rw[hr]
   unfold qT
   split
   ·rename_i x hx
    exfalso
    have hl:l.length=1:=by have:=congrArg lN hx;simpa using this
    match ds,l,hl,g2,hne with
    |[d],[u],_,_,hne=>exact hne d rfl
    |[],[u],_,g2,_=>simp[jt]at g2
    |_::_::_,[u],_,g2,_=>simp[jt]at g2
   ·rfl
 ·exact aw.fail
def C7 (i:Nat):aa:=⟨0,[(1,i)]⟩
theorem Km (ρ:Env) (zs:List Int):((cU zs.length).map C7).map (·.den (bL ρ 0 zs))=zs:=by
 refine ZG (by simp) λj hj=>?_
 have hj:j<zs.length:=by simpa using hj
 have:=gJ.bL ρ 0 zs j hj
 rw[pB]at this
 simp[C7,aa.den,hE,ae,hj]at this⊢
 exact this
noncomputable def dJ.tree (bc:kz) (P:bH) (gl:ei) (cal:eI) (li:cw->Nat->Option c7) (rounds d:Nat) (c:dJ):T:=
 cond (ov c.args&& !(c.args.any ck.oF)) (KL c.pre ((cU (cR c.args).length).map C7) (q6 c.args 0 (cR c.args).length [] [] λn us bl=>wP bc P gl cal li rounds d c.f n (us.map V.w) bl λn' v a8=>G9 a8 c.res v n' λos _=> .leaf (xR os))) .stuck
theorem Mt {ρ:Env} {m:Nat->Nat}:∀{us:List W} {xs:List aF},us.map (W.den ρ m)=xs->eD ρ m (us.map V.w) xs
 |[],[],_=>trivial
 |u::us,x::xs,h=>by
  simp only[cI,hX]at h
  exact⟨h.1.symm,Mt h.2⟩
 |[],_::_,h=>by simp at h
 |_::_,[],h=>by simp at h
noncomputable def hP:List dJ->kz
 |[],_=>none
 |c::r,f=>cond (aG c.f f) (some c.E) (hP r f)
theorem jG {wb:ar} {r:ar} {ex ro:Nat->Prop}:∀{l:List dJ},(∀c∈l,c.eY P wb (S c.id))->pD S L ⟨wb,r,ex,ro,[]⟩ P (hP l)
 |[],_=>λf g h=>by cases h
 |c::l,h=>λf g hf=>by
  unfold hP at hf
  cases hb:aG c.f f with
  |true=>
   rw[hb]at hf
   simp only[cond_true,aQ]at hf
   have:=bG hb
   subst this;subst hf
   intro n vs bl k G ρ m w xs R' h1 h2 h3 h4 h5 h6
   exact dJ.yC (w0:=⟨wb,r,ex,ro,[]⟩) (h c (by simp)) (λ_ _ h=>h) n vs bl k G ρ m w xs R' h1 h2 h3 h4 h5 h6
  |false=>
   rw[hb]at hf
   exact jG (λc hc=>h c (dn _ hc)) f g hf
theorem dJ.GQ {wb:ar} {gl:ei} {c:dJ} {bc:kz} {cal:eI} {li:cw->Nat->Option c7} {rounds d:Nat} {spec:List Int->List Int->Prop} (hm:P.follows .mixedOrders=true) (cQ:∀r ex ro,fS S P gl ⟨wb,r,ex,ro,[]⟩ cal) (hg:fg gl ⟨wb,wb,λ_=>False,λ_=>False,[]⟩)
 (jw:∀(L:V->Env->Prop) (r:ar) (ro:Nat->Prop),pD S L ⟨wb,r,λ_=>False,ro,[]⟩ P bc) (hf:∀args w,(callFunc c.f args).run P w= .ok (.enter c.f args) w)
 (ht:nJ (cR c.args) λzs=>(c.tree bc P gl cal li rounds d).holds S (rZ λrs=>aV (cR c.res) rs/\spec zs rs) (λ_ _=>False) (bL (λ_=>0) 0 zs)):c.eY P wb spec:=by
 refine⟨hf,λF w vs zs hw hz Gg hat=>?_⟩
 have ai:=lT ht hz
 have mK:=gS hz
 unfold dJ.tree at ai
 cases hq:(ov c.args&& !(c.args.any ck.oF))with
 |false=>rw[hq]at ai;exact ai.elim
 |true=>
  rw[hq]at ai
  simp only[cond_true]at ai
  have ai:=preA_holds ai (by rw[<-mK,Km];exact Gg)
  simp only[aS,gW]at hq
  have lu:Mem ⟨wb,w,λ_=>False,F,[]⟩ (bL (λ_=>0) 0 zs) (λ_=>0) [] w:=⟨hw,rfl,rfl,rfl,br _,λ_ _ _=>rfl,λi cs t h=>by simp at h,λi sh off code cap kind t h=>by simp at h,λi j p q h=>by simp at h⟩
  have hall:(c.args.all λb=> !b.oF)=true:=by
   rw[sY]
   intro b hb
   cases fO:b.oF with
   |false=>rfl
   |true=>rw[List.any_eq_true.2 ⟨b,hb,fO⟩]at hq;cases hq.2
  obtain⟨n',ah,m',us,bl,p1,bJ,cP,ea,ed,gf⟩:=wN (S:=S) (L:=_) (w0:=⟨wb,w,λ_=>False,F,[]⟩) (F:=F) (N:=λ_=>False) (λg hg=> .inr (.inl hg)) (λg hg=>hg.elim) (l:=c.args) (s:=0) (us:=[]) (bl:=[]) (m:=λ_=>0) hq.1 (λp hp=>by simp at hp) lu (gJ.bL _ 0 zs) hz (by omega) hat (.inr λi p h=>by simp at h) (.inl hall) (λu hu=>by simp at hu) ai
  have O8:fg gl ⟨wb,w,λ_=>False,F,[]⟩:=hg
  refine(EU (S:=S) (w0:=⟨wb,w,λ_=>False,F,[]⟩) rfl hm (cQ w (λ_=>False) F) O8 (jw _ _ _) d c.f n' (us.map V.w) bl _ _ ah m' w vs _ bJ cP (λv hv=>by
   obtain⟨u,hu,rfl⟩:=List.mem_map.1 hv
   exact ed u hu) (Mt (by simpa using ea)) gf ?_).2
  intro en v a8 dU bT eF w' val h1 h2 h3 h4 h5 h6 h7
  obtain⟨gv,mh,os,sx,qu,⟨xs,hx1,hx2⟩,hl⟩:=Rx (S:=S) (w0:=⟨wb,w,λ_=>False,F,[]⟩) (λg hg=>hg) h5 h6 h3 h4 dU _ h7
  have hl:rZ _ (xR os) gv:=hl
  rw[MA]at hl
  refine⟨?_,os.map (O.den gv),xs,hl.1,hl.2,?_,by rw[hx1]⟩
  ·have mE:∀i:Nat,i<w.heap.size->w'.heap[i]?=w.heap[i]?:=λi hi=>h6.gz i hi λh=>h
   exact⟨h6.gQ,h6.jz,h6.ic,h6.e8,λa ha=>by simp only[jW,mE a.block ha],λa ha=>by simp only[uH,mE a.block ha],mE⟩
  ·exact Bu (λg hg=>by
    rcases hg with hg|hg|hg
    ·exact hg.elim
    ·exact .inl hg
    ·exact .inr hg) (λg hg=>hg) hx2
where
 Bu {F wB N Ey:Nat->Prop} {w:ar} (hF:∀g,F g->wB g) (hN:∀g,N g->Ey g):∀{ds:List ck} {zs:List Int} {vs:List aF},jt F N w ds zs vs->jt wB Ey w ds zs vs
 |[],_,[],_=>trivial
 | .d x::r,zs,v::vs,h=>⟨h.1,Bu hF hN h.2⟩
 | .rd sh::r,zs,v::vs,h=>⟨r0.mono h.1 hF,Bu hF hN h.2⟩
 | .kN sh e::r,zs,v::vs,h=>⟨q5.mono h.1 hN,Bu hF hN h.2⟩
 |[],_,_::_,h=>h.elim
 |_::_,_,[],h=>by simp[jt]at h
end
def ck.nums:ck->List Nat
 | .d x=>x.nums
 |_=>[1]
def vN (ds:List ck):List Nat:=ds.flatMap ck.nums
def Mz (ds:List ck) (K:List (List Int)->Prop) (v:V) (st:hh) (aM:gZ):Prop:=
 match v with
 | .fY l=>K ((gU (vN ds) (l.map W.toO)).map (DE st aM))
 |_=>False
theorem adz {ds:List ck} {K:List (List Int)->Prop} (v:V) (ρ:Env) (st:hh) (aM:gZ) (ht:nI ρ st aM) (h:Mz ds K v st aM):rZ (λrs=>K (gU (vN ds) rs)) v ρ:=by
 unfold Mz at h
 unfold rZ
 split at h
 ·rename_i l
  have e:l.map (λu=>u.toO.den ρ)=(l.map W.toO).map (O.den ρ):=by simp
  simp only[e]
  rw[Lc]
  rwa [show(gU (vN ds) (l.map W.toO)).map (DE st aM)=(gU (vN ds) (l.map W.toO)).map (List.map (O.den ρ)) from h8 λo _=>aby ht o]at h
 ·exact h.elim
def ix (sh:Nat->List Nat×List Nat) (lsh:Nat->List Nat) (S:Nat->List (List Int)->List (List Int)->Prop) (K:List (List Int)->List (List Int)->Prop) (lens:List Nat) (bds:List (Int×Int)) (ds:List ck) (t:T):Prop:=
 wL lens 0 bds (λst aM zs=>t.l7 sh lsh S (Mz ds (K zs)) (λ_ _=>False) st aM) [] []
theorem MD {sh:Nat->List Nat×List Nat} {lsh:Nat->List Nat} {S:Nat->List (List Int)->List (List Int)->Prop} {K:List (List Int)->List (List Int)->Prop} {lens:List Nat} {bds:List (Int×Int)} {ds:List ck} {t:T}
 (h:ix sh lsh S K lens bds ds t):nJ bds λzs=>t.holds (b6 sh S) (rZ λrs=>K (gU lens zs) (gU (vN ds) rs)) (λ_ _=>False) (bL (λ_=>0) 0 zs):=by
 refine tj λzs hi=>?_
 obtain⟨st,aM,h1,h2⟩:=Bs h (show nI (λ_=>0) [] [] from⟨trivial,λ_=>rfl⟩) hi
 exact mH (λv ρ st aM ht hl=>adz v ρ st aM ht hl) t _ _ _ st aM (λ_ _ hf=>hf.elim) h1 h2
end Go.bo
namespace Go.bo
open M
structure kB where
 c:bu
 pre:Nat
def kB.eY (P:bH) (wb:ar) (q:kB) (spec:List Int->List Int->Prop):Prop:=
 ∀zs,aV (dC q.c.args) zs->ab q.pre zs->∃rs,aV (dC q.c.res) rs/\spec zs rs/\∀w,wb.Extends w->yD P q.c.f (m2 q.c.args zs).toArray w (fb q.c.res rs)
noncomputable def kB.M (q:kB):List ax->List V->M V:=λ_ vs n k=>
 match qo q.c.args vs with
 |some l=> .nO q.pre l (.call q.c.id l n (dC q.c.res) (k (DA q.c.res n) (n+(dC q.c.res).length)))
 |none=> .stuck
noncomputable def cc (KQ:List kB) (cons:List bu):eI:=λf=>
 match KQ.filter (λq=>aG f q.c.f)with
 |[]=>IH cons f
 |l=>some λbl vs n k=>match l.find? (λq=>(qo q.c.args vs).isSome)with
  |some q=>q.M bl vs n k
  |none=>match IH cons f with
   |some g=>g bl vs n k
   |none=> .stuck
section
variable {S:Nat->List Int->List Int->Prop} {P:bH} {gl:ei} {w0:dK}
theorem kB.snd {q:kB} {spec:List Int->List Int->Prop} (hc:q.eY P w0.b spec) (cL:∀zs rs,spec zs rs->S q.c.id zs rs) (L:V->Env->Prop) (n:Nat) (ρ:Env) (m:Nat->Nat) (bl:List ax) (vs:List V) (xs:List aF)
 (pU:∀v∈vs,V.ok n bl.length ρ v) (hr:eD ρ m vs xs):aw S L (q.M bl vs) n ρ λah n' v=>v.ok n' bl.length ah/\∃val,v.rel ah m val/\∀w,Mem w0 ρ m bl w->yD P q.c.f xs.toArray w val:=by
 intro G k hk
 unfold kB.M at hk
 cases hl:qo q.c.args vs with
 |none=>simp[hl,T.holds]at hk
 |some l=>
  simp only[hl]at hk
  obtain⟨kI,hk⟩:=hk
  obtain⟨h1,h2⟩:=NZ hl pU hr
  obtain⟨rs,r1,r2,jm⟩:=hc _ h1 kI
  have ai:=M5 hk r1 (cL _ _ r2)
  have hlen:=gS r1
  have lv:=Ry (m:=m) (nb:=bl.length) (N:=n+(dC q.c.res).length) r1 (gJ.bL ρ n rs) (br _)
  refine⟨_,_,_,Eb _ _,agree.bL rs n ρ,⟨lv.1,_,lv.2,λw hw=>?_⟩,ai⟩
  rw[h2]at jm
  exact jm w hw.ext
theorem bZ {KQ:List kB} {cons:List bu} (hq:∀q∈KQ,q.eY P w0.b (S q.c.id)) (hc:∀c∈cons,c.dh P w0.b (S c.id)):fS S P gl w0 (cc KQ cons):=by
 intro f g qz L n ρ m bl vs xs h1 h2 h3 h4
 unfold cc at qz
 split at qz
 ·exact V5 (gl:=gl) hc f g qz L n ρ m bl vs xs h1 h2 h3 h4
 ·rename_i l hl
  simp only[aQ]at qz
  subst qz
  intro G k hk
  simp only at hk
  split at hk
  ·rename_i q OX
   have cN:=List.mem_filter.1 (Ed OX)
   have FR:=bG cN.2
   subst FR
   exact kB.snd (hq q cN.1) (λ_ _ h=>h) L n ρ m bl vs xs h3 h4 G k hk
  ·split at hk
   ·rename_i ji tF
    exact V5 (gl:=gl) hc f ji tF L n ρ m bl vs xs h1 h2 h3 h4 G k hk
   ·exact hk.elim
def idx (c:Int):List UInt8->Int
 |[]=>-1
 |b::r=>if(b.toNat:Int)=c then 0 else if idx c r<0 then-1 else idx c r+1
theorem zP (c:Int):∀l:List UInt8,-1<=idx c l/\idx c l<l.length
 |[]=>by simp[idx]
 |b::r=>by
  have:=zP c r
  simp only[idx,dv]
  split
  ·omega
  ·split<;>omega
theorem find_range (p:Nat->Bool):∀n:Nat,(cU (n+1)).find? p=if p 0=true then some 0 else((cU n).find? λi=>p (i+1)).map (·+1):=λn=>by
 rw[ac0,Tt]
 cases h:p 0 with
 |true=>simp
 |false=>
  simp only[qb,if_false]
  rw[aAu];rfl
theorem Y7 (c:Int):∀l:List UInt8,(match(cU l.length).find? λi=>decide (((l.getD i 0).toNat:Int)=c)with|some i=>(i:Int)|none=>-1)=idx c l
 |[]=>rfl
 |b::r=>by
  have ih:=Y7 c r
  rw[dv,find_range]
  simp only[rN,Ea,decide_eq_true_eq,idx]
  by_cases h:(b.toNat:Int)=c
  ·simp[h]
  ·simp only[if_neg h]
   have hr:=zP c r
   cases hf:(cU r.length).find? λi=>decide (((r.getD i 0).toNat:Int)=c)with
   |none=>rw[hf]at ih;simp only[Option.map_none]at ih⊢;rw[<-ih];simp
   |some i=>rw[hf]at ih;simp only[Option.map_some]at ih⊢;rw[<-ih,if_neg (by omega)];rfl
theorem find_congr {α:Type} {p q:α->Bool}:∀{l:List α},(∀x∈l,p x=q x)->l.find? p=l.find? q
 |[],_=>rfl
 |x::r,h=>by
  rw[Tt,Tt,h x (by simp),find_congr λy hy=>h y (dn _ hy)]
theorem auc (l:List UInt8) (c:Int) (h0:0<=c) (h1:c<=255) (w:ar):(Tu #[.string (bw l),.int .u8 c]).run P w= .ok (.int .i64 (idx c l)) w:=by
 have hsz:(bw l).size=l.length:=qj l
 have xg:∀i,i<l.length->(bw l)[i]! =l.getD i 0:=λi hi=>by
  have:i<(bw l).size:=by omega
  rw[getElem!_pos (bw l) i this]
  simp only[ae,kg hi,rP]
  rfl
 have e:((cU (bw l).size).find? λi=>(bw l)[i]! ==c.toNat.toUInt8)=(cU l.length).find? λi=>decide (((l.getD i 0).toNat:Int)=c):=by
  rw[hsz]
  refine find_congr λi hi=>?_
  have hi:=List.mem_range.1 hi
  rw[xg i hi]
  have hc:c.toNat.toUInt8.toNat=c.toNat:=by simp;omega
  rw[Bool.eq_iff_iff]
  simp only[beq_iff_eq,decide_eq_true_eq]
  rw[<-S2,hc]
  omega
 have hf:=Y7 c l
 have hd:Tu #[.string (bw l),.int .u8 c]=(match(cU (bw l).size).find? (λi=>(bw l)[i]! ==c.toNat.toUInt8)with
  |some i=>A7 (goInt i)
  |none=>A7 (goInt (-1)):Sem aF):=rfl
 rw[hd,e,<-hf]
 cases(cU l.length).find? λi=>decide (((l.getD i 0).toNat:Int)=c)<;>rfl
theorem amw {f:cw} {fn:Func} {id:Nat} {wb:ar} (hf:P.funcs[f]?=some fn) (Ga:(fn.name== "runtime.NumGoroutine")=false) (hb:fn.body.isNone=true) (hn:LS fn=none) (he:LU fn=some Tu):
 (⟨f,id,[.str,.int .u8 0 255],[.int .i64 (-1) 9223372036854775807]⟩:bu).dh P wb λzs rs=>rs=[idx (zs.getD 1 0) (U (zs.getD 0 0))]:=by
 intro zs hz
 match zs,hz with
 |[s,c],hz=>
  obtain⟨s1,s2,c1,c2,_⟩:=hz
  have hr:=zP c (U s)
  have hl:(U s).length<=9223372036854775807:=by have:=tc s2;unfold gk at this;omega
  refine⟨[idx c (U s)],(show aV [((-1:Int),9223372036854775807)] _ from⟨by omega,by omega,trivial⟩),rfl,λw _=> .inl ?_⟩
  rw[run_callFunc_extern hf Ga hb hn he]
  have:=auc (P:=P) (U s) c c1 c2 w
  show((Tu #[.string (bw (U s)),.int .u8 c]).run P w).andThen _=_
  rw[this];rfl
 |[],h=>exact h.elim
 |[_],h=>exact(h.2.2).elim
 |_::_::_::_,h=>exact(h.2.2.2.2).elim
def cmpL:List UInt8->List UInt8->Int
 |[],[]=>0
 |[],_::_=>-1
 |_::_,[]=>1
 |a::l,b::r=>if a=b then cmpL l r else if a<b then-1 else 1
theorem Nh:∀l r:List UInt8,-1<=cmpL l r/\cmpL l r<=1
 |[],[]=>by decide
 |[],_::_=>by unfold cmpL;decide
 |_::_,[]=>by unfold cmpL;decide
 |a::l,b::r=>by
  have:=Nh l r
  unfold cmpL
  split
  ·exact this
  ·split<;>decide
theorem Wb:∀l r:List UInt8,(cmpL l r=-1↔dy l r=true)/\(cmpL l r=0↔l=r)
 |[],[]=>by simp[cmpL,dy]
 |[],_::_=>by simp[cmpL,dy]
 |_::_,[]=>by simp[cmpL,dy]
 |a::l,b::r=>by
  have ih:=Wb l r
  unfold cmpL dy
  by_cases h:a=b
  ·subst h;simp[ih.1,ih.2]
  ·by_cases h2:a<b
   ·simp[h,h2]
   ·have:b<a:=by
     rcases Nat.lt_trichotomy a.toNat b.toNat with h3|h3|h3
     ·exact absurd (UInt8.lt_iff_toNat_lt.2 h3) h2
     ·exact absurd (UInt8.toNat_inj.1 h3) h
     ·exact UInt8.lt_iff_toNat_lt.2 h3
    simp[h,h2,this]
theorem agG (p:Nat->Bool) (n:Nat):(cU (n+1)).find? p=if p 0=true then some 0 else((cU n).find? λi=>p (i+1)).map (·+1):=by
 rw[ac0,Tt]
 cases h:p 0 with
 |true=>simp
 |false=>simp[aAu];rfl
theorem Wc:∀l r:List UInt8,(match(cU (min l.length r.length)).find? λi=>l.getD i 0 != r.getD i 0 with
 |some i=>if l.getD i 0<r.getD i 0 then(-1:Int)else 1
 |none=>if l.length<r.length then-1 else if l.length>r.length then 1 else 0)=cmpL l r
 |[],[]=>by simp[cmpL]
 |[],_::_=>by simp[cmpL]
 |_::_,[]=>by simp[cmpL]
 |a::l,b::r=>by
  have ih:=Wc l r
  have e:min (a::l).length (b::r).length=min l.length r.length+1:=by simp only[dv];omega
  rw[e,agG]
  unfold cmpL
  by_cases h:a=b
  ·subst h
   simp only[rN,bne_self_eq_false,qb,if_false,Ea,if_true]
   rw[<-ih]
   cases(cU (min l.length r.length)).find? λi=>l.getD i 0 != r.getD i 0 with
   |none=>simp
   |some i=>simp
  ·simp[h]
theorem aua (l r:List UInt8) (w:ar):(Tv #[.string (bw l),.string (bw r)]).run P w= .ok (.int .i64 (cmpL l r)) w:=by
 have hg:∀(x:List UInt8) (i:Nat),i<x.length->(bw x)[i]! =x.getD i 0:=λx i hi=>by
  have:i<(bw x).size:=by rw[qj];exact hi
  rw[getElem!_pos (bw x) i this]
  simp only[ae,kg hi,rP]
  rfl
 have e:ac1 (bw l) (bw r)=cmpL l r:=by
  rw[<-Wc]
  unfold ac1
  rw[qj,qj]
  have hf:((cU (min l.length r.length)).find? λi=>(bw l)[i]! != (bw r)[i]!)=(cU (min l.length r.length)).find? λi=>l.getD i 0 != r.getD i 0:=find_congr λi hi=>by
   have hi:=List.mem_range.1 hi
   rw[hg l i (by omega),hg r i (by omega)]
  rw[hf]
  cases ai:(cU (min l.length r.length)).find? λi=>l.getD i 0 != r.getD i 0 with
  |none=>rfl
  |some i=>
   have hi:=List.mem_range.1 (Ed ai)
   simp only[hg l i (by omega),hg r i (by omega)]
 have hd:Tv #[.string (bw l),.string (bw r)]=(A7 (goInt (ac1 (bw l) (bw r))):Sem aF):=rfl
 rw[hd,e];rfl
theorem afV {f:cw} {fn:Func} {id:Nat} {wb:ar} (hf:P.funcs[f]?=some fn) (Ga:(fn.name== "runtime.NumGoroutine")=false) (hb:fn.body.isNone=true) (hn:LS fn=none) (he:LU fn=some Tv):
 (⟨f,id,[.str,.str],[.int .i64 (-1) 1]⟩:bu).dh P wb λzs rs=>rs=[cmpL (U (zs.getD 0 0)) (U (zs.getD 1 0))]:=by
 intro zs hz
 match zs,hz with
 |[s,c],hz=>
  have hr:=Nh (U s) (U c)
  refine⟨[cmpL (U s) (U c)],(show aV [((-1:Int),1)] _ from⟨hr.1,hr.2,trivial⟩),rfl,λw _=> .inl ?_⟩
  rw[run_callFunc_extern hf Ga hb hn he]
  have:=aua (P:=P) (U s) (U c) w
  show((Tv #[.string (bw (U s)),.string (bw (U c))]).run P w).andThen _=_
  rw[this];rfl
 |[],h=>exact h.elim
 |[_],h=>exact(h.2.2).elim
 |_::_::_::_,h=>exact(h.2.2.2.2).elim
end
end Go.bo
namespace Go.bo
section
variable {S:Nat->List Int->List Int->Prop} {P:bH} {gl:ei} {wb:ar}
def c8 (args res:List D) (spec:List Int->List Int->Prop):Prop:=∀zs rs ey,aV (dC args) zs->aV (dC res) rs->aV (dC res) ey->spec zs rs->spec zs ey->fb res rs=fb res ey
theorem bu.Kv {c:bu} {cal:eI} {li:cw->Nat->Option c7} {rounds d:Nat} {spec:List Int->List Int->Prop} (hm:P.follows .mixedOrders=true) (cQ:∀r ex ro,fS S P gl ⟨wb,r,ex,ro,[]⟩ cal) (hg:fg gl ⟨wb,wb,λ_=>False,λ_=>False,[]⟩)
 (hf:∀args w,(callFunc c.f args).run P w= .ok (.enter c.f args) w) (hu:c8 c.args c.res spec)
 (ht:nJ (dC c.args) λzs=>(c.tree P gl cal li rounds d).holds S (nG c.res λrs=>aV (dC c.res) rs/\spec zs rs) (λ_ _=>False) (bL (λ_=>0) 0 zs)):c.eY P wb spec:=by
 refine⟨hf,λzs hz=>?_⟩
 have h0:=bu.calls hm cQ hg hz (lT ht hz) wb (oi wb)
 obtain⟨e,w',v,ah,m,val,h1,h2,h3,h4⟩:=Calls.some h0
 obtain⟨rs,⟨hb,hs⟩,hv⟩:=yM h3 h2
 refine⟨rs,hb,hs,λw hw=>?_⟩
 refine(bu.calls hm cQ hg hz (lT ht hz) w hw).mono λe w' ⟨v,ah,m,val,h1,h2,h3,h4⟩=>?_
 obtain⟨ey,⟨iO,PX⟩,hv'⟩:=yM h3 h2
 rw[hu zs ey rs hz iO hb PX hs]at hv'
 exact⟨by rw[h1,hv'],h4⟩
noncomputable def kB.tree (P:bH) (gl:ei) (cal:eI) (li:cw->Nat->Option c7) (rounds d:Nat) (q:kB):T:=
 .qi q.pre ((cU (dC q.c.args).length).map C7) (q.c.tree P gl cal li rounds d)
theorem kB.Kv {q:kB} {cal:eI} {li:cw->Nat->Option c7} {rounds d:Nat} {spec:List Int->List Int->Prop} (hm:P.follows .mixedOrders=true) (cQ:∀r ex ro,fS S P gl ⟨wb,r,ex,ro,[]⟩ cal) (hg:fg gl ⟨wb,wb,λ_=>False,λ_=>False,[]⟩)
 (hf:∀args w,(callFunc q.c.f args).run P w= .ok (.enter q.c.f args) w) (hu:c8 q.c.args q.c.res spec)
 (ht:nJ (dC q.c.args) λzs=>(q.tree P gl cal li rounds d).holds S (nG q.c.res λrs=>aV (dC q.c.res) rs/\spec zs rs) (λ_ _=>False) (bL (λ_=>0) 0 zs)):q.eY P wb spec:=by
 intro zs hz hp
 have ly:=lT ht hz
 have hl:=gS hz
 unfold kB.tree at ly
 rw[<-hl]at ly
 have ly:=ly (by rw[Km];exact hp)
 have h0:=bu.calls hm cQ hg hz ly wb (oi wb)
 obtain⟨e,w',v,ah,m,val,h1,h2,h3,h4⟩:=Calls.some h0
 obtain⟨rs,⟨hb,hs⟩,hv⟩:=yM h3 h2
 refine⟨rs,hb,hs,λw hw=> .inr ⟨hf _ _,?_⟩⟩
 refine(bu.calls hm cQ hg hz ly w hw).mono λe w' ⟨v,ah,m,val,h1,h2,h3,h4⟩=>?_
 obtain⟨ey,⟨iO,PX⟩,hv'⟩:=yM h3 h2
 rw[hu zs ey rs hz iO hb PX hs]at hv'
 exact⟨by rw[h1,hv'],h4⟩
end
theorem yd {α:Type}:∀(mb:List Nat) (l:List α),(gU mb l).flatten=l
 |[],[]=>rfl
 |[],_::_=>by simp[gU]
 |k::mb,l=>by simp only[gU,s9,yd mb,oj]
section
variable {P:bH} {gl:ei} {wb:ar} {sh:Nat->List Nat×List Nat} {SB:Nat->List (List Int)->List (List Int)->Prop}
def aY (SB:Nat->List (List Int)->List (List Int)->Prop) (res:List D) (id:Nat):List (List Int)->List (List Int)->Prop:=λzs rs=>aV (dC res) rs.flatten/\SB id zs rs
theorem ace {lsh:Nat->List Nat} {id:Nat} {lens:List Nat} {bds:List (Int×Int)} {ds:List D} {t:T} (hl:lens=(sh id).1) (hd:tX ds=(sh id).2) (h:te sh lsh SB (aY SB ds id) lens bds ds t):
 nJ bds λzs=>t.holds (b6 sh SB) (nG ds λrs=>aV (dC ds) rs/\b6 sh SB id zs rs) (λ_ _=>False) (bL (λ_=>0) 0 zs):=by
 refine tj λzs hz=>?_
 have h:=lT (Vv h) hz
 simp only[aY,yd]at h
 rw[hl,hd]at h
 exact h
theorem ara {c:bu} {cal:eI} {li:cw->Nat->Option c7} {rounds d:Nat} {lsh:Nat->List Nat} {lens:List Nat} (hm:P.follows .mixedOrders=true) (cQ:∀r ex ro,fS (b6 sh SB) P gl ⟨wb,r,ex,ro,[]⟩ cal) (hg:fg gl ⟨wb,wb,λ_=>False,λ_=>False,[]⟩)
 (hf:tA P c.f=true) (hu:c8 c.args c.res (b6 sh SB c.id)) (hl:lens=(sh c.id).1) (hd:tX c.res=(sh c.id).2)
 (hv:te sh lsh SB (aY SB c.res c.id) lens (dC c.args) c.res (c.tree P gl cal li rounds d)):c.eY P wb (b6 sh SB c.id):=
 bu.Kv hm cQ hg (enters hf) hu (ace hl hd hv)
theorem atr {q:kB} {cal:eI} {li:cw->Nat->Option c7} {rounds d:Nat} {lsh:Nat->List Nat} {lens:List Nat} (hm:P.follows .mixedOrders=true) (cQ:∀r ex ro,fS (b6 sh SB) P gl ⟨wb,r,ex,ro,[]⟩ cal) (hg:fg gl ⟨wb,wb,λ_=>False,λ_=>False,[]⟩)
 (hf:tA P q.c.f=true) (hu:c8 q.c.args q.c.res (b6 sh SB q.c.id)) (hl:lens=(sh q.c.id).1) (hd:tX q.c.res=(sh q.c.id).2)
 (hv:te sh lsh SB (aY SB q.c.res q.c.id) lens (dC q.c.args) q.c.res (q.tree P gl cal li rounds d)):q.eY P wb (b6 sh SB q.c.id):=
 kB.Kv hm cQ hg (enters hf) hu (ace hl hd hv)
end
end Go.bo
namespace Go.bo
open Go.ChangeShapes Go.WideShapes Go.RowKit
variable {H:Type} {enc:aX×aF->H} {P:bH}
def DF (g:aX->Option (List aB)) (cells:aX->Nat):List Field->Nat->Option (List aB)
 |[],_=>some []
 |f::r,o=>match g f.type,DF g cells r (o+cells f.type)with
  |some l,some m=>cond (aG f.offset o&&aG (cells f.type) l.length) (some (l++m)) none
  |_,_=>none
def v7 (P:bH):Nat->aX->Option (List aB)
 |0,_=>none
 |d+1,t=>match P.underlying t with
  |some (.int k)=>some [.int k k.min k.max]
  |some .string=>some [.str]
  |some .bool=>some [.bool]
  |some (.struct dY)=>DF (v7 P d) P.cellsOf dY.toList 0
  |some (.array n e)=>match v7 P d e with
   |some l=>cond (aG (P.cellsOf e) l.length) (some (du n l).flatten) none
   |none=>none
  |_=>none
theorem cl.append:∀{a b:List aB} {x y:List Int},cl a x->cl b y->cl (a++b) (x++y)/\de (a++b) (x++y)=de a x++de b y
 |[],_,[],_,_,h=>⟨h,rfl⟩
 |_::_,_,_::_,_,h,h'=>by
  have:=cl.append h.2 h'
  exact⟨⟨h.1,this.1⟩,by simp only[wu,de,this.2]⟩
 |[],_,_::_,_,h,_=>h.elim
 |_::_,_,[],_,h,_=>h.elim
def MB (enc:aX×aF->H) (P:bH) (w:ar) (base:Nat) (spare:Nat->Bool) (held:Bool) (t:aX) (sh:List aB):Prop:=
 ∀(n:Nat) (cs:List aF) (x:oc H×List s3),Tc enc P w base spare held n t cs=some x->cs.length=sh.length->(∀m∈x.1.weights P t,m<=reachBytes)->
  ∃zs,cl sh zs/\cs=de sh zs/\x.2=[]
theorem aak {base n:Nat} {w:ar} {spare:Nat->Bool} {held:Bool} {g:aX->Option (List aB)} (hg:∀t sh,g t=some sh->MB enc P w base spare held t sh) {cs:List aF}:∀(dY:List Field) (o:Nat) (sh:List aB) (xs:List (oc H×List s3)),DF g P.cellsOf dY o=some sh->cs.length=o+sh.length->xs.length=dY.length->
 (∀(j:Nat) (f:Field),dY[j]?=some f->Tc enc P w base spare held n f.type ((cs.drop f.offset).take (P.cellsOf f.type))=xs[j]?)->
 (∀m∈L7 P (dY.map (·.type)) (xs.map (·.1)),m<=reachBytes)->
 ∃zs,cl sh zs/\cs.drop o=de sh zs/\xs.flatMap (·.2)=[]
 |[],o,sh,xs,h,hl,hx,_,_=>by
  simp only[DF,aQ]at h
  subst h
  have:xs=[]:=List.length_eq_zero_iff.1 (by simpa using hx)
  subst this
  exact⟨[],trivial,HA (by simp at hl;omega),rfl⟩
 |f::dY,o,sh,[],_,_,hx,_,_=>by simp at hx
 |f::dY,o,sh,x::xs,h,hl,hx,hf,hw=>by
  unfold DF at h
  cases h1:g f.type with
  |none=>simp[h1]at h
  |some l=>
   cases h2:DF g P.cellsOf dY (o+P.cellsOf f.type)with
   |none=>simp[h1,h2]at h
   |some m=>
    simp only[h1,h2]at h
    cases hc:(aG f.offset o&&aG (P.cellsOf f.type) l.length)with
    |false=>simp[hc]at h
    |true=>
     simp only[hc,cond_true,aQ]at h
     subst h
     simp only[aS]at hc
     have e1:=bG hc.1
     have e2:=bG hc.2
     have h0:=hf 0 f rfl
     simp only[rQ]at h0
     simp only[cI,L7,rU]at hw
     simp only[dN]at hl
     obtain⟨zs,a1,a2,a3⟩:=hg f.type l h1 n ((cs.drop f.offset).take (P.cellsOf f.type)) x h0 (by rw[m8,q2,e1,e2];omega) λm' hm=>hw m' (.inl hm)
     obtain⟨fE,b1,b2,b3⟩:=aak (cs:=cs) hg dY (o+P.cellsOf f.type) m xs h2 (by omega) (by simpa using hx) (λj kC hj=>by simpa using hf (j+1) kC (by simpa using hj)) λm' hm=>hw m' (.inr hm)
     have FB:=cl.append a1 b1
     refine⟨zs++fE,FB.1,?_,by simp[a3,b3]⟩
     rw[FB.2,<-a2,<-b2,e1,<-HP]
     exact(oj _ _).symm
theorem aaj {base n:Nat} {w:ar} {spare:Nat->Bool} {held:Bool} {e:aX} {l:List aB} (hg:MB enc P w base spare held e l) (hc:P.cellsOf e=l.length) {cs:List aF}:∀(k i:Nat) (xs:List (oc H×List s3)),cs.length=(i+k)*l.length->xs.length=k->
 (∀j,j<k->Tc enc P w base spare held n e ((cs.drop ((i+j)*P.cellsOf e)).take (P.cellsOf e))=xs[j]?)->
 (∀m∈L8 P e (xs.map (·.1)),m<=reachBytes)->
 ∃zs,cl (du k l).flatten zs/\cs.drop (i*l.length)=de (du k l).flatten zs/\xs.flatMap (·.2)=[]
 |0,i,xs,hl,hx,_,_=>by
  have:xs=[]:=List.length_eq_zero_iff.1 hx
  subst this
  exact⟨[],trivial,HA (by rw[hl];exact br _),rfl⟩
 |k+1,i,[],_,hx,_,_=>by simp at hx
 |k+1,i,x::xs,hl,hx,hf,hw=>by
  have h0:=hf 0 (Nat.succ_pos k)
  simp only[rQ,mv]at h0
  simp only[cI,L8,rU]at hw
  have hl2:cs.length=i*l.length+(l.length+k*l.length):=by rw[hl,Nat.add_mul,s6];omega
  obtain⟨zs,a1,a2,a3⟩:=hg n _ x h0 (by rw[m8,q2,hc];omega) λm' hm=>hw m' (.inl hm)
  obtain⟨fE,b1,b2,b3⟩:=aaj hg hc k (i+1) xs (by rw[hl];congr 1;omega) (by simpa using hx) (λj hj=>by
   have:=hf (j+1) (by omega)
   rw[show i+(j+1)=i+1+j by omega]at this
   simpa using this) λm' hm=>hw m' (.inr hm)
  have FB:=cl.append a1 b1
  refine⟨zs++fE,by rw[uO,s9];exact FB.1,?_,by simp[a3,b3]⟩
  rw[uO,s9,FB.2,<-a2,<-b2,hc,s6,<-HP]
  exact(oj _ _).symm
theorem Kz {base:Nat} {w:ar} {spare:Nat->Bool} {held:Bool}:∀(d:Nat) (t:aX) (sh:List aB),v7 P d t=some sh->MB enc P w base spare held t sh
 |0,t,sh,h=>by simp[v7]at h
 |d+1,t,sh,h=>by
  have ih:=Kz (base:=base) (w:=w) (spare:=spare) (held:=held) d
  intro n cs x hx hl hw
  unfold v7 at h
  split at h
  ·rename_i k hu
   simp only[aQ]at h
   subst h
   obtain⟨z,rfl,rfl,sz⟩:=acE hu hx
   have:=acg.1 sz
   exact⟨[z],⟨this,trivial⟩,rfl,rfl⟩
  ·rename_i hu
   simp only[aQ]at h
   subst h
   obtain⟨s,rfl,rfl,hs⟩:=aAv hu hx
   have hb:s.data.toList.length<=gk:=hw _ (by simp[L9])
   refine⟨[ev s.data.toList],⟨⟨ra _,oW hb⟩,trivial⟩,?_,rfl⟩
   simp[de,aB.val,fm,bw]
  ·rename_i hu
   simp only[aQ]at h
   subst h
   obtain⟨b,rfl,rfl⟩:=DataW.trod_bool hu hx
   refine⟨[cond b 1 0],⟨?_,trivial⟩,?_,rfl⟩
   ·cases b<;>simp[aB.eL]
   ·cases b<;>simp[de,aB.val]
  ·rename_i dY hu
   obtain⟨xs,m,rfl,rfl,hlen,hn,Ce⟩:=DataW.trod_struct hu hx
   simp only[L9,hu]at hw
   obtain⟨zs,a1,a2,a3⟩:=aak (n:=m) ih dY.toList 0 sh xs h (by omega) (by rw[hn];simp) (λj f hj=>Ce j f (by simpa using hj)) hw
   exact⟨zs,a1,by simpa using a2,a3⟩
  ·rename_i k e hu
   cases h1:v7 P d e with
   |none=>simp[h1]at h
   |some l=>
    simp only[h1]at h
    cases hc:aG (P.cellsOf e) l.length with
    |false=>simp[hc]at h
    |true=>
     simp only[hc,cond_true,aQ]at h
     subst h
     have hc:=bG hc
     obtain⟨xs,m,rfl,rfl,hlen,hn,Ce⟩:=azQ hu hx
     simp only[L9,hu]at hw
     have iP:(du k l).flatten.length=k*l.length:=by simp
     obtain⟨zs,a1,a2,a3⟩:=aaj (n:=m) (ih e l h1) hc k 0 xs (by rw[hl,iP];simp) hn (λj hj=>by
      have:=Ce j hj
      simpa using this) hw
     exact⟨zs,a1,by simpa using a2,a3⟩
  ·cases h
theorem atU {fits:aX->Bool}:∀(d:Nat) (e:aX) (count off n:Nat),rowAt P fits d e count off n=true->off<=count*P.cellsOf e
 |0,_,_,_,_,h=>by simp[rowAt]at h
 |d+1,e,count,off,n,h=>by
  unfold rowAt at h
  dsimp only at h
  split at h
  ·cases h
  ·rename_i hs
   have akx:=Nat.div_add_mod off (P.cellsOf e)
   have hlt:=Nat.mod_lt off (Nat.pos_of_ne_zero hs)
   rw[sZ]at h
   rcases h with h|h
   ·simp only[aS,beq_iff_eq,decide_eq_true_eq]at h
    have h1:off/P.cellsOf e<=count:=by omega
    have:=LX (P.cellsOf e) h1
    rw[yp count];omega
   ·rw[aS]at h
    have h1:off/P.cellsOf e<count:=by simpa using h.1
    have h1:off/P.cellsOf e+1<=count:=h1
    have:=LX (P.cellsOf e) h1
    rw[Nat.mul_add,Eg]at this
    rw[yp count];omega
theorem ZD:∀(d:Nat) (e:aX) (count off:Nat) (u:aX) (n:Nat),liesAt P d e count off u n=true->off<=count*P.cellsOf e
 |0,_,_,_,_,_,h=>by simp[liesAt]at h
 |d+1,e,count,off,u,n,h=>by
  unfold liesAt at h
  rw[sZ]at h
  rcases h with h|h
  ·exact atU _ _ _ _ _ h
  ·split at h
   ·exact ZD d e count off _ _ h
   ·cases h
theorem afJ {base:Nat} {w:ar} {a:Addr} {n:Nat} {cs:List aF} (h:w.cells? base a n=some cs):cs.length=n/\∀j,j<n->w.cell? (a.add j)=cs[j]?:=by
 unfold World.cells? at h
 split at h
 ·have hl:=List.Zx h
  refine⟨by simpa using hl,λj hj=>?_⟩
  have:=List.Xe h j j (by simp[hj])
  exact this
 ·cases h
where
 List.Zx {α β:Type} {f:α->Option β}:∀{l:List α} {r:List β},l.mapM f=some r->r.length=l.length
  |[],r,h=>by simp at h;subst h;rfl
  |x::l,r,h=>by
   rw[acD]at h
   cases hx:f x with
   |none=>simp[hx]at h
   |some y=>
    cases hl:l.mapM f with
    |none=>simp[hx,hl]at h
    |some s=>
     simp[hx,hl]at h
     subst h
     simp[List.Zx hl]
 List.Xe {α β:Type} {f:α->Option β}:∀{l:List α} {r:List β},l.mapM f=some r->∀(j:Nat) (x:α),l[j]?=some x->f x=r[j]?
  |[],r,h,j,x,hx=>by simp at hx
  |y::l,r,h,j,x,hx=>by
   rw[acD]at h
   cases hy:f y with
   |none=>simp[hy]at h
   |some z=>
    cases hl:l.mapM f with
    |none=>simp[hy,hl]at h
    |some s=>
     simp[hy,hl]at h
     subst h
     cases j with
     |zero=>simp at hx;subst hx;simp[hy]
     |succ j=>simpa using List.Xe hl j x (by simpa using hx)
theorem abf {cells:Array aF} {sh:List aB}:∀(len o:Nat),o<=cells.size->(∀i,i<len->∃zs,cl sh zs/\∀j,j<sh.length->cells[o+i*sh.length+j]?=(de sh zs)[j]?)->(0<len->0<sh.length)->
 ∃rows:List (List Int),rows.length=len/\lg cells o sh rows
 |0,o,ho,_,_=>⟨[],rfl,λ_ h=>by simp at h,cells.toList.take o,cells.toList.drop o,by simp[bf],by simp;omega⟩
 |len+1,o,ho,h,hp=>by
  obtain⟨zs,a1,a2⟩:=h 0 (Nat.succ_pos _)
  have hp:=hp (Nat.succ_pos _)
  have hv:=AP a1
  have F7:=a2 (sh.length-1) (by omega)
  have hsz:o+sh.length<=cells.size:=by
   have:(de sh zs)[sh.length-1]?≠none:=by rw[kg (by omega)];simp
   rw[<-F7]at this
   have:=Array.ahE.1 this
   omega
  obtain⟨rows,b1,b2,pre,post,b3,b4⟩:=abf len (o+sh.length) hsz (λi hi=>by
   obtain⟨fE,c1,c2⟩:=h (i+1) (by omega)
   refine⟨fE,c1,λj hj=>?_⟩
   rw[<-c2 j hj]
   congr 1
   rw[s6];omega) λ_=>hp
  refine⟨zs::rows,by simp[b1],λrow hr=>?_,cells.toList.take o,post,?_,by simp;omega⟩
  ·rcases List.mem_cons.1 hr with rfl|hr
   ·exact a1
   ·exact b2 row hr
  ·have e1:pre=cells.toList.take (o+sh.length):=by
    rw[b3,je,List.take_left' b4]
   have e2:pre=cells.toList.take o++de sh zs:=by
    rw[e1,List.take_add]
    congr 1
    refine List.ext_getElem? λj=>?_
    by_cases hj:j<sh.length
    ·have:=a2 j hj
     rw[List.getElem?_take,if_pos hj,List.getElem?_drop,<-this]
     simp
    ·rw[Tl (by simp;omega),Tl (by omega)]
   have bN:cells.toList=cells.toList.take o++de sh zs++bf sh rows++post:=by rw[<-e2];exact b3
   have fi:bf sh (zs::rows)=de sh zs++bf sh rows:=by simp[bf]
   rw[fi,<-je];exact bN
where
 Array.ahE {α:Type} {a:Array α} {i:Nat}:a[i]?≠none↔i<a.size:=by simp
def Eu (P:bH) (t:aX):ck->Prop
 | .d (.int k lo hi)=>P.underlying t=some (.int k)/\lo=k.min/\hi=k.max
 | .d .bool=>P.underlying t=some .bool
 | .d .str=>P.underlying t=some .string
 | .d (.agg k n lo hi)=>∃e,P.underlying t=some (.array n e)/\v7 P 8 t=some (du n (.int k lo hi))/\P.cellsOf t=n
 | .d (.mix l)=>((∃dY,P.underlying t=some (.struct dY))∨∃n e,P.underlying t=some (.array n e))/\v7 P 8 t=some l/\P.cellsOf t=l.length
 | .d (.kP _)=>False
 | .d (.qH ..)=>False
 | .rd sh=>∃e,P.underlying t=some (.slice e)/\v7 P 8 e=some sh/\P.cellsOf e=sh.length/\mm sh=true
 | .kN _ _=>False
theorem cl.aV:∀{sh:List aB} {zs:List Int},cl sh zs->aV (sh.map aB.eL) zs
 |[],[],_=>trivial
 |_::_,_::_,h=>⟨h.1.1,h.1.2,cl.aV h.2⟩
 |[],_::_,h=>h.elim
 |_::_,[],h=>h.elim
theorem aba:∀(sh:List aB) (zs:List Int),de sh zs=pA aB.val sh zs
 |[],_=>by simp[de]
 |_::_,[]=>by simp[de]
 |c::sh,z::zs=>by simp only[de,LQ,aba sh zs]
theorem aa9 (k:dp) (lo hi:Int):∀(n:Nat) (zs:List Int),zs.length=n->de (du n (.int k lo hi)) zs=zs.map (s4 k)
 |0,[],_=>rfl
 |n+1,z::zs,h=>by
  rw[uO]
  simp only[de,cI,aa9 k lo hi n zs (by simpa using h)]
  rfl
 |0,_::_,h=>by simp at h
 |n+1,[],h=>by simp at h
theorem ZQ (k:dp) (lo hi:Int):∀n:Nat,(du n (aB.int k lo hi)).map aB.eL=da lo hi n
 |0=>rfl
 |n+1=>by rw[uO,cI,ZQ k lo hi n];rfl
theorem aro {b0:Nat} {w:ar} {t:aX} {b:ck} {v:aF} {x:oc H} {cx:List s3} (ht:Eu P t b) (mI:HW P w .any b0 t v) (hd:DataW.Trod enc P w 0 (λ_=>true) true t v x cx) (hw:∀m∈x.weights P t,m<=reachBytes):
 ∃zs,aV b.bds zs/\zs.length=b.num/\b.at (λg=>g<w.heap.size) (λ_=>False) w zs v:=by
 obtain⟨fuel,hf⟩:=hd
 have agg:((∃dY,P.underlying t=some (.struct dY))∨∃n e,P.underlying t=some (.array n e))->∃cs,v= .agg cs/\cs.size=P.cellsOf t:=λh=>by
  unfold HW at mI
  rcases h with⟨dY,h⟩|⟨n,e,h⟩
  ·rw[h]at mI;obtain⟨cs,a,b,_⟩:=mI;exact⟨cs,a,b⟩
  ·rw[h]at mI;obtain⟨cs,a,b,_⟩:=mI;exact⟨cs,a,b⟩
 cases b with
 |kN _ _=>exact ht.elim
 |d y=>
  cases y with
  |kP l=>exact ht.elim
  |qH k c=>exact ht.elim
  |int k lo hi=>
   obtain⟨h1,rfl,rfl⟩:=ht
   obtain⟨n,rfl⟩:=okWide_int h1 mI
   obtain⟨n',h,hx,sz⟩:=acE h1 hf
   simp[Ba]at h
   subst h
   have:=acg.1 sz
   exact⟨[n],⟨this.1,this.2,trivial⟩,rfl,rfl⟩
  |bool=>
   obtain⟨c,rfl⟩:=okWide_bool ht mI
   refine⟨[cond c 1 0],?_,rfl,?_⟩
   ·cases c<;>simp[ck.bds,D.bds,aV]
   ·cases c<;>simp[ck.at,D.val]
  |str=>
   obtain⟨s,rfl⟩:=okWide_string ht mI
   obtain⟨auj,h,hx,hs⟩:=aAv ht hf
   simp[Ba]at h
   subst h
   simp only[cA]at hx
   have hb:s.data.toList.length<=gk:=hw _ (by rw[hx.1];simp[L9])
   exact⟨[ev s.data.toList],⟨ra _,oW hb,trivial⟩,rfl,by simp[ck.at,D.val,fm,bw]⟩
  |agg k n lo hi=>
   obtain⟨e,h1,h2,h3⟩:=ht
   obtain⟨cs,rfl,hsz⟩:=agg (.inr ⟨n,e,h1⟩)
   obtain⟨zs,a1,a2,_⟩:=Kz 8 t _ h2 fuel _ _ hf (by show cs.toList.length=_;simp[hsz,h3]) hw
   have hl:zs.length=n:=by have:=a1.len;simpa using this
   have hcs:cs=(de (du n (.int k lo hi)) zs).toArray:=by rw[<-a2];simp[Ba]
   refine⟨zs,?_,hl,?_⟩
   ·have:=a1.aV;rw[ZQ]at this;exact this
   ·show aAw cs=_
    rw[hcs,aa9 k lo hi n zs hl]
    simp only[D.val,<-hl,S9]
  |mix l=>
   obtain⟨h1,h2,h3⟩:=ht
   obtain⟨cs,rfl,hsz⟩:=agg h1
   obtain⟨zs,a1,a2,_⟩:=Kz 8 t _ h2 fuel _ _ hf (by show cs.toList.length=_;simp[hsz,h3]) hw
   have hl:zs.length=l.length:=a1.len
   have hcs:cs=(de l zs).toArray:=by rw[<-a2];simp[Ba]
   refine⟨zs,a1.aV,hl,?_⟩
   show aAw cs=_
   rw[hcs,aba];rfl
 |rd sh=>
  obtain⟨e,h1,h2,h3,tI⟩:=ht
  have h4:0<sh.length:=by
   unfold mm at tI
   simp only[aS,Nat.blt_eq]at tI
   exact tI.1.2
  obtain⟨a,len,cap,rfl⟩:=okWide_slice h1 mI
  rcases DataW.trod_slice h1 hf with⟨h,_⟩|⟨Vz,mO,gL,elems,rest,n,rfl,h,hx,_,Ps,sj,Ce,akB,hsp,pa⟩
  ·simp[Ba]at h
   obtain⟨rfl,rfl,rfl⟩:=h
   exact⟨[0],⟨bX _,ou,trivial⟩,rfl,.inl ⟨rfl,fa⟩⟩
  ·simp[Ba]at h
   obtain⟨rfl,rfl,rfl⟩:=h
   have akO:w.has P .any b0 Vz e cap:=by
    unfold HW at mI
    rw[h1]at mI
    simp only[Cell.okWide,Cell.ok,h1]at mI
    exact mI.2.2
   obtain⟨_,YV,row,Nc,ig,ak5⟩:=akO
   obtain⟨g,o,sp⟩:=Vz
   simp only at YV
   subst YV
   obtain⟨cells,Lk,fz,vg,kG⟩:∃cells Lk fz,w.heap[g]?=some (.cells cells Lk fz)/\cells.size=Nc/\Lk=row:=by
    unfold World.shape? at ig
    split at ig
    ·rename_i c el fz hb
     simp only[aQ,cA]at ig
     exact⟨c,el,fz,hb,ig.2,ig.1⟩
    ·cases ig
   have ho:o<=cells.size:=by
    have:=ZD _ _ _ _ _ _ ak5
    have h6:=Nat.div_mul_le_self Nc (P.cellsOf row)
    have h7:o<=Nc/P.cellsOf row*P.cellsOf row:=this
    omega
   simp only[cA]at hx
   obtain⟨hx1,hx2⟩:=hx
   rw[hx1]at hw
   simp only[L9,h1,oT,rU]at hw
   obtain⟨rows,r1,r2⟩:=abf (cells:=cells) (sh:=sh) len o ho (λi hi=>by
    have:=akB i hi
    cases hy:elems[i]? with
    |none=>rw[List.getElem?_eq_none_iff]at hy;omega
    |some y=>
     rw[hy,Option.bind_eq_some_iff]at this
     obtain⟨cs,g1,g2⟩:=this
     obtain⟨l1,l2⟩:=afJ g1
     obtain⟨zs,ag,z2,_⟩:=Kz 8 e sh h2 n cs y g2 (by rw[l1,h3]) λm hm=>by
      refine hw m (.inr (.inl ?_))
      exact ZS hy hm
     refine⟨zs,ag,λj hj=>?_⟩
     have:=l2 j (by rw[h3];exact hj)
     rw[iy,iy]at this
     simp only[jW,vg,Option.isSome_none,qb,if_false]at this
     rw[<-z2,<-this,h3]) λ_=>h4
   have c0:(cap:Int)<=9223372036854775807:=by unfold maxLen at sj;omega
   have JP:rows.length<=maxLen:=by omega
   have ai1:rc rows<=bK:=oX JP λr hr=>(r2.1 r hr).row tI
   refine⟨[rc rows],⟨gm _,ai1,trivial⟩,rfl,.inr ⟨g,o,cap,cells,Lk,fz,?_,?_,?_,vg,?_⟩⟩
   ·simp[ee,r1]
   ·simp only[rN,ee,r1];exact⟨Ps,c0⟩
   ·exact(Array.getElem?_eq_some_iff.1 vg).1
   ·simp only[rN,ee];exact r2
where
 ZS {e:aX}:∀{l:List (oc H×List s3)} {i:Nat} {y:oc H×List s3} {m:Nat},l[i]?=some y->m∈y.1.weights P e->m∈L8 P e (l.map (·.1))
  |x::l,0,y,m,h,hm=>by
   simp only[rQ,aQ]at h
   subst h
   simp only[cI,L8,rU]
   exact .inl hm
  |x::l,i+1,y,m,h,hm=>by
   simp only[cI,L8,rU]
   exact .inr (ZS (by simpa using h) hm)
  |[],_,_,_,h,_=>by simp at h
def Md (P:bH):List aX->List ck->Prop
 |[],[]=>True
 |t::ts,b::bs=>Eu P t b/\Md P ts bs
 |_,_=>False
theorem ck.aeQ {F N:Nat->Prop} {w:ar} (b:ck) {zs l:List Int} {v:aF} (h:zs.length=b.num) (ha:b.at F N w zs v):b.at F N w (zs++l) v:=by
 cases b with
 |d x=>
  show v=x.val (zs++l)
  rw[D.acd x (l:=l) h];exact ha
 |rd sh=>match zs,h with|[z],_=>exact ha
 |kN sh e=>match zs,h with|[z],_=>exact ha
theorem aai {b0:Nat} {w:ar}:∀{ts:List aX} {bs:List ck} {vs:List aF} {xs:List (oc H)} {cx:List s3},Md P ts bs->(∀(j:Nat) t v,ts[j]?=some t->vs[j]?=some v->HW P w .any b0 t v)->ac2 enc P w 0 (λ_=>true) true ts vs xs cx->
 (∀m∈L7 P ts xs,m<=reachBytes)->∃zs,aV (cR bs) zs/\jt (λg=>g<w.heap.size) (λ_=>False) w bs zs vs/\xs.length=bs.length
 |[],[],[],[],cx,_,_,h,_=>⟨[],trivial,trivial,rfl⟩
 |[],[],_::_,_,_,_,_,h,_=>h.elim
 |[],[],[],_::_,_,_,_,h,_=>h.elim
 |[],_::_,_,_,_,h,_,_,_=>h.elim
 |_::_,[],_,_,_,h,_,_,_=>h.elim
 |_::_,_::_,[],_,_,_,_,h,_=>by cases h
 |_::_,_::_,_::_,[],_,_,_,h,_=>by cases h
 |t::ts,b::bs,v::vs,x::xs,cx,ht,hv,h,hw=>by
  obtain⟨p,q,h1,h2,rfl⟩:=h
  simp only[L7,rU]at hw
  obtain⟨zs,a1,a2,a3⟩:=aro ht.1 (hv 0 t v rfl rfl) h1 λm hm=>hw m (.inl hm)
  obtain⟨fE,b1,b2,b3⟩:=aai ht.2 (λj t v h1 h2=>hv (j+1) t v (by simpa using h1) (by simpa using h2)) h2 λm hm=>hw m (.inr hm)
  refine⟨zs++fE,Zc a1 b1,⟨ck.aeQ b a2 a3,?_⟩,by simp[b3]⟩
  rw[<-a2,Ee];exact b2
theorem ab2 (hl:laidOutB P=true) {W W':ar} (hb:Below W.heap.size W W'):∀{ts:List aX} {vs:List aF} {xs:List (oc H)} {cx:List s3},(∀t∈ts,P.readableRec t=true/\t<P.types.size)->ac2 enc P W 0 (λ_=>true) true ts vs xs cx->(∀x∈cx,x.block<W.heap.size)->
 ac2 enc P W' 0 (λb=>decide (b<W.heap.size)) true ts vs xs cx
 |[],[],[],_,_,h,_=>h
 |[],_::_,_,_,_,h,_=>h.elim
 |[],[],_::_,_,_,h,_=>h.elim
 |_::_,[],_,_,_,h,_=>by cases h
 |_::_,_::_,[],_,_,h,_=>by cases h
 |t::ts,v::vs,x::xs,cx,hr,h,hlt=>by
  obtain⟨p,q,h1,h2,rfl⟩:=h
  exact⟨p,q,Below.trod hl (hr t (by simp)).1 (hr t (by simp)).2 h1 hb λx hx=>hlt x (List.mem_append.2 (.inl hx)),ab2 hl hb (λt ht=>hr t (dn _ ht)) h2 λx hx=>hlt x (List.mem_append.2 (.inr hx)),rfl⟩
theorem afK {C:Checked} {os:Os} {f:cw} {fn:Func} {s:ChangeSpec} {apart:Bool} {X:ar->Array aF->Prop}
 (bP:∀(w w':ar) (args:Array aF),w.heap=w'.heap->X w args->X w' args)
 (own:ownKnob C.prog.godebug=none) (started:os.Started) (Q1:C.prog.inits.idxOf? f=none) (xf:C.prog.funcs[f]?=some fn)
 (witness:∃(w:ar) (tape:Tape) (i:Input),w.os=os/\(w.forCall tape i).Shaped C.prog/\i.vars=[]/\aAx C.prog (w.forCall tape i) .any w.heap.size f i/\
   ((s.pre enc C.prog fn [] apart (w.forCall tape i).memory i.args/\X (w.forCall tape i).memory i.args)/\sizedMet enc C.prog fn (Tw s) apart (w.forCall tape i).memory i.args)/\({}:Assume).holds C.prog (lone (aAy C.prog f i.args .normal) [] (w.forCall tape i)))
 (contract:∀(W:ar) (base:Nat) (args:Array aF) (ds gs:List (oc H)) (before:List s3),
   (∀(j:Nat) t v,fn.params[j]?=some t->args[j]?=some v->HW C.prog W .any base t v)->
   DataW.Whole enc C.prog fn.params.toList s.vars apart W args.toList ds gs before->(L7 C.prog (fn.params.toList++s.plain.varTypes C.prog) (ds++gs)).all (·<=reachBytes)=true->X W args->W.ShapedOpen C.prog->
   jY C.prog f args W λe W'=>∃v,e= .returned v/\s.post enc C.prog fn apart true false false W args v W'):
 ReturnsInHanded {} C os f .any (λw args=>(s.pre enc C.prog fn [] apart w args/\X w args)/\sizedMet enc C.prog fn (Tw s) apart w args) (s.post enc C.prog fn apart true false false):=by
 refine returnsInHanded_of_calls own started Q1 witness ?_
 intro w tape i _ ig _ bm ie aCl
 obtain⟨_,_,_,agP,FT,_,_,_,_,mI⟩:=bm
 have e:agP=fn:=hZ (FT.symm.trans xf)
 subst e
 obtain⟨⟨⟨ds,gs,before,hw,hc⟩,hx⟩,hz⟩:=ie
 have tK:=aEZ (w':=w.forCall tape i) (by rfl) hw
 refine(contract (w.forCall tape i) w.heap.size i.args ds gs before mI tK (hz.weights hw) (bP _ _ _ (by rfl) hx) ig).mono λe W' ⟨v,he,hp⟩=>?_
 subst he
 exact aE0 hp
theorem anD {C:Checked} {os:Os} {f:cw} {fn:Func} {s:ChangeSpec} {X:ar->Array aF->Prop} {apart:Bool} {ts:List aX} {tb:aX} {bs:List ck}
 (bP:∀(w w':ar) (args:Array aF),w.heap=w'.heap->X w args->X w' args)
 (own:ownKnob C.prog.godebug=none) (started:os.Started) (Q1:C.prog.inits.idxOf? f=none) (xf:C.prog.funcs[f]?=some fn)
 (witness:∃(w:ar) (tape:Tape) (i:Input),w.os=os/\(w.forCall tape i).Shaped C.prog/\i.vars=[]/\aAx C.prog (w.forCall tape i) .any w.heap.size f i/\
   ((s.pre enc C.prog fn [] apart (w.forCall tape i).memory i.args/\X (w.forCall tape i).memory i.args)/\sizedMet enc C.prog fn (Tw s) apart (w.forCall tape i).memory i.args)/\({}:Assume).holds C.prog (lone (aAy C.prog f i.args .normal) [] (w.forCall tape i)))
 (hp:fn.params.toList=ts) (hr:fn.resultTypes.toList=[tb]) (e3:fn.resultTypes.size=1) (alY:C.prog.underlying tb=some .bool) (Gr:Md C.prog ts bs) (sw:laidOutB C.prog=true) (sy:(ts.all λt=>C.prog.readableRec t&&decide (t<C.prog.types.size))=true) (P9:s.vars=[])
 (hs:∀xs:List (oc H),xs.length=bs.length->s.fn H xs={results:=[.lit (.bool true)],args:=xs,vars:=[]})
 (contract:∀(W:ar) (zs:List Int) (vs:List aF),aV (cR bs) zs->jt (λg=>g<W.heap.size) (λ_=>False) W bs zs vs->X W vs.toArray->W.ShapedOpen C.prog->jY C.prog f vs.toArray W λe W'=>e= .returned (.bool true)/\W.Extends W'):
 ReturnsInHanded {} C os f .any (λw args=>(s.pre enc C.prog fn [] apart w args/\X w args)/\sizedMet enc C.prog fn (Tw s) apart w args) (s.post enc C.prog fn apart true false false):=by
 refine afK bP own started Q1 xf witness ?_
 intro W base args xs gs before al7 se hsz hx ig
 have ai3:=se
 have hlt:=se.lt
 obtain⟨p,q,hA,Ov,rfl,Jz,Gb⟩:=se
 rw[hp]at hA
 rw[P9]at Ov
 obtain⟨rfl,rfl⟩:gs=[]/\q=[]:=by
  cases gs with
  |nil=>exact⟨rfl,Ov⟩
  |cons g r=>exact absurd Ov (by intro h;cases h)
 have mI:∀(j:Nat) t v,ts[j]?=some t->args.toList[j]?=some v->HW C.prog W .any base t v:=λj t v h1 h2=>al7 j t v (by rw[<-hp]at h1;simpa using h1) (by simpa using h2)
 have e:(fn.params.toList++s.plain.varTypes C.prog)=ts:=by rw[hp];simp[DataSpec.varTypes,aE2,P9]
 rw[e,h9,sY]at hsz
 obtain⟨zs,hz,hat,hlen⟩:=aai Gr mI hA λn hn=>by simpa using hsz n hn
 have oC:args=args.toList.toArray:=by simp
 rw[oC]at hx
 have rl:jY C.prog f args W λe W'=>e= .returned (.bool true)/\W.Extends W':=by
  have:=contract W zs args.toList hz hat hx ig
  rwa [<-oC]at this
 refine rl.mono λe W' ⟨he,hw⟩=>?_
 subst he
 have FT:=hs (xs++[]) (by simp[hlen])
 have akf:Below W.heap.size W W':=⟨hw.os,hw.tape,hw.output,hw.size,λi hi=>hw.block i hi⟩
 refine⟨_,rfl,_,_,_,[],p,[],ai3,?_,?_,?_,anc hw _,λh=>by cases h⟩
 ·rw[FT,hr,e3];exact trodAll_mk1 (shut_bool alY true)
 ·rw[FT,hp,h9]
  exact ab2 sw akf (λt ht=>by
   have:=List.all_eq_true.1 sy t ht
   simpa using this) hA λx hx=>hlt x (by simp[hx])
 ·rw[FT,P9];rfl
section
variable {gl:ei} {wb:ar} {sh:Nat->List Nat×List Nat} {SB:Nat->List (List Int)->List (List Int)->Prop}
def dq (SB:Nat->List (List Int)->List (List Int)->Prop) (res:List ck) (id:Nat):List (List Int)->List (List Int)->Prop:=λzs rs=>aV (cR res) rs.flatten/\SB id zs rs
theorem afb {c:dJ} {bc:kz} {cal:eI} {li:cw->Nat->Option c7} {rounds d:Nat} {lsh:Nat->List Nat} {lens:List Nat} (hm:P.follows .mixedOrders=true) (cQ:∀r ex ro,fS (b6 sh SB) P gl ⟨wb,r,ex,ro,[]⟩ cal) (hg:fg gl ⟨wb,wb,λ_=>False,λ_=>False,[]⟩)
 (jw:∀(L:V->Env->Prop) (r:ar) (ro:Nat->Prop),pD (b6 sh SB) L ⟨wb,r,λ_=>False,ro,[]⟩ P bc) (hf:tA P c.f=true) (hl:lens=(sh c.id).1) (hd:vN c.res=(sh c.id).2)
 (hv:ix sh lsh SB (dq SB c.res c.id) lens (cR c.args) c.res (c.tree bc P gl cal li rounds d)):c.eY P wb (b6 sh SB c.id):=by
 refine dJ.GQ (li:=li) (rounds:=rounds) (d:=d) hm cQ hg jw (enters hf) (tj λzs hz=>?_)
 have h:=lT (MD hv) hz
 simp only[dq,yd]at h
 rw[hl,hd]at h
 exact h
theorem anC {c:dJ} {W:ar} {vs:List aF} {zs:List Int} (hc:c.eY P W (b6 sh SB c.id)) (lv:c.res=[.d .bool]) (ie:c.pre=0) (hz:aV (cR c.args) zs) (hat:jt (λg=>g<W.heap.size) (λ_=>False) W c.args zs vs) (h1:∀a z,SB c.id a [[z]]->z=1) (h2:(sh c.id).2=[1]):
 jY P c.f vs.toArray W λe W'=>e= .returned (.bool true)/\W.Extends W':=by
 refine(hc.2 _ W vs zs (oi W) hz (by rw[ie];trivial) hat).mono λe W' ⟨hx,rs,us,hb,hs,hr,he⟩=>⟨?_,hx⟩
 rw[lv]at hb hr
 match rs,hb,us,hr,hs,he with
 |[z],hb,[u],hr,hs,he=>
  unfold b6 at hs
  rw[h2]at hs
  have e1:z=1:=h1 _ z hs
  subst e1
  have:u= .bool true:=hr.1
  subst this
  rw[he];rfl
 |[z],hb,[],hr,hs,he=>exact hr.elim
 |[z],hb,_::_::_,hr,hs,he=>exact hr.2.elim
 |[],hb,_,_,_,_=>exact hb.elim
 |_::_::_,hb,_,_,_,_=>exact hb.2.2.elim
end
end Go.bo
namespace Go.bo
open M
def lS (w w':ar) (own:Option Nat):Prop:=
 w'.os=w.os/\w'.tape=w.tape/\w'.output=w.output/\w.heap.size<=w'.heap.size/\∀k:Nat,k<w.heap.size->own≠some k->w'.heap[k]?=w.heap[k]?
structure lQ where
 f:cw
 id:Nat
 sh:List aB
 e:aX
 args:List ck
 pre:Nat:=0
def mi:aF->Option Nat
 | .slice (some a) _ (_+1)=>some a.block
 |_=>none
def lQ.eY (P:bH) (wb:ar) (c:lQ) (spec:List Int->List Int->Prop):Prop:=
 (∀args w,(callFunc c.f args).run P w= .ok (.enter c.f args) w)/\
 ∀(F:Nat->Prop) (w:ar) (v0:aF) (code:Int) (vs:List aF) (zs:List Int),wb.Extends w->q5 (λg=>wb.heap.size<=g) w c.sh c.e (af code) v0->(0<=code/\code<=bK)->aV (cR c.args) zs->Ar c.pre (code::zs)->jt F (λ_=>False) w c.args zs vs->(∀g,F g->mi v0≠some g)->
  jY P c.f (v0::vs).toArray w λe w'=>lS w w' (mi v0)/\∃code' v',(0<=code'/\code'<=bK)/\spec (code::zs) [code']/\q5 (λg=>mi v0=some g∨w.heap.size<=g) w' c.sh c.e (af code') v'/\e= .returned v'
noncomputable def lQ.R (c:lQ) (n:Nat) (code:aa) (r:List V) (bl:List ax) (k:RK):T:=
 wX bl c.args r n λls n1=>KM c.pre (code::ls) (.call c.id (code::ls) n1 [(0,bK)] (q6 [.kN c.sh c.e] n1 (n1+1) [] bl λen us lj=>k en (uj us) lj))
noncomputable def lQ.E (c:lQ) (n:Nat) (vs:List V) (bl:List ax) (k:RK):T:=
 match vs with
 | .w (.one (.sl b a7 o ro len cap))::r=>match bl[b]? with
  |some ([.rows sh off code dL kind],bY)=>cond (nu c.sh sh&&aG kind 2&&aa.beq o (.const 0)&&aa.beq off (.const 0)&&aa.beq ro (.const 0)&&aa.beq cap dL&&aG bY.1 c.e)
   (.nO 31 [code,len] (c.R n code r (df bl b ([.rows sh off code dL 0],bY)) k)) .stuck
  |_=> .stuck
 | .w (.one (.con (.slice none 0 0)))::r=>c.R n (.const 0) r bl k
 | .w (.one (.slc b 0 0 0))::r=>match bl[b]? with
  |some ([],(t,false))=>cond (aG t c.e) (c.R n (.const 0) r bl k) .stuck
  |_=> .stuck
 |_=> .stuck
section
variable {S:Nat->List Int->List Int->Prop} {L:V->Env->Prop} {w0:dK} {P:bH}
theorem Mem.aos {ρ:Env} {m:Nat->Nat} {bl:List ax} {w w':ar} {b:Nat} {sh:List aB} {off code cap:aa} {t:aX×Bool} (h:Mem w0 ρ m bl w) (hbl:bl[b]?=some ([.rows sh off code cap 2],t)) {own:Option Nat} (hown:∀g,own=some g->0<=cap.den ρ/\g=m b) (hn:lS w w' own):Mem w0 ρ m (df bl b ([.rows sh off code cap 0],t)) w':=by
 have h1:=h.kill hbl
 obtain⟨n1,en,mh,tV,sG⟩:=hn
 have jy:=h.rws b sh off code cap 2 t hbl (by decide)
 have hg:∀g,own=some g->w0.b.heap.size<=g/\(w0.ex g∨w0.r.heap.size<=g):=λg hg=>by
  obtain⟨hc,rfl⟩:=hown g hg
  obtain⟨_,cells,iZ,fz,g1,_,g4⟩:=jy.2 hc
  obtain⟨_,_,_,_,g8,g9⟩:=g4 (by decide)
  exact⟨g8,g9⟩
 have jM:0<=cap.den ρ->bp ρ [.rows sh off code cap 2]=2:=λhc=>oJ (by decide) hc
 have mE:∀i:Nat,i<w0.b.heap.size->w'.heap[i]?=w0.b.heap[i]?:=λi hi=>by
  rw[sG i (wo hi h.ext.size) (λe=>by have:=(hg i e).1;omega),h.ext.block i hi]
 have dc:∀(i:Nat) (p:ax),(df bl b ([.rows sh off code cap 0],t))[i]?=some p->(i=b/\p=([.rows sh off code cap 0],t))∨(i≠b/\bl[i]?=some p):=λi p hi=>by
  have mD:b<bl.length:=(List.getElem?_eq_some_iff.1 hbl).1
  rw[iX,oU]at hi
  split at hi
  ·rename_i eM
   subst eM
   simp only[mD,if_true,aQ]at hi
   exact .inl ⟨rfl,hi.symm⟩
  ·rename_i eM;exact .inr ⟨λe=>eM e.symm,hi⟩
 have Co:∀(i:Nat) (p:ax),i≠b->bl[i]?=some p->bp ρ p.1≠0->w'.heap[m i]?=w.heap[m i]?:=λi p hne hi hk=>by
  refine sG _ (h.lt hi hk) λe=>?_
  obtain⟨hc,e⟩:=hown _ e
  exact h.ne hbl hi (by rw[jM hc];exact br _) hk (λe=>hne e.symm) e.symm
 refine⟨⟨n1.trans h.ext.os,en.trans h.ext.tape,mh.trans h.ext.output,iL h.ext.size tV,λa ha=>by simp only[jW,mE a.block ha],λa ha=>by simp only[uH,mE a.block ha],mE⟩,n1.trans h.gQ,en.trans h.jz,mh.trans h.ic,iL h.e8 tV,λi hi hx=>?_,λi cs t' hi ho=>?_,λi eK gT code' gL mN t' hi=>?_,h1.inj⟩
 ·rw[sG i (wo hi h.e8) (λe=>by rcases(hg i e).2 with h|h;exact hx h;omega)]
  exact h.gz i hi hx
 ·rcases dc i _ hi with⟨rfl,cX⟩|⟨hne,hi⟩
  ·cases cX;cases ho
  ·obtain⟨g1,g2,r,hr,g3⟩:=h.eR i cs t' hi ho
   exact⟨g1,g2,r,hr,by rw[Co i _ hne hi (by rw[jA ho];decide)];exact g3⟩
 ·rcases dc i _ hi with⟨rfl,cX⟩|⟨hne,hi⟩
  ·cases cX;exactλhk=>absurd rfl hk
  ·exact(h.rws i eK gT code' gL mN t' hi).grow λhk hc=>Co i _ hne hi (by simp only[oJ hk hc];exact hk)
theorem lQ.MC {c:lQ} {spec:List Int->List Int->Prop} (hc:c.eY P w0.b spec) (cL:∀zs rs,spec zs rs->S c.id zs rs) (n nb:Nat) (code:aa) (r:List V) (o3:List ax) (k:RK) (G:dT) (ρ:Env) (m:Nat->Nat) (w:ar) (X:aF) (xs:List aF) (R':wq->ar->Prop)
 (PA:o3.length=nb) (zk:cK n o3.length ρ o3) (F3:Mem w0 ρ m o3 w) (hv:∀v∈r,V.ok n o3.length ρ v) (hr:eD ρ m r xs) (r2:code.bk n) (iH:0<=code.den ρ/\code.den ρ<=bK)
 (Ck:q5 (λg=>w0.b.heap.size<=g) w c.sh c.e (af (code.den ρ)) X) (ak7:∀w',lS w w' (mi X)->Mem w0 ρ m o3 w') (JK:∀g,mi X=some g->w0.b.heap.size<=g/\w0.r.heap.size<=g) (YE:∀(i:Nat) (p:ax),o3[i]?=some p->mi X=some (m i)->bp ρ p.1=0)
 (ai:(c.R n code r o3 k).holds S L G ρ) (hk:uS S L w0 k n nb ρ m G R'):jY P c.f (X::xs).toArray w R':=by
 subst PA
 unfold lQ.R at ai
 obtain⟨aE,n1,ls,fq,dP,⟨g1,g2,g3⟩,ai⟩:=E9 (S:=S) (L:=L) zk F3 hv hr G _ ai
 obtain⟨ie,ai⟩:=preM_holds ai
 simp only[T.holds]at ai
 have agp:code.den aE=code.den ρ:=aa.bR dP r2
 have hF:∀g,oq w0 ρ m o3 (r.flatMap lh) (r.flatMap p5) g->mi X≠some g:=λg hg he=>by
  obtain⟨⟨cp,_,OT,p,JM,xk,_⟩,_⟩:=hg
  exact xk (YE cp p JM (by rw[he,OT]))
 rw[cI,agp]at ie ai
 refine(hc.2 (oq w0 ρ m o3 (r.flatMap lh) (r.flatMap p5)) w X (code.den ρ) xs _ F3.ext Ck iH g2 ie (g3 _ λ_ h=>h) hF).mono ?_
 rintro e w' ⟨nj,code',v',k1,k3,k4,rfl⟩
 have ai:=lT ai (show aV [((0:Int),bK)] [code'] from⟨k1.1,k1.2,trivial⟩) (cL _ _ k3)
 have hl:=ak7 w' nj
 have hb1:=zk.ext dP fq (br o3.length)
 have dD:agree n1 aE (bL aE n1 [code']):=agree.bL [code'] n1 aE
 have hb2:=hb1.ext dD (Eb n1 1) (br o3.length)
 have Cq:=(hl.mZ zk dP).mZ hb1 dD
 have hA:gJ (bL aE n1 [code']) n1 [code']:=gJ.bL aE n1 [code']
 have tC:=dP.trans dD fq
 have Fu:dO n o3.length ρ m (n1+1) o3.length (bL aE n1 [code']) m:=⟨by omega,tC,br _,λ_ _=>rfl⟩
 have hN:∀g,(mi X=some g∨w.heap.size<=g)->w0.b.heap.size<=g/\w0.r.heap.size<=g:=λg hg=>by
  rcases hg with hg|hg
  ·exact JK g hg
  ·exact⟨iL F3.ext.size hg,iL F3.e8 hg⟩
 have FL:∀(i:Nat) (p:ax),o3[i]?=some p->(mi X=some (m i)∨w.heap.size<=m i)->bp (bL aE n1 [code']) p.1=0:=λi p hi hg=>by
  rw[qK (zk p (eh hi)) tC]
  rcases hg with hg|hg
  ·exact YE i p hi hg
  ·by_cases h0:bp ρ p.1=0
   ·exact h0
   ·have:=F3.lt hi h0;omega
 obtain⟨n',ah,m',kn,lj,p1,bJ,cP,ea,ed,gf⟩:=wN (S:=S) (L:=L) (w0:=w0) (F:=λ_=>False) (N:=λg=>mi X=some g∨w.heap.size<=g) (λg hg=>hg.elim) hN (l:=[.kN c.sh c.e]) (us:=[]) (vals:=[v']) (by rfl) hb2 Cq hA (show aV [((0:Int),bK)] [code'] from⟨k1.1,k1.2,trivial⟩) (br _) ⟨k4,trivial⟩ (.inl rfl) (.inr FL) (λu hu=>by simp at hu) ai
 have lv:=Rz (m:=m') (vals:=[v']) ed (by rw[ea];rfl)
 exact hk n' (uj kn) lj G ah m' w' v' (Fu.trans p1) (eu.refl _ _) lv.1 lv.2 bJ cP gf
theorem lS.ext {w w':ar} (h:lS w w' none):w.Extends w':=by
 obtain⟨n1,en,mh,tV,sG⟩:=h
 have mE:∀i:Nat,i<w.heap.size->w'.heap[i]?=w.heap[i]?:=λi hi=>sG i hi (λe=>by cases e)
 exact⟨n1,en,mh,tV,λa ha=>by simp only[jW,mE a.block ha],λa ha=>by simp only[uH,mE a.block ha],mE⟩
theorem lQ.yC {c:lQ} {spec:List Int->List Int->Prop} (hex:∀g,¬w0.ex g) (hc:c.eY P w0.b spec) (cL:∀zs rs,spec zs rs->S c.id zs rs) (n:Nat) (vs:List V) (bl:List ax) (k:RK) (G:dT) (ρ:Env) (m:Nat->Nat) (w:ar) (xs:List aF) (R':wq->ar->Prop)
 (hb:cK n bl.length ρ bl) (hw:Mem w0 ρ m bl w) (hv:∀v∈vs,V.ok n bl.length ρ v) (hr:eD ρ m vs xs) (ai:(c.E n vs bl k).holds S L G ρ) (hk:uS S L w0 k n bl.length ρ m G R'):
 (callFunc c.f xs.toArray).run P w= .ok (.enter c.f xs.toArray) w/\jY P c.f xs.toArray w R':=by
 refine⟨hc.1 _ _,?_⟩
 have z4:0<=(aa.const 0).den ρ/\(aa.const 0).den ρ<=bK:=by rw[aa.aW];exact⟨bX _,by have:=oX (l:=[]) (by simp) (by simp);exact oe (gm []) this⟩
 have z0:af ((aa.const 0).den ρ)=[]:=by rw[aa.aW];exact fa
 unfold lQ.E at ai
 split at ai
 ·rename_i b a7 o ro len cap r
  split at ai
  rotate_left
  ·exact ai.elim
  rename_i sh off code dL kind bY hbl
  cases hgd:(nu c.sh sh&&aG kind 2&&aa.beq o (.const 0)&&aa.beq off (.const 0)&&aa.beq ro (.const 0)&&aa.beq cap dL&&aG bY.1 c.e)with
  |false=>rw[hgd]at ai;exact ai.elim
  |true=>
  rw[hgd]at ai
  simp only[cond_true]at ai
  simp only[aS]at hgd
  obtain⟨⟨⟨⟨⟨⟨b0,k2⟩,b1⟩,b2⟩,b3⟩,b4⟩,nK⟩:=hgd
  have b0:=vZ b0
  have nK:=bG nK
  have k2:=bG k2
  have b1:=aa.beq_eq b1
  have b2:=aa.beq_eq b2
  have b3:=aa.beq_eq b3
  have b4:=aa.beq_eq b4
  subst k2;subst b1;subst b2;subst b3;subst b4;subst b0
  match xs,hr with
  |X::xs,hr=>
  obtain⟨zw,ai⟩:=ai
  have zw:len.den ρ=(af (code.den ρ)).length:=zw
  have tI:(A.sl b a7 (.const 0) (.const 0) len cap).ok n bl.length ρ:=hv (.w (.one (.sl b a7 (.const 0) (.const 0) len cap))) (by simp)
  obtain⟨ptr,e1,e2,bN⟩:=p4 (m:=m) tI
  have nn:X=(A.sl b a7 (.const 0) (.const 0) len cap).den ρ m:=hr.1
  rw[e1]at nn
  obtain⟨x1,⟨x2,gF,gq,gG⟩,⟨gV,ka,lH,lI⟩,⟨mq,kT⟩,fQ,hV⟩:=tI
  rw[aa.aW]at kT
  have jy:=hw.rws b c.sh (.const 0) code cap 2 bY hbl (by decide)
  have e7:(A.rows c.sh (.const 0) code cap 2).ok n bl.length ρ:=hb _ (eh hbl) _ (by simp)
  obtain⟨⟨r1,r2,jm⟩,iH,bA⟩:=e7
  have mD:b<bl.length:=(List.getElem?_eq_some_iff.1 hbl).1
  have JH:(len.den ρ).toNat=(af (code.den ρ)).length:=by omega
  have hown:(∀g,mi X=some g->0<=cap.den ρ/\g=m b)/\q5 (λg=>w0.b.heap.size<=g) w c.sh c.e (af (code.den ρ)) X/\(∀g,mi X=some g->w0.b.heap.size<=g/\w0.r.heap.size<=g):=by
   by_cases hc0:cap.den ρ<0
   ·have hl0:=fQ hc0
    have bP:X= .slice none (len.den ρ).toNat (if cap.den ρ<0 then 0 else(cap.den ρ).toNat):=by rw[nn,e2 hc0]
    refine⟨(λg h=>by rw[bP]at h;cases h),Or.inl ⟨by rw[bP,if_pos hc0,hl0];rfl,jy.1 hc0⟩,(λg h=>by rw[bP]at h;cases h)⟩
   ·obtain⟨_,cells,iZ,fz,g1,⟨g2,g3⟩,g4⟩:=jy.2 (by omega)
    obtain⟨g0,g5,g6,g7,g8,g9⟩:=g4 (by decide)
    have g6:=g6.two
    subst g0 g6
    rw[aa.aW]at g3
    have bP:X= .slice (some ⟨m b,0,none⟩) (af (code.den ρ)).length (cap.den ρ).toNat:=by
     rw[nn,bN (by omega),if_neg hc0,JH,aa.aW];simp
    have gP:=hV (by omega)
    have YF:∀g,mi X=some g->g=m b:=λg h=>by
     rw[bP]at h
     unfold mi at h
     split at h
     ·rename_i heq
      injection heq with h1 h2 h3
      injection h1 with h1
      rw[<-h1]at h
      cases h;rfl
     ·cases h
    refine⟨(λg h=>⟨by omega,YF g h⟩),Or.inr ⟨m b,(cap.den ρ).toNat,cells,bP,⟨by omega,by omega⟩,g8,by rw[<-nK];exact g1,g3,g7⟩,(λg h=>by
     rw[YF g h]
     rcases g9 with h|h
     ·exact absurd h (hex _)
     ·exact⟨g8,h⟩)⟩
  obtain⟨mG,Ck,JK⟩:=hown
  have XV:=iY bl b ([.rows c.sh (.const 0) code cap 0],bY)
  refine lQ.MC (S:=S) (L:=L) (w0:=w0) hc cL n bl.length code r (df bl b ([.rows c.sh (.const 0) code cap 0],bY)) k G ρ m w X xs R' XV ?_ (hw.kill hbl) (λv hv'=>by rw[XV];exact hv v (dn _ hv')) hr.2 r2 iH Ck (λw' hn=>hw.aos hbl mG hn) JK (λi p hi hg=>?_) ai hk
  ·refine hb.set ?_
   intro y hy
   have hy:y= .rows c.sh (.const 0) code cap 0:=by simpa using hy
   subst hy
   exact hb _ (eh hbl) (.rows c.sh (.const 0) code cap 2) (by simp)
  ·by_cases h0:bp ρ p.1=0
   ·exact h0
   ·exfalso
    obtain⟨hc,alh⟩:=mG _ hg
    have dc:i≠b/\bl[i]?=some p:=by
     rw[iX,oU]at hi
     split at hi
     ·rename_i eM
      subst eM
      simp only[mD,if_true,aQ]at hi
      subst hi
      exact absurd (by simp[bp]) h0
     ·rename_i eM;exact⟨λe=>eM e.symm,hi⟩
    exact hw.ne hbl dc.2 (by rw[oJ (by decide) hc];exact br _) h0 (λe=>dc.1 e.symm) alh.symm
 ·rename_i r
  match xs,hr with
  |X::xs,hr=>
  have bP:X= .slice none 0 0:=hr.1
  subst bP
  exact lQ.MC (S:=S) (L:=L) (w0:=w0) hc cL n bl.length (.const 0) r bl k G ρ m w _ xs R' rfl hb hw (λv hv'=>hv v (dn _ hv')) hr.2 (aa.cT _ _) z4 (Or.inl ⟨rfl,z0⟩) (λw' hn=>hw.grow hn.ext) (λg h=>by cases h) (λi p hi h=>by cases h) ai hk
 ·rename_i b r
  split at ai
  rotate_left
  ·exact ai.elim
  rename_i t hbl
  cases Gq:aG t c.e with
  |false=>rw[Gq]at ai;exact ai.elim
  |true=>
   rw[Gq]at ai
   simp only[cond_true]at ai
   have Gq:=bG Gq
   subst Gq
   match xs,hr with
   |X::xs,hr=>
   have bP:X= .slice (some ⟨m b,0,none⟩) 0 0:=hr.1
   subst bP
   obtain⟨g1,g2,AQ,g3,g4⟩:=hw.eR b [] (c.e,false) hbl rfl
   have g3:=g3 rfl
   subst g3
   refine lQ.MC (S:=S) (L:=L) (w0:=w0) hc cL n bl.length (.const 0) r bl k G ρ m w _ xs R' rfl hb hw (λv hv'=>hv v (dn _ hv')) hr.2 (aa.cT _ _) z4 (Or.inr ⟨m b,0,#[],?_,⟨?_,by decide⟩,g1,by simpa using g4,?_,by simp⟩) (λw' hn=>hw.grow hn.ext) (λg h=>by cases h) (λi p hi h=>by cases h) ai hk
   ·rw[z0];rfl
   ·rw[z0];exact br _
   ·rw[z0];exact⟨λ_ h=>by simp at h,[],[],by simp[bf],rfl⟩
 ·exact ai.elim
noncomputable def JW:List lQ->kz->kz
 |[],g,f=>g f
 |c::r,g,f=>cond (aG c.f f) (some c.E) (JW r g f)
theorem Y4 {wb r:ar} {ro:Nat->Prop} {bc:kz} (jw:pD S L ⟨wb,r,λ_=>False,ro,[]⟩ P bc):∀{l:List lQ},(∀c∈l,c.eY P wb (S c.id))->pD S L ⟨wb,r,λ_=>False,ro,[]⟩ P (JW l bc)
 |[],_=>jw
 |c::l,h=>λf g hf=>by
  unfold JW at hf
  cases hb:aG c.f f with
  |true=>
   rw[hb]at hf
   simp only[cond_true,aQ]at hf
   have:=bG hb
   subst this;subst hf
   intro n vs bl k G ρ m w xs R' h1 h2 h3 h4 h5 h6
   exact lQ.yC (w0:=⟨wb,r,λ_=>False,ro,[]⟩) (λ_ h=>h) (h c (by simp)) (λ_ _ h=>h) n vs bl k G ρ m w xs R' h1 h2 h3 h4 h5 h6
  |false=>
   rw[hb]at hf
   exact Y4 jw (λc hc=>h c (dn _ hc)) f g hf
end
end Go.bo
namespace Go.bo
open M Go.RowKit
variable {S:Nat->List Int->List Int->Prop} {L:V->Env->Prop} {P:bH} {gl:ei} {cal:eI}
def Mh (P:bH) (f:cw):Prop:=
 (∀args w,(callFunc f args).run P w= .ok (.enter f args) w)/\
 ∀(l bs pF:Nat) (sv:aF) (g off len cap c:Nat) (J:Nat->ar->Prop) (W:ar),
  0<c->len<=9223372036854775807->c∣len->len<=cap->c<=9223372036854775807->
  (sv= .slice (some ⟨g,off,none⟩) len cap∨(sv= .slice none 0 0/\len=0))->
  (∀i W,J i W->W.cell? ⟨bs,0,none⟩=some sv/\W.cell? ⟨pF,0,none⟩=some (.int .i64 c))->
  (∀i W,J i W->J i W.drew)->
  (∀i W,J i W->c*i<len->YieldAt Be 0 P l #[.slice (some ⟨g,off+c*i,none⟩) c c] W λe W'=>e= .returned (.bool true)/\J (i+1) W')->
  J 0 W->CallsIn Be 0 P f #[.func (.yield l) #[] #[],.pointer (some ⟨bs,0,none⟩),.pointer (some ⟨pF,0,none⟩)] W λe W'=>(∃v,e= .returned v)/\J (len/c) W'
theorem NP {b w w':ar} (h:b.Extends w) (h1:w'.os=w.os) (h2:w'.tape=w.tape) (h3:w'.output=w.output) (h4:w.heap.size<=w'.heap.size) (h5:∀k,k<b.heap.size->w'.heap[k]?=w.heap[k]?):b.Extends w':=
 ⟨h1.trans h.os,h2.trans h.tape,h3.trans h.output,iL h.size h4,λa ha=>(World.cell?_of_block (h5 _ ha)).trans (h.cell a ha),λa ha=>(World.frozen?_of_block (h5 _ ha)).trans (h.frozen a ha),λi hi=>(h5 i hi).trans (h.block i hi)⟩
theorem Mem.AW {b r r':ar} {ex ro:Nat->Prop} {ds yZ:List yu} {ρ:Env} {m:Nat->Nat} {bl:List ax} {w w':ar} (h:Mem ⟨b,r,ex,ro,ds⟩ ρ m bl w) (l:Nat) (hl:b.heap.size<=l) (hex:¬ex l) (hlt:l<r.heap.size)
 (hr:r'.os=r.os/\r'.tape=r.tape/\r'.output=r.output/\r'.heap.size=r.heap.size) (hw:w'.os=w.os/\w'.tape=w.tape/\w'.output=w.output/\w'.heap.size=w.heap.size)
 (h1:∀k,k≠l->r'.heap[k]?=r.heap[k]?) (h2:∀k,k≠l->w'.heap[k]?=w.heap[k]?) (h3:w'.heap[l]?=r'.heap[l]?) (hc:∀o:Obj,r.heap[l]?=some o->o.isCells=false):Mem ⟨b,r',ex,ro,yZ⟩ ρ m bl w':=by
 have amg:w.heap[l]?=r.heap[l]?:=h.gz l hlt hex
 have ne:∀{g:Nat} {cs:Array aF} {t:aX} {fz:Nat×Nat},w.heap[g]?=some (.cells cs t fz)->g≠l:=λ{g cs t fz} hg e=>by
  subst e
  rw[amg]at hg
  have:=hc _ hg
  simp[Obj.isCells]at this
 refine⟨NP h.ext hw.1 hw.2.1 hw.2.2.1 (by omega) (λk hk=>h2 k (by simp only at hl hk;omega)),by rw[hw.1,h.gQ];exact hr.1.symm,by rw[hw.2.1,h.jz];exact hr.2.1.symm,by rw[hw.2.2.1,h.ic];exact hr.2.2.1.symm,by have:=h.e8;simp only at this⊢;omega,λi hi hx=>?_,λi cs t hi ho=>?_,λi sh off code cap kind t hi=>?_,h.inj⟩
 ·by_cases e:i=l
  ·subst e;exact h3
  ·rw[h2 i e,h1 i e]
   exact h.gz i (by simp only at hi⊢;omega) hx
 ·obtain⟨g1,g2,AQ,iE,g3⟩:=h.eR i cs t hi ho
  refine⟨g1,g2.imp id λh=>?_,AQ,iE,by rw[h2 _ (ne g3)];exact g3⟩
  simp only at h⊢;omega
 ·intro hk
  obtain⟨g1,g2⟩:=h.rws i sh off code cap kind t hi hk
  refine⟨g1,λc0=>?_⟩
  obtain⟨k1,cells,t',fz,k2,k3,k4⟩:=g2 c0
  refine⟨k1.imp id (·.imp id λh=>by simp only at h⊢;omega),cells,t',fz,by rw[h2 _ (ne k2)];exact k2,k3,λFk=>?_⟩
  obtain⟨dk,oG,pg,pW,sC,mM⟩:=k4 Fk
  exact⟨dk,oG,pg,pW,sC,mM.imp id λh=>by simp only at h⊢;omega⟩
structure Sub (w1 w0:dK):Prop where
 b:w1.b=w0.b
 os:w1.r.os=w0.r.os
 tape:w1.r.tape=w0.r.tape
 out:w1.r.output=w0.r.output
 size:w0.r.heap.size<=w1.r.heap.size
 ex:∀g,w1.ex g∨w1.r.heap.size<=g->w0.ex g∨w0.r.heap.size<=g
 ro:∀g,w1.ro g->w0.ro g
 gz:∀i,i<w0.r.heap.size->¬w0.ex i->w1.r.heap[i]?=w0.r.heap[i]?
theorem Mem.less {w1 w0:dK} {ρ:Env} {m:Nat->Nat} {bl:List ax} {w:ar} (h:Mem w1 ρ m bl w) (s:Sub w1 w0):Mem w0 ρ m bl w:=by
 refine⟨s.b▸h.ext,h.gQ.trans s.os,h.jz.trans s.tape,h.ic.trans s.out,iL s.size h.e8,λi hi hx=>?_,λi cs t hi ho=>?_,λi sh off code cap kind t hi=>?_,h.inj⟩
 ·have hne:¬w1.ex i:=λe=>by
   rcases s.ex i (.inl e)with e|e
   ·exact hx e
   ·omega
  exact(h.gz i (wo hi s.size) hne).trans (s.gz i hi hx)
 ·obtain⟨g1,g2,g3⟩:=h.eR i cs t hi ho
  exact⟨s.b▸g1,s.ex _ g2,g3⟩
 ·intro hk
  obtain⟨g1,g2⟩:=h.rws i sh off code cap kind t hi hk
  refine⟨g1,λc0=>?_⟩
  obtain⟨k1,cells,t',fz,k2,k3,k4⟩:=g2 c0
  refine⟨?_,cells,t',fz,k2,k3,λFk=>?_⟩
  ·rcases k1 with k1|k1|k1
   ·exact(s.ex _ (.inl k1)).imp id .inr
   ·exact .inr (.inl (s.ro _ k1))
   ·exact(s.ex _ (.inr k1)).imp id .inr
  ·obtain⟨dk,oG,pg,pW,sC,mM⟩:=k4 Fk
   exact⟨dk,oG,pg,pW,s.b▸sC,s.ex _ mM⟩
def narrow (w0:dK) (W:ar) (ds:List yu):dK:=⟨w0.b,W,λg=>(w0.ex g∨w0.r.heap.size<=g)/\∃o:Obj,W.heap[g]?=some o/\o.isCells=true,w0.ro,ds⟩
theorem Mem.narrow {w0:dK} {ρ:Env} {m:Nat->Nat} {bl:List ax} {w:ar} (h:Mem w0 ρ m bl w) (ds:List yu):Mem (narrow w0 w ds) ρ m bl w:=by
 refine⟨h.ext,rfl,rfl,rfl,br _,λ_ _ _=>rfl,λi cs t hi ho=>?_,λi sh off code cap kind t hi=>?_,h.inj⟩
 ·obtain⟨g1,g2,AQ,iE,g3⟩:=h.eR i cs t hi ho
  exact⟨g1,.inl ⟨g2,_,g3,rfl⟩,AQ,iE,g3⟩
 ·intro hk
  obtain⟨g1,g2⟩:=h.rws i sh off code cap kind t hi hk
  refine⟨g1,λc0=>?_⟩
  obtain⟨k1,cells,t',fz,k2,k3,k4⟩:=g2 c0
  refine⟨?_,cells,t',fz,k2,k3,λFk=>?_⟩
  ·rcases k1 with k1|k1|k1
   ·exact .inl ⟨.inl k1,_,k2,rfl⟩
   ·exact .inr (.inl k1)
   ·exact .inl ⟨.inr k1,_,k2,rfl⟩
  ·obtain⟨dk,oG,pg,pW,sC,mM⟩:=k4 Fk
   exact⟨dk,oG,pg,pW,sC,.inl ⟨mM,_,k2,rfl⟩⟩
theorem Sub.narrow {w0:dK} {ρ:Env} {m:Nat->Nat} {bl:List ax} {w:ar} (h:Mem w0 ρ m bl w) (ds:List yu):Sub (narrow w0 w ds) w0:=
 ⟨rfl,h.gQ,h.jz,h.ic,h.e8,λg hg=>by
  rcases hg with hg|hg
  ·exact hg.1
  ·exact .inr (iL h.e8 hg),λ_ h=>h,λi hi hx=>h.gz i hi hx⟩
theorem Sub.AW {w0:dK} {b r r':ar} {ex ro:Nat->Prop} {ds yZ:List yu} (s:Sub ⟨b,r,ex,ro,ds⟩ w0) (l:Nat) (hl:w0.r.heap.size<=l) (hr:r'.os=r.os/\r'.tape=r.tape/\r'.output=r.output/\r'.heap.size=r.heap.size)
 (h1:∀k,k≠l->r'.heap[k]?=r.heap[k]?):Sub ⟨b,r',ex,ro,yZ⟩ w0:=
 ⟨s.b,hr.1.trans s.os,hr.2.1.trans s.tape,hr.2.2.1.trans s.out,by have:=s.size;simp only at this⊢;omega,λg hg=>s.ex g (hg.imp id λh=>by simp only at h⊢;omega),s.ro,λi hi hx=>by
  rw[h1 i (by omega)];exact s.gz i hi hx⟩
theorem Mem.ds {b r:ar} {ex ro:Nat->Prop} {ds yZ:List yu} {ρ:Env} {m:Nat->Nat} {bl:List ax} {w:ar} (h:Mem ⟨b,r,ex,ro,ds⟩ ρ m bl w):Mem ⟨b,r,ex,ro,yZ⟩ ρ m bl w:=
 ⟨h.ext,h.gQ,h.jz,h.ic,h.e8,h.gz,h.eR,h.rws,h.inj⟩
theorem fS.ds {b r:ar} {ex ro:Nat->Prop} {ds yZ:List yu} (h:fS S P gl ⟨b,r,ex,ro,ds⟩ cal):fS S P gl ⟨b,r,ex,ro,yZ⟩ cal:=λf g hf L n ρ m bl vs xs h1 h2 h3 h4=>by
 obtain⟨w,hw⟩:=h2
 exactλG Bf ai=>by
  obtain⟨ah,n',v,k1,k2,⟨k3,val,k4,qI⟩,tN⟩:=h f g hf L n ρ m bl vs xs h1 ⟨w,hw.ds⟩ h3 h4 G Bf ai
  exact⟨ah,n',v,k1,k2,⟨k3,val,k4,λw hw=>qI w hw.ds⟩,tN⟩
noncomputable def Ru (P:bH) (gl:ei) (cal:eI) (inl:js) (li:Nat->Option c7) (rounds:Nat) (cells:List (Nat×Nat×Int×Int)) (tw:cw) (g:Operand) (cx:Array Tmp) (assign body:Code) (n:Nat) (tm:List V) (bl:List ax) (k:gi):T:=
 match cg tm g,cx.toList,hb cells 0 (n+1) bl with
 | .oy f [.ptr bs 0,.ptr pF 0],[p],some (er,l2,b2)=>match bl[bs]?,bl[pF]?,er[bs]?,er[pF]? with
  |some ([.sl b a7 o ro len cap],_),some ([.int .i64 N],_),some ([xs],_),some ([Ht],_)=>match N.l.dM with
   |some c=>cond (aG f tw&&decide (0<c)&&decide (c<=9223372036854775807)&&aG a7 1&&lB assign&&lB body&&lZ tm tm&&lY er er&&A.beq xs (.sl b a7 o ro len cap)&&A.beq Ht (.int .i64 N)&&bV [xs]&&bV [Ht])
    (.nO 70 [len,.const c] (.loop n (l2++[.const 0]) (n+1) (b2++[(0,9223372036854775807)])
      (.nM (.lt ((aa.var (n+1+l2.length)).smul c) len)
        (lV P gl cal inl li rounds assign (n+1+l2.length+1) (qQ tm p (.w (.one (.sl b 1 o (ro.add ((aa.var (n+1+l2.length)).smul c)) (.const c) (.const c))))) er λx n' ch a8=>match x with
          | .normal=>lV P gl cal inl li rounds body n' ch a8 λx n' ch a8=>match x with
           | .normal=>match hb cells 0 (n+1) (a8.take bl.length)with
            |some (nL,v2,_)=>cond (lY er nL) (.again n (v2++[(aa.var (n+1+l2.length)).add (.const 1)])) .stuck
            |none=> .stuck
           |_=> .stuck
          |_=> .stuck)
        (k (n+1+l2.length+1) tm er)))) .stuck
   |none=> .stuck
  |_,_,_,_=> .stuck
 |_,_,_=> .stuck
theorem YQ {fl:List Nat}:∀(tm:List V) (i s:Nat),(∀j,i<=j->j<i+tm.length->fl.any (aG j)=true)->hs fl [] i s tm=some (tm,[],[])
 |[],_,_,_=>rfl
 |v::r,i,s,h=>by
  unfold hs
  rw[h i (br _) (by simp),YQ r (i+1) s λj h1 h2=>h j (by omega) (by simp only[dv];omega)]
  rfl
theorem Zq (tm:List V) (s:Nat):hs (cU tm.length) [] 0 s tm=some (tm,[],[]):=
 YQ tm 0 s λj _ h=>List.any_eq_true.2 ⟨j,List.mem_range.2 (by omega),ym j⟩
theorem ue (w:ar) (l:Nat) (o:Obj):(w.putObj l o).os=w.os/\(w.putObj l o).tape=w.tape/\(w.putObj l o).output=w.output/\(w.putObj l o).heap.size=w.heap.size:=⟨rfl,rfl,rfl,Ty⟩
theorem Mem.cell0 {w0:dK} {ρ:Env} {m:Nat->Nat} {bl:List ax} {w:ar} (h:Mem w0 ρ m bl w) {i:Nat} {x:A} {t:aX×Bool} (hi:bl[i]?=some ([x],t)) (ho:bV [x]=true):w.cell? ⟨m i,0,none⟩=some (x.den ρ m):=by
 obtain⟨_,_,r,_,h3⟩:=h.eR i _ t hi ho
 simp[jW,h3]
def Me (I:List Int->Prop) (w0:dK) (W1:ar) (n:Nat) (ρ:Env) (m:Nat->Nat) (tm:List V) (er:List ax) (b2:List (Int×Int)) (k2:Nat) (tmps:Array aF) (i:Nat) (W:ar):Prop:=
 ∃zs,zs.length=k2/\aV (b2++[(0,9223372036854775807)]) (zs++[(i:Int)])/\I (zs++[(i:Int)])/\R (narrow w0 W1 []) (n+1+k2+1) (bL ρ (n+1) (zs++[(i:Int)])) m tm er {tmps:=tmps,defers:=[]} W
theorem atA {w0:dK} {inl:js} {li:Nat->Option c7} {rounds:Nat} {cells:List (Nat×Nat×Int×Int)} {tw:cw} {g:Operand} {cx:Array Tmp} {assign body:Code} (j2:Mh P tw) (hm:P.follows .mixedOrders=true)
 (cQ:∀r ex ro,fS S P gl ⟨w0.b,r,ex,ro,[]⟩ cal) (hg:fg gl w0) (j3:∀r ex ro,m9 S L ⟨w0.b,r,ex,ro,[]⟩ P inl)
 {n:Nat} {ρ:Env} {m:Nat->Nat} {tm:List V} {bl:List ax} {a:Act} {w:ar} {G:dT} {k:gi} {Q:Exit->Act->ar->Prop} (h:R w0 n ρ m tm bl a w) (nQ:w0.ds=[])
 (ai:(Ru P gl cal inl li rounds cells tw g cx assign body n tm bl k).holds S L G ρ)
 (hk:∀n' ah ch a8 dU w1 D di w',dO n bl.length ρ m n' (lN a8) ah m->eu n G dU->Sub w1 w0->¬w1.ex D->w1.r.heap[D]?=some (.deferred (some []))->w0.r.heap.size<=D->w0.b.heap.size<=D->w1.ds=[{target:= .collected D,args:=#[]}]->
   R w1 n' ah m ch a8 di w'->(k n' ch a8).holds S L dU ah->Q .normal di w'):(Code.rangeFunc g cx assign body).wpIn Be 0 P Q a w:=by
 unfold Ru at ai
 split at ai
 rotate_left
 ·exact ai.elim
 rename_i f bs pF p er l2 b2 e1 e2 bN
 split at ai
 rotate_left
 ·exact ai.elim
 rename_i b a7 o ro len cap ts N aC4 xs oP Ht aC5 bq bE b5 dm
 split at ai
 rotate_left
 ·exact ai.elim
 rename_i c hc
 generalize gO:(aG f tw&&decide (0<c)&&decide (c<=9223372036854775807)&&aG a7 1&&lB assign&&lB body&&lZ tm tm&&lY er er&&A.beq xs (.sl b a7 o ro len cap)&&A.beq Ht (.int .i64 N)&&bV [xs]&&bV [Ht])=u2 at ai
 cases u2 with
 |false=>exact ai.elim
 |true=>
 simp only[aS,decide_eq_true_eq]at gO
 obtain⟨⟨⟨⟨⟨⟨⟨⟨⟨⟨⟨c1,c2⟩,c3⟩,c4⟩,c5⟩,hQ⟩,ox⟩,nN⟩,q9⟩,yV⟩,afl⟩,afm⟩:=gO
 have c1:=bG c1
 have c4:=bG c4
 subst c1;subst c4
 have q9:=A.beq_eq q9
 have yV:=A.beq_eq yV
 subst q9;subst yV
 simp only[cond_true,T.holds]at ai
 obtain⟨Cb,I,jZ,Ok,hB⟩:=ai
 have Cb:c∣len.den ρ:=by simpa [ab,EV,aa.aW]using Cb
 have PG:A.ok n bl.length ρ (.sl b 1 o ro len cap):=h.b _ (eh bq) _ (by simp)
 obtain⟨zm,⟨pb,mG,Ck,JK⟩,qD⟩:=PG
 obtain⟨⟨s1,s2,fL,j7⟩,⟨jB,p2⟩,x7,x8⟩:=qD
 have akL:a.eval g= .func (.func f) #[] #[.pointer (some ⟨m bs,0,none⟩),.pointer (some ⟨m pF,0,none⟩)]:=by
  have:=(cC h.t g).2
  rw[e1]at this
  exact this
 have alD:cx=#[p]:=by rw[<-Array.toArray_toList (xs:=cx),e2]
 subst alD
 refine wpIn_rangeFunc ?_
 intro fn xf
 obtain⟨rec,zB⟩:∃rec:LoopState->Option Code->Loop,rec=λst atb=>{state:=st,pending:=atb,fn,tmps:=a.tmps,params:=#[p],assign,body,defers:=w.heap.size}:=⟨_,rfl⟩
 obtain⟨W1,Jn⟩:∃W1,(w.alloc (.deferred (some []))).alloc (.loop (rec .ready none))=W1:=⟨_,rfl⟩
 have rk:W1.heap[w.heap.size+1]?=some (.loop (rec .ready none)):=by
  rw[<-Jn];have:=aAC (w.alloc (.deferred (some []))) (.loop (rec .ready none));rwa [World.size_alloc]at this
 have Ol:W1.heap[w.heap.size]?=some (.deferred (some [])):=by
  rw[<-Jn];exact(Below.heap_alloc _ _ _ (by simp)).trans (aAC w _)
 have vh:w.heap.size+1<W1.heap.size:=(Array.getElem?_eq_some_iff.1 rk).1
 have Xw:Mem w0 ρ m bl W1:=by rw[<-Jn];exact h.bx.grow (((oi w).alloc _).alloc _)
 have hbl:w0.b.heap.size<=w.heap.size:=h.bx.ext.size
 have JP:w0.r.heap.size<=w.heap.size:=h.bx.e8
 generalize hl:w.heap.size+1=l at*
 generalize hD:w.heap.size=D at*
 have zq:∀(k:Nat) (o:Obj),W1.heap[k]?=some o->o.isCells=false->¬(narrow w0 W1 []).ex k:=λk o hk ho ⟨_,cm,h1,h2⟩=>by
  rw[hk]at h1;cases h1;rw[ho]at h2;cases h2
 have adN:R (narrow w0 W1 []) n ρ m tm bl {tmps:=a.tmps,defers:=[]} W1:=⟨h.t,rfl,h.b,Xw.narrow []⟩
 have JS:∀v∈tm,V.ok n bl.length ρ v:=λv hv=>by
  obtain⟨i,hi⟩:=List.getElem?_of_mem hv
  exact(h.t.2 i v hi).1
 have E1:hb cells 0 (n+1+([]:List aa).length) bl=some (er,l2,b2):=bN
 obtain⟨Pu,aCr⟩:=FD bN
 have head:∀{n':Nat} {ah:Env} {m':Nat->Nat} {a8 nL:List ax} {v2:List aa} {r5:List (Int×Int)} {W:ar} {x:aa},bl.length<=a8.length->agree n ρ ah->(∀b,b<bl.length->m' b=m b)->
  R (narrow w0 W1 []) n' ah m' tm a8 {tmps:=a.tmps,defers:=[]} W->hb cells 0 (n+1) (a8.take bl.length)=some (nL,v2,r5)->lY er nL=true->
  v2.length=l2.length/\aV b2 (v2.map (·.den ah))/\R (narrow w0 W1 []) (n+1+l2.length+1) (bL ρ (n+1) (v2.map (·.den ah)++[x.den ah])) m tm er {tmps:=a.tmps,defers:=[]} W:=λ{n' ah m' a8 nL v2 r5 W x} k1 k2 k3 k4 qI tN=>by
  obtain⟨dk,oG,pg,_⟩:=Yc (li:={fl:=cU tm.length,ints:=[],cells:=cells}) (ext:=[x]) k1 k2 k3 JS h.b k4 (Zq tm (n+1)) E1 (Zq tm (n+1)) (v2:=v2) qI ox tN
  simp only[fM,pB,mv,jr,dv,ft,cI,eo]at dk oG pg
  exact⟨dk,oG,pg⟩
 obtain⟨i0,i1,i2⟩:=head (x:= .const 0) (br _) (agree.refl n ρ) (λ_ _=>rfl) adN (by rw[S9];exact bN) nN
 have aiU:Me I w0 W1 n ρ m tm er b2 l2.length a.tmps 0 W1:=by
  refine⟨l2.map (·.den ρ),by simp,sB i1 ⟨by simp,by simp,trivial⟩,?_,by simpa [aa.aW]using i2⟩
  simpa [aa.aW]using Ok
 have still:∀{i:Nat} {W:ar} {k:Nat} {o:Obj},Me I w0 W1 n ρ m tm er b2 l2.length a.tmps i W->W1.heap[k]?=some o->o.isCells=false->W.heap[k]?=some o:=λ{i W k o} hJ hk ho=>by
  obtain⟨zs,ag,z2,z3,z4⟩:=hJ
  exact(z4.bx.gz k (Array.getElem?_eq_some_iff.1 hk).1 (zq k o hk ho)).trans hk
 obtain⟨C,hC⟩:∃C:Nat,(C:Int)=c:=⟨c.toNat,aAD (by omega)⟩
 obtain⟨nH,Oo⟩:∃nH:Nat,(nH:Int)=len.den ρ:=⟨(len.den ρ).toNat,aAD (by omega)⟩
 have O1:C∣nH:=by rw[<-hC,<-Oo]at Cb;exact Int.natCast_dvd_natCast.1 Cb
 have akk:nH<=(cap.den ρ).toNat:=by
  by_cases h0:cap.den ρ<0
  ·have:=x7 h0;omega
  ·have:=x8 (by omega);omega
 have JV:∀{i:Nat} {zs:List Int},zs.length=l2.length->bL ρ (n+1) (zs++[(i:Int)]) (n+1+l2.length)=i:=λ{i zs} hz=>by
  rw[DL _ _ _ _ (by simp[hz]),<-hz];simp
 have fU:∀{i:Nat} {zs:List Int},agree n ρ (bL ρ (n+1) (zs++[(i:Int)])):=λ{i zs}=>(agree.bL _ (n+1) ρ).mono (by omega)
 have main:=j2.2 l (m bs) (m pF) ((A.sl b 1 o ro len cap).den ρ m) (m b) ((o.den ρ).toNat+(ro.den ρ).toNat) nH (cap.den ρ).toNat C (Me I w0 W1 n ρ m tm er b2 l2.length a.tmps) W1 (by omega) (by omega) O1 akk (by omega)
  (by
    simp only[A.den]
    by_cases h0:cap.den ρ<0
    ·rw[if_pos h0];have:=x7 h0;exact .inr ⟨rfl,by omega⟩
    ·rw[if_neg h0];refine .inl ?_;rw[show(len.den ρ).toNat=nH by omega,Eg])
  (λi W hJ=>by
    obtain⟨zs,ag,z2,z3,z4⟩:=hJ
    have iq:=z4.bx.cell0 b5 afl
    have qU:=z4.bx.cell0 dm afm
    have PG:A.ok n bl.length ρ (.sl b 1 o ro len cap):=h.b _ (eh bq) _ (by simp)
    have alr:A.ok n bl.length ρ (.int .i64 N):=h.b _ (eh bE) _ (by simp)
    rw[A.ki PG fU (λ_ _=>rfl)]at iq
    rw[A.ki alr fU (λ_ _=>rfl)]at qU
    refine⟨iq,qU.trans ?_⟩
    simp only[A.den,aa.ia hc,hC])
  (λi W hJ=>by
    obtain⟨zs,ag,z2,z3,z4⟩:=hJ
    exact⟨zs,ag,z2,z3,z4.t,z4.d,z4.b,z4.bx.grow (LO (oi W))⟩)
  ?_ aiU
 ·refine⟨l,[{target:= .collected D,args:=#[]}],W1,{target:= .fn (.func f) #[.pointer (some ⟨m bs,0,none⟩),.pointer (some ⟨m pF,0,none⟩)],args:=#[.func (.yield l) #[] #[]]},W1,f,
   #[.func (.yield l) #[] #[],.pointer (some ⟨m bs,0,none⟩),.pointer (some ⟨m pF,0,none⟩)],W1,?_,?_,λkC Yg=>trivial,?_,λhs=>by simp[Be]at hs,?_⟩
  ·rw[<-Jn,zB,<-hl,<-hD];exact run_enterLoop_outer _ _ _ _ _
  ·simp only[resolve,akL]
   simp[go_sem]
  ·simp[invoke,go_sem,j2.1]
  ·refine main.mono ?_
   rintro e W2 ⟨⟨v,rfl⟩,hJ⟩
   have JF:=still hJ rk rfl
   have aCo:=still hJ Ol rfl
   obtain⟨zs,ag,z2,z3,z4⟩:=hJ
   have si:=(lT hB z2 z3).2
   have F8:len.den (bL ρ (n+1) (zs++[((nH/C:Nat):Int)]))=nH:=by rw[aa.bR fU Ck,Oo]
   have hq:C*(nH/C)=nH:=Nat.mul_div_cancel' O1
   have sk:bd.den (bL ρ (n+1) (zs++[((nH/C:Nat):Int)])) (.lt ((aa.var (n+1+l2.length)).smul c) len)=false:=by
    simp only[bd.den,aa.ll,aa.cE,JV ag,F8,decide_eq_false_iff_not]
    rw[<-hC]
    have:(C:Int)*((nH/C:Nat):Int)=(nH:Int):=by exact_mod_cast hq
    omega
   have si:=si sk
   refine⟨none,_,by have:=run_endLoop (P:=P) JF (by rw[zB];simp);rw[zB]at this;exact this,?_⟩
   simp only
   obtain⟨Mi,aiP⟩:∃o,o=Obj.loop {({state:= .ready,pending:=none,fn,tmps:=a.tmps,params:=#[p],assign,body,defers:=D}:Loop)with state:= .exhausted}:=⟨_,rfl⟩
   rw[<-aiP]
   have adB:Mem ⟨w0.b,W1.putObj l Mi,(narrow w0 W1 []).ex,w0.ro,[{target:= .collected D,args:=#[]}]⟩ (bL ρ (n+1) (zs++[((nH/C:Nat):Int)])) m er (W2.putObj l Mi):=
    Mem.AW z4.bx l (by omega) (zq l _ rk rfl) vh (ue _ _ _) (ue _ _ _) (λk hk=>ta hk) (λk hk=>ta hk) (by rw[wA (Array.getElem?_eq_some_iff.1 JF).1,wA vh]) (λo ho=>by rw[rk]at ho;cases ho;rfl)
   refine hk _ _ _ _ _ ⟨w0.b,W1.putObj l Mi,(narrow w0 W1 []).ex,w0.ro,[{target:= .collected D,args:=#[]}]⟩ D _ _ ⟨by omega,fU,by omega,λ_ _=>rfl⟩ (λbQ tG=>?_) (Sub.AW (Sub.narrow Xw []) l (by omega) (ue _ _ _) (λk hk=>ta hk)) (zq D _ Ol rfl) ((ta (by omega)).trans Ol) JP hbl rfl ⟨z4.t,?_,z4.b,adB⟩ si
   ·unfold dT.set
    cases hb:aG bQ n with
    |true=>have:=bG hb;omega
    |false=>rfl
   ·show _++a.defers=_
    rw[h.d,nQ];rfl
 ·
  intro i W hJ hlt
  have JF:=still hJ rk rfl
  obtain⟨zs,ag,z2,z3,z4⟩:=hJ
  have si:=(lT hB z2 z3).1
  have F8:len.den (bL ρ (n+1) (zs++[(i:Int)]))=nH:=by rw[aa.bR fU Ck,Oo]
  have sk:bd.den (bL ρ (n+1) (zs++[(i:Int)])) (.lt ((aa.var (n+1+l2.length)).smul c) len)=true:=by
   simp only[bd.den,aa.ll,aa.cE,JV ag,F8,decide_eq_true_eq]
   rw[<-hC];exact_mod_cast hlt
  have si:=si sk
  have gP:C*i+C<=nH:=by
   obtain⟨q,rfl⟩:=O1
   have:i<q:=Nat.lt_of_mul_lt_mul_left hlt
   have:C*(i+1)<=C*q:=LX C this
   rw[Nat.mul_succ]at this
   omega
  have OV:¬cap.den ρ<0:=λh0=>by have:=x7 h0;omega
  have FJ:=x8 (by omega)
  have hid:(ro.add ((aa.var (n+1+l2.length)).smul c)).den (bL ρ (n+1) (zs++[(i:Int)]))=ro.den ρ+(C*i:Nat):=by
   rw[aa.den_add,aa.ll,aa.cE,JV ag,aa.bR fU mG,<-hC];simp
  have YG:o.den (bL ρ (n+1) (zs++[(i:Int)]))=o.den ρ:=aa.bR fU pb
  have al8:(V.w (.one (.sl b 1 o (ro.add ((aa.var (n+1+l2.length)).smul c)) (.const c) (.const c)))).ok (n+1+l2.length+1) er.length (bL ρ (n+1) (zs++[(i:Int)])):=by
   refine⟨by omega,⟨pb.mono (by omega),aa.um (mG.mono (by omega)) (aa.vY (aa.eV (by omega))),aa.cT _ _,aa.cT _ _⟩,?_⟩
   rw[hid,YG,aa.aW]
   exact⟨⟨s1,by omega,by omega,by omega⟩,⟨by omega,by omega⟩,λh=>by omega,λ_=>bX _⟩
  have ama:(V.w (.one (.sl b 1 o (ro.add ((aa.var (n+1+l2.length)).smul c)) (.const c) (.const c)))).rel (bL ρ (n+1) (zs++[(i:Int)])) m (.slice (some ⟨m b,(o.den ρ).toNat+(ro.den ρ).toNat+C*i,none⟩) C C):=by
   simp only[V.rel,bo.W.den,A.den,hid,YG,aa.aW,Eg]
   rw[if_neg (by omega),show c.toNat=C by omega,show(ro.den ρ+(C*i:Nat)).toNat=(ro.den ρ).toNat+C*i by omega,Nat.add_assoc]
  have XB:R (narrow w0 W1 []) (n+1+l2.length+1) (bL ρ (n+1) (zs++[(i:Int)])) m (qQ tm p (.w (.one (.sl b 1 o (ro.add ((aa.var (n+1+l2.length)).smul c)) (.const c) (.const c))))) er
   (({tmps:=a.tmps,defers:=[]}:Act).put (some p) (.slice (some ⟨m b,(o.den ρ).toNat+(ro.den ρ).toNat+C*i,none⟩) C C)) W:=
   ⟨dX.put z4.t (some p) al8 ama,z4.d,z4.b,z4.bx⟩
  have hy:=run_yield (P:=P) (args:=#[.slice (some ⟨m b,(o.den ρ).toNat+(ro.den ρ).toNat+C*i,none⟩) C C]) JF (by rw[zB];rfl)
  rw[zB]at hy
  have agz:(({tmps:=a.tmps,defers:=[]}:Act).put (some p) (.slice (some ⟨m b,(o.den ρ).toNat+(ro.den ρ).toNat+C*i,none⟩) C C))={tmps:=((#[p]:Array Tmp).zip #[L3 (some ⟨m b,(o.den ρ).toNat+(ro.den ρ).toNat+C*i,none⟩) C C]).foldl (λtmps (t,a)=>tmps.setIfInBounds t a) a.tmps,defers:=[]}:=by
   simp[Act.put]
  rw[agz]at XB
  refine⟨fn,_,assign,body,hy,roundIn_of_wpIn trivial ?_⟩
  refine BH (rd:=some l) hm (cQ _ _ _) (λg cs h=>hg g cs h) (j3 _ _ _) assign (.inr c5) _ _ _ _ _ _ _ _ W _ XB si λx n1 aE fW Lj o4 G1 a1 w1 g1 g2 g3 g4=>?_
  cases x with
  |exit id=>exact g4.elim
  |ret=>exact g4.elim
  |normal=>
   simp only at g4
   have Yq:w1.heap[l]?=some (.loop (rec .ready none)):=(g3.bx.gz l vh (zq l _ rk rfl)).trans rk
   obtain⟨yz,Oi⟩:∃o,o=Obj.loop {rec .ready none with state:= .busy}:=⟨_,rfl⟩
   have aiK:yz.isCells=false:=by rw[Oi];rfl
   have M2:Mem ⟨w0.b,W1.putObj l yz,(narrow w0 W1 []).ex,w0.ro,[]⟩ aE fW o4 (w1.putObj l yz):=
    Mem.AW g3.bx l (by omega) (zq l _ rk rfl) vh (ue _ _ _) (ue _ _ _) (λk hk=>ta hk) (λk hk=>ta hk) (by rw[wA (Array.getElem?_eq_some_iff.1 Yq).1,wA vh]) (λo ho=>by rw[rk]at ho;cases ho;rfl)
   refine⟨w1.putObj l yz,by rw[Oi];exact run_beginRound Yq (by rw[zB]),?_⟩
   refine BH (rd:=some l) hm (cQ _ _ _) (λg cs h=>hg g cs h) (j3 _ _ _) body (.inr hQ) n1 Lj o4 _ G1 aE fW a1 _ _ (⟨g3.t,g3.d,g3.b,M2⟩:R ⟨w0.b,W1.putObj l yz,(narrow w0 W1 []).ex,w0.ro,[]⟩ n1 aE fW Lj o4 a1 (w1.putObj l yz)) g4 λx en bT eF avd lj H9 a2 w2 k1 k2 k3 k4=>?_
   cases x with
   |exit id=>exact k4.elim
   |ret=>exact k4.elim
   |normal=>
    simp only at k4
    split at k4
    rotate_left
    ·exact k4.elim
    rename_i nL v2 r5 fi
    cases hf:lY er nL with
    |false=>rw[hf]at k4;exact k4.elim
    |true=>
    rw[hf]at k4
    simp only[cond_true,T.holds]at k4
    have F6:w2.heap[l]?=some yz:=(k3.bx.gz l (by rw[Ty];exact vh) (zq l _ rk rfl)).trans (wA vh)
    have ak9:=(Array.getElem?_eq_some_iff.1 F6).1
    rw[Oi]at F6
    refine⟨_,_,run_endRound none F6,rfl,?_⟩
    have alK:({{rec .ready none with state:= .busy}with state:=if(none:Option Code).isNone then .ready else .done,pending:=none}:Loop)=rec .ready none:=by rw[zB];rfl
    rw[alK]
    have adA:Mem (narrow w0 W1 []) bT eF lj (w2.putObj l (.loop (rec .ready none))):=
     Mem.AW k3.bx l (by omega) (zq l _ rk rfl) (by rw[Ty];exact vh) ⟨rfl,rfl,rfl,World.putObj_size.symm⟩ (ue _ _ _) (λk hk=>(ta hk).symm) (λk hk=>ta hk) (by rw[wA ak9,rk]) (λo ho=>by rw[wA vh]at ho;cases ho;exact aiK)
    have Om:dO n bl.length ρ m (n+1+l2.length+1) er.length (bL ρ (n+1) (zs++[(i:Int)])) m:=⟨by omega,fU,by omega,λ_ _=>rfl⟩
    have za:=(Om.trans g1).trans k1
    have adO:R (narrow w0 W1 []) en bT eF tm lj {tmps:=a.tmps,defers:=[]} (w2.putObj l (.loop (rec .ready none))):=⟨h.t.ext za.ha za.hn za.hb za.hm,rfl,k3.b,adA⟩
    obtain⟨px,sR,uw⟩:=head (x:=(aa.var (n+1+l2.length)).add (.const 1)) za.hb za.ha za.hm adO fi hf
    have Y3:bT (n+1+l2.length)=i:=by rw[(g1.trans k1).ha _ (by omega),JV ag]
    have hx:((aa.var (n+1+l2.length)).add (.const 1)).den bT=((i+1:Nat):Int):=by rw[aa.den_add,aa.cE,aa.aW,Y3];simp
    rw[hx]at uw
    have Oj:H9 n=λvs=>I vs/\jZ vs<jZ (zs++[(i:Int)]):=by
     rw[k2 n (by have:=g1.hn;omega),g2 n (by omega)]
     unfold dT.set
     rw[show aG n n=true from ym n];rfl
    rw[Oj,ft,cI,eo,hx]at k4
    have:i+1<=nH:=by
     have:=Nat.mul_le_mul_right i (show 1<=C by omega)
     omega
    exact⟨v2.map (·.den bT),by simp[px],sB sR ⟨by omega,by omega,trivial⟩,k4.1,uw⟩
noncomputable def BB (P:bH) (gl:ei) (cal:eI) (inl:js) (li:cw->Nat->Option c7) (rounds:Nat) (cells:List (Nat×Nat×Int×Int)) (tw:cw):js:=
 λf n vs bl k=>match P.funcs[f]? with
  |none=> .stuck
  |some fn=>match fn.body with
   |some (.seq bC (.seq (.seq c1 (.block _ (.rangeFunc g cx assign body))) c3))=>cond (!(fn.name== "runtime.NumGoroutine")&&bB vs.length fn.ntmps)
    (lV P gl cal inl (li f) rounds bC n (vs++Dy (fn.ntmps-vs.length)) bl λx n tm bl=>match x with
      | .normal=>lV P gl cal inl (li f) rounds c1 n tm bl λx n tm bl=>match x with
       | .normal=>Ru P gl cal inl (li f) rounds cells tw g cx assign body n tm bl λn tm bl=>
        lV P gl cal (λ_ _ _ _ _=> .stuck) (li f) rounds c3 n tm bl λx n tm bl=>match x with
         | .exit _=> .stuck
         |_=>G8 P gl fn n tm bl k
       |_=> .stuck
      |_=> .stuck) .stuck
   |_=> .stuck
theorem amD {w0:dK}:m9 S L w0 P (λ_ _ _ _ _=> .stuck):=λf n vs bl k G ρ m w xs R' _ _ _ _ ai _=>ai.elim
theorem VW {w0:dK} {inl:js} {li:cw->Nat->Option c7} {rounds:Nat} {cells:List (Nat×Nat×Int×Int)} {tw:cw} (j2:Mh P tw) (hm:P.follows .mixedOrders=true)
 (cQ:∀r ex ro,fS S P gl ⟨w0.b,r,ex,ro,[]⟩ cal) (hg:fg gl w0) (j3:∀r ex ro,m9 S L ⟨w0.b,r,ex,ro,[]⟩ P inl) (nQ:w0.ds=[]):m9 S L w0 P (BB P gl cal inl li rounds cells tw):=by
 have YY:w0=⟨w0.b,w0.r,w0.ex,w0.ro,[]⟩:=by cases w0;simp at nQ;subst nQ;rfl
 have X0:fS S P gl w0 cal:=by rw[YY];exact cQ _ _ _
 have Yj:m9 S L w0 P inl:=by rw[YY];exact j3 _ _ _
 intro f n vs bl k G ρ m w xs R' hb lu pU hrel ai hk
 unfold BB at ai
 cases hf:P.funcs[f]? with
 |none=>simp[hf,T.holds]at ai
 |some fn=>
  simp only[hf]at ai
  split at ai
  rotate_left
  ·exact ai.elim
  rename_i bC c1 id g cx assign body c3 u9
  cases hc:(!(fn.name== "runtime.NumGoroutine")&&bB vs.length fn.ntmps)with
  |false=>simp[hc,T.holds]at ai
  |true=>
   simp only[hc,cond_true]at ai
   simp only[aS,gW]at hc
   have hlen:=Mu hrel
   refine⟨?_,?_⟩
   ·have h1:¬fn.name= "runtime.NumGoroutine" :=by have:=hc.1;simpa using this
    simp[callFunc,hf,u9,h1]
   ·refine(callsIn_wide (n:=0)).1 (callsIn_of_wp_marks hf u9 trivial ?_ rfl)
    have hR:R w0 n ρ m (vs++Dy (fn.ntmps-vs.length)) bl {tmps:=xs.toArray++uG (fn.ntmps-xs.toArray.size) undef,defers:=[]} w:=by
     refine⟨?_,nQ.symm,hb,lu⟩
     have:=Ih (Ms (fn.ntmps-vs.length) pU hrel)
     have e:(xs++du (fn.ntmps-vs.length) undef).toArray=xs.toArray++uG (fn.ntmps-xs.toArray.size) undef:=by
      simp[hlen]
     rw[e]at this
     exact this
    refine wpIn_seq (BH (rd:=none) hm X0 hg Yj bC (.inl rfl) n _ bl _ G ρ m _ w _ hR ai λx n1 aE fW Lj o4 G1 a1 w1 h1 h2 h3 h4=>?_)
    cases x with
    |exit id=>exact h4.elim
    |ret=>exact h4.elim
    |normal=>
    refine wpIn_seq (wpIn_seq (BH (rd:=none) hm X0 hg Yj c1 (.inl rfl) n1 Lj o4 _ G1 aE fW a1 w1 _ h3 h4 λx en bT eF avd lj H9 a2 w2 k1 k2 k3 k4=>?_))
    cases x with
    |exit id=>exact k4.elim
    |ret=>exact k4.elim
    |normal=>
    refine wpIn_block (atA j2 hm cQ hg j3 k3 nQ k4 λmh gv ave ae8 Ml b3 D a3 acf p1 bJ cP ea ed gf mS sK Rg Rf=>?_)
    have akj:fS S P gl b3 cal:=by
     have e:b3=⟨w0.b,b3.r,b3.ex,b3.ro,b3.ds⟩:=by have:=cP.b;cases b3;simp at this;subst this;rfl
     rw[e];exact(cQ _ _ _).ds
    have zt:fg gl b3:=λg cs h=>by rw[cP.b];exact hg g cs h
    refine BH (rd:=none) hm akj zt amD c3 (.inl rfl) mh ave ae8 _ Ml gv eF a3 acf _ Rg Rf λx tV H5 Al ab0 EL Ia a4 w4 bq bE b5 dm=>?_
    have hD:w4.heap[D]?=some (.deferred (some [])):=(b5.bx.gz D (Array.getElem?_eq_some_iff.1 ed).1 ea).trans ed
    have alb:=(Array.getElem?_eq_some_iff.1 hD).1
    have adC:Mem ⟨b3.b,b3.r.putObj D (.deferred none),b3.ex,b3.ro,[]⟩ H5 Al EL (w4.putObj D (.deferred none)):=by
     have e:b3=⟨b3.b,b3.r,b3.ex,b3.ro,b3.ds⟩:=rfl
     refine Mem.AW (e▸b5.bx) D (by rw[cP.b];exact mS) ea (Array.getElem?_eq_some_iff.1 ed).1 (ue _ _ _) (ue _ _ _) (λk hk=>ta hk) (λk hk=>ta hk) (by rw[wA alb,wA (Array.getElem?_eq_some_iff.1 ed).1]) (λo ho=>by rw[ed]at ho;cases ho;rfl)
    have adR:Sub ⟨b3.b,b3.r.putObj D (.deferred none),b3.ex,b3.ro,[]⟩ w0:=Sub.AW (ds:=b3.ds) cP D gf (ue _ _ _) (λk hk=>ta hk)
    have Vk:Mem w0 H5 Al EL (w4.putObj D (.deferred none)):=adC.less adR
    have adP:R w0 tV H5 Al ab0 EL {a4 with defers:=[]} (w4.putObj D (.deferred none)):=⟨b5.t,nQ.symm,b5.b,Vk⟩
    have fin:(G8 P gl fn tV ab0 EL k).holds S L Ia H5->LeavesInM Be 0 P fn a4.tmps R' a4.defers .returning w4:=λhr=>by
     obtain⟨v,val,px,sR,uw,Hq⟩:=Rw hg adP hr
     have cF:=(((h1.trans k1).trans p1).trans bq)
     have hA:=(((h2.trans k2 h1.hn).trans bJ (h1.trans k1).hn).trans bE ((h1.trans k1).trans p1).hn)
     rw[b5.d,sK]
     exact⟨by simp,.inl ⟨D,_,rfl,run_takeDeferred hD,val,uw,hk tV v EL Ia H5 Al _ val cF hA px sR b5.b Vk Hq⟩⟩
    cases x with
    |exit id=>exact dm.elim
    |normal=>exact fin dm
    |ret=>exact fin dm
end Go.bo
namespace Go.bo
open M
variable {S:Nat->List Int->List Int->Prop} {L:V->Env->Prop} {P:bH} {gl:ei} {cal:eI}
structure jf where
 c:dJ
 ty:aX
 nil:Bool
def xU (p:jf) (g k:Nat):Array aF:=cond p.nil #[.slice (some ⟨g,0,none⟩) k k,.slice none 0 0] #[.slice (some ⟨g,0,none⟩) k k]
def jf.eY (P:bH) (wb:ar) (p:jf) (spec:List Int->List Int->Prop):Prop:=
 (∀args w,(callFunc p.c.f args).run P w= .ok (.enter p.c.f args) w)/\
 ∀(F:Nat->Prop) (w:ar) (vs:List aF) (zs:List Int) (g:Nat),wb.Extends w->aV (cR p.c.args) zs->Ar p.c.pre zs->jt F (λ_=>False) w p.c.args zs vs->wb.heap.size<=g->¬F g->w.heap[g]?=some (.cells vs.toArray p.ty (0,0))->
  jY P p.c.f (xU p g vs.length) w λe w'=>w.Extends w'/\∃rs us,aV (cR p.c.res) rs/\spec zs rs/\jt (λg=>F g∨w.heap.size<=g) (λg=>w.heap.size<=g) w' p.c.res rs us/\e= .returned (qT us)
def KH (nil:Bool) (vs:List V):Option (Nat×Nat×Nat):=
 match vs with
 |[.w (.one (.slc b 0 len cap))]=>cond nil none (some (b,len,cap))
 |[.w (.one (.slc b 0 len cap)),.w (.one (.con (.slice none 0 0)))]=>cond nil (some (b,len,cap)) none
 |_=>none
def jR (a:A):V:= .w (.one a)
noncomputable def jf.E (p:jf) (n:Nat) (vs:List V) (bl:List ax) (k:RK):T:=
 match KH p.nil vs with
 |some (b,len,cap)=>match bl[b]? with
  |some (cs,(t,false))=>cond (bV cs&&aG len cs.length&&aG cap cs.length&&aG t p.ty&& !(((cs.map jR).flatMap lh).any (aG b))) (p.c.Ev n (cs.map jR) bl k) .stuck
  |_=> .stuck
 |none=> .stuck
theorem Mv {ρ:Env} {m:Nat->Nat}:∀(cs:List A),eD ρ m (cs.map jR) (cs.map (A.den ρ m))
 |[]=>trivial
 |a::r=>⟨rfl,Mv r⟩
theorem as6 {p:jf} {vs:List V} {b len cap:Nat} {ρ:Env} {m:Nat->Nat} {xs:List aF} (h:KH p.nil vs=some (b,len,cap)) (hr:eD ρ m vs xs) (Ps:cap=len):xs.toArray=xU p (m b) len:=by
 subst Ps
 unfold KH at h
 split at h
 ·cases hn:p.nil with
  |true=>rw[hn]at h;cases h
  |false=>
   rw[hn]at h;cases h
   match xs,hr with
   |[x],hr=>have hx:x=_:=hr.1;rw[hx];simp[xU,hn,W.den,A.den]
 ·cases hn:p.nil with
  |false=>rw[hn]at h;cases h
  |true=>
   rw[hn]at h;cases h
   match xs,hr with
   |[x,y],hr=>have hx:x=_:=hr.1;have hy:y=_:=hr.2.1;rw[hx,hy];simp[xU,hn,W.den,A.den]
 ·cases h
theorem jf.yC {w0:dK} {p:jf} {spec:List Int->List Int->Prop} (hc:p.eY P w0.b spec) (cL:∀zs rs,spec zs rs->S p.c.id zs rs) (n:Nat) (vs:List V) (bl:List ax) (k:RK) (G:dT) (ρ:Env) (m:Nat->Nat) (w:ar) (xs:List aF) (R':wq->ar->Prop)
 (hb:cK n bl.length ρ bl) (hw:Mem w0 ρ m bl w) (hv:∀v∈vs,V.ok n bl.length ρ v) (hr:eD ρ m vs xs) (ai:(p.E n vs bl k).holds S L G ρ) (hk:uS S L w0 k n bl.length ρ m G R'):
 (callFunc p.c.f xs.toArray).run P w= .ok (.enter p.c.f xs.toArray) w/\jY P p.c.f xs.toArray w R':=by
 refine⟨hc.1 _ _,?_⟩
 unfold jf.E at ai
 split at ai
 rotate_left
 ·exact ai.elim
 rename_i b len cap hp
 split at ai
 rotate_left
 ·exact ai.elim
 rename_i cs t hbl
 cases gO:(bV cs&&aG len cs.length&&aG cap cs.length&&aG t p.ty&& !(((cs.map jR).flatMap lh).any (aG b)))with
 |false=>rw[gO]at ai;exact ai.elim
 |true=>
 rw[gO]at ai
 simp only[aS,gW]at gO
 obtain⟨⟨⟨⟨c1,c2⟩,c3⟩,c4⟩,c5⟩:=gO
 have c2:=bG c2
 have c3:=bG c3
 have c4:=bG c4
 subst c4
 rw[as6 hp hr (by omega),c2]
 obtain⟨b1,b2,r,pc,b3⟩:=hw.eR b cs _ hbl c1
 have pc:=pc rfl
 subst pc
 rw[h9]at b3
 refine dJ.U7 (f:=p.c.f) cL n (cs.map jR) bl k G ρ m w (cs.map (A.den ρ m)) R' (λzs h1 h2 h3=>?_) hb hw (λv hv=>?_) (Mv cs) ai hk
 ·have:=hc.2 _ w _ zs (m b) hw.ext h1 h2 h3 b1 (λhF=>?_) b3
  ·rwa [k8]at this
  ·obtain⟨⟨cp,k1,k2,q,k3,k4,_⟩,_⟩:=hF
   have hne:b≠cp:=λe=>by
    subst e
    rw[List.any_eq_true.2 ⟨b,k1,ym b⟩]at c5;cases c5
   rcases hw.inj b cp _ q hbl k3 k2.symm with h|h|h|h
   ·exact hne h
   ·have:=jA (ρ:=ρ) c1;simp only at h;omega
   ·have:=jA (ρ:=ρ) c1;simp only at h;omega
   ·exact k4 h
 ·obtain⟨a,ha,rfl⟩:=List.mem_map.1 hv
  exact hb _ (eh hbl) a ha
def NU (p:jf) (vs:List V):Bool:=match KH p.nil vs with
 |some (_,len,_)=>aG len p.c.args.length
 |none=>false
noncomputable def rC:List jf->kz->kz
 |[],bc=>bc
 |p::r,bc=>λf=>cond (aG p.c.f f) (some λn vs bl k=>cond (NU p vs) (p.E n vs bl k) (match rC r bc f with
  |some g=>g n vs bl k
  |none=> .stuck)) (rC r bc f)
theorem Dm {w0:dK} {bc:kz} (jw:pD S L w0 P bc):∀{l:List jf},(∀p∈l,p.eY P w0.b (S p.c.id))->pD S L w0 P (rC l bc)
 |[],_=>jw
 |p::l,h=>λf g hf=>by
  unfold rC at hf
  cases hb:aG p.c.f f with
  |true=>
   rw[hb]at hf
   simp only[cond_true,aQ]at hf
   have:=bG hb
   subst this;subst hf
   intro n vs bl k G ρ m w xs R' h1 h2 h3 h4 h5 h6
   have h5:(cond (NU p vs) (p.E n vs bl k) (match rC l bc p.c.f with
    |some g=>g n vs bl k
    |none=> .stuck)).holds S L G ρ:=h5
   cases hq:NU p vs with
   |true=>
    rw[hq]at h5
    exact jf.yC (h p (by simp)) (λ_ _ h=>h) n vs bl k G ρ m w xs R' h1 h2 h3 h4 h5 h6
   |false=>
    rw[hq]at h5
    simp only[cond_false]at h5
    cases hr:rC l bc p.c.f with
    |none=>rw[hr]at h5;exact h5.elim
    |some ji=>
     rw[hr]at h5
     exact Dm jw (λp hp=>h p (dn _ hp)) p.c.f ji hr n vs bl k G ρ m w xs R' h1 h2 h3 h4 h5 h6
  |false=>
   rw[hb]at hf
   exact Dm jw (λp hp=>h p (dn _ hp)) f g hf
def oK:W->A
 | .one a=>a
 |_=> .con undef
noncomputable def jf.tree (bc:kz) (P:bH) (gl:ei) (cal:eI) (li:cw->Nat->Option c7) (rounds d:Nat) (p:jf):T:=
 cond (ov p.c.args&& !(p.c.args.any ck.oF)) (KL p.c.pre ((cU (cR p.c.args).length).map C7) (q6 p.c.args 0 (cR p.c.args).length [] [] λn us bl=>
  cond (us.all (λu=>match u with| .one _=>true|_=>false)&&bV (us.map oK)) (wP bc P gl cal li rounds d p.c.f n (cond p.nil [jR (.slc bl.length 0 us.length us.length),jR (.con (.slice none 0 0))] [jR (.slc bl.length 0 us.length us.length)]) (bl++[(us.map oK,(p.ty,false))]) λn' v a8=>match a8[bl.length]? with
   |some (cs,(t,false))=>cond (ow cs (us.map oK)&&aG t p.ty) (G9 (df a8 bl.length eZ) p.c.res v n' λos _=> .leaf (xR os)) .stuck
   |_=> .stuck) .stuck)) .stuck
theorem Mem.more {b r:ar} {ex ex' ro:Nat->Prop} {ds:List yu} {ρ:Env} {m:Nat->Nat} {bl:List ax} {w:ar} (h:Mem ⟨b,r,ex,ro,ds⟩ ρ m bl w) (he:∀g,ex g->ex' g):Mem ⟨b,r,ex',ro,ds⟩ ρ m bl w:=
 ⟨h.ext,h.gQ,h.jz,h.ic,h.e8,λi hi hx=>h.gz i hi λiS=>hx (he i iS),λi cs t hi ho=>by
  obtain⟨h1,h2,h3⟩:=h.eR i cs t hi ho
  exact⟨h1,h2.imp (he _) id,h3⟩,λi sh off code cap kind t hi hk=>by
  obtain⟨g1,g2⟩:=h.rws i sh off code cap kind t hi hk
  refine⟨g1,λhc=>?_⟩
  obtain⟨k1,cells,t',fz,k2,k3,k4⟩:=g2 hc
  refine⟨k1.imp (he _) id,cells,t',fz,k2,k3,λh2=>?_⟩
  obtain⟨dk,oG,pg,pW,sC,mM⟩:=k4 h2
  exact⟨dk,oG,pg,pW,sC,mM.imp (he _) id⟩,h.inj⟩
theorem Mem.drop {b r:ar} {ro:Nat->Prop} {ρ:Env} {m:Nat->Nat} {bl:List ax} {w:ar} {g i0:Nat} {cs:List A} {t:aX} (h:Mem ⟨b,r,λi=>i=g,ro,[]⟩ ρ m bl w) (hi:bl[i0]?=some (cs,(t,false))) (ho:bV cs=true) (hg:m i0=g) (hr:r.heap[g]?=some (.cells (cs.map (A.den ρ m)).toArray t (0,0))):
 Mem ⟨b,r,λ_=>False,ro,[]⟩ ρ m (df bl i0 eZ) w:=by
 have hlen:i0<bl.length:=(List.getElem?_eq_some_iff.1 hi).1
 have dc:∀(i:Nat) (q:ax),(df bl i0 eZ)[i]?=some q->(i=i0/\q=eZ)∨(i≠i0/\bl[i]?=some q):=λi q hq=>by
  rw[iX,oU]at hq
  split at hq
  ·rename_i eM
   subst eM
   simp only[hlen,if_true,aQ]at hq
   exact .inl ⟨rfl,hq.symm⟩
  ·rename_i eM;exact .inr ⟨λe=>eM e.symm,hq⟩
 have gd:bp ρ eZ.1=0:=by simp[eZ,bp,aa.aW]
 have kI:bp ρ cs=2:=jA ho
 have hne:∀(i:Nat) (q:ax),i≠i0->bl[i]?=some q->bp ρ q.1≠0->m i≠g:=λi q l6 hq hk e=>by
  rcases h.inj i i0 q _ hq hi (by rw[e,hg])with h1|h1|h1|h1
  ·exact l6 h1
  ·simp only at h1;omega
  ·exact hk h1
  ·simp only at h1;omega
 refine⟨h.ext,h.gQ,h.jz,h.ic,h.e8,λi c9 _=>?_,λi iB t' hq hH=>?_,λi sh off code cap kind t' hq=>?_,λi j p q hp hq he=>?_⟩
 ·by_cases e:i=g
  ·subst e
   obtain⟨_,_,AQ,jy,h3⟩:=h.eR i0 cs _ hi ho
   have jy:=jy rfl
   subst jy
   rw[h9,hg]at h3
   rw[h3];exact hr.symm
  ·exact h.gz i c9 e
 ·rcases dc i _ hq with⟨_,e⟩|⟨l6,hq⟩
  ·simp only[eZ,cA]at e
   rw[e.1]at hH;simp[bV]at hH
  ·obtain⟨h1,h2,h3⟩:=h.eR i iB t' hq hH
   refine⟨h1,?_,h3⟩
   rcases h2 with h2|h2
   ·exact absurd h2 (hne i _ l6 hq (by rw[jA hH];decide))
   ·exact .inr h2
 ·rcases dc i _ hq with⟨_,e⟩|⟨l6,hq⟩
  ·simp only[eZ,cA,hX,A.rows.injEq,and_true]at e
   intro hk
   exact absurd e.1.2.2.2.2 hk
  ·intro hk
   obtain⟨g1,g2⟩:=h.rws i sh off code cap kind t' hq hk
   refine⟨g1,λhc=>?_⟩
   have zz:m i≠g:=hne i _ l6 hq (by simp only[bp];rw[if_neg (by omega)];exact hk)
   obtain⟨k1,cells,Hm,fz,k2,k3,k4⟩:=g2 hc
   refine⟨?_,cells,Hm,fz,k2,k3,λh2=>?_⟩
   ·rcases k1 with k1|k1
    ·exact absurd k1 zz
    ·exact .inr k1
   ·obtain⟨dk,oG,pg,pW,sC,mM⟩:=k4 h2
    refine⟨dk,oG,pg,pW,sC,?_⟩
    rcases mM with mM|mM
    ·exact absurd mM zz
    ·exact .inr mM
 ·rcases dc i _ hp with⟨_,e⟩|⟨l6,hp⟩
  ·subst e;exact .inr (.inr (.inl gd))
  ·rcases dc j _ hq with⟨_,e⟩|⟨Yl,hq⟩
   ·subst e;exact .inr (.inr (.inr gd))
   ·exact h.inj i j p q hp hq he
theorem jf.GQ {wb:ar} {gl:ei} {p:jf} {bc:kz} {cal:eI} {li:cw->Nat->Option c7} {rounds d:Nat} {spec:List Int->List Int->Prop} (hm:P.follows .mixedOrders=true) (cQ:∀r ex ro,fS S P gl ⟨wb,r,ex,ro,[]⟩ cal) (hg:fg gl ⟨wb,wb,λ_=>False,λ_=>False,[]⟩)
 (jw:∀(L:V->Env->Prop) (r:ar) (ex ro:Nat->Prop),pD S L ⟨wb,r,ex,ro,[]⟩ P bc) (hf:∀args w,(callFunc p.c.f args).run P w= .ok (.enter p.c.f args) w)
 (ht:nJ (cR p.c.args) λzs=>(p.tree bc P gl cal li rounds d).holds S (rZ λrs=>aV (cR p.c.res) rs/\spec zs rs) (λ_ _=>False) (bL (λ_=>0) 0 zs)):p.eY P wb spec:=by
 refine⟨hf,λF w vs zs g hw hz Gg hat OU Fs hcell=>?_⟩
 have ai:=lT ht hz
 have mK:=gS hz
 unfold jf.tree at ai
 cases hq:(ov p.c.args&& !(p.c.args.any ck.oF))with
 |false=>rw[hq]at ai;exact ai.elim
 |true=>
  rw[hq]at ai
  simp only[cond_true]at ai
  have ai:=preA_holds ai (by rw[<-mK,Km];exact Gg)
  simp only[aS,gW]at hq
  have lu:Mem ⟨wb,w,λ_=>False,F,[]⟩ (bL (λ_=>0) 0 zs) (λ_=>0) [] w:=⟨hw,rfl,rfl,rfl,br _,λ_ _ _=>rfl,λi cs t h=>by simp at h,λi sh off code cap kind t h=>by simp at h,λi j p q h=>by simp at h⟩
  have hall:(p.c.args.all λb=> !b.oF)=true:=by
   rw[sY]
   intro b hb
   cases fO:b.oF with
   |false=>rfl
   |true=>rw[List.any_eq_true.2 ⟨b,hb,fO⟩]at hq;cases hq.2
  obtain⟨n',ah,m',us,bl,p1,bJ,cP,ea,ed,gf⟩:=wN (S:=S) (L:=_) (w0:=⟨wb,w,λ_=>False,F,[]⟩) (F:=F) (N:=λ_=>False) (λg hg=> .inr (.inl hg)) (λg hg=>hg.elim) (l:=p.c.args) (s:=0) (us:=[]) (bl:=[]) (m:=λ_=>0) hq.1 (λp hp=>by simp at hp) lu (gJ.bL _ 0 zs) hz (by omega) hat (.inr λi p h=>by simp at h) (.inl hall) (λu hu=>by simp at hu) ai
  cases nm:(us.all (λu=>match u with| .one _=>true|_=>false)&&bV (us.map oK))with
  |false=>rw[nm]at gf;exact gf.elim
  |true=>
  rw[nm]at gf
  simp only[cond_true]at gf
  simp only[aS]at nm
  have YX:∀u∈us,u= .one (oK u):=λu hu=>by
   have:=List.all_eq_true.1 nm.1 u hu
   cases u with
   |one a=>rfl
   |_=>simp at this
  have pU:(us.map oK).map (A.den ah m')=vs:=by
   have e:us.map (W.den ah m')=vs:=by simpa using ea
   rw[<-e,k7]
   refine h8 λu hu=>?_
   rw[YX u hu];rfl
  have P6:∀a∈us.map oK,A.ok n' bl.length ah a:=λa ha=>by
   obtain⟨u,hu,rfl⟩:=List.mem_map.1 ha
   have h1:=ed u hu
   rw[YX u hu]at h1
   exact h1
  have JA:g<w.heap.size:=(Array.getElem?_eq_some_iff.1 hcell).1
  have fj:=(cP.more (ex':=λi=>i=g) λ_ h=>h.elim).push (x:=(us.map oK,(p.ty,false))) (g:=g) bJ P6 (λ_=>⟨OU,.inl rfl,[],λ_=>rfl,by rw[h9,pU];exact hcell⟩) (λsh off code cap kind he=>by
   simp only at he;rw[he]at nm;simp[bV]at nm) (λi q hi he=>by
    refine .inr (.inl ?_)
    by_cases h0:bp ah q.1=0
    ·exact h0
    ·exfalso
     obtain⟨cs,t⟩:=q
     cases ho:bV cs with
     |true=>
      obtain⟨_,h2,_⟩:=cP.eR i cs t hi ho
      rcases h2 with h2|h2
      ·exact h2
      ·simp only at h2;omega
     |false=>
      obtain⟨sh,off,code,cap,k,e⟩:=KC ho
      subst e
      simp only[bp]at h0
      split at h0
      ·exact h0 rfl
      ·rename_i hc
       obtain⟨h1,_⟩:=(cP.rws i sh off code cap k t hi h0).2 (by omega)
       rcases h1 with h1|h1|h1
       ·exact h1
       ·rw[he]at h1;exact Fs h1
       ·simp only at h1;omega)
  have zl:cK n' (bl++[(us.map oK,(p.ty,false))]).length ah (bl++[(us.map oK,(p.ty,false))]):=λq hq a j1=>by
   rcases List.mem_append.1 hq with hq|hq
   ·exact(bJ q hq a j1).ext (agree.refl _ _) (br _) (by simp)
   ·simp at hq;subst hq
    exact(P6 a j1).ext (agree.refl _ _) (br _) (by simp)
  have al3:us.length=vs.length:=by rw[<-pU];simp
  have O8:fg gl ⟨wb,w,λi=>i=g,F,[]⟩:=hg
  have YT:V.ok n' (bl++[(us.map oK,(p.ty,false))]).length ah (jR (.slc bl.length 0 us.length us.length)):=by
   show bl.length<_
   simp
  have qD:(jR (.slc bl.length 0 us.length us.length)).rel ah (j9 m' bl.length g) (.slice (some ⟨g,0,none⟩) vs.length vs.length):=by
   simp[V.rel,jR,W.den,A.den,lF,al3]
  have oC:∀v∈(cond p.nil [jR (.slc bl.length 0 us.length us.length),jR (.con (.slice none 0 0))] [jR (.slc bl.length 0 us.length us.length)]),V.ok n' (bl++[(us.map oK,(p.ty,false))]).length ah v:=λv hv=>by
   have akp:V.ok n' (bl++[(us.map oK,(p.ty,false))]).length ah (jR (.con (.slice none 0 0))):=rfl
   cases hn:p.nil with
   |true=>
    rw[hn]at hv
    simp only[cond_true,oT,D8,or_false]at hv
    rcases hv with rfl|rfl
    ·exact YT
    ·exact akp
   |false=>
    rw[hn]at hv
    simp only[cond_false,oT,D8,or_false]at hv
    subst hv
    exact YT
  have hrel:eD ah (j9 m' bl.length g) (cond p.nil [jR (.slc bl.length 0 us.length us.length),jR (.con (.slice none 0 0))] [jR (.slc bl.length 0 us.length us.length)]) (xU p g vs.length).toList:=by
   unfold xU
   cases hn:p.nil with
   |true=>simp only[cond_true];exact⟨qD,rfl,trivial⟩
   |false=>simp only[cond_false];exact⟨qD,trivial⟩
  have Jt:=(EU (S:=S) (w0:=⟨wb,w,λi=>i=g,F,[]⟩) (R':=λe w'=>w.Extends w'/\∃rs us,aV (cR p.c.res) rs/\spec zs rs/\jt (λg=>F g∨w.heap.size<=g) (λg=>w.heap.size<=g) w' p.c.res rs us/\e= .returned (qT us)) rfl hm (cQ w _ F) O8 (jw _ _ _ _) d p.c.f n' _ _ _ _ ah (j9 m' bl.length g) w _ zl fj oC hrel gf ?_).2
  ·simpa using Jt
  intro en v a8 dU bT eF w' val h1 h2 h3 h4 h5 h6 h7
  simp only at h7
  split at h7
  rotate_left
  ·exact h7.elim
  rename_i cs t hb2
  cases gO:(ow cs (us.map oK)&&aG t p.ty)with
  |false=>rw[gO]at h7;exact h7.elim
  |true=>
  rw[gO]at h7
  simp only[cond_true]at h7
  simp only[aS]at gO
  have agq:=Bx gO.1
  have sa:=bG gO.2
  subst agq;subst sa
  have FF:bl.length<(bl++[(us.map oK,(p.ty,false))]).length:=by simp
  have JI:eF bl.length=g:=by rw[h1.hm _ FF,lF]
  have sk:(us.map oK).map (A.den bT eF)=vs:=by
   rw[<-pU]
   refine h8 λa ha=>?_
   rw[A.ki (P6 a ha) h1.ha (λb hb=>?_)]
   rw[h1.hm b (by simp;omega),kR hb]
  have hD:=h6.drop hb2 nm.2 JI (by rw[sk];exact hcell)
  have fO:cK en (df a8 bl.length eZ).length bT (df a8 bl.length eZ):=by
   rw[iY]
   intro q hq a ha
   rw[iX]at hq
   rcases HS hq with hq|hq
   ·exact h5 q hq a ha
   ·subst hq
    simp only[eZ,oT,D8,or_false]at ha
    subst ha
    exact⟨⟨aa.cT _ _,aa.cT _ _,aa.cT _ _⟩,by rw[aa.aW];exact⟨bX _,ou⟩,by rw[aa.aW];omega⟩
  obtain⟨gv,mh,os,sx,qu,⟨xs,hx1,hx2⟩,hl⟩:=Rx (S:=S) (w0:=⟨wb,w,λ_=>False,F,[]⟩) (λg hg=>hg) fO hD (by rw[iY];exact h3) h4 dU _ h7
  have hl:rZ _ (xR os) gv:=hl
  rw[MA]at hl
  refine⟨?_,os.map (O.den gv),xs,hl.1,hl.2,?_,by rw[hx1]⟩
  ·have mE:∀i:Nat,i<w.heap.size->w'.heap[i]?=w.heap[i]?:=λi hi=>hD.gz i hi λh=>h
   exact⟨hD.gQ,hD.jz,hD.ic,hD.e8,λa ha=>by simp only[jW,mE a.block ha],λa ha=>by simp only[uH,mE a.block ha],mE⟩
  ·exact dJ.GQ.Bu (λg hg=>by
    rcases hg with hg|hg|hg
    ·exact hg.elim
    ·exact .inl hg
    ·exact .inr hg) (λg hg=>hg) hx2
section
variable {wb:ar} {sh:Nat->List Nat×List Nat} {SB:Nat->List (List Int)->List (List Int)->Prop}
theorem aaL {p:jf} {bc:kz} {cal:eI} {li:cw->Nat->Option c7} {rounds d:Nat} {lsh:Nat->List Nat} {lens:List Nat} (hm:P.follows .mixedOrders=true) (cQ:∀r ex ro,fS (b6 sh SB) P gl ⟨wb,r,ex,ro,[]⟩ cal) (hg:fg gl ⟨wb,wb,λ_=>False,λ_=>False,[]⟩)
 (jw:∀(L:V->Env->Prop) (r:ar) (ex ro:Nat->Prop),pD (b6 sh SB) L ⟨wb,r,ex,ro,[]⟩ P bc) (hf:tA P p.c.f=true) (hl:lens=(sh p.c.id).1) (hd:vN p.c.res=(sh p.c.id).2)
 (hv:ix sh lsh SB (dq SB p.c.res p.c.id) lens (cR p.c.args) p.c.res (p.tree bc P gl cal li rounds d)):p.eY P wb (b6 sh SB p.c.id):=by
 refine jf.GQ (li:=li) (rounds:=rounds) (d:=d) hm cQ hg jw (enters hf) (tj λzs hz=>?_)
 have h:=lT (MD hv) hz
 simp only[dq,yd]at h
 rw[hl,hd]at h
 exact h
end
end Go.bo
namespace Go.bo
open M
variable {S:Nat->List Int->List Int->Prop} {L:V->Env->Prop} {P:bH} {gl:ei} {cal:eI}
inductive fG where
 |int (k:dp) (c:Int)
 |fn (f:cw)
def fG.val:fG->aF
 |int k c=> .int k c
 |fn f=> .func (.func f) #[] #[]
def fG.A:fG->A
 |int k c=> .int k (bF.const c)
 |fn f=> .con (.func (.func f) #[] #[])
def I8:fG->A->Bool
 | .int k c,.int a6 x=>decide (k=a6)&&(match x.l.dM with|some d=>decide (d=c)|none=>false)
 | .fn f,.con v=>match v with
  | .func (.func kC) a b=>aG f kC&&aG a.size 0&&aG b.size 0
  |_=>false
 |_,_=>false
def E7:List fG->List A->Bool
 |[],[]=>true
 |r::l,a::s=>I8 r a&&E7 l s
 |_,_=>false
def E6:List fG->List V->Bool
 |[],[]=>true
 |r::l,.w (.one a)::s=>I8 r a&&E6 l s
 |_,_=>false
theorem WO {r:fG} {a:A} {ρ:Env} {m:Nat->Nat} (h:I8 r a=true):a.den ρ m=r.val:=by
 unfold I8 at h
 split at h
 ·rename_i k c a6 x
  simp only[aS,decide_eq_true_eq]at h
  obtain⟨h1,h2⟩:=h
  cases hc:x.l.dM with
  |none=>rw[hc]at h2;cases h2
  |some d=>
   rw[hc]at h2
   have h2:=of_decide_eq_true h2
   subst h1;subst h2
   simp[A.den,fG.val,aa.ia hc]
 ·rename_i f v
  split at h
  ·rename_i kC x y
   simp only[aS]at h
   obtain⟨⟨h1,h2⟩,h3⟩:=h
   have h1:=bG h1
   have h2:=bG h2
   have h3:=bG h3
   rw[wy h2,wy h3,h1];rfl
  ·cases h
 ·cases h
theorem WQ {ρ:Env} {m:Nat->Nat}:∀{l:List fG} {cs:List A},E7 l cs=true->cs.map (A.den ρ m)=l.map fG.val
 |[],[],_=>rfl
 |r::l,a::s,h=>by
  simp only[E7,aS]at h
  simp[WO h.1,WQ h.2]
 |[],_::_,h=>by cases h
 |_::_,[],h=>by cases h
theorem WN {ρ:Env} {m:Nat->Nat}:∀{l:List fG} {vs:List V} {xs:List aF},E6 l vs=true->eD ρ m vs xs->xs=l.map fG.val
 |[],[],[],_,_=>rfl
 |r::l,.w (.one a)::s,x::xs,h,hr=>by
  simp only[E6,aS]at h
  have hx:x=a.den ρ m:=hr.1
  rw[hx,WO h.1,WN h.2 hr.2];rfl
 |[],[],_::_,_,h=>h.elim
 |_::_,[],_,h,_=>by cases h
structure lR where
 c:dJ
 cells:List fG
 ty:aX
 tail:List fG
structure U8 (g:Nat) (w w':ar):Prop where
 os:w'.os=w.os
 tape:w'.tape=w.tape
 out:w'.output=w.output
 size:w.heap.size<=w'.heap.size
 eR:∀i,i<w.heap.size->i≠g->w'.heap[i]?=w.heap[i]?
def lR.eY (P:bH) (wb:ar) (p:lR) (spec:List Int->List Int->Prop):Prop:=
 (∀args w,(callFunc p.c.f args).run P w= .ok (.enter p.c.f args) w)/\
 ∀(F:Nat->Prop) (w:ar) (vs:List aF) (zs:List Int) (g:Nat),wb.Extends w->aV (cR p.c.args) zs->Ar p.c.pre zs->jt F (λ_=>False) w p.c.args zs vs->wb.heap.size<=g->¬F g->w.heap[g]?=some (.cells (p.cells.map fG.val).toArray p.ty (0,0))->
  jY P p.c.f (.pointer (some ⟨g,0,none⟩)::(vs++p.tail.map fG.val)).toArray w λe w'=>U8 g w w'/\∃rs us,aV (cR p.c.res) rs/\spec zs rs/\jt (λg=>F g∨w.heap.size<=g) (λg=>w.heap.size<=g) w' p.c.res rs us/\e= .returned (qT us)
noncomputable def lR.E (p:lR) (n:Nat) (vs:List V) (bl:List ax) (k:RK):T:=
 match vs with
 | .w (.one (.ptr b 0))::us=>match bl[b]? with
  |some (cs,(t,false))=>cond (bV cs&&E7 p.cells cs&&aG t p.ty&&E6 p.tail (us.drop p.c.args.length)&&bB p.c.args.length us.length&& !(((us.take p.c.args.length).flatMap lh).any (aG b))&&ov p.c.res&& !(p.c.res.any ck.nq))
   (wX bl p.c.args (us.take p.c.args.length) n λls n1=>KM p.c.pre ls (.call p.c.id ls n1 (cR p.c.res) (q6 p.c.res n1 (n1+(cR p.c.res).length) [] (df bl b eZ) λen us lj=>k en (uj us) lj))) .stuck
  |_=> .stuck
 |_=> .stuck
theorem Mem.but {w0:dK} {ρ:Env} {m:Nat->Nat} {bl:List ax} {w w':ar} {b:Nat} {cs:List A} {t:aX×Bool} (h:Mem w0 ρ m bl w) (hi:bl[b]?=some (cs,t)) (ho:bV cs=true) (hx:U8 (m b) w w'):Mem w0 ρ m (df bl b eZ) w':=by
 have hlen:b<bl.length:=(List.getElem?_eq_some_iff.1 hi).1
 have dc:∀(i:Nat) (q:ax),(df bl b eZ)[i]?=some q->(i=b/\q=eZ)∨(i≠b/\bl[i]?=some q):=λi q hq=>by
  rw[iX,oU]at hq
  split at hq
  ·rename_i eM
   subst eM
   simp only[hlen,if_true,aQ]at hq
   exact .inl ⟨rfl,hq.symm⟩
  ·rename_i eM;exact .inr ⟨λe=>eM e.symm,hq⟩
 have gd:bp ρ eZ.1=0:=by simp[eZ,bp,aa.aW]
 have kI:bp ρ cs=2:=jA ho
 have hne:∀(i:Nat) (q:ax),i≠b->bl[i]?=some q->bp ρ q.1≠0->m i≠m b:=λi q l6 hq hk e=>by
  rcases h.inj i b q _ hq hi e with h1|h1|h1|h1
  ·exact l6 h1
  ·simp only at h1;omega
  ·exact hk h1
  ·simp only at h1;omega
 obtain⟨hb1,hb2,_⟩:=h.eR b cs t hi ho
 refine⟨NP h.ext hx.os hx.tape hx.out hx.size (λk hk=>hx.eR k (wo hk h.ext.size) (by omega)),hx.os.trans h.gQ,hx.tape.trans h.jz,hx.out.trans h.ic,iL h.e8 hx.size,λi c9 hex=>?_,λi iB t' hq hH=>?_,λi sh off code cap kind t' hq=>?_,λi j p q hp hq he=>?_⟩
 ·have Pe:i≠m b:=λe=>by
   subst e
   rcases hb2 with h2|h2
   ·exact hex h2
   ·omega
  rw[hx.eR i (wo c9 h.e8) Pe]
  exact h.gz i c9 hex
 ·rcases dc i _ hq with⟨_,e⟩|⟨l6,hq⟩
  ·simp only[eZ,cA]at e
   rw[e.1]at hH;simp[bV]at hH
  ·obtain⟨h1,h2,r,h3,h4⟩:=h.eR i iB t' hq hH
   exact⟨h1,h2,r,h3,by rw[hx.eR _ (Array.getElem?_eq_some_iff.1 h4).1 (hne i _ l6 hq (by rw[jA hH];decide))];exact h4⟩
 ·rcases dc i _ hq with⟨_,e⟩|⟨l6,hq⟩
  ·simp only[eZ,cA,hX,A.rows.injEq,and_true]at e
   intro hk
   exact absurd e.1.2.2.2.2 hk
  ·intro hk
   obtain⟨g1,g2⟩:=h.rws i sh off code cap kind t' hq hk
   refine⟨g1,λhc=>?_⟩
   have zz:=hne i _ l6 hq (by simp only[bp];rw[if_neg (by omega)];exact hk)
   obtain⟨k1,cells,Hm,fz,k2,k3,k4⟩:=g2 hc
   exact⟨k1,cells,Hm,fz,by rw[hx.eR _ (Array.getElem?_eq_some_iff.1 k2).1 zz];exact k2,k3,k4⟩
 ·rcases dc i _ hp with⟨_,e⟩|⟨l6,hp⟩
  ·subst e;exact .inr (.inr (.inl gd))
  ·rcases dc j _ hq with⟨_,e⟩|⟨Yl,hq⟩
   ·subst e;exact .inr (.inr (.inr gd))
   ·exact h.inj i j p q hp hq he
theorem cK.dead {n nb:Nat} {ρ:Env} {bl:List ax} (h:cK n nb ρ bl) (b:Nat):cK n nb ρ (df bl b eZ):=by
 intro q hq a ha
 rw[iX]at hq
 rcases HS hq with hq|hq
 ·exact h q hq a ha
 ·subst hq
  simp only[eZ,oT,D8,or_false]at ha
  subst ha
  exact⟨⟨aa.cT _ _,aa.cT _ _,aa.cT _ _⟩,by rw[aa.aW];exact⟨bX _,ou⟩,by rw[aa.aW];omega⟩
theorem Mw {ρ:Env} {m:Nat->Nat}:∀(k:Nat) {vs:List V} {xs:List aF},eD ρ m vs xs->eD ρ m (vs.take k) (xs.take k)/\eD ρ m (vs.drop k) (xs.drop k)
 |0,vs,xs,h=>⟨by simp;trivial,by simpa using h⟩
 |k+1,[],[],_=>⟨trivial,trivial⟩
 |k+1,v::vs,x::xs,h=>⟨⟨h.1,(Mw k h.2).1⟩,(Mw k h.2).2⟩
 |_+1,[],_::_,h=>h.elim
 |_+1,_::_,[],h=>h.elim
theorem lR.yC {w0:dK} {p:lR} {spec:List Int->List Int->Prop} (hc:p.eY P w0.b spec) (cL:∀zs rs,spec zs rs->S p.c.id zs rs) (n:Nat) (vs:List V) (bl:List ax) (k:RK) (G:dT) (ρ:Env) (m:Nat->Nat) (w:ar) (xs:List aF) (R':wq->ar->Prop)
 (hb:cK n bl.length ρ bl) (hw:Mem w0 ρ m bl w) (hv:∀v∈vs,V.ok n bl.length ρ v) (hr:eD ρ m vs xs) (ai:(p.E n vs bl k).holds S L G ρ) (hk:uS S L w0 k n bl.length ρ m G R'):
 (callFunc p.c.f xs.toArray).run P w= .ok (.enter p.c.f xs.toArray) w/\jY P p.c.f xs.toArray w R':=by
 refine⟨hc.1 _ _,?_⟩
 unfold lR.E at ai
 split at ai
 rotate_left
 ·exact ai.elim
 rename_i b us
 split at ai
 rotate_left
 ·exact ai.elim
 rename_i cs t hbl
 match xs,hr with
 |x::xs,hr=>
 cases gO:(bV cs&&E7 p.cells cs&&aG t p.ty&&E6 p.tail (us.drop p.c.args.length)&&bB p.c.args.length us.length&& !(((us.take p.c.args.length).flatMap lh).any (aG b))&&ov p.c.res&& !(p.c.res.any ck.nq))with
 |false=>rw[gO]at ai;exact ai.elim
 |true=>
 rw[gO]at ai
 simp only[cond_true]at ai
 simp only[aS,gW]at gO
 obtain⟨⟨⟨⟨⟨⟨⟨c1,c2⟩,c3⟩,c4⟩,c5⟩,hQ⟩,ox⟩,nN⟩:=gO
 have c3:=bG c3
 subst c3
 obtain⟨hx,hr⟩:=hr
 have hx:x= .pointer (some ⟨m b,0,none⟩):=hx
 subst hx
 obtain⟨r1,r2⟩:=Mw p.c.args.length hr
 have al0:=WN c4 r2
 have fk:xs=xs.take p.c.args.length++p.tail.map fG.val:=by rw[<-al0,oj]
 obtain⟨b1,b2,r,pc,b3⟩:=hw.eR b cs _ hbl c1
 have pc:=pc rfl
 subst pc
 rw[h9,WQ c2]at b3
 obtain⟨aE,n1,ls,fq,dP,⟨g1,g2,g3⟩,ai⟩:=E9 (S:=S) (L:=L) hb hw (λv hv'=>hv v (dn _ (List.mem_of_mem_take hv'))) r1 G _ ai
 obtain⟨ie,ai⟩:=preM_holds ai
 simp only[T.holds]at ai
 rw[fk]
 refine(hc.2 (oq w0 ρ m bl ((us.take p.c.args.length).flatMap lh) ((us.take p.c.args.length).flatMap p5)) w _ _ (m b) hw.ext g2 ie (g3 _ λ_ h=>h) b1 (λhF=>?_) b3).mono ?_
 ·obtain⟨⟨cp,k1,k2,q,k3,k4,_⟩,_⟩:=hF
  have hne:b≠cp:=λe=>by
   subst e
   rw[List.any_eq_true.2 ⟨b,k1,ym b⟩]at hQ;cases hQ
  rcases hw.inj b cp _ q hbl k3 k2.symm with h|h|h|h
  ·exact hne h
  ·have:=jA (ρ:=ρ) c1;simp only at h;omega
  ·have:=jA (ρ:=ρ) c1;simp only at h;omega
  ·exact k4 h
 rintro e w' ⟨he,rs,kn,r1,r2,jm,rfl⟩
 have ai:=lT ai r1 (cL _ _ r2)
 have fj:=hw.but hbl c1 he
 have fO:=hb.dead b
 have hl:(df bl b eZ).length=bl.length:=iY _ _ _
 have dD:agree n1 aE (bL aE n1 rs):=agree.bL rs n1 aE
 have tC:=dP.trans dD fq
 have hb2:cK (n1+(cR p.c.res).length) (df bl b eZ).length (bL aE n1 rs) (df bl b eZ):=by rw[hl];exact fO.ext tC (by omega) (br _)
 have aiW:Mem w0 (bL aE n1 rs) m (df bl b eZ) w':=fj.mZ (by rw[hl];exact fO) tC
 have hA:gJ (bL aE n1 rs) n1 rs:=gJ.bL aE n1 rs
 have Fu:dO n bl.length ρ m (n1+(cR p.c.res).length) (df bl b eZ).length (bL aE n1 rs) m:=⟨by omega,tC,by rw[hl];exact br _,λ_ _=>rfl⟩
 have hF:∀g,(oq w0 ρ m bl ((us.take p.c.args.length).flatMap lh) ((us.take p.c.args.length).flatMap p5) g∨w.heap.size<=g)->w0.ex g∨w0.ro g∨w0.r.heap.size<=g:=λg hg=>by
  rcases hg with hg|hg
  ·exact hg.2
  ·exact .inr (.inr (iL hw.e8 hg))
 have hN:∀g,w.heap.size<=g->w0.b.heap.size<=g/\w0.r.heap.size<=g:=λg hg=>⟨iL hw.ext.size hg,iL hw.e8 hg⟩
 have sy:(p.c.res.all λb=> !b.nq)=true:=by
  rw[sY]
  intro b hb
  cases fO:b.nq with
  |false=>rfl
  |true=>rw[List.any_eq_true.2 ⟨b,hb,fO⟩]at nN;cases nN
 obtain⟨n',ah,m',aw4,lj,p1,bJ,cP,ea,ed,gf⟩:=wN (S:=S) (L:=L) hF hN (l:=p.c.res) (us:=[]) (vals:=kn) ox hb2 aiW hA r1 (br _) jm (.inl sy) (.inr λi q hi ec=>by
  by_cases h0:bp (bL aE n1 rs) q.1=0
  ·exact h0
  ·exfalso
   rw[iX,oU]at hi
   split at hi
   ·rename_i e
    subst e
    split at hi
    ·cases hi;exact h0 (by simp[eZ,bp,aa.aW])
    ·cases hi
   ·rw[qK (hb q (eh hi)) tC]at h0
    have:=hw.lt hi h0;omega) (λu hu=>by simp at hu) ai
 have lv:=Rz (m:=m') ed (by simpa using ea)
 exact hk n' (uj aw4) lj G ah m' w' (qT kn) (Fu.trans p1) (eu.refl _ _) lv.1 lv.2 bJ cP gf
noncomputable def AH:List lR->kz->kz
 |[],bc=>bc
 |p::r,bc=>λf=>cond (aG p.c.f f) (some p.E) (AH r bc f)
theorem Rv {w0:dK} {bc:kz} (jw:pD S L w0 P bc):∀{l:List lR},(∀p∈l,p.eY P w0.b (S p.c.id))->pD S L w0 P (AH l bc)
 |[],_=>jw
 |p::l,h=>λf g hf=>by
  unfold AH at hf
  cases hb:aG p.c.f f with
  |true=>
   rw[hb]at hf
   simp only[cond_true,aQ]at hf
   have:=bG hb
   subst this;subst hf
   intro n vs bl k G ρ m w xs R' h1 h2 h3 h4 h5 h6
   exact lR.yC (h p (by simp)) (λ_ _ h=>h) n vs bl k G ρ m w xs R' h1 h2 h3 h4 h5 h6
  |false=>
   rw[hb]at hf
   exact Rv jw (λp hp=>h p (dn _ hp)) f g hf
noncomputable def lR.tree (f:js) (p:lR):T:=
 cond (ov p.c.args&& !(p.c.args.any ck.oF)) (KL p.c.pre ((cU (cR p.c.args).length).map C7) (q6 p.c.args 0 (cR p.c.args).length [] [] λn us bl=>
  cond (bV (p.cells.map fG.A)) (f p.c.f n (jR (.ptr bl.length 0)::(us.map V.w++p.tail.map λr=>jR r.A)) (bl++[(p.cells.map fG.A,(p.ty,false))]) λn' v a8=>match a8[bl.length]? with
   |some (cs,_)=>cond (bV cs) (G9 (df a8 bl.length eZ) p.c.res v n' λos _=> .leaf (xR os)) .stuck
   |none=> .stuck) .stuck)) .stuck
theorem fG.TB (r:fG) (ρ:Env) (m:Nat->Nat):r.A.den ρ m=r.val:=by cases r<;>simp[fG.A,fG.val,A.den,bF.const,aa.aW]
theorem fG.TC (r:fG) (n nb:Nat) (ρ:Env):r.A.ok n nb ρ:=by
 cases r with
 |int k c=>exact bF.nd _ _ _
 |fn f=>rfl
theorem Vj {ρ:Env} {m:Nat->Nat}:∀{vs us:List V} {xs fE:List aF},eD ρ m vs xs->eD ρ m us fE->eD ρ m (vs++us) (xs++fE)
 |[],_,[],_,_,h=>h
 |_::_,_,_::_,_,h,h'=>⟨h.1,Vj h.2 h'⟩
 |[],_,_::_,_,h,_=>h.elim
 |_::_,_,[],_,h,_=>h.elim
theorem Mem.aga {b r r':ar} {ro:Nat->Prop} {ρ:Env} {m:Nat->Nat} {bl:List ax} {w:ar} {g i0:Nat} {cs:List A} {t:aX×Bool} (h:Mem ⟨b,r,λi=>i=g,ro,[]⟩ ρ m bl w) (hi:bl[i0]?=some (cs,t)) (ho:bV cs=true) (hg:m i0=g)
 (hr:r'.os=r.os/\r'.tape=r.tape/\r'.output=r.output/\r'.heap.size=r.heap.size) (h1:∀k,k≠g->r'.heap[k]?=r.heap[k]?) (h2:r'.heap[g]?=w.heap[g]?):
 Mem ⟨b,r',λ_=>False,ro,[]⟩ ρ m (df bl i0 eZ) w:=by
 have hlen:i0<bl.length:=(List.getElem?_eq_some_iff.1 hi).1
 have dc:∀(i:Nat) (q:ax),(df bl i0 eZ)[i]?=some q->(i=i0/\q=eZ)∨(i≠i0/\bl[i]?=some q):=λi q hq=>by
  rw[iX,oU]at hq
  split at hq
  ·rename_i eM
   subst eM
   simp only[hlen,if_true,aQ]at hq
   exact .inl ⟨rfl,hq.symm⟩
  ·rename_i eM;exact .inr ⟨λe=>eM e.symm,hq⟩
 have gd:bp ρ eZ.1=0:=by simp[eZ,bp,aa.aW]
 have kI:bp ρ cs=2:=jA ho
 have hne:∀(i:Nat) (q:ax),i≠i0->bl[i]?=some q->bp ρ q.1≠0->m i≠g:=λi q l6 hq hk e=>by
  rcases h.inj i i0 q _ hq hi (by rw[e,hg])with h1|h1|h1|h1
  ·exact l6 h1
  ·simp only at h1;omega
  ·exact hk h1
  ·simp only at h1;omega
 refine⟨h.ext,h.gQ.trans hr.1.symm,h.jz.trans hr.2.1.symm,h.ic.trans hr.2.2.1.symm,by have:=h.e8;simp only at this⊢;omega,λi c9 _=>?_,λi iB t' hq hH=>?_,λi sh off code cap kind t' hq=>?_,λi j p q hp hq he=>?_⟩
 ·by_cases e:i=g
  ·subst e;exact h2.symm
  ·show w.heap[i]?=r'.heap[i]?
   rw[h1 i e];exact h.gz i (by simp only at c9⊢;omega) e
 ·rcases dc i _ hq with⟨_,e⟩|⟨l6,hq⟩
  ·simp only[eZ,cA]at e
   rw[e.1]at hH;simp[bV]at hH
  ·obtain⟨k1,k2,k3⟩:=h.eR i iB t' hq hH
   refine⟨k1,?_,k3⟩
   rcases k2 with k2|k2
   ·exact absurd k2 (hne i _ l6 hq (by rw[jA hH];decide))
   ·exact .inr (by simp only at k2⊢;omega)
 ·rcases dc i _ hq with⟨_,e⟩|⟨l6,hq⟩
  ·simp only[eZ,cA,hX,A.rows.injEq,and_true]at e
   intro hk
   exact absurd e.1.2.2.2.2 hk
  ·intro hk
   obtain⟨g1,g2⟩:=h.rws i sh off code cap kind t' hq hk
   refine⟨g1,λhc=>?_⟩
   have zz:m i≠g:=hne i _ l6 hq (by simp only[bp];rw[if_neg (by omega)];exact hk)
   obtain⟨k1,cells,Hm,fz,k2,k3,k4⟩:=g2 hc
   refine⟨?_,cells,Hm,fz,k2,k3,λh2=>?_⟩
   ·rcases k1 with k1|k1|k1
    ·exact absurd k1 zz
    ·exact .inr (.inl k1)
    ·exact .inr (.inr (by simp only at k1⊢;omega))
   ·obtain⟨dk,oG,pg,pW,sC,mM⟩:=k4 h2
    refine⟨dk,oG,pg,pW,sC,?_⟩
    rcases mM with mM|mM
    ·exact absurd mM zz
    ·exact .inr (by simp only at mM⊢;omega)
 ·rcases dc i _ hp with⟨_,e⟩|⟨l6,hp⟩
  ·subst e;exact .inr (.inr (.inl gd))
  ·rcases dc j _ hq with⟨_,e⟩|⟨Yl,hq⟩
   ·subst e;exact .inr (.inr (.inr gd))
   ·exact h.inj i j p q hp hq he
theorem lR.apD {wb:ar} {p:lR} {inl:js} {spec:List Int->List Int->Prop}
 (j3:∀(L:V->Env->Prop) (r:ar) (ex ro:Nat->Prop),m9 S L ⟨wb,r,ex,ro,[]⟩ P inl) (hf:∀args w,(callFunc p.c.f args).run P w= .ok (.enter p.c.f args) w)
 (ht:nJ (cR p.c.args) λzs=>(p.tree inl).holds S (rZ λrs=>aV (cR p.c.res) rs/\spec zs rs) (λ_ _=>False) (bL (λ_=>0) 0 zs)):p.eY P wb spec:=by
 refine⟨hf,λF w vs zs g hw hz Gg hat OU Fs hcell=>?_⟩
 have ai:=lT ht hz
 have mK:=gS hz
 unfold lR.tree at ai
 cases hq:(ov p.c.args&& !(p.c.args.any ck.oF))with
 |false=>rw[hq]at ai;exact ai.elim
 |true=>
  rw[hq]at ai
  simp only[cond_true]at ai
  have ai:=preA_holds ai (by rw[<-mK,Km];exact Gg)
  simp only[aS,gW]at hq
  have lu:Mem ⟨wb,w,λ_=>False,F,[]⟩ (bL (λ_=>0) 0 zs) (λ_=>0) [] w:=⟨hw,rfl,rfl,rfl,br _,λ_ _ _=>rfl,λi cs t h=>by simp at h,λi sh off code cap kind t h=>by simp at h,λi j p q h=>by simp at h⟩
  have hall:(p.c.args.all λb=> !b.oF)=true:=by
   rw[sY]
   intro b hb
   cases fO:b.oF with
   |false=>rfl
   |true=>rw[List.any_eq_true.2 ⟨b,hb,fO⟩]at hq;cases hq.2
  obtain⟨n',ah,m',us,bl,p1,bJ,cP,ea,ed,gf⟩:=wN (S:=S) (L:=_) (w0:=⟨wb,w,λ_=>False,F,[]⟩) (F:=F) (N:=λ_=>False) (λg hg=> .inr (.inl hg)) (λg hg=>hg.elim) (l:=p.c.args) (s:=0) (us:=[]) (bl:=[]) (m:=λ_=>0) hq.1 (λp hp=>by simp at hp) lu (gJ.bL _ 0 zs) hz (by omega) hat (.inr λi p h=>by simp at h) (.inl hall) (λu hu=>by simp at hu) ai
  cases nm:bV (p.cells.map fG.A)with
  |false=>rw[nm]at gf;exact gf.elim
  |true=>
  rw[nm]at gf
  simp only[cond_true]at gf
  have JA:g<w.heap.size:=(Array.getElem?_eq_some_iff.1 hcell).1
  have sk:∀ρ m,(p.cells.map fG.A).map (A.den ρ m)=p.cells.map fG.val:=λρ m=>by
   rw[k7];exact h8 λr _=>r.TB ρ m
  have X4:∀n nb ρ,∀a∈p.cells.map fG.A,A.ok n nb ρ a:=λn nb ρ a ha=>by
   obtain⟨r,_,rfl⟩:=List.mem_map.1 ha
   exact r.TC n nb ρ
  have fj:=(cP.more (ex':=λi=>i=g) λ_ h=>h.elim).push (x:=(p.cells.map fG.A,(p.ty,false))) (g:=g) bJ (X4 _ _ _) (λ_=>⟨OU,.inl rfl,[],λ_=>rfl,by rw[h9,sk];exact hcell⟩) (λsh off code cap kind he=>by
   simp only at he;rw[he]at nm;simp[bV]at nm) (λi q hi he=>by
    refine .inr (.inl ?_)
    by_cases h0:bp ah q.1=0
    ·exact h0
    ·exfalso
     obtain⟨cs,t⟩:=q
     cases ho:bV cs with
     |true=>
      obtain⟨_,h2,_⟩:=cP.eR i cs t hi ho
      rcases h2 with h2|h2
      ·exact h2
      ·simp only at h2;omega
     |false=>
      obtain⟨sh,off,code,cap,k,e⟩:=KC ho
      subst e
      simp only[bp]at h0
      split at h0
      ·exact h0 rfl
      ·rename_i hc
       obtain⟨h1,_⟩:=(cP.rws i sh off code cap k t hi h0).2 (by omega)
       rcases h1 with h1|h1|h1
       ·exact h1
       ·rw[he]at h1;exact Fs h1
       ·simp only at h1;omega)
  have zl:cK n' (bl++[(p.cells.map fG.A,(p.ty,false))]).length ah (bl++[(p.cells.map fG.A,(p.ty,false))]):=λq hq a j1=>by
   rcases List.mem_append.1 hq with hq|hq
   ·exact(bJ q hq a j1).ext (agree.refl _ _) (br _) (by simp)
   ·simp at hq;subst hq
    exact X4 _ _ _ a j1
  have oC:∀v∈(jR (.ptr bl.length 0)::(us.map V.w++p.tail.map λr=>jR r.A)),V.ok n' (bl++[(p.cells.map fG.A,(p.ty,false))]).length ah v:=λv hv=>by
   rcases List.mem_cons.1 hv with rfl|hv
   ·show bl.length<_;simp
   ·rcases List.mem_append.1 hv with hv|hv
    ·obtain⟨u,hu,rfl⟩:=List.mem_map.1 hv
     exact W.ok.ext (ed u hu) (agree.refl _ _) (br _) (by simp)
    ·obtain⟨r,_,rfl⟩:=List.mem_map.1 hv
     exact r.TC _ _ _
  have al4:∀u∈us,W.den ah (j9 m' bl.length g) u=W.den ah m' u:=λu hu=>W.ki (ed u hu) (agree.refl _ _) (λb hb=>kR hb)
  have hrel:eD ah (j9 m' bl.length g) (jR (.ptr bl.length 0)::(us.map V.w++p.tail.map λr=>jR r.A)) (.pointer (some ⟨g,0,none⟩)::(vs++p.tail.map fG.val)):=by
   refine⟨by simp[jR,V.rel,W.den,A.den,lF],Vj (Mt ?_) ?_⟩
   ·rw[h8 al4];simpa using ea
   ·have:=Mv (ρ:=ah) (m:=j9 m' bl.length g) (p.tail.map fG.A)
    rw[k7,k7]at this
    have e:(A.den ah (j9 m' bl.length g)∘fG.A)=fG.val:=funext λr=>r.TB _ _
    rw[e]at this
    exact this
  refine((j3 _ _ _ _ p.c.f n' _ _ _ _ ah (j9 m' bl.length g) w _ _ zl fj oC hrel gf ?_).2)
  intro en v a8 dU bT eF w' val h1 h2 h3 h4 h5 h6 h7
  simp only at h7
  split at h7
  rotate_left
  ·exact h7.elim
  rename_i cs t hb2
  cases gO:bV cs with
  |false=>rw[gO]at h7;exact h7.elim
  |true=>
  rw[gO]at h7
  simp only[cond_true]at h7
  have FF:bl.length<(bl++[(p.cells.map fG.A,(p.ty,false))]).length:=by simp
  have JI:eF bl.length=g:=by rw[h1.hm _ FF,lF]
  obtain⟨Q5,alo⟩:∃o,w'.heap[g]?=some o:=by
   obtain⟨_,_,r,_,bD⟩:=h6.eR bl.length cs t hb2 gO
   rw[JI]at bD
   exact⟨_,bD⟩
  have hD:=h6.aga (r':=w.putObj g Q5) hb2 gO JI (ue _ _ _) (λk hk=>ta hk) (by rw[wA JA,alo])
  have fO:cK en (df a8 bl.length eZ).length bT (df a8 bl.length eZ):=by
   rw[iY]
   exact h5.dead _
  obtain⟨gv,mh,os,sx,qu,⟨xs,hx1,hx2⟩,hl⟩:=Rx (S:=S) (w0:=⟨wb,w.putObj g Q5,λ_=>False,F,[]⟩) (λg hg=>hg) fO hD (by rw[iY];exact h3) h4 dU _ h7
  have hl:rZ _ (xR os) gv:=hl
  rw[MA]at hl
  refine⟨⟨h6.gQ,h6.jz,h6.ic,h6.e8,λi hi Pe=>h6.gz i hi Pe⟩,os.map (O.den gv),xs,hl.1,hl.2,?_,by rw[hx1]⟩
  have hsz:(w.putObj g Q5).heap.size=w.heap.size:=Ty
  exact dJ.GQ.Bu (λg hg=>by
   rcases hg with hg|hg|hg
   ·exact hg.elim
   ·exact .inl hg
   ·exact .inr (hsz▸hg)) (λg hg=>hsz▸hg) hx2
section
variable {wb:ar} {sh:Nat->List Nat×List Nat} {SB:Nat->List (List Int)->List (List Int)->Prop}
theorem aa6 {p:lR} {inl:js} {lsh:Nat->List Nat} {lens:List Nat}
 (j3:∀(L:V->Env->Prop) (r:ar) (ex ro:Nat->Prop),m9 (b6 sh SB) L ⟨wb,r,ex,ro,[]⟩ P inl) (hf:tA P p.c.f=true) (hl:lens=(sh p.c.id).1) (hd:vN p.c.res=(sh p.c.id).2)
 (hv:ix sh lsh SB (dq SB p.c.res p.c.id) lens (cR p.c.args) p.c.res (p.tree inl)):p.eY P wb (b6 sh SB p.c.id):=by
 refine lR.apD j3 (enters hf) (tj λzs hz=>?_)
 have h:=lT (MD hv) hz
 simp only[dq,yd]at h
 rw[hl,hd]at h
 exact h
end
end Go.bo
namespace Go.bo
abbrev dH (p:Int->Prop):Prop:=∀z:Int,0<=z->z<=9223372036854775807->p z
abbrev aK (k:Nat) (l:List Int) (p:Int->Prop):Prop:=∀z:Int,0<=z->z<=9223372036854775807->z=au k l->p z
abbrev cS (p:Int->Prop):Prop:=∀z:Int,0<=z->z<=bK->p z
abbrev aA (k:Nat) (l:List Int) (p:Int->Prop):Prop:=∀z:Int,0<=z->z<=bK->z=au k l->p z
abbrev bO (p:Int->Prop):Prop:=∀z:Int,0<=z->z<=bM->p z
abbrev bj (k:Nat) (l:List Int) (p:Int->Prop):Prop:=∀z:Int,0<=z->z<=bM->z=au k l->p z
abbrev xX (p:Int->Prop):Prop:=∀z:Int,0<=z->z<=255->p z
abbrev av (k:Nat) (l:List Int) (p:Int->Prop):Prop:=∀z:Int,0<=z->z<=255->z=au k l->p z
abbrev bz (p:Int->Prop):Prop:=∀z:Int,0<=z->z<=1->p z
abbrev cn (k:Nat) (l:List Int) (p:Int->Prop):Prop:=∀z:Int,0<=z->z<=1->z=au k l->p z
abbrev lD (p:Int->Prop):Prop:=∀z:Int,0<=z->z<=18446744073709551615->p z
abbrev G0 (k:Nat) (l:List Int) (p:Int->Prop):Prop:=∀z:Int,0<=z->z<=18446744073709551615->z=au k l->p z
abbrev n5 (p:Int->Prop):Prop:=∀z:Int,0<=z->z<=4294967295->p z
abbrev G2 (k:Nat) (l:List Int) (p:Int->Prop):Prop:=∀z:Int,0<=z->z<=4294967295->z=au k l->p z
abbrev bn (p:Int->Prop):Prop:=∀z:Int,(-1)<=z->z<=9223372036854775807->p z
abbrev aaS (k:Nat) (l:List Int) (p:Int->Prop):Prop:=∀z:Int,0<=z->z<=9223372036854775808->z=au k l->p z
abbrev cM (p:Int->Prop):Prop:=∀z:Int,0<=z->p z
abbrev eG (a b:Int) (p:Int->Prop):Prop:=∀z:Int,a<=z->z<=b->p z
abbrev KP (a b:Int) (k:Nat) (l:List Int) (p:Int->Prop):Prop:=∀z:Int,a<=z->z<=b->z=au k l->p z
abbrev bt (x m:Int) (p:Int->Prop):Prop:=∀z:Int,0<=z->z<=1->0<=x-m*z->x-m*z<m->p z
abbrev cO (a b x m:Int) (p:Int->Prop):Prop:=∀z:Int,a<=z->z<=b->0<=x-m*z->x-m*z<m->p z
abbrev aq (b:Bool) (p q:Prop):Prop:=(b=true->p)/\(b=false->q)
end Go.bo
namespace Go.cu
open Go Go.bo
def x4:List Int:=[4794697086780616226,8158064640168781261,13096744586834688815,16840607885511220156,4131703408338449720,6480981068601479193,10538285296894168987,12329834152419229976,15566598209576043074,1334009975649890238,2608012711638119052,6128411473006802146,8268148722764581231,9286055187155687089,11230858885718282805,13951009754708518548,16472876342353939154,17275323862435702243,1135362057144423861,2597628984639134821,3308224258029322869,5365058923640841347,6679025012923562964,8573033837759648693,10970295158949994411,12119686244451234320,12683024718118986047,13788192230050041572,14330467153632333762,15395433587784984357,489312712824947311,1452737877330783856,2861767655752347644,3322285676063803686,5560940570517711597,5996557281743188959,7280758554555802590,8532644243296465576,9350256976987008742,10552545826968843579,11727347734174303076,12113106623233404929,14000437183269869457,14369950271660146224,15101387698204529176,15463397548674623760,17586052441742319658,1182934255886127544,1847814050463011016,2177327727835720531,2830643537854262169,3796741975233480872,4115178125766777443,5681478168544905931,6601373596472566643,7507060721942968483,8399075790359081724,8693463985226723168,9568029438360202098,10144078919501101548,10430055236837252648,11840083180663258601,13761210420658862357,14299343276471374635,14566680578165727644,15097957966210449927,16922976911328602910,17689382322260857208,500013540394364858,748580250866718886,1242879168328830382,1977374033974150939,2944078676154940804,3659926193048069267,4368137639120453308,4836135668995329356,5532061633213252278,6448918945643986474,6902733635092675308,7801388544844847127]
def Iw:List Int:=[7640891576956012808,13503953896175478587,4354685564936845355,11912009170470909681,5840696475078001361,11170449401992604703,2270897969802886507,6620516959819538809]
structure ga where
 k:dp
 w:Nat
 s:Nat
 t:Nat
 a:List Nat
 b:List Nat
 c:List Nat
 d:List Nat
 n:Nat
def cV:ga:=⟨.u32,32,3,10,[2,13,22],[6,11,25],[7,18],[17,19],64⟩
def cW:ga:=⟨.u64,64,7,6,[28,34,39],[14,18,41],[1,8],[19,61],80⟩
def KZ (w n:Nat) (x:Int):Int:=x/2^n+(x% 2^n)*2^(w-n)
def La (p:ga) (l:List Nat) (x:Int):Int:=l.foldl (λy n=>cD .xor p.k y (KZ p.w n x)) 0
def uX (p:ga) (x:Int):Int:=La p p.a x
def uY (p:ga) (x:Int):Int:=La p p.b x
def AU (p:ga) (x:Int):Int:=cD .xor p.k (La p p.c x) (x/2^p.s)
def AV (p:ga) (x:Int):Int:=cD .xor p.k (La p p.d x) (x/2^p.t)
def md (p:ga) (x:Int):Int:=x% 2^p.w
def yX (p:ga) (e f g:Int):Int:=cD .xor p.k (cD .and p.k e f) (cD .and p.k (2^p.w-1-e) g)
def GK (p:ga) (a b c:Int):Int:=cD .xor p.k (cD .xor p.k (cD .and p.k a b) (cD .and p.k a c)) (cD .and p.k b c)
def AN (p:ga) (i:Nat):Int:=x4.getD i 0/2^(64-p.w)
def xN (p:ga) (m:List Int):Int:=md p (m.getD (m.length-16) 0+AU p (m.getD (m.length-15) 0)+m.getD (m.length-7) 0+AV p (m.getD (m.length-2) 0))
def rf (p:ga):Nat->List Int->List Int
 |0,m=>m
 |j+1,m=>rf p j (m++[xN p m])
def sched (p:ga) (m:List Int):List Int:=rf p (p.n-16) m
def uu (p:ga) (i:Nat) (x:Int):List Int->List Int
 |[a,b,c,d,e,f,g,h]=>
  let t:=md p (h+uY p e+yX p e f g+AN p i+x)
  let u:=md p (uX p a+GK p a b c)
  [md p (t+u),a,b,c,md p (d+t),e,f,g]
 |l=>l
def vX (p:ga):Nat->List Int->List Int->List Int
 |_,[],v=>v
 |i,x::m,v=>vX p (i+1) m (uu p i x v)
def v8 (p:ga) (h m:List Int):List Int:=pA (λa b=>md p (a+b)) h (vX p 0 (sched p m) h)
def ayg (p:ga) (b:List Int) (j:Nat):Int:=(cU (p.w/8)).foldl (λy q=>y*256+b.getD (j*(p.w/8)+q) 0) 0
def wi (p:ga) (b:List Int):List Int:=(cU 16).map (ayg p b)
def yU (p:ga) (b:List Int):Nat->List Int->List Int
 |0,h=>h
 |i+1,h=>v8 p (yU p b i h) (wi p ((b.drop (2*p.w*i)).take (2*p.w)))
def q7 (p:ga):List Int:=Iw.map (·/2^(64-p.w))
def lk (p:ga) (x:Int) (q:Nat):Int:=x/2^(p.w-8-8*q)% 256
def ua (p:ga) (h:List Int):List Int:=h.flatMap λx=>(cU (p.w/8)).map (lk p x)
def qg (p:ga) (b:List Int):List Int:=ua p (yU p b (b.length/(2*p.w)) (q7 p))
def mj (w n:Nat):Nat:=(n+1+w/4+(2*w-1))/(2*w)*(2*w)
def tk (n:Nat):List Int:=(cU 8).map λq=>((n/2^(56-8*q)% 256:Nat):Int)
def qO (p:ga) (b:List Int):List Int:=b++[128]++du (mj p.w b.length-b.length-9) 0++tk (8*b.length)
def rH (p:ga) (b:List Int):List Int:=qg p (qO p b)
def cJ (z:Int):List Int:=(af z).map λr=>r.getD 0 0
def qN (n w:Int):Int:=if n<0∨1099511627776<n∨(w≠32/\w≠64)then 0 else mj w.toNat n.toNat
def digit (n:Int):UInt8:=([48,49,50,51,52,53,54,55,56,57,97,98,99,100,101,102]:List UInt8).getD n.toNat 0
def Yf (b:List Int):List UInt8:=b.flatMap λx=>[digit (x/16),digit (x% 16)]
def adV:Nat->List (List Int)->List (List Int)->Prop
 |440,[[n],[w]],rs=>rs=[[qN n w]]
 |441,[[n],[w]],rs=>rs=[[qN n w]]
 |442,[[z]],[[r]]=>cJ r=qO cV (cJ z)
 |443,[[z]],[[r]]=>cJ r=qO cW (cJ z)
 |444,[[x]],rs=>rs=[[uX cV x]]
 |445,[[x]],rs=>rs=[[uY cV x]]
 |446,[[x]],rs=>rs=[[AU cV x]]
 |447,[[x]],rs=>rs=[[AV cV x]]
 |448,[[x]],rs=>rs=[[uX cW x]]
 |449,[[x]],rs=>rs=[[uY cW x]]
 |450,[[x]],rs=>rs=[[AU cW x]]
 |451,[[x]],rs=>rs=[[AV cW x]]
 |452,[[z]],rs=>rs=[rH cV (cJ z)]
 |453,[[z]],rs=>rs=[rH cW (cJ z)]
 |454,[[z]],[[s]]=>U s=Yf (cJ z)
 |455,[[z]],[[s]]=>U s=Yf (cJ z)
 |456,[],rs=>rs=[[1]]
 |457,[_,_],[[r]]=>r=1
 |458,[_,_,_],[[r]]=>r=1
 |459,[_,_,_],[[r]]=>r=1
 |460,[[z]],[[r]]=>af r=af z
 |461,[[z]],[[r]]=>af r=af z
 |462,[[z]],[[r]]=>af r=af z
 |463,[[z]],[[r]]=>af r=af z
 |468,[[a],[b],[c],[d]],[[r]]=>af r=af a++(af b++(af c++af d))
 |469,[[a],[b],[c]],[[r]]=>af r=af a++(af b++af c)
 |470,[[a],[b],[c],[d]],rs=>rs=[rH cV (cJ a++(cJ b++(cJ c++cJ d)))]
 |471,[[a],[b],[c]],rs=>rs=[rH cW (cJ a++(cJ b++cJ c))]
 |466,[[i]],rs=>rs=[[AN cV i.toNat]]
 |467,[[i]],rs=>rs=[[AN cW i.toNat]]
 |464,[[z]],[[r]]=>cJ r=qg cV (cJ z)
 |465,[[z]],[[r]]=>cJ r=qg cW (cJ z)
 |_,_,_=>False
end Go.cu
namespace Go.cu
open Go Go.bo
abbrev aH:=List UInt8
def u8 (z:Int):UInt8:=mu z.toNat
def aL (b:Bool):Int:=cond b 1 0
def fI (p:UInt8->Bool) (l:aH):aH:=l.dropWhile p
def gn (p:UInt8->Bool) (l:aH):aH:=(l.reverse.dropWhile p).reverse
def j8 (p:UInt8->Bool) (l:aH):aH:=fI p (gn p l)
def dd (l:aH):Bool:=(cU l.length).any λi=>l.getD i 0==46&&l.getD (i+1) 0==46
def kM (c:UInt8):Bool:=bB 97 c.toNat&&bB c.toNat 122
def kL (c:UInt8):Bool:=bB 65 c.toNat&&bB c.toNat 90
def ej (c:UInt8):Bool:=bB 48 c.toNat&&bB c.toNat 57
def AS:aH:=[33,35,36,37,38,39,42,43,47,61,63,94,95,96,123,124,125,126,45]
def pV (c:UInt8):Bool:=kM c||kL c||ej c||AS.contains c||c==46
def mB (c:UInt8):Bool:=c==46||c==45
def mL (c:UInt8):Bool:=kM c||kL c||ej c||mB c
def xP (inn jJ:UInt8->Bool) (s:aH):Bool:=(cU s.length).all λi=>
 inn (s.getD i 0)&&(!jJ (s.getD i 0)||(cf 0 i&&cf (i+1) s.length))&& !(s.getD i 0==46&&cf 0 i&&s.getD (i-1) 0==46)
def mc (s:aH):Bool:=cf 0 s.length&&bB s.length 64&&xP pV (·==46) s
def hS (s:aH):Bool:=cf 0 s.length&&bB s.length 230&&xP mL mB s
def uc (s:aH):Bool:=cf 0 s.length&&bB s.length 5&&s.all ej
def oz (c:Int) (s:aH):aH×aH×Int:=cond (decide (0<=idx c s)) (s.take (idx c s).toNat,s.drop ((idx c s).toNat+1),1) (s,[],0)
def kO (s:aH):Bool:=hS (oz 58 s).1&&(decide ((oz 58 s).2.2=0)||uc (oz 58 s).2.1)
def lo (c:UInt8):UInt8:=cond (kL c) (mu (c.toNat+32)) c
def lower (s:aH):aH:=s.map lo
def tv (t:aH):aH×Int:=
 cond (decide (0<=idx 64 t)&&bB t.length 254&&mc (t.take (idx 64 t).toNat)&&hS (t.drop ((idx 64 t).toNat+1))&&(t.drop ((idx 64 t).toNat+1)).contains 46) (lower t,0) ([],2)
def ql (s:aH):aH×Int:=tv (j8 (·==32) s)
def pv:aH:=[32,45,46,40,41]
def fh:aH->aH->Bool->Option (aH×Bool)
 |[],d,p=>some (d,p)
 |c::r,d,p=>cond (ej c) (fh r (d++[c]) p) (cond (c==43&&d.isEmpty&& !p) (fh r d true) (cond (pv.contains c) (fh r d p) none))
def jI (w:aH):Option (aH×aH):=
 cond (w==[]) (some ([],[])) (cond (w==[71,66]) (some ([52,52],[48])) (cond (w==[85,83]) (some ([49],[])) (cond (w==[68,69]) (some ([52,57],[48])) (cond (w==[70,82]) (some ([51,51],[48])) (cond (w==[67,72]) (some ([52,49],[48])) none)))))
def ub (w code gD d:aH) (p:Bool):aH:=cond (!p&& !(w==[])) (code++cond (gD.isPrefixOf d) (d.drop gD.length) d) d
def vP (n:aH):aH×Int:=cond (cf n.length 6||cf 15 n.length||n.getD 0 0==48) ([],2) (n,0)
def mT (w s:aH):aH×Int:=match jI w with
 |none=>([],7)
 |some (code,gD)=>match fh s [] false with
  |none=>([],2)
  |some (d,p)=>vP (ub w code gD d p)
def QJ (a b c d:aH):Bool:=cond (a==c) (dy b d) (dy a c)
def wT:aH:=[101,109,97,105,108]
def xL:aH:=[109,115,105,115,100,110]
def pX (m:aH) (p:aH×Int):aH×aH×Int:=cond (decide (p.2=0)) (m,p.1,0) ([],[],p.2)
def mQ (m w:aH):aH×aH×Int:=cond (m==wT) (pX m (ql w)) (cond (m==xL) (pX m (mT [] w)) ([],[],1))
def n6 (m w:aH):Bool:=decide ((mQ m w).2.2=0)&&(m==(mQ m w).1)&&(w==(mQ m w).2.1)
def tM (c:UInt8):Bool:=kM c||ej c||([46,95,61,47,43,45]:aH).contains c
def tL (c:UInt8):Bool:=kM c||kL c||ej c
def jS (k:UInt8) (s:aH):aH×aH×Int:=
 cond (cf 0 s.length&&bB s.length 255&&s.getD 0 0==k&&decide (0<=idx 58 s)&&kO (s.drop ((idx 58 s).toNat+1))) ((s.take (idx 58 s).toNat).drop 1,s.drop ((idx 58 s).toNat+1),1) ([],[],0)
def pY (k:UInt8) (inn:UInt8->Bool) (most:Nat) (s:aH):Bool:=
 decide ((jS k s).2.2=1)&&cf 0 (jS k s).1.length&&bB (jS k s).1.length most&&(jS k s).1.all inn
def kS (s:aH):Bool:=pY 64 tM 200 s
def uk (s:aH):Bool:=pY 33 tL 64 s
def abJ (s:aH):aH×aH×Int:=cond (kS s||uk s) ((s.take (idx 58 s).toNat).drop 1,s.drop ((idx 58 s).toNat+1),0) ([],[],2)
def MF:aH:=[65,66,67,68,69,70,71,72,73,74,75,76,77,78,79,80,81,82,83,84,85,86,87,88,89,90,97,98,99,100,101,102,103,104,105,106,107,108,109,110,111,112,113,114,115,116,117,118,119,120,121,122,48,49,50,51,52,53,54,55,56,57,45,95]
def gE (c:UInt8):Int:=idx (c.toNat:Int) MF
def vL (n:Nat):UInt8:=MF.getD n 0
def Rj:aH->aH
 |[]=>[]
 |[a]=>[vL (a.toNat/4),vL (a.toNat% 4*16)]
 |[a,b]=>[vL (a.toNat/4),vL (a.toNat% 4*16+b.toNat/16),vL (b.toNat% 16*4)]
 |a::b::c::r=>vL (a.toNat/4)::vL (a.toNat% 4*16+b.toNat/16)::vL (b.toNat% 16*4+c.toNat/64)::vL (c.toNat% 64)::Rj r
def wR (a b c d:Int):Int:=262144*a+(4096*b+(64*c+d))
def KJ:aH->aH->Option aH
 |out,[]=>some out
 |_,[_]=>none
 |out,[a,b]=>cond (decide (0<=gE a)&&decide (0<=gE b)&&decide (wR (gE a) (gE b) 0 0% 65536=0)) (some (out++[u8 (wR (gE a) (gE b) 0 0/65536)])) none
 |out,[a,b,c]=>cond (decide (0<=gE a)&&decide (0<=gE b)&&decide (0<=gE c)&&decide (wR (gE a) (gE b) (gE c) 0% 256=0)) (some (out++[u8 (wR (gE a) (gE b) (gE c) 0/65536)]++[u8 (wR (gE a) (gE b) (gE c) 0/256% 256)])) none
 |out,a::b::c::d::r=>cond (decide (0<=gE a)&&decide (0<=gE b)&&decide (0<=gE c)&&decide (0<=gE d)) (KJ (out++[u8 (wR (gE a) (gE b) (gE c) (gE d)/65536)]++[u8 (wR (gE a) (gE b) (gE c) (gE d)/256% 256)]++[u8 (wR (gE a) (gE b) (gE c) (gE d)% 256)]) r) none
def iz (r:Int):aH:=(af r).map λrow=>mu (row.getD 0 0).toNat
def WG (s:aH):Bool:=decide (s.length=44)&&s.getD 0 0==36&&(KJ [] (s.drop 1)).isSome
abbrev ot:=(aH×aH)×aH×Int
def EI:ot:=(([],[]),[],0)
def lG (r:List Int):aH×aH:=(U (r.getD 0 0),U (r.getD 1 0))
def r7 (r:List Int):ot:=(lG r,U (r.getD 2 0),r.getD 3 0)
def bds (z:Int):List ot:=(af z).map r7
def Lo (z:Int):List (aH×aH):=(af z).map lG
def Iv (b:ot):Bool:=decide (0<=b.2.2)&&(decide (b.2.2<=1099511627776)&&(n6 b.1.1 b.1.2&&kS b.2.1))
def Ke (a b:aH×aH):Bool:=QJ a.1 a.2 b.1 b.2
def IN (a b:aH×aH):Int:=cond (a==b) 0 (cond (Ke a b) (-1) 1)
def abH:List ot->Bool
 |[]=>true
 |[_]=>true
 |a::b::r=>Ke a.1 b.1&&abH (b::r)
def AM (l:List ot):Bool:=bB l.length 64&&l.all Iv&&abH l
def WK (l:List ot) (w:aH×aH):Option ot:=cond (AM l) (l.find? (λb=>b.1==w)) none
def aad (l:List ot) (x:aH):List (aH×aH):=cond (AM l) ((l.filter (·.2.1==x)).map (·.1)) []
def VQ (l:List ot) (w:ot):List ot×Int:=cond (Iv w&&AM l) (cond (l.any (·.1==w.1)) (l.map (λb=>cond (b.1==w.1) w b),0) (cond (decide (l.length=64)) (l,10) (l.filter (λb=>Ke b.1 w.1)++w::l.filter (λb=>Ke w.1 b.1),0))) (l,1)
def ab7 (l:List ot) (w:ot):List ot×Int:=cond (AM l) (match l.find? (·.1==w.1)with|none=>(l,7)|some b=>cond (b.2.1==w.2.1) (l.filter (λb=> !(b.1==w.1)),0) (l,14)) (l,1)
def adG (l:List ot) (w:aH×aH) (i f:Int):Prop:=(0<=i/\i<=l.length)/\(f=1->i<l.length)/\(AM l=true->(∀j:Nat,(j:Int)<i->IN (l.getD j EI).1 w<0)/\(∀j:Nat,i<=j->j<l.length->0<=IN (l.getD j EI).1 w)/\(f=1↔i<l.length/\IN (l.getD i.toNat EI).1 w=0))
structure gx where
 id:Int
 sec:aH
 ez:aH×aH
 tok:aH
 yR:Int
 since:Int
 DO:Int
 shown:Int
 RW:Int
deriving DecidableEq
def sO:gx:=⟨0,[],([],[]),[],0,0,0,0,0⟩
def oM (r:List Int):gx:=⟨r.getD 0 0,U (r.getD 1 0),(U (r.getD 2 0),U (r.getD 3 0)),U (r.getD 4 0),r.getD 5 0,r.getD 6 0,r.getD 7 0,r.getD 8 0,r.getD 9 0⟩
def iW (z:Int):List gx:=(af z).map oM
def ud (t:aH):Bool:=t.all λc=>bB 32 c.toNat&&bB c.toNat 126
def iV (t:aH):Bool:= !t.isEmpty&&(bB t.length 64&&(ud t&& !t.contains 32))
def Ho (n:Int):Bool:=decide (0<=n)&&decide (n<=1099511627776)
def K7 (s:gx):Bool:=(decide (1<=s.id)&&decide (s.id<=1099511627776))&&(Ho s.since&&Ho s.RW)&&(decide (1<=s.yR)&&decide (s.yR<=1000)&&(decide (0<=s.DO)&&decide (s.DO<=3)))&&(decide (s.shown=1)||decide (s.RW=0))&&(iV s.sec&&(iV s.tok&&n6 s.ez.1 s.ez.2))
def VC (a b:gx):Bool:=decide (a.sec=b.sec)&&decide (a.ez=b.ez)
def afR (x s:gx):Bool:=VC x s||(decide (x.tok=s.tok)||decide (s.id<=x.id))
def xZ (l:List gx):Bool:=bB l.length 16&&(cU l.length).all λi=>K7 (l.getD i sO)&&(l.take i).all λx=> !afR x (l.getD i sO)
def aye (x:Int):Int:=(x+9223372036854775808)% 18446744073709551616-9223372036854775808
def Kw (s:gx) (now:Int):Bool:=decide (86400<aye (now-s.since))
def As (l:List gx) (now:Int):List gx:=l.filter λs=> !Kw s now
def WL (l:List gx) (id:Int):Option gx:=cond (xZ l) (l.find? λs=>decide (s.id=id)) none
def tZ (l:List gx) (now:Int) (w:gx):Nat×Int:=cond (Ho now&&xZ l) (match l.findIdx? (λs=>decide (s.id=w.id))with
 |some i=>cond (decide ((l.getD i sO).sec=w.sec)&& !Kw (l.getD i sO) now) (i,0) (0,11)
 |none=>(0,11)) (0,1)
def abC (l:List gx) (now:Int) (w:gx):(aH×aH)×Int:=cond (decide ((tZ l now w).2=0)) (cond (decide ((l.getD (tZ l now w).1 sO).shown=1)) ((l.getD (tZ l now w).1 sO).ez,0) (([],[]),14)) (([],[]),(tZ l now w).2)
def auZ (l:List gx) (now:Int) (w:gx) (i:Nat) (s:gx):List gx×Int:=cond (decide (s.DO=3)) (l,16) (cond (decide (s.tok=w.tok)) (cond (decide (s.shown=1)) (l,0) (l.set i {s with shown:=1,RW:=now},0)) (l.set i {s with DO:=s.DO+1},12))
def abS (l:List gx) (now:Int) (w:gx):List gx×Int:=cond (decide ((tZ l now w).2=0)) (auZ l now w (tZ l now w).1 (l.getD (tZ l now w).1 sO)) (l,(tZ l now w).2)
def atH (live:List gx) (w:gx) (i:Nat) (s:gx):List gx×Int×Int×Int:=(live.set i {s with yR:=max s.yR w.yR},s.id,aL (decide (s.yR<w.yR)),0)
def atI (l live:List gx) (w:gx):List gx×Int×Int×Int:=cond (live.any (λs=>decide (s.id=w.id))||live.any (λs=>decide (s.tok=w.tok))) (l,0,0,6) (cond (decide (live.length=16)) (l,0,0,10) (live.filter (λs=>decide (s.id<w.id))++w::live.filter (λs=>decide (w.id<s.id)),w.id,1,0))
def aaZ (l:List gx) (w:gx):List gx×Int×Int×Int:=cond (K7 w&&(decide (w.DO<=0)&&(!decide (w.shown=1)&&xZ l))) (match(As l w.since).findIdx? (λs=>VC s w)with
 |some i=>atH (As l w.since) w i ((As l w.since).getD i sO)
 |none=>atI l (As l w.since) w) (l,0,0,1)
def adF (l:List gx) (n i f:Int):Prop:=(0<=i/\i<=l.length)/\(f=1->i<l.length)/\(xZ l=true->(∀j:Nat,(j:Int)<i->(l.getD j sO).id<n)/\(∀j:Nat,i<=j->j<l.length->n<=(l.getD j sO).id)/\(f=1↔i<l.length/\(l.getD i.toNat sO).id=n))
def aeP:List Int:=[5,116,477315081741,437051401625,117,1,100,0,0,0]
structure uU where
 tok:aH
 dR:aH
 Br:List aH
deriving DecidableEq
def Hr:uU:=⟨[],[],[]⟩
def Ll (z:Int):List aH:=(af z).map λr=>U (r.getD 0 0)
def aw5 (r:List Int):uU:=⟨U (r.getD 0 0),U (r.getD 1 0),Ll (r.getD 2 0)⟩
def DM (z:Int):List uU:=(af z).map aw5
def avg (l:List uU):Nat:=l.length+(l.map λu=>u.Br.length).sum
def KY (l:List aH):Bool:=(cU l.length).all λi=>iV (l.getD i [])&&(decide (i=0)||dy (l.getD (i-1) []) (l.getD i []))
def aa4 (l:List uU):Bool:=bB l.length 16&&(l.all (λu=>kS u.dR&&(bB u.Br.length 4&&KY u.Br))&&KY (l.map (·.tok)))
def adH (l:List uU) (t:aH) (i f:Int):Prop:=(0<=i/\i<=l.length)/\(f=1->i<l.length)/\(KY (l.map (·.tok))=true->(∀j:Nat,(j:Int)<i->dy (l.getD j Hr).tok t=true)/\(∀j:Nat,i<=j->j<l.length->dy (l.getD j Hr).tok t=false)/\(f=1↔i<l.length/\(l.getD i.toNat Hr).tok=t))
def Ag (l:List uU) (t:aH):Int×Int:=cond (aa4 l) (match l.findIdx? (λu=>decide (u.tok=t))with|some k=>((k:Int),0)|none=>(0,14)) (0,1)
def ayf (l:List uU) (t:aH):aH×Int:=cond (decide ((Ag l t).2=0)) ((l.getD (Ag l t).1.toNat Hr).dR,0) ([],(Ag l t).2)
def aeA (l:List uU) (t:aH) (d:List aH):Int:=cond (decide ((Ag l t).2=0)) (cond (d.all λs=>(l.getD (Ag l t).1.toNat Hr).Br.contains s) 0 13) (Ag l t).2
structure eE where
 tok:aH
 ez:aH×aH
 room:aH
 aur:aH
 uq:aH
 mx:aH
deriving DecidableEq
def cB:eE:=⟨[],([],[]),[],[],[],[]⟩
def dE (r:List Int):eE:=⟨U (r.getD 0 0),(U (r.getD 1 0),U (r.getD 2 0)),U (r.getD 3 0),U (r.getD 4 0),U (r.getD 5 0),U (r.getD 6 0)⟩
def aJ (z:Int):List eE:=(af z).map dE
def lC (p:eE):Bool:=iV p.tok&&(iV p.uq&&(n6 p.ez.1 p.ez.2&&(uk p.room&&(kS p.aur&&(p.mx.isEmpty||kS p.mx)))))
def x3 (l:List eE):Bool:=(cU l.length).all λi=>decide (i=0)||dy (l.getD (i-1) cB).tok (l.getD i cB).tok
def il (l:List eE):Bool:=bB l.length 32&&(l.all lC&&x3 l)
def yN (l:List eE) (t:aH) (i f:Int):Prop:=(0<=i/\i<=l.length)/\(f=1->i<l.length)/\(x3 l=true->(∀j:Nat,(j:Int)<i->dy (l.getD j cB).tok t=true)/\(∀j:Nat,i<=j->j<l.length->dy (l.getD j cB).tok t=false)/\(f=1↔i<l.length/\(l.getD i.toNat cB).tok=t))
def mC (l:List eE) (t:aH):Option eE:=cond (il l) (l.find? λp=>decide (p.tok=t)) none
def mn (l:List eE) (w:eE):List eE×Int:=cond (lC w&&(w.mx.isEmpty&&il l)) (cond (l.any λp=>decide (p.tok=w.tok)) (l,6) (cond (decide (l.length=32)) (l,10) (l.filter (λp=>dy p.tok w.tok)++w::l.filter (λp=>dy w.tok p.tok),0))) (l,1)
def py (ez:aH×aH) (p:eE):Bool:=decide (p.ez=ez)&&p.mx.isEmpty
def nt (l:List eE) (ez:aH×aH) (dR:aH):List eE×List eE×Int:=cond (kS dR&&il l) (l.map (λp=>cond (py ez p) {p with mx:=dR} p),(l.filter (py ez)).map (λp=>{p with mx:=dR}),0) (l,[],1)
def Ik:aH:=[65,66,67,68,69,70,71,72,73,74,75,76,77,78,79,80,81,82,83,84,85,86,87,88,89,90,97,98,99,100,101,102,103,104,105,106,107,108,109,110,111,112,113,114,115,116,117,118,119,120,121,122,48,49,50,51,52,53,54,55,56,57,43,47]
def me (n:Nat):UInt8:=Ik.getD n 0
def ij:aH->aH
 |[]=>[]
 |[a]=>[me (a.toNat/4),me (a.toNat% 4*16)]
 |[a,b]=>[me (a.toNat/4),me (a.toNat% 4*16+b.toNat/16),me (b.toNat% 16*4)]
 |a::b::c::r=>me (a.toNat/4)::me (a.toNat% 4*16+b.toNat/16)::me (b.toNat% 16*4+c.toNat/64)::me (c.toNat% 64)::ij r
def pZ:List Int:=[117,477315081741,437051401625,1786258745,1786259033,1721197221,0]
def adW:Nat->List (List Int)->List (List Int)->Prop
 |600,[[z]],[[r]]=>r=aL (iV (U z))
 |601,[r],[[z]]=>z=aL (lC (dE r))
 |602,[[z]],[[r]]=>r=aL (il (aJ z))
 |603,[[z],[t]],[[i],[f]]=>yN (aJ z) (U t) i f
 |604,[[z],[t]],[r,[f]]=>match mC (aJ z) (U t)with
  |some b=>dE r=b/\f=1
  |none=>r=[0,0,0,0,0,0,0]/\f=0
 |605,[[c],[i],[r]],[[y]]=>af y=(af c).take i.toNat++af r++(af c).drop i.toNat
 |606,[[z],r],[[y],[e]]=>(aJ y,e)=mn (aJ z) (dE r)
 |607,[[z],a,[m]],[[y],[d],[e]]=>(aJ y,aJ d,e)=nt (aJ z) (lG a) (U m)
 |608,[],[r]=>r=pZ
 |612,[r],[[z]]=>z=aL (lC (dE r))
 |613,[[z]],[[r]]=>r=aL (il (aJ z))
 |614,[[z],[t]],[r,[f]]=>match mC (aJ z) (U t)with
  |some b=>dE r=b/\f=1
  |none=>r=[0,0,0,0,0,0,0]/\f=0
 |615,[[z],r],[[y],[e]]=>(aJ y,e)=mn (aJ z) (dE r)
 |616,[[z],a,[m]],[[y],[d],[e]]=>(aJ y,aJ d,e)=nt (aJ z) (lG a) (U m)
 |617,[[a],[b]],[[r]]=>r=aL (decide (aJ a=aJ b))
 |618,[[r]],[[z]]=>U z=ij (iz r)
 |619,[[z]],[[r]]=>af r=af z
 |n,a,b=>adV n a b
def adX:Nat->List (List Int)->List (List Int)->Prop
 |500,[[z]],[[r]]=>r=aL (decide (200<avg (DM z)))
 |501,[[z]],[[r]]=>r=aL ((U z).contains 32)
 |502,[[z]],[[r]]=>r=aL (iV (U z))
 |503,[[z]],[[r]]=>r=aL (KY (Ll z))
 |504,[[z]],[[r]]=>r=aL (aa4 (DM z))
 |505,[[z],[t]],[[i],[f]]=>adH (DM z) (U t) i f
 |506,[[z],[t]],[[i],[e]]=>(i,e)=Ag (DM z) (U t)
 |507,[[z],[t]],[[s],[e]]=>(U s,e)=ayf (DM z) (U t)
 |511,[[z],[t],[d]],[[e]]=>e=aeA (DM z) (U t) (Ll d)
 |512,[[z],[t]],[[r]]=>r=aL ((Ll z).contains (U t))
 |510,[[a],[b]],[[r]]=>r=cond (dy (U a) (U b)) (-1) (cond (decide (U a=U b)) 0 1)
 |n,a,b=>adW n a b
def adT:Nat->List (List Int)->List (List Int)->Prop
 |400,[[z]],[[r]]=>r=aL (ud (U z))
 |401,[[z]],[[r]]=>r=aL (iV (U z))
 |402,[r],[[z]]=>z=aL (K7 (oM r))
 |403,[[z]],[[r]]=>r=aL (xZ (iW z))
 |404,[[z],[n]],[[i],[f]]=>adF (iW z) n i f
 |417,[r,[n]],[[z]]=>z=aL (Kw (oM r) n)
 |405,[[z],[n]],[r,[f]]=>match WL (iW z) n with
  |some b=>oM r=b/\f=1
  |none=>r=[0,0,0,0,0,0,0,0,0,0]/\f=0
 |406,[[z],[n],r],[[i],[e]]=>(i,e)=(((tZ (iW z) n (oM r)).1:Int),(tZ (iW z) n (oM r)).2)
 |407,[[z],[n],r],[a,[e]]=>(lG a,e)=abC (iW z) n (oM r)
 |408,[[z],[n],r],[[y],[e]]=>(iW y,e)=abS (iW z) n (oM r)
 |409,[[z],[n]],[[y]]=>iW y=As (iW z) n
 |410,[[z],[n]],[[y]]=>iW y=cond (Ho n&&xZ (iW z)) (As (iW z) n) []
 |411,[[c],[i],[r]],[[y]]=>af y=(af c).take i.toNat++af r++(af c).drop i.toNat
 |412,[[z],r],[[y],[i],[s],[e]]=>(iW y,i,s,e)=aaZ (iW z) (oM r)
 |416,[[a],[b]],[[r]]=>r=aL (decide (iW a=iW b))
 |418,[],[r]=>r=aeP
 |413,[],[[r]]=>r=1
 |414,[_],[[r]]=>r=1
 |415,[_,_],[[r]]=>r=1
 |420,[[z]],[[r]]=>r=aL (iV (U z))
 |422,[r],[[z]]=>z=aL (K7 (oM r))
 |423,[[z]],[[r]]=>r=aL (xZ (iW z))
 |424,[[z],[n]],[[y]]=>iW y=cond (Ho n&&xZ (iW z)) (As (iW z) n) []
 |425,[[z],[n]],[r,[f]]=>match WL (iW z) n with
  |some b=>oM r=b/\f=1
  |none=>r=[0,0,0,0,0,0,0,0,0,0]/\f=0
 |426,[[z],[n],r],[[i]]=>i=match(iW z).findIdx? (λs=>decide (s.id=(oM r).id)&&(decide (s.sec=(oM r).sec)&& !Kw s n))with
  |some k=>(k:Int)
  |none=>-1
 |427,[[z],[n],r],[[y],[e]]=>(iW y,e)=abS (iW z) n (oM r)
 |428,[[z],[n],r],[a,[e]]=>(lG a,e)=abC (iW z) n (oM r)
 |429,[[z],r],[[y],[i],[s],[e]]=>(iW y,i,s,e)=aaZ (iW z) (oM r)
 |430,[_,_],[[r]]=>r=1
 |431,[_,_,_],[[r]]=>r=1
 |n,a,b=>adX n a b
def adS:Nat->List (List Int)->List (List Int)->Prop
 |300,[r],[[z]]=>z=aL (Iv (r7 r))
 |301,[r,a],[[z]]=>z=IN (lG r) (lG a)
 |302,[[z],a],[[i],[f]]=>adG (bds z) (lG a) i f
 |303,[[z]],[[r]]=>r=aL (AM (bds z))
 |304,[[z],a],[r,[f]]=>match WK (bds z) (lG a)with
  |some b=>r7 r=b/\f=1
  |none=>r7 r=EI/\f=0
 |305,[[z],[x]],[[y]]=>Lo y=aad (bds z) (U x)
 |306,[[c],[i],[r]],[[y]]=>af y=(af c).take i.toNat++af r++(af c).drop i.toNat
 |307,[[c],[i],[j]],[[y]]=>af y=(af c).take i.toNat++(af c).drop j.toNat
 |308,[[z],r],[[y],[e]]=>(bds y,e)=VQ (bds z) (r7 r)
 |309,[[z],r],[[y],[e]]=>(bds y,e)=ab7 (bds z) (r7 r)
 |310,[],[[r]]=>r=1
 |311,[_,_],[[r]]=>r=1
 |312,[_],[[r]]=>r=1
 |320,[r],[[z]]=>z=aL (Iv (r7 r))
 |321,[[z]],[[r]]=>r=aL (AM (bds z))
 |322,[[z],a],[r,[f]]=>match WK (bds z) (lG a)with
  |some b=>r7 r=b/\f=1
  |none=>r7 r=EI/\f=0
 |323,[[z],a],[[y]]=>bds y=(bds z).filter (λb=> !(b.1==lG a))
 |324,[[z],r],[[y],[e]]=>(bds y,e)=VQ (bds z) (r7 r)
 |325,[[z],r],[[y],[e]]=>(bds y,e)=ab7 (bds z) (r7 r)
 |326,[[z],[x]],[[y]]=>Lo y=aad (bds z) (U x)
 |327,[[a],[b]],[[r]]=>r=aL (decide (bds a=bds b))
 |328,[[a],[b]],[[r]]=>r=aL (decide (Lo a=Lo b))
 |329,[_,_,_],[[r]]=>r=1
 |n,a,b=>adT n a b
def SB:Nat->List (List Int)->List (List Int)->Prop
 |73,[[z],[b]],[[r]]=>r=idx b (U z)
 |36,[[z],[b]],[[r]]=>U r=fI (·==u8 b) (U z)
 |37,[[z],[b]],[[r]]=>U r=gn (·==u8 b) (U z)
 |120,[[z]],[[r]]=>U r=j8 (·==32) (U z)
 |121,[[z]],[[r]]=>U r=j8 (·==46) (U z)
 |122,[[z]],[[r]]=>U r=j8 mB (U z)
 |123,[[z]],[[r]]=>U r=j8 mL (U z)
 |124,[[z]],[[r]]=>U r=j8 ej (U z)
 |125,[[z]],[[a],[b],[c]]=>(U a,U b,c)=oz 64 (U z)
 |126,[[z]],[[a],[b],[c]]=>(U a,U b,c)=oz 58 (U z)
 |127,[[z]],[[r]]=>r=aL ((U z).contains 46)
 |128,[[z]],[[r]]=>r=aL (dd (U z))
 |44,[[s],[b]],[[r]]=>r=aL ((U s).all λc=>(U b).contains c)
 |65,[[s],[b]],[[r]]=>r=aL ((U s).all λc=>(U b).contains c)
 |28,[[z]],[[r]]=>U r=lower (U z)
 |17,[[z]],[[r]]=>U r=lower (U z)
 |31,[[z],[c]],[[r]]=>r=aL ((U z).contains (u8 c))
 |47,[[z]],[[r]]=>r=aL (hS (U z))
 |30,[[z]],[[r]]=>r=aL (hS (U z))
 |27,[[z]],[[r]]=>r=aL (kO (U z))
 |24,[[z]],[[r]]=>r=aL (mc (U z))
 |29,[[z]],[[r]]=>r=aL (mc (U z))
 |50,[[c]],[[r]]=>r=aL (kM (u8 c))
 |51,[[c]],[[r]]=>r=aL (kL (u8 c))
 |52,[[c]],[[r]]=>r=aL (ej (u8 c))
 |10,[[z]],[[a],[e]]=>(U a,e)=ql (U z)
 |11,[[z]],[[a],[e]]=>(U a,e)=ql (U z)
 |35,[[w]],[[c],[t],[o]]=>match jI (U w)with
  |some (code,gD)=>U c=code/\t=aL (!gD.isEmpty)/\o=1
  |none=>U c=[]/\t=0/\o=0
 |32,[[w]],[[c,t],[o]]=>match jI (U w)with
  |some (code,gD)=>U c=code/\U t=gD/\o=1
  |none=>o=0/\U c=[]/\U t=[]
 |33,[[s]],[[d],[p],[o]]=>match fh (U s) [] false with
  |some (d',p')=>U d=d'/\p=aL p'/\o=1
  |none=>U d=[]/\p=0/\o=0
 |34,[[s],[t]],[[r]]=>U r=cond ((U t).isPrefixOf (U s)) ((U s).drop (U t).length) (U s)
 |12,[[w],[s]],[[a],[e]]=>(U a,e)=mT (U w) (U s)
 |13,[[w],[s]],[[a],[e]]=>(U a,e)=mT (U w) (U s)
 |14,[[a,b],[c,d]],[[r]]=>r=aL (QJ (U a) (U b) (U c) (U d))
 |21,[[a,b],[c,d]],[[r]]=>r=aL (QJ (U a) (U b) (U c) (U d))
 |15,[[m],[w]],[[a,b],[e]]=>(U a,U b,e)=mQ (U m) (U w)
 |18,[[m],[w]],[[a,b],[e]]=>(U a,U b,e)=mQ (U m) (U w)
 |16,[[m,w]],[[r]]=>r=aL (n6 (U m) (U w))
 |19,[[m,w]],[[r]]=>r=aL (n6 (U m) (U w))
 |20,[[m,w]],[[r]]=>U r=U m++[32]++U w
 |202,[[z]],[[r]]=>U r=j8 tM (U z)
 |203,[[z]],[[r]]=>U r=j8 tL (U z)
 |200,[[z]],[[r]]=>r=aL (kS (U z))
 |207,[[z]],[[r]]=>r=aL (kS (U z))
 |201,[[z]],[[r]]=>r=aL (uk (U z))
 |208,[[z]],[[r]]=>r=aL (uk (U z))
 |204,[[z]],[[r]]=>r=idx 58 (U z)
 |205,[[z]],[[r]]=>r=aL (kO (U z))
 |206,[[z],[k]],[[a],[b],[c]]=>(U a,U b,c)=jS (u8 k) (U z)
 |211,[[z],[k]],[[a],[b],[c]]=>(U a,U b,c)=jS (u8 k) (U z)
 |209,[[z]],[[a],[b],[e]]=>(U a,U b,e)=abJ (U z)
 |210,[[z]],[[a],[b],[e]]=>(U a,U b,e)=abJ (U z)
 |220,[[z]],[[r],[e]]=>match KJ [] (U z)with
  |some l=>iz r=l/\e=0
  |none=>iz r=[]/\e=2
 |221,[[z]],[[r],[e]]=>match KJ [] (U z)with
  |some l=>iz r=l/\e=0
  |none=>iz r=[]/\e=2
 |222,[[r]],[[z]]=>U z=Rj (iz r)
 |225,[[r]],[[z]]=>U z=Rj (iz r)
 |223,[[z]],[[r]]=>r=aL (WG (U z))
 |224,[[z]],[[r]]=>r=aL (WG (U z))
 |230,[[c]],[[r]]=>r=idx c MF
 |226,[],[[r]]=>r=1
 |227,[_],[[r]]=>r=1
 |228,[_],[[r]]=>r=1
 |229,[_,_],[[r]]=>r=1
 |9,[],[[r]]=>r=1
 |3,[_],[[r]]=>r=1
 |4,[_,_],[[r]]=>r=1
 |5,[_],[[r]]=>r=1
 |6,[_,_,_],[[r]]=>r=1
 |7,[_,_],[[r]]=>r=1
 |8,[_,_],[[r]]=>r=1
 |n,a,b=>adS n a b
theorem we (b:UInt8):u8 (b.toNat:Int)=b:=by simp[u8]
theorem rI {b:UInt8} {z:Int} (h0:0<=z) (h1:z<=255):((b.toNat:Int)=z)↔(b==u8 z)=true:=by
 rw[beq_iff_eq,<-S2]
 unfold u8
 simp
 omega
theorem GA {c:Int} (h0:0<=c) (h1:c<=255):∀l:aH,(idx c l=-1/\u8 c∉l)∨(0<=idx c l/\(idx c l).toNat<l.length/\l.getD (idx c l).toNat 0=u8 c/\u8 c∈l/\∀j,j<(idx c l).toNat->l.getD j 0≠u8 c)
 |[]=> .inl ⟨rfl,by simp⟩
 |b::r=>by
  have hb:=rI (b:=b) h0 h1
  have ih:=GA h0 h1 r
  by_cases he:(b.toNat:Int)=c
  ·have iO:b=u8 c:=by simpa using hb.1 he
   right
   have:idx c (b::r)=0:=by simp[idx,he]
   rw[this]
   refine⟨bX _,by simp,by simp[iO],by simp[iO],λj hj=>by simp at hj⟩
  ·have iO:¬b=u8 c:=λe=>he (hb.2 (by simpa using e))
   rcases ih with⟨h2,h3⟩|⟨h2,h3,h4,h5,h6⟩
   ·left
    exact⟨by simp[idx,he,h2],by simp[h3];exactλe=>iO e.symm⟩
   ·right
    have e:idx c (b::r)=idx c r+1:=by
     show(if(b.toNat:Int)=c then 0 else if idx c r<0 then-1 else idx c r+1)=_
     rw[if_neg he,if_neg (by omega)]
    have sa:(idx c (b::r)).toNat=(idx c r).toNat+1:=by omega
    rw[sa]
    refine⟨by omega,by simp;omega,by simpa using h4,by simp[h5],λj hj=>?_⟩
    cases j with
    |zero=>simpa using iO
    |succ j=>simpa using h6 j (by omega)
theorem JX {c:Int} (h0:0<=c) (h1:c<=255) (l:aH):decide (0<=idx c l)=l.contains (u8 c):=by
 rcases GA h0 h1 l with⟨h2,h3⟩|⟨h2,_,_,h3,_⟩
 ·rw[h2];simp[h3]
 ·simp[h2,h3]
theorem pE (b:Bool):0<=aL b/\aL b<=1:=by cases b<;>decide
theorem MP (b:Bool):decide (aL b=1)=b:=by cases b<;>rfl
theorem Lm {z:Int} (h0:0<=z) (h1:z<=255):((u8 z).toNat:Int)=z:=by unfold u8;simp;omega
theorem DK (l:aH) (i:Nat) (h:i<l.length):l.take (i+1)=l.take i++[l.getD i 0]:=by
 rw[List.take_add_one];simp[ae,h]
theorem r9 (l:aH) (i:Nat) (h:i<l.length):l.drop i=l.getD i 0::l.drop (i+1):=by
 rw[List.drop_eq_getElem_cons h];simp[ae,h]
theorem tS {z:Int} (h:z<=bM):((U z).length:Int)<=9223372036854775807:=by
 have:=tc h;unfold gk at this;omega
theorem x6 (p:UInt8->Bool) (l:aH) (x:UInt8):gn p (l++[x])=cond (p x) (gn p l) (l++[x]):=by
 unfold gn
 simp only[List.reverse_append,List.reverse_cons,List.reverse_nil,jr,List.singleton_append,List.dropWhile_cons]
 cases p x<;>simp
end Go.cu
namespace Go.cu
open Go Go.bo
def Q8:List Int:=[929955233495203,466365720129213,1662059464998953,2033849074728123,1442794654840575]
def bS:ei:=[(0,x4.map λz=>(.u64,z)),(1,Iw.map λz=>(.u64,z)),(3,([1,0,0,0,0]:List Int).map λz=>(.u64,z)),(4,Q8.map λz=>(.u64,z))]
def Ix (w:Nat) (r:List Int) (i:Nat):Bool:=decide (r.getD (i/w) 0/2^(i% w)% 2=1)
def AG (G:Nat->List Int->List Int) (e n:List Int):Nat->List Int
 |0=>[1,0,0,0,0]
 |k+1=>let s:=G 664 (AG G e n k);cond (Ix 64 n (255-k)) (G 643 (s++e)) s
def vM (G:Nat->List Int->List Int) (p n:List Int):Nat->List Int
 |0=>G 648 []
 |k+1=>let s:=G 651 ((vM G p n k).take 15);cond (Ix 8 n (255-k)) (G 650 (s++p)) s
def Ew (G:Nat->List Int->List Int) (id:Nat) (zs:List Int):List Int:=cond (aG id 645) (AG G (zs.take 5) (zs.drop 5) 256) (cond (aG id 652) (vM G (zs.take 20) (zs.drop 20) 256) (G id zs))
def uT (G:Nat->List Int->List Int) (id:Nat) (zs rs:List (List Int)):Prop:=rs.flatten=Ew G id zs.flatten
def GY (G:Nat->List Int->List Int) (s:List Int):List Int:=G 653 ((vM G (G 647 []) (G 654 ((rH cW s).take 32)) 256).take 15)
def oI (G:Nat->List Int->List Int) (t:aH):aH:=ij ((GY G (rH cV (t.map λb=>(b.toNat:Int)))).map λz=>mu z.toNat)
def rK (key:aH->aH) (l:List eE) (k:aH):Bool:=il l&&l.any λp=>p.mx.isEmpty&&decide (key p.uq=k)
def adU (G:Nat->List Int->List Int) (id:Nat) (zs rs:List (List Int)):Prop:=match id,zs,rs with
 |655,[s],rs=>rs=[GY G s]
 |656,[p],[[r]]=>U r=oI G (dE p).uq
 |657,[[z],[k]],[[r]]=>r=aL (rK (oI G) (aJ z) (U k))
 |658,[],[[r]]=>r=1
 |659,[_,_,_],[[r]]=>r=1
 |660,[_,_,_],[[r]]=>r=1
 |661,[_],[[r]]=>r=1
 |_,_,_=>False
def fx (G:Nat->List Int->List Int) (id:Nat):List (List Int)->List (List Int)->Prop:=cond (cf id 640) (SB id) (cond (cf id 655||cf 661 id) (uT G id) (adU G id))
end Go.cu
namespace Go.cu
open Go Go.bo
def yO:D:= .mix [.str,.str]
def y0:D:= .int .u8 0 255
def Wq:D:= .int .i64 (-1) 9223372036854775807
def tr:D:= .int .i64 0 21
def Zs:D:= .kP [32]
def Zp:D:= .kP [46]
def am9:D:= .kP [46,46]
def anb:D:= .kP [46,45]
def am7:D:= .kP [64]
def am8:D:= .kP [58]
def ane:D:= .kP [97,98,99,100,101,102,103,104,105,106,107,108,109,110,111,112,113,114,115,116,117,118,119,120,121,122,65,66,67,68,69,70,71,72,73,74,75,76,77,78,79,80,81,82,83,84,85,86,87,88,89,90,48,49,50,51,52,53,54,55,56,57,46,45]
def ana:D:= .kP [48,49,50,51,52,53,54,55,56,57]
def anj:D:= .kP [97,98,99,100,101,102,103,104,105,106,107,108,109,110,111,112,113,114,115,116,117,118,119,120,121,122,48,49,50,51,52,53,54,55,56,57,46,95,61,47,43,45]
def ani:D:= .kP [97,98,99,100,101,102,103,104,105,106,107,108,109,110,111,112,113,114,115,116,117,118,119,120,121,122,65,66,67,68,69,70,71,72,73,74,75,76,77,78,79,80,81,82,83,84,85,86,87,88,89,90,48,49,50,51,52,53,54,55,56,57]
def d64:D:= .int .u8 64 64
def d33:D:= .int .u8 33 33
def ank:D:= .kP [65,66,67,68,69,70,71,72,73,74,75,76,77,78,79,80,81,82,83,84,85,86,87,88,89,90,97,98,99,100,101,102,103,104,105,106,107,108,109,110,111,112,113,114,115,116,117,118,119,120,121,122,48,49,50,51,52,53,54,55,56,57,43,47]
def xS:ck:= .kN [.int .u8 0 255] 5
def af4:D:= .int .i64 (-1) 1
def Wt:D:= .int .i64 0 9223372036854775807
def BK:D:= .int .i64 (-9223372036854775808) 9223372036854775807
def Wp:D:= .int .i64 0 79
def ao4:ck:= .rd [.int .u32 0 4294967295]
def KD:ck:= .kN [.int .u32 0 4294967295] 99
def ao5:ck:= .rd [.int .u64 0 18446744073709551615]
def KE:ck:= .kN [.int .u64 0 18446744073709551615] 85
def amP:D:= .qH .i64 32
def amT:D:= .qH .i64 64
def pH:D:= .int .u32 0 4294967295
def ln:D:= .int .u64 0 18446744073709551615
def tg:D:= .agg .u8 32 0 255
def Vx:D:= .agg .u8 64 0 255
def sE:ck:= .rd [.int .u8 0 255]
def pp:D:= .mix [.str,.str,.str,.str,.str,.str,.str]
def lA:ck:= .rd [.str,.str,.str,.str,.str,.str,.str]
def arp:ck:= .kN [.str,.str,.str,.str,.str,.str,.str] 32
def f5:D:= .agg .u64 5 0 18446744073709551615
def f4:D:= .agg .u64 4 0 18446744073709551615
def aaJ:D:= .mix [.int .u64 0 18446744073709551615,.int .u64 0 18446744073709551615,.int .u64 0 18446744073709551615,.int .u64 0 18446744073709551615,.int .u64 0 18446744073709551615,.int .u64 0 18446744073709551615,.int .u64 0 18446744073709551615,.int .u64 0 18446744073709551615,.int .u64 0 18446744073709551615,.int .u64 0 18446744073709551615,.int .u64 0 18446744073709551615,.int .u64 0 18446744073709551615,.int .u64 0 18446744073709551615,.int .u64 0 18446744073709551615,.int .u64 0 18446744073709551615]
def sL:D:= .mix [.int .u64 0 18446744073709551615,.int .u64 0 18446744073709551615,.int .u64 0 18446744073709551615,.int .u64 0 18446744073709551615,.int .u64 0 18446744073709551615,.int .u64 0 18446744073709551615,.int .u64 0 18446744073709551615,.int .u64 0 18446744073709551615,.int .u64 0 18446744073709551615,.int .u64 0 18446744073709551615,.int .u64 0 18446744073709551615,.int .u64 0 18446744073709551615,.int .u64 0 18446744073709551615,.int .u64 0 18446744073709551615,.int .u64 0 18446744073709551615,.int .u64 0 18446744073709551615,.int .u64 0 18446744073709551615,.int .u64 0 18446744073709551615,.int .u64 0 18446744073709551615,.int .u64 0 18446744073709551615]
def two:D:= .mix [.str,.str]
def c1:D:= .int .u64 0 1
end Go.cu
