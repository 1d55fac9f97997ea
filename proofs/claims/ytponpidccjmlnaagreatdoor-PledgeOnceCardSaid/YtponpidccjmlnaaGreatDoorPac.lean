/- A contract out of a tree. -/
import Derived.Test.YtponpidccjmlnaaGreatDoorPab
import Derived.Laws.Externs
import Derived.ChangeMaps5
import Derived.ChangeSame
import Derived.OpenShut
import Derived.Handed
import Derived.ProofKit
import Derived.LaidMore
import Derived.Stop.Joined
import Derived.HandedShaped
import Derived.SizedLaws
import Derived.Carry
import Derived.RangeFuncOwn
import Derived.RangeFuncLeaves
import Derived.KernelRfl
import Derived.Test.YtponpidccjmlnaaGreatDoorPaa
open Array renaming replicate->th,eq_empty_of_size_eq_zero->vb
open Bool renaming and_eq_true->aK,not_eq_true'->js,false_eq_true->o3,or_eq_true->qL
open Function renaming comp->F0
open Go renaming World->ai,Value->az,TypeId->aN,Program->bm,FuncId->cy,IntKind->cS,Calls->iY,DataW->m8,MemPlace->r0,Ending->u5,Deferred->xb
open Go.ChangeSpec renaming post_blind->az6,plain->az8
open Go.DataW renaming weightsEach->KI,weightsAll->KJ,weights->KK,trod->RF,trod_int->aae,TrodAll->aaD,trod_array->au4,lit->au5,trod_string->avK
open Go.DataW.Whole renaming of_heap->az5
open Go.DataW.agg renaming injEq->ayJ
open Go.Extern renaming findNext->Ku,find->Kv
open Go.Extern.BytealgCompare renaming compare->RZ,cmp->aaC
open Go.Extern.BytealgIndexByte renaming indexByte->RY
open Go.Fence renaming wide->zD
open Go.Frame renaming enter->avN
open Go.Input renaming okWide->avM
open Go.Op renaming bytesLess->dj
open Go.OpenSpec renaming ofChange->R0
open Go.Value renaming int->r3,cells->zz,okWide->Gj,slice->KD,bool->au2,agg->avL
open Go.World renaming cell?->iW,putObj_heap_other->rX,frozen?->ti,putObj_heap_same->vf,putObj_size->R2,alloc_heap_new->avR
open Go.World.Extends renaming refl->na,drew->Kq
open Int renaming le_refl->cn,lt_or_le->iX,le_trans->nP,mul_comm->tj,mul_add->F1,ediv_eq_iff_of_pos->Kt,toNat_of_nonneg->avS
open List renaming getD->af,map_cons->cr,range->cA,mem_cons_of_mem->cR,replicate->cV,length_cons->dv,mem_of_getElem?->dK,length_append->dQ,map_nil->dY,map_append->ff,length_nil->gF,map_congr_left->gG,append_nil->gT,append_assoc->ie,nil_append->jr,getElem?_eq_getElem->jt,map_map->j5,length_map->j6,length->kA,mem_cons->lR,take_of_length_le->mq,length_take->mw,take_append_drop->nc,getElem?_set->nO,zipWith->oD,flatMap_cons->o0,mem_append->pZ,getD_cons_zero->qK,getElem?_cons_zero->qO,length_drop->rV,flatten_cons->rW,all_eq_true->tf,replicate_succ->tq,cons_append->u6,map_take->zw,map_drop->zx,not_mem_nil->Cw,map_id->Cx,getD_cons_succ->Cz,mem_of_find?_eq_some->CC,drop_left->CD,mem_cons_self->CE,drop_drop->Gc,mem_or_eq_of_mem_set->Gf,zipWith_cons_cons->Ks,find?_cons->KH,drop_of_length_le->RA,take_length->RD,getElem?_eq_none->RQ,mapM_cons->aac,range_succ_eq_map->aaB,find?_map->avI
open List.cons renaming injEq->hS
open Nat renaming beq->aA,le_refl->a6,eq_of_beq_eq_true->bk,ble->bw,blt->b7,le_of_ble_eq_true->eb,le_trans->hT,add_zero->ld,zero_add->oE,succ_mul->r5,lt_of_lt_of_le->u4,beq_refl->wZ,pow_succ->w6,mul_comm->w7,le_add_right->CA,mul_one->CF,mul_le_mul_left->Ky
open Option renaming getD_some->qN
open Option.some renaming injEq->aG,inj->gE
open Prod.mk renaming injEq->cj
open Pure renaming pure->zv
open UInt8 renaming ofNat->k8,toNat_inj->Z2
set_option linter.unusedVariables false
set_option linter.unusedSimpArgs false
namespace Go.bg
open M
theorem GP:∀{b:List (Int×Int)} {P Q:List Int->Prop},(∀rs,P rs->Q rs)->mB b P->mB b Q
 |[],_,_,h,hp=>h _ hp
 |(l,u)::b,P,Q,h,hp=>λr h1 h2=>GP (b:=b) (P:=λrs=>P (r::rs)) (Q:=λrs=>Q (r::rs)) (λrs=>h (r::rs)) (hp r h1 h2)
theorem se:∀{b:List (Int×Int)} {P:List Int->Prop},(∀rs,aO b rs->P rs)->mB b P
 |[],_,h=>h [] trivial
 |(l,u)::b,P,h=>λr h1 h2=>se (b:=b) (P:=λrs=>P (r::rs)) λrs hi=>h (r::rs) ⟨h1,h2,hi⟩
theorem hZ {S:Nat->List Int->List Int->Prop} {L Tg:V->Env->Prop} (h:∀v ρ,L v ρ->Tg v ρ):∀(t:T) (G:dw) (ρ:Env),t.holds S L G ρ->t.holds S Tg G ρ
 | .stuck,_,_,ae=>ae
 | .leaf v,_,ρ,ae=>h v ρ ae
 | .div n x d lo hi r,G,ρ,ae=>λq h1 h2 h3 h4=>hZ h r G _ (ae q h1 h2 h3 h4)
 | .mul n x y lo hi r,G,ρ,ae=>λq h1 h2 h3=>hZ h r G _ (ae q h1 h2 h3)
 | .bit n op k x y r,G,ρ,ae=>λq h1 h2 h3=>hZ h r G _ (ae q h1 h2 h3)
 | .shr n x y lo hi r,G,ρ,ae=>λq h1 h2 h3=>hZ h r G _ (ae q h1 h2 h3)
 | .pM n cs aL lo hi r,G,ρ,ae=>λq h1 h2 h3=>hZ h r G _ (ae q h1 h2 h3)
 | .mE b t e,G,ρ,ae=>⟨λhb=>hZ h t G ρ (ae.1 hb),λhb=>hZ h e G ρ (ae.2 hb)⟩
 | .call id args n bds r,G,ρ,ae=>GP (λrs hr hs=>hZ h r G _ (hr hs)) ae
 | .loop h8 init n bds r,G,ρ,ae=>by
  obtain⟨fx,gV,h1,h2⟩:=ae
  exact⟨fx,gV,h1,GP (λzs hz hI=>hZ h r _ _ (hz hI)) h2⟩
 | .again h8 vals,G,ρ,ae=>ae
 | .both x y,G,ρ,ae=>⟨hZ h x G ρ ae.1,hZ h y G ρ ae.2⟩
 | .fn n op args lo hi r,G,ρ,ae=>λq h1 h2 h3=>hZ h r G _ (ae q h1 h2 h3)
 | .mG op args r,G,ρ,ae=>⟨ae.1,hZ h r G ρ ae.2⟩
 | .oW n lo hi r,G,ρ,ae=>λz h1 h2=>hZ h r G _ (ae z h1 h2)
 | .nat n r,G,ρ,ae=>λz h1=>hZ h r G _ (ae z h1)
 | .pb op args r,G,ρ,ae=>λh1=>hZ h r G ρ (ae h1)
 | .ind n b r,G,ρ,ae=>λz h1 h2 h3=>hZ h r G _ (ae z h1 h2 h3)
def T.plain:T->Bool
 |stuck=>true
 |leaf _=>true
 |fn _ _ _ _ _ r|mG _ _ r|ind _ _ r|div _ _ _ _ _ r|mul _ _ _ _ _ r|bit _ _ _ _ _ r|shr _ _ _ _ _ r|pM _ _ _ _ _ r|call _ _ _ _ r=>r.plain
 |mE _ t e=>t.plain&&e.plain
 |loop .. =>false
 |again .. =>false
 |both .. =>false
 |oW .. =>false
 |nat .. =>false
 |pb .. =>false
def Path (S:Nat->List Int->List Int->Prop):T->Env->V->Env->Prop
 | .stuck,_,_,_=>False
 | .leaf v,ρ,v',ad=>v'=v/\ad=ρ
 | .div n x d lo hi r,ρ,v,ad=>∃q,0<=x.den ρ-d*q/\x.den ρ-d*q<d/\Path S r (cI ρ n q) v ad
 | .mul n x y lo hi r,ρ,v,ad=>Path S r (cI ρ n (x.den ρ*y.den ρ)) v ad
 | .bit n op k x y r,ρ,v,ad=>Path S r (cI ρ n (cf op k (x.den ρ) (y.den ρ))) v ad
 | .shr n x y lo hi r,ρ,v,ad=>Path S r (cI ρ n (x.den ρ/2^(y.den ρ).toNat)) v ad
 | .pM n cs aL lo hi r,ρ,v,ad=>Path S r (cI ρ n ((cs.map (·.den ρ)).getD (aL.den ρ).toNat 0)) v ad
 | .mE b t e,ρ,v,ad=>(b.den ρ=true/\Path S t ρ v ad)∨(b.den ρ=false/\Path S e ρ v ad)
 | .call id args n bds r,ρ,v,ad=>∃rs,S id (args.map (·.den ρ)) rs/\Path S r (bu ρ n rs) v ad
 | .loop ..,_,_,_=>False
 | .again ..,_,_,_=>False
 | .both ..,_,_,_=>False
 | .oW ..,_,_,_=>False
 | .nat ..,_,_,_=>False
 | .pb ..,_,_,_=>False
 | .ind n b r,ρ,v,ad=>Path S r (cI ρ n (cond (b.den ρ) 1 0)) v ad
 | .fn n op args lo hi r,ρ,v,ad=>Path S r (cI ρ n (aB op (args.map (·.den ρ)))) v ad
 | .mG op args r,ρ,v,ad=>Path S r ρ v ad
theorem qh {S:Nat->List Int->List Int->Prop} {L:V->Env->Prop}:∀(t:T) (G:dw) (ρ:Env),t.plain=true->t.holds S L G ρ->t.holds S (λv ad=>L v ad/\Path S t ρ v ad) G ρ
 | .stuck,_,_,_,ae=>ae
 | .leaf v,_,ρ,_,ae=>⟨ae,rfl,rfl⟩
 | .div n x d lo hi r,G,ρ,hp,ae=>λq h1 h2 h3 h4=>hZ (λv ad h=>⟨h.1,q,h3,h4,h.2⟩) r G _ (qh r G _ hp (ae q h1 h2 h3 h4))
 | .mul n x y lo hi r,G,ρ,hp,ae=>λq h1 h2 h3=>hZ (λv ad h=>⟨h.1,by subst h3;exact h.2⟩) r G _ (qh r G _ hp (ae q h1 h2 h3))
 | .bit n op k x y r,G,ρ,hp,ae=>λq h1 h2 h3=>hZ (λv ad h=>⟨h.1,by subst h3;exact h.2⟩) r G _ (qh r G _ hp (ae q h1 h2 h3))
 | .shr n x y lo hi r,G,ρ,hp,ae=>λq h1 h2 h3=>hZ (λv ad h=>⟨h.1,by subst h3;exact h.2⟩) r G _ (qh r G _ hp (ae q h1 h2 h3))
 | .pM n cs aL lo hi r,G,ρ,hp,ae=>λq h1 h2 h3=>hZ (λv ad h=>⟨h.1,by subst h3;exact h.2⟩) r G _ (qh r G _ hp (ae q h1 h2 h3))
 | .mE b t e,G,ρ,hp,ae=>by
  simp only[T.plain,aK]at hp
  exact⟨λhb=>hZ (λv ad h=>⟨h.1,.inl ⟨hb,h.2⟩⟩) t G ρ (qh t G ρ hp.1 (ae.1 hb)),λhb=>hZ (λv ad h=>⟨h.1,.inr ⟨hb,h.2⟩⟩) e G ρ (qh e G ρ hp.2 (ae.2 hb))⟩
 | .call id args n bds r,G,ρ,hp,ae=>GP (λrs hr hs=>hZ (λv ad h=>⟨h.1,rs,hs,h.2⟩) r G _ (qh r G _ hp (hr hs))) ae
 | .loop ..,_,_,hp,_=>by simp[T.plain]at hp
 | .again ..,_,_,hp,_=>by simp[T.plain]at hp
 | .both ..,_,_,hp,_=>by simp[T.plain]at hp
 | .oW ..,_,_,hp,_=>by simp[T.plain]at hp
 | .nat ..,_,_,hp,_=>by simp[T.plain]at hp
 | .pb ..,_,_,hp,_=>by simp[T.plain]at hp
 | .ind n b r,G,ρ,hp,ae=>λq h1 h2 h3=>hZ (λv ad h=>⟨h.1,by
  have:q=cond (b.den ρ) 1 0:=by rw[h3];by_cases hq:q=1<;>simp[hq]<;>omega
  rw[this]at h;exact h.2⟩) r G _ (qh r G _ hp (ae q h1 h2 h3))
 | .fn n op args lo hi r,G,ρ,hp,ae=>λq h1 h2 h3=>hZ (λv ad h=>⟨h.1,by subst h3;exact h.2⟩) r G _ (qh r G _ hp (ae q h1 h2 h3))
 | .mG op args r,G,ρ,hp,ae=>⟨ae.1,hZ (λv ad h=>⟨h.1,h.2⟩) r G ρ (qh r G ρ hp ae.2)⟩
theorem apA {x d q q':Int} (h1:0<=x-d*q) (h2:x-d*q<d) (h3:0<=x-d*q') (h4:x-d*q'<d):q=q':=by
 have hd:0<d:=by omega
 have e1:x/d=q:=by
  rw[Kt hd];constructor<;>rw[tj]<;>(try rw[F1])<;>omega
 have e2:x/d=q':=by
  rw[Kt hd];constructor<;>rw[tj]<;>(try rw[F1])<;>omega
 omega
theorem qq {S:Nat->List Int->List Int->Prop} (cw:∀id a rs fc,S id a rs->S id a fc->rs=fc):∀(t:T) (ρ:Env) {v v':V} {ax bx:Env},Path S t ρ v ax->Path S t ρ v' bx->v=v'/\ax=bx
 | .stuck,_,_,_,_,_,h,_=>h.elim
 | .leaf v,_,_,_,_,_,h,h'=>⟨h.1.trans h'.1.symm,h.2.trans h'.2.symm⟩
 | .div n x d lo hi r,ρ,_,_,_,_,⟨q,a1,a2,a3⟩,⟨q',b1,b2,b3⟩=>by
  have:=apA a1 a2 b1 b2
  subst this
  exact qq cw r _ a3 b3
 | .mul n x y lo hi r,ρ,_,_,_,_,h,h'=>qq cw r _ h h'
 | .bit n op k x y r,ρ,_,_,_,_,h,h'=>qq cw r _ h h'
 | .shr n x y lo hi r,ρ,_,_,_,_,h,h'=>qq cw r _ h h'
 | .pM n cs aL lo hi r,ρ,_,_,_,_,h,h'=>qq cw r _ h h'
 | .mE b t e,ρ,_,_,_,_,h,h'=>by
  rcases h with⟨h1,h2⟩|⟨h1,h2⟩<;>rcases h' with⟨h3,h4⟩|⟨h3,h4⟩
  ·exact qq cw t ρ h2 h4
  ·rw[h1]at h3;cases h3
  ·rw[h1]at h3;cases h3
  ·exact qq cw e ρ h2 h4
 | .call id args n bds r,ρ,_,_,_,_,⟨rs,a1,a2⟩,⟨fc,b1,b2⟩=>by
  have:=cw _ _ _ _ a1 b1
  subst this
  exact qq cw r _ a2 b2
 | .loop ..,_,_,_,_,_,h,_=>h.elim
 | .again ..,_,_,_,_,_,h,_=>h.elim
 | .both ..,_,_,_,_,_,h,_=>h.elim
 | .oW ..,_,_,_,_,_,h,_=>h.elim
 | .nat ..,_,_,_,_,_,h,_=>h.elim
 | .pb ..,_,_,_,_,_,h,_=>h.elim
 | .ind n b r,ρ,_,_,_,_,h,h'=>qq cw r _ h h'
 | .fn n op args lo hi r,ρ,_,_,_,_,h,h'=>qq cw r _ h h'
 | .mG op args r,ρ,_,_,_,_,h,h'=>qq cw r _ h h'
inductive O where
 |l (x:I)
 |b (x:aS)
def O.den (ρ:Env):O->Int
 |l x=>x.den ρ
 |b x=>cond (x.den ρ) 1 0
def hM (k:cS):List A->Option (List O)
 |[]=>some []
 | .int aP x::r=>cond (decide (k=aP)) (match hM k r with|some l=>some (.l x.l::l)|none=>none) none
 |_::_=>none
def aw.out:aw->A->Option O
 | .int k _ _,.int aP x=>cond (decide (k=aP)) (some (.l x.l)) none
 | .str,.str l=>some (.l l)
 | .bool,.bool e=>some (.b e)
 |_,_=>none
def mU:List aw->List A->Option (List O)
 |[],[]=>some []
 |c::d,a::r=>match c.out a,mU d r with|some o,some l=>some (o::l)|_,_=>none
 |_,_=>none
def pF:D->W->Option (List O)
 | .int k _ _,.one (.int aP x)=>cond (decide (k=aP)) (some [.l x.l]) none
 | .bool,.one (.bool x)=>some [.b x]
 | .agg k n _ _,.agg l=>cond (aA l.length n) (hM k l) none
 | .str,.one (.str l)=>some [.l l]
 | .mix d,.agg l=>mU d l
 |_,_=>none
def wF:List D->List W->Option (List O)
 |[],[]=>some []
 |d::r,w::s=>match pF d w,wF r s with|some a,some b=>some (a++b)|_,_=>none
 |_,_=>none
def outs (ds:List D):V->Option (List O)
 | .w u=>match ds with|[d]=>pF d u|_=>none
 | .fq l=>match ds with|[_]=>none|_=>wF ds l
 |_=>none
def my (ds:List D) (K:List Int->Prop) (v:V) (ρ:Env):Prop:=
 match outs ds v with
 |some os=>K (os.map (O.den ρ))
 |none=>False
theorem Ya {ρ:Env} {m:Nat->Nat} {k:cS}:∀{l:List A} {os:List O},hM k l=some os->os.length=l.length/\l.map (A.den ρ m)=(os.map (O.den ρ)).map (.int k)
 |[],os,h=>by simp[hM]at h;subst h;exact⟨rfl,rfl⟩
 | .int aP x::r,os,h=>by
  simp only[hM]at h
  by_cases hk:k=aP
  ·simp only[hk,decide_true,cond_true]at h
   cases hr:hM aP r with
   |none=>simp[hr]at h
   |some o=>
    simp only[hr,aG]at h
    subst h
    subst hk
    obtain⟨h1,h2⟩:=Ya (ρ:=ρ) (m:=m) hr
    exact⟨by simp[h1],by simp only[cr,h2,A.den,O.den]⟩
  ·simp[hk]at h
 | .bool _::_,_,h=>by simp[hM]at h
 | .ptr .. ::_,_,h=>by simp[hM]at h
 | .lG .. ::_,_,h=>by simp[hM]at h
 | .gptr .. ::_,_,h=>by simp[hM]at h
 | .slc .. ::_,_,h=>by simp[hM]at h
 | .con _::_,_,h=>by simp[hM]at h
 | .str _::_,_,h=>by simp[hM]at h
theorem aw.anW {ρ:Env} {m:Nat->Nat} {c:aw} {a:A} {o:O} (h:c.out a=some o):a.den ρ m=c.val (o.den ρ):=by
 unfold aw.out at h
 split at h
 ·rename_i k lo hi aP x
  by_cases hk:k=aP
  ·subst hk
   simp only[decide_true,cond_true,aG]at h
   subst h;rfl
  ·simp[hk]at h
 ·simp only[aG]at h;subst h;rfl
 ·rename_i e
  simp only[aG]at h;subst h
  have hb:∀b:Bool,au2 b=au2 (decide ((cond b 1 0:Int)=1)):=by intro b;cases b<;>rfl
  exact hb (e.den ρ)
 ·cases h
theorem Yd {ρ:Env} {m:Nat->Nat}:∀{d:List aw} {l:List A} {os:List O},mU d l=some os->os.length=d.length/\l.map (A.den ρ m)=oD aw.val d (os.map (O.den ρ))
 |[],[],os,h=>by simp[mU]at h;subst h;exact⟨rfl,rfl⟩
 |c::d,a::r,os,h=>by
  simp only[mU]at h
  cases h1:c.out a with
  |none=>simp[h1]at h
  |some o=>
   cases hr:mU d r with
   |none=>simp[h1,hr]at h
   |some l=>
    simp only[h1,hr,aG]at h
    subst h
    obtain⟨p1,bq⟩:=Yd (ρ:=ρ) (m:=m) hr
    exact⟨by simp[p1],by simp only[cr,bq,aw.anW h1,Ks]⟩
 |[],_::_,_,h=>by simp[mU]at h
 |_::_,[],_,h=>by simp[mU]at h
theorem PI {ρ:Env} {m:Nat->Nat} {d:D} {u:W} {os:List O} (h:pF d u=some os):os.length=d.num/\∀zs,d.val (os.map (O.den ρ)++zs)=u.den ρ m:=by
 unfold pF at h
 split at h
 ·rename_i k _ _ aP x
  by_cases hk:k=aP
  ·subst hk
   simp only[decide_true,cond_true,aG]at h
   subst h
   exact⟨rfl,λzs=>by simp[D.val,W.den,A.den,O.den]⟩
  ·simp[hk]at h
 ·rename_i x
  simp only[aG]at h
  subst h
  exact⟨rfl,λzs=>by cases hx:x.den ρ<;>simp[D.val,W.den,A.den,O.den,hx]⟩
 ·rename_i k n' _ _ l
  cases hc:aA l.length n' with
  |false=>simp[hc]at h
  |true=>
   simp only[hc,cond_true]at h
   have hl:=bk hc
   subst hl
   obtain⟨h1,h2⟩:=Ya (ρ:=ρ) (m:=m) h
   exact⟨h1,λzs=>by simp only[D.val,W.den,h2];rw[List.take_append_of_le_length (by simp[h1]),mq (by simp[h1])]⟩
 ·simp only[aG]at h;subst h
  exact⟨rfl,λzs=>rfl⟩
 ·rename_i d l
  obtain⟨h1,h2⟩:=Yd (ρ:=ρ) (m:=m) h
  refine⟨h1,λzs=>?_⟩
  simp only[D.val,W.den,h2]
  congr 2
  have key:∀(a:List aw) (b c:List Int),b.length=a.length->oD aw.val a (b++c)=oD aw.val a b:=by
   intro a
   induction a with
   |nil=>intro b c _;simp
   |cons p a ih=>
    intro b c hb
    cases b with
    |nil=>simp at hb
    |cons z b=>simp[ih b c (by simpa using hb)]
  exact key _ _ _ (by simp[h1])
 ·cases h
theorem Yb {ρ:Env} {m:Nat->Nat}:∀{ds:List D} {l:List W} {os:List O},wF ds l=some os->lM ds (os.map (O.den ρ))=l.map (W.den ρ m)
 |[],[],os,h=>by simp[wF]at h;subst h;rfl
 |d::ds,u::l,os,h=>by
  simp only[wF]at h
  cases h1:pF d u with
  |none=>simp[h1]at h
  |some a=>
   cases h2:wF ds l with
   |none=>simp[h1,h2]at h
   |some b=>
    simp only[h1,h2,aG]at h
    subst h
    obtain⟨p1,bq⟩:=PI (ρ:=ρ) (m:=m) h1
    rw[ff]
    simp only[lM,bq,cr]
    rw[show d.num=(a.map (O.den ρ)).length by simp[p1],CD,Yb h2]
 |[],_::_,_,h=>by simp[wF]at h
 |_::_,[],_,h=>by simp[wF]at h
theorem atp (ds:List D):∀zs,(lM ds zs).length=ds.length:=by
 induction ds with
 |nil=>intro zs;rfl
 |cons d r ih=>intro zs;simp[lM,ih]
theorem xt {ds:List D} {K:List Int->Prop} {v:V} {ρ:Env} {m:Nat->Nat} {val:az} (h:my ds K v ρ) (hr:v.rel ρ m val):∃rs,K rs/\val=e6 ds rs:=by
 unfold my at h
 cases ho:outs ds v with
 |none=>simp[ho]at h
 |some os=>
  simp only[ho]at h
  refine⟨_,h,?_⟩
  unfold outs at ho
  cases v with
  |any=>cases ho
  |mT _ _ _=>cases ho
  |nm _ _=>cases ho
  |w u=>
   simp only at ho
   split at ho
   ·rename_i d
    obtain⟨p1,bq⟩:=PI (ρ:=ρ) (m:=m) ho
    simp only[V.rel]at hr
    have:=bq []
    rw[gT]at this
    simp[e6,lM,this,hr]
   ·cases ho
  |fq l=>
   simp only at ho
   split at ho
   ·cases ho
   ·rename_i hne
    have:=Yb (ρ:=ρ) (m:=m) ho
    simp only[V.rel]at hr
    unfold e6
    split
    ·rename_i x heq
     exfalso
     have hl:=atp ds (os.map (O.den ρ))
     rw[heq]at hl
     match ds,hl with
     |[d],_=>exact hne d rfl
    ·rw[hr,this]
noncomputable def awj (cons:List bz) (ami ab6 aqO:cy):eg:=λf=>
 cond (aA f ami) (some amg) <| cond (aA f ab6) (some ab4) <| cond (aA f aqO) (some aqN) <|
 match cons.find? (λc=>aA f c.f)with
 |some c=>some c.M
 |none=>none
section
variable {S:Nat->List Int->List Int->Prop} {P:bm} {gl:dO} {wb:ai}
noncomputable def G8 (cons:List bz):eg:=λf=>
 match cons.filter (λc=>aA f c.f)with
 |[]=>none
 |l=>some λbl vs n k=>match l.find? (λc=>(pk c.args vs).isSome)with
  |some c=>c.M bl vs n k
  |none=>match l with
   |c::_=>c.M bl vs n k
   |[]=> .stuck
theorem T5 {w0:dm} {cons:List bz} (hc:∀c∈cons,c.cP P w0.b (S c.id)):fk S P gl w0 (G8 cons):=by
 intro f g px L n ρ m bl vs xs h1 h2 h3 h4
 unfold G8 at px
 split at px
 ·cases px
 ·rename_i l hl
  simp only[aG]at px
  subst px
  intro G k hk
  simp only at hk
  split at hk
  ·rename_i c Nr
   have dH:=List.mem_filter.1 (CC Nr)
   have Ee:=bk dH.2
   subst Ee
   exact bz.snd (hc c dH.1) (λ_ _ h=>h) L n ρ m bl vs xs h3 h4 G k hk
  ·split at hk
   ·rename_i c r hl2
    have dH:=List.mem_filter.1 (show c∈cons.filter (λc=>aA f c.f) from by rw[hl2];exact CE (a:=c) (l:=r))
    have Ee:=bk dH.2
    subst Ee
    exact bz.snd (hc c dH.1) (λ_ _ h=>h) L n ρ m bl vs xs h3 h4 G k hk
   ·exact hk.elim
theorem Calls.some {f:cy} {args:Array az} {w:ai} {R:u5->ai->Prop} (h:iY P f args w R):∃e w',R e w':=by
 obtain⟨e,w',vC,h1,_⟩:=h []
 exact⟨e,w',h1⟩
noncomputable def bz.tree (P:bm) (gl:dO) (cal:eg) (li:cy->Nat->Option dC) (rounds d:Nat) (c:bz):T:=
 G9 P gl cal li rounds d c.f (de c.args).length ((rN 0 c.args).map V.w) [] λ_ v _=> .leaf v
theorem Lb {ρ:Env} {m:Nat->Nat}:∀(l:List W),ec ρ m (l.map V.w) (l.map (W.den ρ m))
 |[]=>trivial
 |_::r=>⟨rfl,Lb r⟩
theorem bz.calls {c:bz} {cal:eg} {li:cy->Nat->Option dC} {rounds d:Nat} {L:V->Env->Prop} (hm:P.follows .mixedOrders=true) (cx:∀r ex ro,fk S P gl ⟨wb,r,ex,ro,[]⟩ cal) (hg:eK gl ⟨wb,wb,λ_=>False,λ_=>False,[]⟩) {zs:List Int} (hz:aO (de c.args) zs)
 (ht:(c.tree P gl cal li rounds d).holds S L (λ_ _=>False) (bu (λ_=>0) 0 zs)) (w:ai) (hw:wb.Extends w):
 iY P c.f (lM c.args zs).toArray w λe w'=>∃v ad m val,e= .returned val/\v.rel ad m val/\L v ad/\w.Extends w':=by
 have hs:=JO (m:=λ_=>0) (nb:=0) (N:=(de c.args).length) c.args hz (fX.bu (λ_=>0) 0 zs) (by omega)
 have:=T7 (L:=L) (b:=wb) (w:=w) hm (cx w _ _) hg c.f _ _ _ ((rN 0 c.args).map (W.den (bu (λ_=>0) 0 zs) λ_=>0)) hw (λv hv=>by
  obtain⟨u,hu,rfl⟩:=List.mem_map.1 hv
  exact hs.1 u hu) (Lb _) ht
 rw[hs.2]at this
 refine this.mono λe w' ⟨v,ad,m,val,nb,h1,h2,_,h3,h4⟩=>⟨v,ad,m,val,h1,h2,h3,h4⟩
end
end Go.bg
namespace Go.bg
open M
structure awa where
 f:cy
 id:Nat
 k:cS
 N:Nat
 lo:Int
 hi:Int
 ty:aN
 off:Nat
 len:Nat
 cap:Nat
 args:List D
 res:List D
section
variable {S:Nat->List Int->List Int->Prop} {P:bm} {gl:dO} {w0:dm}
end
end Go.bg
namespace Go.bg
theorem ab5 {P:bm} {f:cy} {fn:Func} (hf:P.funcs[f]?=some fn) (Ew:(fn.name== "runtime.NumGoroutine")=false) (hb:fn.body.isNone=true) (hn:Ku fn=none) (he:Kv fn=some add64Entry):R7 P f:=by
 intro x y c hx hy hc hc1 w
 refine .inl ?_
 rw[run_callFunc_extern hf Ew hb hn he,run_add64 x y c hx hy hc hc1]
 rfl
def su (P:bm) (f:cy):Bool:=match P.funcs[f]? with
 |some fn=> !(fn.name== "runtime.NumGoroutine")&&fn.body.isSome
 |none=>false
theorem enters {P:bm} {f:cy} (h:su P f=true) (args:Array az) (w:ai):(callFunc f args).run P w= .ok (.enter f args) w:=by
 unfold su at h
 cases hf:P.funcs[f]? with
 |none=>simp[hf]at h
 |some fn=>
  simp only[hf,aK,js]at h
  have h1:fn.name≠ "runtime.NumGoroutine" :=by simpa using h.1
  obtain⟨c,hc⟩:=Option.isSome_iff_exists.1 h.2
  simp[callFunc,hf,h1,hc,Sem.run]
section
variable {S:Nat->List Int->List Int->Prop} {P:bm} {gl:dO} {wb:ai}
end
def Pu (K:List Int->List Int->Prop):Prop:=
 ∀z0:Int,0<=z0->z0<=18446744073709551615->
 ∀ah:Int,0<=ah->ah<=18446744073709551615->
 ∀z2:Int,0<=z2->z2<=4294967295->0<=((1*z0+0)+0)-4294967296*z2->((1*z0+0)+0)-4294967296*z2<4294967296->
 ∀z3:Int,0<=z3->z3<=4294967295->0<=((1*z0+0)+0)-4294967296*z3->((1*z0+0)+0)-4294967296*z3<4294967296->
 ∀z4:Int,0<=z4->z4<=4294967295->0<=((1*ah+0)+0)-4294967296*z4->((1*ah+0)+0)-4294967296*z4<4294967296->
 ∀z5:Int,0<=z5->z5<=4294967295->0<=((1*ah+0)+0)-4294967296*z5->((1*ah+0)+0)-4294967296*z5<4294967296->
 ∀aq:Int,0<=aq->aq<=18446744065119617025->aq=((1*z0+((-4294967296)*z2+0))+0)*((1*ah+((-4294967296)*z4+0))+0)->
 ∀z7:Int,0<=z7->z7<=18446744065119617025->z7=((1*z3+0)+0)*((1*ah+((-4294967296)*z4+0))+0)->
 ∀av:Int,0<=av->av<=4294967294->0<=((1*aq+0)+0)-4294967296*av->((1*aq+0)+0)-4294967296*av<4294967296->
 ∀z9:Int,0<=z9->z9<=4294967294->0<=((1*z7+(1*av+0))+0)-4294967296*z9->((1*z7+(1*av+0))+0)-4294967296*z9<4294967296->
 ∀aC:Int,0<=aC->aC<=4294967294->0<=((1*z7+(1*av+0))+0)-4294967296*aC->((1*z7+(1*av+0))+0)-4294967296*aC<4294967296->
 ∀bf:Int,0<=bf->bf<=18446744065119617025->bf=((1*z0+((-4294967296)*z2+0))+0)*((1*z5+0)+0)->
 ∀z12:Int,0<=z12->z12<=18446744065119617025->z12=((1*z3+0)+0)*((1*z5+0)+0)->
 ∀ag:Int,0<=ag->ag<=4294967295->0<=((1*z7+(1*av+((-4294967296)*z9+(1*bf+0))))+0)-4294967296*ag->((1*z7+(1*av+((-4294967296)*z9+(1*bf+0))))+0)-4294967296*ag<4294967296->
 ∀ak:Int,0<=ak->ak<=340282366920938463426481119284349108225->ak=((1*z0+0)+0)*((1*ah+0)+0)->
 ∀aI:Int,0<=aI->aI<=18446744073709551614->0<=((1*ak+0)+0)-18446744073709551616*aI->((1*ak+0)+0)-18446744073709551616*aI<18446744073709551616->
 K [z0,ah] [((1*aC+(1*z12+(1*ag+0)))+0),((1*ak+((-18446744073709551616)*aI+0))+0)]
def wd:D:= .int .u64 0 18446744073709551615
def G7 (f:cy):bz:=⟨f,0,[wd,wd],[wd,wd]⟩
theorem aml (x y a b:Int):x*y=(x+(-4294967296)*a)*(y+(-4294967296)*b)+4294967296*(a*(y+(-4294967296)*b)+(x+(-4294967296)*a)*b)+18446744073709551616*(a*b):=by
 grind
theorem mulVC_holds:Pu λzs rs=>aO (de [wd,wd]) rs/\rs=[zs.getD 0 0*zs.getD 1 0/18446744073709551616,zs.getD 0 0*zs.getD 1 0% 18446744073709551616]:=by
 unfold Pu
 intro x h1 h2 y h3 h4 a h5 h6 h7 cq dc bU c8 e0 gd b gr eD iN jc b5 lp mH ns Ap p vE sw sx q vF nt xK c HF Aq HG HH d HI tK HJ Ar d' As vH HK xL r Vg Vh MK s pn vI ML t At vJ Au xM m Vj Vk HL u Vl Vm Vn Vo
 have e1:dc=a:=by omega
 have e2:b5=b:=by omega
 have bt:d'=d:=by omega
 subst e1;subst e2;subst bt
 simp only[Int.one_mul,Int.add_zero]at*
 have:=aml x y dc b5
 rw[<-HL,<-sx,<-xK,<-MK,<-ML]at this
 simp only[qK,Cz,<-HL,de,wd,D.bds,u6,jr,aO,and_true,hS]
 omega
theorem amh {P:bm} {f:cy} (hm:P.follows .mixedOrders=true) (hf:∀args w,(callFunc f args).run P w= .ok (.enter f args) w)
 (h:∀K,(mB (de (G7 f).args) λzs=>((G7 f).tree P [] (λ_=>none) (λ_ _=>none) 600 6).holds (λ_ _ _=>True) (my (G7 f).res (K zs)) (λ_ _=>False) (bu (λ_=>0) 0 zs))=Pu K):Tn P f:=by
 intro x y hx hx1 hy WT w
 have hv:=mulVC_holds
 rw[<-h]at hv
 have dH:aO (de (G7 f).args) [x,y]:=⟨hx,by omega,hy,by omega,trivial⟩
 refine .inr ⟨hf _ _,?_⟩
 have:=bz.calls (wb:=w) hm (λr ex ro f g px=>by cases px) (λg cs hg=>by cases hg) dH (kG hv dH) w (na w)
 refine this.mono λe w' ⟨v,ad,m,val,h1,h2,h3,h4⟩=>?_
 obtain⟨rs,⟨_,hr⟩,hv⟩:=xt h3 h2
 rw[h1,hv,hr]
 exact⟨rfl,h4⟩
end Go.bg
namespace Go.bg
abbrev gp:=List (Nat×Nat)
abbrev gn:=List (List Int)
def qo:gp->gn->Nat->Int
 |(s,k)::st,l::aE,i=>cond (bw s i&&b7 i (s+k)) (l.getD (i-s) 0) (qo st aE i)
 |_,_,_=>0
def Pa:gp->gn->Prop
 |(_,k)::st,l::aE=>l.length=k/\Pa st aE
 |[],[]=>True
 |_,_=>False
def mA (ρ:Env) (st:gp) (aE:gn):Prop:=Pa st aE/\∀i,ρ i=qo st aE i
def Ac (st:gp) (aE:gn):List (Int×Nat)->Int
 |[]=>0
 |(k,i)::r=>match r with
  |[]=>cond (k==1) (qo st aE i) (k*qo st aE i)
  |_=>cond (k==1) (qo st aE i) (k*qo st aE i)+Ac st aE r
def I.eu (st:gp) (aE:gn) (l:I):Int:=
 match l.ts with
 |[]=>l.c
 |ts=>cond (l.c==0) (Ac st aE ts) (Ac st aE ts+l.c)
theorem Uk {ρ:Env} {st:gp} {aE:gn} (h:∀i,ρ i=qo st aE i):∀ts,Ac st aE ts=gq ρ ts
 |[]=>rfl
 |(k,i)::[]=>by
  simp only[Ac,gq,<-h i]
  cases hk:(k==1)with
  |true=>have:k=1:=by simpa using hk
         subst this;simp
  |false=>simp
 |(k,i)::t::r=>by
  have ih:=Uk h (t::r)
  rw[Ac,gq,ih,<-h i]
  ·cases hk:(k==1)with
   |true=>have:k=1:=by simpa using hk
          subst this;simp
   |false=>simp
  ·intro hc;cases hc
theorem I.im {ρ:Env} {st:gp} {aE:gn} (h:∀i,ρ i=qo st aE i) (l:I):l.eu st aE=l.den ρ:=by
 unfold I.eu I.den
 cases hl:l.ts with
 |nil=>simp[gq]
 |cons t r=>
  simp only[Uk h]
  cases hc:(l.c==0)with
  |true=>have:l.c=0:=by simpa using hc
         rw[this];simp
  |false=>simp
def xF:gp->gn->Nat->Nat->Option (List Int)
 |(s,k)::st,l::aE,i,len=>cond (aA s i&&aA k len) (some l) (cond (bw (i+len) s||bw (s+k) i) (xF st aE i len) none)
 |_,_,_,_=>none
theorem UE:∀{st:gp} {aE:gn} {i len:Nat} {l:List Int},xF st aE i len=some l->Pa st aE->l.length=len/\∀j,j<len->qo st aE (i+j)=l.getD j 0
 |[],_,_,_,_,h,_=>by simp[xF]at h
 |_::_,[],_,_,_,h,_=>by simp[xF]at h
 |(s,k)::st,bp::aE,i,len,l,h,hl=>by
  unfold xF at h
  cases h1:(aA s i&&aA k len)with
  |true=>
   simp only[h1,cond_true,aG]at h
   subst h
   simp only[aK]at h1
   have e1:=bk h1.1
   have e2:=bk h1.2
   subst e1;subst e2
   refine⟨hl.1,λj hj=>?_⟩
   unfold qo
   have:(bw s (s+j)&&b7 (s+j) (s+k))=true:=by simp[b7];omega
   rw[this,cond_true,Nat.add_sub_cancel_left]
  |false=>
   simp only[h1,cond_false]at h
   cases h2:(bw (i+len) s||bw (s+k) i)with
   |false=>simp[h2]at h
   |true=>
    simp only[h2,cond_true]at h
    obtain⟨g1,g2⟩:=UE h hl.2
    refine⟨g1,λj hj=>?_⟩
    rw[<-g2 j hj]
    conv=>lhs;unfold qo
    have:(bw s (i+j)&&b7 (i+j) (s+k))=false:=by
     simp only[qL,Nat.ble_eq]at h2
     cases h3:(bw s (i+j)&&b7 (i+j) (s+k))with
     |false=>rfl
     |true=>simp[b7]at h3;omega
    rw[this,cond_false]
def EW:Nat->List I->Bool
 |_,[]=>true
 |i,l::r=>(l.c==0&&(match l.ts with|[(k,j)]=>k==1&&aA i j|_=>false))&&EW (i+1) r
def firstVar:List I->Nat
 |[]=>0
 |l::_=>match l.ts with|[(_,j)]=>j|_=>0
theorem Xg {ρ:Env}:∀{ls:List I} {i:Nat},EW i ls=true->∀j,j<ls.length->(ls.map (·.den ρ)).getD j 0=ρ (i+j)
 |[],_,_,j,hj=>by simp at hj
 |l::r,i,h,j,hj=>by
  simp only[EW,aK]at h
  cases j with
  |zero=>
   obtain⟨⟨h1,h2⟩,_⟩:=h
   have hc:l.c=0:=by simpa using h1
   cases hl:l.ts with
   |nil=>simp[hl]at h2
   |cons t s=>
    cases s with
    |cons t' ap9=>simp[hl]at h2
    |nil=>
     obtain⟨k,q⟩:=t
     simp only[hl,aK]at h2
     have e1:k=1:=by simpa using h2.1
     have e2:=bk h2.2
     subst e1;subst e2
     simp[I.den,hl,gq,hc]
  |succ j=>
   have:=Xg (ρ:=ρ) h.2 j (by simpa using hj)
   simp only[cr,Cz]
   rw[this]
   congr 1;omega
def s4 (st:gp) (aE:gn) (ls:List I):List Int:=
 cond (b7 1 ls.length&&EW (firstVar ls) ls) (match xF st aE (firstVar ls) ls.length with|some l=>l|none=>ls.map (I.eu st aE)) (ls.map (I.eu st aE))
theorem Xz {l bp:List Int} (hl:l.length=bp.length) (h:∀j,j<l.length->l.getD j 0=bp.getD j 0):l=bp:=by
 apply List.ext_getElem hl
 intro j h1 h2
 have:=h j h1
 simpa [List.getD_eq_getElem?_getD,jt h1,jt h2]using this
theorem JF {ρ:Env} {st:gp} {aE:gn} (h:mA ρ st aE) (ls:List I):s4 st aE ls=ls.map (·.den ρ):=by
 have bC:ls.map (I.eu st aE)=ls.map (·.den ρ):=gG λl _=>I.im h.2 l
 unfold s4
 cases h1:(b7 1 ls.length&&EW (firstVar ls) ls)with
 |false=>simpa using bC
 |true=>
  simp only[cond_true]
  simp only[aK]at h1
  cases h2:xF st aE (firstVar ls) ls.length with
  |none=>exact bC
  |some l=>
   obtain⟨g1,g2⟩:=UE h2 h.1
   show l=_
   refine Xz (by simp[g1]) λj hj=>?_
   rw[Xg h1.2 j (by omega),h.2,g2 j (by omega)]
def lY:aS->Option (List I×List I)
 | .eq a b=>some ([a],[b])
 | .and (.eq a b) r=>match lY r with|some (x,y)=>some (a::x,b::y)|none=>none
 |_=>none
def aS.eu (st:gp) (aE:gn):aS->Bool
 |lit b=>b
 |eq a b=>decide (a.eu st aE=b.eu st aE)
 |lt a b=>decide (a.eu st aE<b.eu st aE)
 |le a b=>decide (a.eu st aE<=b.eu st aE)
 |not a=> !a.eu st aE
 |and a b=>match lY (.and a b)with
  |some (x,y)=>decide (s4 st aE x=s4 st aE y)
  |none=>a.eu st aE&&b.eu st aE
 |iff a b=>a.eu st aE==b.eu st aE
theorem UB {ρ:Env}:∀{b:aS} {x y:List I},lY b=some (x,y)->b.den ρ=decide (x.map (·.den ρ)=y.map (·.den ρ))
 | .eq a b,x,y,h=>by
  simp only[lY,aG,cj]at h
  obtain⟨rfl,rfl⟩:=h
  simp[aS.den]
 | .and (.eq a b) r,x,y,h=>by
  simp only[lY]at h
  cases hr:lY r with
  |none=>simp[hr]at h
  |some p=>
   obtain⟨fF,jm⟩:=p
   simp only[hr,aG,cj]at h
   obtain⟨rfl,rfl⟩:=h
   have ih:=UB (ρ:=ρ) hr
   simp only[aS.den,ih,cr,hS]
   simp
 | .lit _,_,_,h=>by simp[lY]at h
 | .lt _ _,_,_,h=>by simp[lY]at h
 | .le _ _,_,_,h=>by simp[lY]at h
 | .not _,_,_,h=>by simp[lY]at h
 | .iff _ _,_,_,h=>by simp[lY]at h
 | .and (.lit _) _,_,_,h=>by simp[lY]at h
 | .and (.lt _ _) _,_,_,h=>by simp[lY]at h
 | .and (.le _ _) _,_,_,h=>by simp[lY]at h
 | .and (.not _) _,_,_,h=>by simp[lY]at h
 | .and (.and _ _) _,_,_,h=>by simp[lY]at h
 | .and (.iff _ _) _,_,_,h=>by simp[lY]at h
theorem aS.im {ρ:Env} {st:gp} {aE:gn} (h:mA ρ st aE):∀b:aS,b.eu st aE=b.den ρ
 |lit _=>rfl
 |eq a b=>by simp only[eu,den,I.im h.2]
 |lt a b=>by simp only[eu,den,I.im h.2]
 |le a b=>by simp only[eu,den,I.im h.2]
 |not a=>by simp only[eu,den,aS.im h a]
 |and a b=>by
  have e1:=aS.im h a
  have e2:=aS.im h b
  unfold eu
  cases hq:lY (.and a b)with
  |none=>simp only[den,e1,e2]
  |some p=>
   obtain⟨x,y⟩:=p
   simp only[UB (ρ:=ρ) hq,JF h]
 |iff a b=>by simp only[eu,den,aS.im h a,aS.im h b]
def gk {α:Type}:List Nat->List α->List (List α)
 |[],[]=>[]
 |[],x::l=>[x::l]
 |k::kU,l=>l.take k::gk kU (l.drop k)
theorem JK {α β:Type} (f:α->β):∀(kU:List Nat) (l:List α),gk kU (l.map f)=(gk kU l).map (List.map f)
 |[],[]=>rfl
 |[],_::_=>rfl
 |k::kU,l=>by simp only[gk,cr,<-zw,<-zx,JK f kU]
def vn:List Nat->Nat->List (Int×Int)->(gp->gn->List (List Int)->Prop)->gp->gn->Prop
 |[],_,[],P,st,aE=>P st aE []
 |[],_,_::_,_,_,_=>False
 |k::kU,n,bds,P,st,aE=>cond (aA k 1)
  (match bds with
  |(lo,hi)::TM=>∀z:Int,lo<=z->z<=hi->vn kU (n+1) TM (λnI nn ls=>P nI nn ([z]::ls)) ((n,1)::st) ([z]::aE)
  |[]=>False)
  (cond (bw k bds.length) (∀r:List Int,aO (bds.take k) r->vn kU (n+k) (bds.drop k) (λnI nn ls=>P nI nn (r::ls)) ((n,k)::st) (r::aE)) False)
theorem ZI:∀(a b:List Int) (n:Nat) (ρ:Env),bu ρ n (a++b)=bu (bu ρ n a) (n+a.length) b
 |[],b,n,ρ=>rfl
 |z::a,b,n,ρ=>by
  simp only[u6,bu,dv]
  rw[ZI a b]
  congr 1;omega
theorem ZJ:∀(l:List Int) (n:Nat) (ρ:Env) (i:Nat),bu ρ n l i=cond (bw n i&&b7 i (n+l.length)) (l.getD (i-n) 0) (ρ i)
 |[],n,ρ,i=>by
  have:(bw n i&&b7 i (n+0))=false:=by
   cases h:(bw n i&&b7 i (n+0))with
   |false=>rfl
   |true=>simp[b7]at h;omega
  simp only[bu,gF,this,cond_false]
 |z::l,n,ρ,i=>by
  simp only[bu]
  rw[ZJ l (n+1)]
  by_cases h1:i=n
  ·subst h1
   have e1:(bw (i+1) i&&b7 i (i+1+l.length))=false:=by
    have:bw (i+1) i=false:=by
     cases h:bw (i+1) i with
     |false=>rfl
     |true=>exact absurd (eb h) (by omega)
    simp[this]
   have e2:(bw i i&&b7 i (i+(z::l).length))=true:=by simp[b7]
   rw[e1,e2]
   simp[cI]
  ·have hu:cI ρ n z i=ρ i:=QZ ρ z h1
   by_cases h2:n<=i/\i<n+1+l.length
   ·have e1:(bw (n+1) i&&b7 i (n+1+l.length))=true:=by simp[b7];omega
    have e2:(bw n i&&b7 i (n+(z::l).length))=true:=by simp[b7];omega
    rw[e1,e2]
    simp only[cond_true]
    rw[show i-n=(i-(n+1))+1 by omega,Cz]
   ·have e1:(bw (n+1) i&&b7 i (n+1+l.length))=false:=by
     cases h:(bw (n+1) i&&b7 i (n+1+l.length))with
     |false=>rfl
     |true=>simp[b7]at h;omega
    have e2:(bw n i&&b7 i (n+(z::l).length))=false:=by
     cases h:(bw n i&&b7 i (n+(z::l).length))with
     |false=>rfl
     |true=>simp[b7]at h;omega
    rw[e1,e2]
    simp[hu]
theorem mA.push {ρ:Env} {st:gp} {aE:gn} (h:mA ρ st aE) (n:Nat) (l:List Int):mA (bu ρ n l) ((n,l.length)::st) (l::aE):=
 ⟨⟨rfl,h.1⟩,λi=>by rw[ZJ,qo,<-h.2 i]⟩
theorem Xb:∀{bds:List (Int×Int)} {zs:List Int} (k:Nat),aO bds zs->aO (bds.take k) (zs.take k)/\aO (bds.drop k) (zs.drop k)
 |[],[],k,_=>by simp[aO]
 |[],_::_,_,h=>h.elim
 |(_,_)::_,[],_,h=>h.elim
 |(l,u)::b,z::zs,0,h=>by simpa [aO]using h
 |(l,u)::b,z::zs,k+1,h=>by
  obtain⟨h1,h2,h3⟩:=h
  obtain⟨g1,g2⟩:=Xb (bds:=b) (zs:=zs) k h3
  exact⟨⟨h1,h2,g1⟩,g2⟩
theorem zP:∀{kU:List Nat} {n:Nat} {bds:List (Int×Int)} {P:gp->gn->List (List Int)->Prop} {st:gp} {aE:gn} {ρ:Env} {zs:List Int},vn kU n bds P st aE->mA ρ st aE->aO bds zs->∃nI nn,mA (bu ρ n zs) nI nn/\P nI nn (gk kU zs)
 |[],n,[],P,st,aE,ρ,[],h,ht,_=>⟨st,aE,ht,h⟩
 |[],_,[],_,_,_,_,_::_,_,_,hi=>hi.elim
 |[],_,_::_,_,_,_,_,_,h,_,_=>h.elim
 |k::kU,n,bds,P,st,aE,ρ,zs,h,ht,hi=>by
  unfold vn at h
  cases hk:aA k 1 with
  |true=>
   have e:=bk hk
   subst e
   simp only[hk,cond_true]at h
   cases bds with
   |nil=>exact h.elim
   |cons b TM=>
    obtain⟨lo,mK⟩:=b
    cases zs with
    |nil=>exact hi.elim
    |cons z zs=>
     obtain⟨h1,h2,h3⟩:=hi
     have:=zP (h z h1 h2) (ht.push n [z]) h3
     obtain⟨nI,nn,g1,g2⟩:=this
     refine⟨nI,nn,g1,?_⟩
     simpa [gk]using g2
  |false=>
   simp only[hk,cond_false]at h
   cases hb:bw k bds.length with
   |false=>simp only[hb,cond_false]at h
   |true=>
    simp only[hb,cond_true]at h
    have hW:k<=bds.length:=by simpa using hb
    have hlen:=gi hi
    obtain⟨i1,i2⟩:=Xb k hi
    have e:(zs.take k).length=k:=by simp;omega
    have km:=ht.push n (zs.take k)
    rw[e]at km
    obtain⟨nI,nn,g1,g2⟩:=zP (h _ i1) km i2
    refine⟨nI,nn,?_,g2⟩
    have e2:=ZI (zs.take k) (zs.drop k) n ρ
    rw[nc,e]at e2
    rw[e2];exact g1
abbrev zF:=Nat->List (List Int)->Prop
def zF.set (A:zF) (h8:Nat) (p:List (List Int)->Prop):zF:=λi=>cond (aA i h8) p (A i)
def T.kQ (sh:Nat->List Nat×List Nat) (lsh:Nat->List Nat) (S:Nat->List (List Int)->List (List Int)->Prop) (L:V->gp->gn->Prop):T->zF->gp->gn->Prop
 |stuck,_,_,_=>False
 |leaf v,_,st,aE=>L v st aE
 |div n x d lo hi r,A,st,aE=>∀q:Int,lo<=q->q<=hi->0<=x.eu st aE-d*q->x.eu st aE-d*q<d->r.kQ sh lsh S L A ((n,1)::st) ([q]::aE)
 |mul n x y lo hi r,A,st,aE=>∀p:Int,lo<=p->p<=hi->p=x.eu st aE*y.eu st aE->r.kQ sh lsh S L A ((n,1)::st) ([p]::aE)
 |bit n op k x y r,A,st,aE=>∀z:Int,0<=z->z<=k.max->z=cf op k (x.eu st aE) (y.eu st aE)->r.kQ sh lsh S L A ((n,1)::st) ([z]::aE)
 |shr n x y lo hi r,A,st,aE=>∀z:Int,lo<=z->z<=hi->z=x.eu st aE/2^(y.eu st aE).toNat->r.kQ sh lsh S L A ((n,1)::st) ([z]::aE)
 |pM n cs aL lo hi r,A,st,aE=>∀z:Int,lo<=z->z<=hi->z=(s4 st aE cs).getD (aL.eu st aE).toNat 0->r.kQ sh lsh S L A ((n,1)::st) ([z]::aE)
 |mE b t e,A,st,aE=>(b.eu st aE=true->t.kQ sh lsh S L A st aE)/\(b.eu st aE=false->e.kQ sh lsh S L A st aE)
 |call id args n bds r,A,st,aE=>vn (sh id).2 n bds (λnI nn rs=>S id ((gk (sh id).1 args).map (s4 st aE)) rs->r.kQ sh lsh S L A nI nn) st aE
 |loop h8 init n bds r,A,st,aE=>∃(fx:List (List Int)->Prop) (gV:List (List Int)->Nat),fx ((gk (lsh h8) init).map (s4 st aE))/\
  vn (lsh h8) n bds (λnI nn zs=>fx zs->r.kQ sh lsh S L (A.set h8 λvs=>fx vs/\gV vs<gV zs) nI nn) st aE
 |again h8 vals,A,st,aE=>A h8 ((gk (lsh h8) vals).map (s4 st aE))
 |both a b,A,st,aE=>a.kQ sh lsh S L A st aE/\b.kQ sh lsh S L A st aE
 |fn n op args lo hi r,A,st,aE=>∀z:Int,lo<=z->z<=hi->z=aB op (args.map (I.eu st aE))->r.kQ sh lsh S L A ((n,1)::st) ([z]::aE)
 |ind n b r,A,st,aE=>∀z:Int,0<=z->z<=1->b.eu st aE=decide (z=1)->r.kQ sh lsh S L A ((n,1)::st) ([z]::aE)
 |oW n lo hi r,A,st,aE=>∀z:Int,lo<=z->z<=hi->r.kQ sh lsh S L A ((n,1)::st) ([z]::aE)
 |nat n r,A,st,aE=>∀z:Int,0<=z->r.kQ sh lsh S L A ((n,1)::st) ([z]::aE)
 |pb op args r,A,st,aE=>aa op (args.map (I.eu st aE))->r.kQ sh lsh S L A st aE
 |mG op args r,A,st,aE=>aa op (args.map (I.eu st aE))/\r.kQ sh lsh S L A st aE
theorem Ql {ρ:Env} {st:gp} {aE:gn} (h:mA ρ st aE) (kU:List Nat) (l:List I):(gk kU l).map (s4 st aE)=gk kU (l.map (·.den ρ)):=by
 rw[JK];exact gG λx _=>JF h x
def cl (sh:Nat->List Nat×List Nat) (S:Nat->List (List Int)->List (List Int)->Prop):Nat->List Int->List Int->Prop:=λid zs rs=>S id (gk (sh id).1 zs) (gk (sh id).2 rs)
theorem Pn {ρ:Env} {st:gp} {aE:gn} (h:mA ρ st aE) (l:List I):l.map (I.eu st aE)=l.map (·.den ρ):=gG λx _=>I.im h.2 x
theorem lx {sh:Nat->List Nat×List Nat} {lsh:Nat->List Nat} {S:Nat->List (List Int)->List (List Int)->Prop} {Tj:V->gp->gn->Prop} {L:V->Env->Prop} (cJ:∀v ρ st aE,mA ρ st aE->Tj v st aE->L v ρ):
 ∀(t:T) (fJ:zF) (A:dw) (ρ:Env) (st:gp) (aE:gn),(∀h8 vs,fJ h8 (gk (lsh h8) vs)->A h8 vs)->mA ρ st aE->t.kQ sh lsh S Tj fJ st aE->t.holds (cl sh S) L A ρ
 | .stuck,_,_,_,_,_,_,_,h=>h
 | .leaf v,_,_,ρ,st,aE,_,ht,h=>cJ v ρ st aE ht h
 | .div n x d lo hi r,fJ,A,ρ,st,aE,hA,ht,h=>λq h1 h2 h3 h4=>lx cJ r fJ A _ _ _ hA (ht.push n [q]) (h q h1 h2 (by rw[I.im ht.2];exact h3) (by rw[I.im ht.2];exact h4))
 | .mul n x y lo hi r,fJ,A,ρ,st,aE,hA,ht,h=>λq h1 h2 h3=>lx cJ r fJ A _ _ _ hA (ht.push n [q]) (h q h1 h2 (by rw[I.im ht.2,I.im ht.2];exact h3))
 | .bit n op k x y r,fJ,A,ρ,st,aE,hA,ht,h=>λq h1 h2 h3=>lx cJ r fJ A _ _ _ hA (ht.push n [q]) (h q h1 h2 (by rw[I.im ht.2,I.im ht.2];exact h3))
 | .shr n x y lo hi r,fJ,A,ρ,st,aE,hA,ht,h=>λq h1 h2 h3=>lx cJ r fJ A _ _ _ hA (ht.push n [q]) (h q h1 h2 (by rw[I.im ht.2,I.im ht.2];exact h3))
 | .pM n cs aL lo hi r,fJ,A,ρ,st,aE,hA,ht,h=>λq h1 h2 h3=>lx cJ r fJ A _ _ _ hA (ht.push n [q]) (h q h1 h2 (by rw[JF ht,I.im ht.2];exact h3))
 | .mE b t e,fJ,A,ρ,st,aE,hA,ht,h=>⟨λhb=>lx cJ t fJ A _ _ _ hA ht (h.1 (by rw[aS.im ht];exact hb)),λhb=>lx cJ e fJ A _ _ _ hA ht (h.2 (by rw[aS.im ht];exact hb))⟩
 | .call id args n bds r,fJ,A,ρ,st,aE,hA,ht,h=>by
  refine se λrs hi hs=>?_
  obtain⟨nI,nn,h1,h2⟩:=zP h ht hi
  exact lx cJ r fJ A _ _ _ hA h1 (h2 (by rw[Ql ht];exact hs))
 | .loop h8 init n bds r,fJ,A,ρ,st,aE,hA,ht,h=>by
  obtain⟨fx,gV,h1,h2⟩:=h
  refine⟨λzs=>fx (gk (lsh h8) zs),λzs=>gV (gk (lsh h8) zs),?_,?_⟩
  ·rw[Ql ht]at h1;exact h1
  ·refine se λzs hi hI=>?_
   obtain⟨nI,nn,g1,g2⟩:=zP h2 ht hi
   refine lx cJ r _ _ _ _ _ (λalp vs hv=>?_) g1 (g2 hI)
   unfold zF.set at hv
   unfold dw.set
   cases hq:aA alp h8 with
   |true=>
    rw[hq]at hv
    have e:=bk hq
    subst e
    exact hv
   |false=>rw[hq]at hv;exact hA _ _ hv
 | .again h8 vals,fJ,A,ρ,st,aE,hA,ht,h=>hA h8 _ (by rw[<-Ql ht];exact h)
 | .both x y,fJ,A,ρ,st,aE,hA,ht,h=>⟨lx cJ x fJ A ρ st aE hA ht h.1,lx cJ y fJ A ρ st aE hA ht h.2⟩
 | .fn n op args lo hi r,fJ,A,ρ,st,aE,hA,ht,h=>λq h1 h2 h3=>lx cJ r fJ A _ _ _ hA (ht.push n [q]) (h q h1 h2 (by rw[Pn ht];exact h3))
 | .ind n b r,fJ,A,ρ,st,aE,hA,ht,h=>λq h1 h2 h3=>lx cJ r fJ A _ _ _ hA (ht.push n [q]) (h q h1 h2 (by rw[aS.im ht];exact h3))
 | .oW n lo hi r,fJ,A,ρ,st,aE,hA,ht,h=>λq h1 h2=>lx cJ r fJ A _ _ _ hA (ht.push n [q]) (h q h1 h2)
 | .nat n r,fJ,A,ρ,st,aE,hA,ht,h=>λq h1=>lx cJ r fJ A _ _ _ hA (ht.push n [q]) (h q h1)
 | .pb op args r,fJ,A,ρ,st,aE,hA,ht,h=>λh1=>lx cJ r fJ A ρ st aE hA ht (h (by rw[Pn ht];exact h1))
 | .mG op args r,fJ,A,ρ,st,aE,hA,ht,h=>⟨by rw[<-Pn ht];exact h.1,lx cJ r fJ A _ _ _ hA ht h.2⟩
def wv:List O->Option (List I)
 |[]=>some []
 | .l x::r=>match wv r with|some l=>some (x::l)|none=>none
 | .b _::_=>none
def O.eu (st:gp) (aE:gn):O->Int
 |l x=>x.eu st aE
 |b x=>cond (x.eu st aE) 1 0
def BY (st:gp) (aE:gn) (os:List O):List Int:=
 match wv os with
 |some ls=>s4 st aE ls
 |none=>os.map (O.eu st aE)
theorem Xx {ρ:Env}:∀{os:List O} {ls:List I},wv os=some ls->ls.map (·.den ρ)=os.map (O.den ρ)
 |[],ls,h=>by simp[wv]at h;subst h;rfl
 | .l x::r,ls,h=>by
  simp only[wv]at h
  cases hr:wv r with
  |none=>simp[hr]at h
  |some l=>
   simp only[hr,aG]at h
   subst h
   simp only[cr,Xx hr,O.den]
 | .b _::_,_,h=>by simp[wv]at h
theorem O.im {ρ:Env} {st:gp} {aE:gn} (h:mA ρ st aE):∀o:O,o.eu st aE=o.den ρ
 | .l x=>I.im h.2 x
 | .b x=>by simp only[eu,den,aS.im h]
theorem Y4 {ρ:Env} {st:gp} {aE:gn} (h:mA ρ st aE) (os:List O):BY st aE os=os.map (O.den ρ):=by
 unfold BY
 cases hl:wv os with
 |some ls=>exact(JF h ls).trans (Xx hl)
 |none=>exact gG λo _=>O.im h o
def amc (k:Nat):List Nat:=match k with
 |12=>[4,4,4]
 |15=>[5,5,5]
 |20=>[5,5,5,5]
 |k=>[k]
def D.nums:D->List Nat
 | .mix l=>amc l.length
 | .jZ _=>[]
 | .pC .. =>[]
 |d=>[d.num]
def sO (ds:List D):List Nat:=ds.flatMap D.nums
def Lc (ds:List D) (K:List (List Int)->Prop) (v:V) (st:gp) (aE:gn):Prop:=
 match outs ds v with
 |some os=>K ((gk (sO ds) os).map (BY st aE))
 |none=>False
theorem aa7 {ds:List D} {K:List (List Int)->Prop} (v:V) (ρ:Env) (st:gp) (aE:gn) (ht:mA ρ st aE) (h:Lc ds K v st aE):my ds (λrs=>K (gk (sO ds) rs)) v ρ:=by
 unfold Lc at h
 unfold my
 cases ho:outs ds v with
 |none=>simp[ho]at h
 |some os=>
  simp only[ho]at h⊢
  rw[JK]
  rwa [show(gk (sO ds) os).map (BY st aE)=(gk (sO ds) os).map (List.map (O.den ρ)) from gG λo _=>Y4 ht o]at h
def tA (sh:Nat->List Nat×List Nat) (lsh:Nat->List Nat) (S:Nat->List (List Int)->List (List Int)->Prop) (K:List (List Int)->List (List Int)->Prop) (lens:List Nat) (bds:List (Int×Int)) (ds:List D) (t:T):Prop:=
 vn lens 0 bds (λst aE zs=>t.kQ sh lsh S (Lc ds (K zs)) (λ_ _=>False) st aE) [] []
theorem Tw {sh:Nat->List Nat×List Nat} {lsh:Nat->List Nat} {S:Nat->List (List Int)->List (List Int)->Prop} {K:List (List Int)->List (List Int)->Prop} {lens:List Nat} {bds:List (Int×Int)} {ds:List D} {t:T}
 (h:tA sh lsh S K lens bds ds t):mB bds λzs=>t.holds (cl sh S) (my ds λrs=>K (gk lens zs) (gk (sO ds) rs)) (λ_ _=>False) (bu (λ_=>0) 0 zs):=by
 refine se λzs hi=>?_
 obtain⟨st,aE,h1,h2⟩:=zP h (show mA (λ_=>0) [] [] from⟨trivial,λ_=>rfl⟩) hi
 exact lx (λv ρ st aE ht hl=>aa7 v ρ st aE ht hl) t _ _ _ st aE (λ_ _ hf=>hf.elim) h1 h2
end Go.bg
namespace Go.bg
open Go.ChangeShapes Go.WideShapes Go.RowKit
variable {H:Type} {enc:aN×az->H} {P:bm}
theorem ZP {k:cS} {z:Int}:(Lit.int k z).wf=true↔k.min<=z/\z<=k.max:=by simp[Lit.wf]
theorem Ua {k:cS}:∀(cs:List az) (xs:List (m8 H×List r0)),cs.length=xs.length->
 (∀i,i<xs.length->∃z,(cs.drop i).take 1=[.int k z]/\xs[i]?=some (.lit (.int k z),[])/\(Lit.int k z).wf=true)->
 ∃zs:List Int,cs=zs.map (.int k)/\xs=zs.map (λz=>(.lit (.int k z),[]))/\∀z∈zs,(Lit.int k z).wf=true
 |[],[],_,_=>⟨[],rfl,rfl,λ_ h=>by cases h⟩
 |[],_::_,h,_=>by simp at h
 |_::_,[],h,_=>by simp at h
 |c::cs,x::xs,hl,h=>by
  obtain⟨z,h1,h2,h3⟩:=h 0 (by simp)
  simp at h1 h2
  obtain⟨zs,e1,e2,bt⟩:=Ua cs xs (by simpa using hl) λi hi=>by
   obtain⟨y,g1,g2,g3⟩:=h (i+1) (by simpa using hi)
   exact⟨y,by simpa using g1,by simpa using g2,g3⟩
  refine⟨z::zs,by rw[h1,e1];rfl,by rw[h2,e2];rfl,λy hy=>?_⟩
  rcases List.mem_cons.1 hy with rfl|hy
  ·exact h3
  ·exact bt y hy
theorem W8:∀{b b5:List (Int×Int)} {l bp:List Int},aO b l->aO b5 bp->aO (b++b5) (l++bp)
 |[],_,[],_,_,h=>h
 |_::_,_,_::_,_,h,h'=>⟨h.1,h.2.1,W8 h.2.2 h'⟩
 |[],_,_::_,_,h,_=>h.elim
 |_::_,_,[],_,h,_=>h.elim
theorem D.ZL (d:D) {zs l:List Int} (h:zs.length=d.num):d.val (zs++l)=d.val zs:=by
 cases d with
 |str=>match zs,h with|[z],_=>rfl
 |int k lo hi=>match zs,h with|[z],_=>rfl
 |bool=>match zs,h with|[z],_=>rfl
 |agg k n lo hi=>simp only[D.num]at h;simp only[D.val,<-h];simp
 |jZ p=>rfl
 |pC k c=>rfl
 |mix p=>
  simp only[D.num]at h
  simp only[D.val]
  congr 2
  revert zs
  induction p with
  |nil=>intro zs h;simp
  |cons a p ih=>
   intro zs h
   match zs,h with
   |z::zs,h=>simp only[u6,Ks,ih (zs:=zs) (by simpa using h)]
theorem akv {w w':ai} (h:w.Extends w') (may:r0->Prop):w.keptBut w' may:=
 Below.frame (W:=w) ⟨h.os,h.tape,h.output,h.size,λi hi=>h.block i hi⟩ may
theorem HB {w:ai} {name:String} {g:Nat} {t e:aN} {k:cS} {n:Nat} {cs:Array az} {fuel:Nat} {p:List r0} {zs:List Int} {spare:Nat->Bool} {held:Bool} {base:Nat} {enc:aN×az->Unit}
 (hg:P.globalNamed name=some g) (ht:P.underlying t=some (.array n e)) (he:P.underlying e=some (.int k)) (HU:P.cellsOf e=1) (kj:P.cellsOf t=n)
 (hv:w.var? P name=some cs) (hd:RF enc P w base spare held fuel t cs.toList=some (.agg (zs.map λz=> .lit (.int k z)),p)):
 g<w.heap.size/\∃t' vC,w.heap[g]?=some (Obj.cells (zs.map (r3 k)).toArray t' vC):=by
 obtain⟨xs,m,rfl,hx,hlen,hn,AI⟩:=au4 ht hd
 obtain⟨e7,e1,e2,bt⟩:=Ua (k:=k) cs.toList xs (by rw[hlen,kj,hn]) λi hi=>by
  have:=AI i (by omega)
  rw[HU,CF]at this
  cases WR:xs[i]? with
  |none=>simp at WR;omega
  |some y=>
   rw[WR]at this
   obtain⟨z,g1,g2,g3⟩:=aae he this
   exact⟨z,g1,by rw[g2],g3⟩
 simp only[cj,ayJ]at hx
 have hy:e7=zs:=by
  have h1:=hx.1
  rw[e2,j5]at h1
  have ya:∀a b:Int,(au5 (.int k a):m8 Unit)= .lit (.int k b)->a=b:=λa b h=>by cases h;rfl
  exact((List.map_inj_right (f:=λz:Int=>(au5 (.int k z):m8 Unit)) ya).1 h1).symm
 subst hy
 simp only[World.var?,hg,Option.bind_some]at hv
 split at hv
 ·rename_i gZ t' vC hb
  simp only[aG]at hv
  subst hv
  refine⟨?_,t',vC,?_⟩
  ·exact(Array.getElem?_eq_some_iff.1 hb).1
  ·rw[hb,<-e1]
 ·cases hv
end Go.bg
namespace Go.bg
open M
inductive bQ where
 |d (x:D)
 |rd (sh:List aw)
 |jW (sh:List aw) (e:aN)
def bQ.num:bQ->Nat
 |d x=>x.num
 |_=>1
noncomputable def bQ.bds:bQ->List (Int×Int)
 |d x=>x.bds
 |_=>[(0,bZ)]
noncomputable def cH:List bQ->List (Int×Int)
 |[]=>[]
 |x::r=>x.bds++cH r
def bQ.iu:bQ->Bool
 |d _=>true
 |_=>false
def bQ.ny:bQ->Bool
 |jW _ _=>true
 |_=>false
def bQ.l8:bQ->Bool
 |rd _=>true
 |_=>false
def ni:List bQ->Bool
 |[]=>true
 | .d _::r=>ni r
 | .rd _::r=>r.all (λb=> !b.ny)&&ni r
 | .jW _ _::r=>r.all bQ.iu&&ni r
def qV (F:Nat->Prop) (w:ai) (sh:List aw) (rows:List (List Int)) (v:az):Prop:=
 (v= .slice none 0 0/\rows=[])∨∃(g o cap:Nat) (cells:Array az) (t:aN) (fz:Nat×Nat),v= .slice (some ⟨g,o,none⟩) rows.length cap/\(rows.length<=cap/\(cap:Int)<=9223372036854775807)/\F g/\w.heap[g]?=some (.cells cells t fz)/\kc cells o sh rows
def p3 (N:Nat->Prop) (w:ai) (sh:List aw) (e:aN) (rows:List (List Int)) (v:az):Prop:=
 (v= .slice none 0 0/\rows=[])∨∃(g cap:Nat) (cells:Array az),v= .slice (some ⟨g,0,none⟩) rows.length cap/\(rows.length<=cap/\(cap:Int)<=9223372036854775807)/\N g/\w.heap[g]?=some (.cells cells e (0,0))/\kc cells 0 sh rows/\cells.size=cap*sh.length
def bQ.at (F N:Nat->Prop) (w:ai):bQ->List Int->az->Prop
 |d x,zs,v=>v=x.val zs
 |rd sh,zs,v=>qV F w sh (ab (zs.getD 0 0)) v
 |jW sh e,zs,v=>p3 N w sh e (ab (zs.getD 0 0)) v
def iz (F N:Nat->Prop) (w:ai):List bQ->List Int->List az->Prop
 |[],_,[]=>True
 |b::r,zs,v::vs=>b.at F N w zs v/\iz F N w r (zs.drop b.num) vs
 |_,_,_=>False
def pQ (us:List az):az:=match us with|[x]=>x|l=> .tuple l.toArray
structure dL where
 f:cy
 id:Nat
 args:List bQ
 res:List bQ
 pre:Nat:=0
def yP:Nat->List Int->Prop
 |0,_=>True
 |p+1,l=>aa (p+1) l
def Jj:Nat->List I->T->T
 |0,_,r=>r
 |p+1,ls,r=> .mG (p+1) ls r
def Ji:Nat->List I->T->T
 |0,_,r=>r
 |p+1,ls,r=> .pb (p+1) ls r
theorem preM_holds {S:Nat->List Int->List Int->Prop} {L:V->Env->Prop} {A:dw} {ρ:Env} {p:Nat} {ls:List I} {r:T} (h:(Jj p ls r).holds S L A ρ):yP p (ls.map (·.den ρ))/\r.holds S L A ρ:=by
 cases p with
 |zero=>exact⟨trivial,h⟩
 |succ p=>exact h
theorem preA_holds {S:Nat->List Int->List Int->Prop} {L:V->Env->Prop} {A:dw} {ρ:Env} {p:Nat} {ls:List I} {r:T} (h:(Ji p ls r).holds S L A ρ) (hp:yP p (ls.map (·.den ρ))):r.holds S L A ρ:=by
 cases p with
 |zero=>exact h
 |succ p=>exact h hp
def dL.eB (P:bm) (wb:ai) (c:dL) (spec:List Int->List Int->Prop):Prop:=
 (∀args w,(callFunc c.f args).run P w= .ok (.enter c.f args) w)/\
 ∀(F:Nat->Prop) (w:ai) (vs:List az) (zs:List Int),wb.Extends w->aO (cH c.args) zs->yP c.pre zs->iz F (λ_=>False) w c.args zs vs->
  iY P c.f vs.toArray w λe w'=>w.Extends w'/\∃rs us,aO (cH c.res) rs/\spec zs rs/\iz (λg=>F g∨w.heap.size<=g) (λg=>w.heap.size<=g) w' c.res rs us/\e= .returned (pQ us)
noncomputable def p4:List bQ->Nat->Nat->List W->List ar->(Nat->List W->List ar->T)->T
 |[],_,n,us,bl,k=>k n us bl
 | .d x::r,s,n,us,bl,k=>p4 r (s+x.num) n (us++[x.sym s]) bl k
 | .rd sh::r,s,n,us,bl,k=> .nat n (.oW (n+1) (-1) 9223372036854775807 (.fn (n+2) 20 [.var s] 0 9223372036854775807
  (p4 r (s+1) (n+3) (us++[.one (.sl bl.length sh.length (.var n) (.const 0) (.var (n+2)) (.var (n+1)))]) (bl++[([.rows sh (.var n) (.var s) (.var (n+1)) 1],(0,false))]) k)))
 | .jW sh e::r,s,n,us,bl,k=> .oW n (-1) 9223372036854775807 (.fn (n+1) 20 [.var s] 0 9223372036854775807
  (p4 r (s+1) (n+2) (us++[.one (.sl bl.length sh.length (.const 0) (.const 0) (.var (n+1)) (.var n))]) (bl++[([.rows sh (.const 0) (.var s) (.var n) 2],(e,false))]) k))
section
variable {S:Nat->List Int->List Int->Prop} {L:V->Env->Prop} {w0:dm} {P:bm} {gl:dO} {cal:eg}
theorem fX.agree {ρ ad:Env} {s n:Nat} {zs:List Int} (h:fX ρ s zs) (ha:agree n ρ ad) (hn:s+zs.length<=n):fX ad s zs:=λj hj=>by rw[ha (s+j) (by omega)];exact h j hj
theorem qx {ρ:Env} {n i:Nat} {z:Int} (h:i<n):cI ρ n z i=ρ i:=QZ ρ z (by omega)
theorem vp {F N:Nat->Prop} (hF:∀g,F g->w0.ex g∨w0.ro g∨w0.r.heap.size<=g) (hN:∀g,N g->w0.b.heap.size<=g/\w0.r.heap.size<=g):∀{l:List bQ} {s n:Nat} {us:List W} {bl:List ar} {k:Nat->List W->List ar->T} {G:dw} {ρ:Env} {m:Nat->Nat} {w:ai} {zs:List Int} {vals:List az},
 ni l=true->cp n bl.length ρ bl->Mem w0 ρ m bl w->fX ρ s zs->aO (cH l) zs->s+(cH l).length<=n->iz F N w l zs vals->
 ((l.all λb=> !b.l8)=true∨∀(i:Nat) (p:ar),bl[i]?=some p->F (m i)->aX ρ p.1<=1)->((l.all λb=> !b.ny)=true∨∀(i:Nat) (p:ar),bl[i]?=some p->N (m i)->aX ρ p.1=0)->
 (∀u∈us,W.ok n bl.length ρ u)->
 (p4 l s n us bl k).holds S L G ρ->∃n' ad m' jG aR,dr n bl.length ρ m n' (kA aR) ad m'/\cp n' aR.length ad aR/\Mem w0 ad m' aR w/\jG.map (W.den ad m')=us.map (W.den ρ m)++vals/\(∀u∈jG,W.ok n' aR.length ad u)/\(k n' jG aR).holds S L G ad
 |[],s,n,us,bl,k,G,ρ,m,w,zs,vals,_,hb,hm,_,_,_,hat,_,_,pB,ae=>by
  match vals,hat with
  |[],_=>exact⟨n,ρ,m,us,bl,dr.refl _ _ _ _,hb,hm,by simp,pB,ae⟩
 | .d x::r,s,n,us,bl,k,G,ρ,m,w,zs,vals,aZ,hb,hm,hA,hz,hn,hat,h1,h2,pB,ae=>by
  match vals,hat with
  |v::vs,hat=>
   obtain⟨hv,hat⟩:=hat
   have hv:v=x.val zs:=hv
   simp only[cH,bQ.bds]at hz hn
   simp only[dQ]at hn
   obtain⟨i1,i2⟩:=It hz
   rw[D.C8]at i1 i2 hn
   have hs:=D.FK (ρ:=ρ) (m:=m) (N:=n) (nb:=bl.length) x i1 hA (by omega)
   obtain⟨n',ad,m',jG,aR,g1,g2,g3,g4,g5,g6⟩:=vp hF hN (l:=r) (s:=s+x.num) (us:=us++[x.sym s]) (zs:=zs.drop x.num) aZ hb hm (hA.drop x.num) i2 (by omega) hat (by
    rcases h1 with h1|h1
    ·left;simpa [bQ.l8]using h1
    ·exact .inr h1) (by
    rcases h2 with h2|h2
    ·left;simpa [bQ.ny]using h2
    ·exact .inr h2) (λu hu=>by
    rcases List.mem_append.1 hu with hu|hu
    ·exact pB u hu
    ·simp at hu;subst hu;exact hs.1) ae
   exact⟨n',ad,m',jG,aR,g1,g2,g3,by rw[g4,ff,hv];simp[hs.2],g5,g6⟩
 | .rd sh::r,s,n,us,bl,k,G,ρ,m,w,zs,vals,aZ,hb,hm,hA,hz,hn,hat,h1,h2,pB,ae=>by
  match vals,hat with
  |v::vs,hat=>
   obtain⟨hv,hat⟩:=hat
   match zs,hz with
   |z::zs,hz=>
    obtain⟨ah,z2,hz⟩:=hz
    have hv:qV F w sh (ab z) v:=hv
    obtain⟨vL,MP⟩:=hA.tail
    have h1:∀(i:Nat) (p:ar),bl[i]?=some p->F (m i)->aX ρ p.1<=1:=by
     rcases h1 with h1|h1
     ·simp[bQ.l8]at h1
     ·exact h1
    simp only[cH,bQ.bds,dQ,dv,gF]at hn
    simp only[ni,aK]at aZ
    have hlen:(ab z).length<=9223372036854775807:=by
     rcases hv with⟨_,h⟩|⟨_,_,cap,_,_,_,_,⟨h3,h4⟩,_⟩
     ·simp[h]
     ·omega
    have lz:zs.length=(cH r).length:=gi hz
    obtain⟨g,o,cap,hg1,tR,x8,hg4,Eh⟩:∃(g:Nat) (o:Nat) (cap:Int),(-1<=cap/\cap<=9223372036854775807)/\(cap<0->ab z=[])/\(0<=cap->((ab z).length:Int)<=cap)/\
     (v=if cap<0 then KD none 0 0 else .slice (some ⟨g,o,none⟩) (ab z).length cap.toNat)/\
     (0<=cap->F g/\∃cells t fz,w.heap[g]?=some (.cells cells t fz)/\kc cells o sh (ab z)):=by
     rcases hv with⟨h3,h4⟩|⟨g,o,cap,cells,t,fz,h3,⟨h4,h5⟩,h6,h7,cq⟩
     ·exact⟨0,0,-1,by omega,λ_=>h4,λh=>by omega,by simp[h3],λh=>by omega⟩
     ·exact⟨g,o,cap,by omega,λh=>by omega,λ_=>by omega,by rw[if_neg (by omega)];simpa using h3,λ_=>⟨h6,cells,t,fz,h7,cq⟩⟩
    have Ek:=ae (o:Int) (by omega) cap hg1.1 hg1.2 (ab z).length (by omega) (by omega) (by
     simp only[cr,dY,aB,I.cg]
     rw[qx (by omega),qx (by omega),vL])
    generalize nx:cI (cI (cI ρ n (o:Int)) (n+1) cap) (n+2) ((ab z).length:Int)=fI at Ek
    have ha:agree n ρ fI:=by
     rw[<-nx]
     intro i hi
     rw[qx (by omega),qx (by omega),qx hi]
    have bC:fI n=o:=by rw[<-nx,qx (by omega),qx (by omega),iH]
    have e1:fI (n+1)=cap:=by rw[<-nx,qx (by omega),iH]
    have e2:fI (n+2)=(ab z).length:=by rw[<-nx,iH]
    have bt:fI s=z:=by rw[ha s (by omega)];exact vL
    have N2:=hm.lJ hb ha
    have DZ:=hb.ext ha (show n<=n+3 by omega) (a6 bl.length)
    have DR:(A.rows sh (.var n) (.var s) (.var (n+1)) 1).ok (n+3) bl.length fI:=⟨⟨I.ez (by omega),I.ez (by omega),I.ez (by omega)⟩,by rw[I.cg,bt];exact⟨ah,z2⟩,by rw[I.cg,e1];exact hg1⟩
    have gz:=N2.push (x:=([.rows sh (.var n) (.var s) (.var (n+1)) 1],(0,false))) (g:=g) DZ (λy hy=>by simp at hy;subst hy;exact DR) (λho=>by cases ho) (λei gj code' fZ lB he=>by
     cases he
     intro _
     refine⟨λh=>by rw[I.cg,e1]at h;rw[I.cg,bt];exact tR h,λh=>?_⟩
     rw[I.cg,e1]at h
     obtain⟨DS,cells,t,fz,k1,k2⟩:=Eh h
     exact⟨hF g DS,cells,t,fz,k1,⟨by rw[I.cg,bC];omega,by rw[I.cg,I.cg,bC,bt];exact k2⟩,λh2=>by omega⟩) (λi p hi he=>by
      by_cases hc:0<=cap
      ·refine .inl ⟨?_,?_⟩
       ·rw[pE (hb _ (dK hi)) ha]
        exact h1 i p hi (by rw[he];exact(Eh hc).1)
       ·rw[nC (by decide) (by rw[I.cg,e1];exact hc)];exact a6 1
      ·refine .inr (.inr ?_)
       simp only[aX,I.cg,e1]
       rw[if_pos (by omega)])
    have NX:dr n bl.length ρ m (n+3) (bl++[([A.rows sh (.var n) (.var s) (.var (n+1)) 1],((0:aN),false))]).length fI (jl m bl.length g):=⟨by omega,ha,by simp,λb hb=>j1 hb⟩
    have xX:cp (n+3) (bl++[([A.rows sh (.var n) (.var s) (.var (n+1)) 1],((0:aN),false))]).length fI (bl++[([.rows sh (.var n) (.var s) (.var (n+1)) 1],(0,false))]):=λp hp a jd=>by
     rcases List.mem_append.1 hp with hp|hp
     ·exact(DZ p hp a jd).ext (agree.refl _ _) (a6 _) (by simp)
     ·simp at hp;subst hp;simp at jd;subst jd
      exact DR.ext (agree.refl _ _) (a6 _) (by simp)
    have Oz:W.ok (n+3) (bl++[([A.rows sh (.var n) (.var s) (.var (n+1)) 1],((0:aN),false))]).length fI (.one (.sl bl.length sh.length (.var n) (.const 0) (.var (n+2)) (.var (n+1)))):=by
     refine⟨by simp,⟨I.ez (by omega),I.cz _ _,I.ez (by omega),I.ez (by omega)⟩,?_⟩
     simp only[I.cg,I.aM,bC,e1,e2]
     exact⟨by omega,by omega,λh=>by rw[tR h];rfl,x8⟩
    obtain⟨n',ad,m',jG,aR,g1,g2,g3,g4,g5,g6⟩:=vp hF hN (l:=r) (s:=s+1) (us:=us++[.one (.sl bl.length sh.length (.var n) (.const 0) (.var (n+2)) (.var (n+1)))]) (zs:=zs) (vals:=vs) aZ.2 xX gz (MP.agree ha (by omega)) hz (by omega) hat (.inr λi p hi hf=>by
     rw[List.getElem?_append]at hi
     split at hi
     ·rename_i dZ
      rw[j1 dZ]at hf
      rw[pE (hb _ (dK hi)) ha]
      exact h1 i p hi hf
     ·have:i=bl.length:=by
       have:=(List.getElem?_eq_some_iff.1 hi).1
       simp at this;omega
      subst this
      simp at hi
      subst hi
      simp only[aX];split<;>omega) (.inl aZ.1) (λu hu=>by
     rcases List.mem_append.1 hu with hu|hu
     ·exact(pB u hu).ext ha (by omega) (by simp)
     ·simp at hu;subst hu;exact Oz) Ek
    refine⟨n',ad,m',jG,aR,NX.trans g1,g2,g3,?_,g5,g6⟩
    rw[g4,ff,ie]
    congr 1
    ·exact gG λu hu=>W.jy (pB u hu) ha (λb hb=>j1 hb)
    ·simp only[cr,dY,u6,jr,W.den,A.den,I.cg,I.aM,bC,e1,e2,ks]
     rw[hg4]
     simp
 | .jW sh e::r,s,n,us,bl,k,G,ρ,m,w,zs,vals,aZ,hb,hm,hA,hz,hn,hat,h1,h2,pB,ae=>by
  match vals,hat with
  |v::vs,hat=>
   obtain⟨hv,hat⟩:=hat
   match zs,hz with
   |z::zs,hz=>
    obtain⟨ah,z2,hz⟩:=hz
    have hv:p3 N w sh e (ab z) v:=hv
    obtain⟨vL,MP⟩:=hA.tail
    simp only[cH,bQ.bds,dQ,dv,gF]at hn
    simp only[ni,aK]at aZ
    have h2:∀(i:Nat) (p:ar),bl[i]?=some p->N (m i)->aX ρ p.1=0:=by
     rcases h2 with h2|h2
     ·simp[bQ.ny]at h2
     ·exact h2
    have hlen:(ab z).length<=9223372036854775807:=by
     rcases hv with⟨_,h⟩|⟨_,cap,_,_,⟨h3,h4⟩,_⟩
     ·simp[h]
     ·omega
    have lz:zs.length=(cH r).length:=gi hz
    obtain⟨g,cap,hg1,tR,x8,hg4,Eh⟩:∃(g:Nat) (cap:Int),(-1<=cap/\cap<=9223372036854775807)/\(cap<0->ab z=[])/\(0<=cap->((ab z).length:Int)<=cap)/\
     (v=if cap<0 then KD none 0 0 else .slice (some ⟨g,0,none⟩) (ab z).length cap.toNat)/\
     (0<=cap->N g/\∃cells,w.heap[g]?=some (.cells cells e (0,0))/\kc cells 0 sh (ab z)/\cells.size=cap.toNat*sh.length):=by
     rcases hv with⟨h3,h4⟩|⟨g,cap,cells,h3,⟨h4,h5⟩,h6,h7,cq,bU⟩
     ·exact⟨0,-1,by omega,λ_=>h4,λh=>by omega,by simp[h3],λh=>by omega⟩
     ·exact⟨g,cap,by omega,λh=>by omega,λ_=>by omega,by rw[if_neg (by omega)];simpa using h3,λ_=>⟨h6,cells,h7,cq,by simpa using bU⟩⟩
    have Ek:=ae cap hg1.1 hg1.2 (ab z).length (by omega) (by omega) (by
     simp only[cr,dY,aB,I.cg]
     rw[qx (by omega),vL])
    generalize nx:cI (cI ρ n cap) (n+1) ((ab z).length:Int)=fI at Ek
    have ha:agree n ρ fI:=by
     rw[<-nx]
     intro i hi
     rw[qx (by omega),qx hi]
    have e1:fI n=cap:=by rw[<-nx,qx (by omega),iH]
    have e2:fI (n+1)=(ab z).length:=by rw[<-nx,iH]
    have bt:fI s=z:=by rw[ha s (by omega)];exact vL
    have N2:=hm.lJ hb ha
    have DZ:=hb.ext ha (show n<=n+2 by omega) (a6 bl.length)
    have DR:(A.rows sh (.const 0) (.var s) (.var n) 2).ok (n+2) bl.length fI:=⟨⟨I.cz _ _,I.ez (by omega),I.ez (by omega)⟩,by rw[I.cg,bt];exact⟨ah,z2⟩,by rw[I.cg,e1];exact hg1⟩
    have gz:=N2.push (x:=([.rows sh (.const 0) (.var s) (.var n) 2],(e,false))) (g:=g) DZ (λy hy=>by simp at hy;subst hy;exact DR) (λho=>by cases ho) (λei gj code' fZ lB he=>by
     cases he
     intro _
     refine⟨λh=>by rw[I.cg,e1]at h;rw[I.cg,bt];exact tR h,λh=>?_⟩
     rw[I.cg,e1]at h
     obtain⟨agI,cells,k1,k2,k3⟩:=Eh h
     have er:=hN g agI
     exact⟨.inr (.inr er.2),cells,e,(0,0),k1,⟨by rw[I.aM];exact cn _,by rw[I.aM,I.cg,bt];exact k2⟩,λ_=>⟨rfl,I.aM _ _,.E7,by rw[I.cg,e1];exact k3,er.1,.inr er.2⟩⟩) (λi p hi he=>by
      by_cases hc:0<=cap
      ·refine .inr (.inl ?_)
       rw[pE (hb _ (dK hi)) ha]
       exact h2 i p hi (by rw[he];exact(Eh hc).1)
      ·refine .inr (.inr ?_)
       simp only[aX,I.cg,e1]
       rw[if_pos (by omega)])
    have NX:dr n bl.length ρ m (n+2) (bl++[([A.rows sh (.const 0) (.var s) (.var n) 2],(e,false))]).length fI (jl m bl.length g):=⟨by omega,ha,by simp,λb hb=>j1 hb⟩
    have xX:cp (n+2) (bl++[([A.rows sh (.const 0) (.var s) (.var n) 2],(e,false))]).length fI (bl++[([.rows sh (.const 0) (.var s) (.var n) 2],(e,false))]):=λp hp a jd=>by
     rcases List.mem_append.1 hp with hp|hp
     ·exact(DZ p hp a jd).ext (agree.refl _ _) (a6 _) (by simp)
     ·simp at hp;subst hp;simp at jd;subst jd
      exact DR.ext (agree.refl _ _) (a6 _) (by simp)
    have Oz:W.ok (n+2) (bl++[([A.rows sh (.const 0) (.var s) (.var n) 2],(e,false))]).length fI (.one (.sl bl.length sh.length (.const 0) (.const 0) (.var (n+1)) (.var n))):=by
     refine⟨by simp,⟨I.cz _ _,I.cz _ _,I.ez (by omega),I.ez (by omega)⟩,?_⟩
     simp only[I.cg,I.aM,e1,e2]
     exact⟨by omega,by omega,λh=>by rw[tR h];rfl,x8⟩
    obtain⟨n',ad,m',jG,aR,g1,g2,g3,g4,g5,g6⟩:=TJ (w0:=w0) (l:=r) (s:=s+1) (us:=us++[.one (.sl bl.length sh.length (.const 0) (.const 0) (.var (n+1)) (.var n))]) (zs:=zs) (vals:=vs) aZ.1 xX gz (MP.agree ha (by omega)) hz (by omega) hat (λu hu=>by
     rcases List.mem_append.1 hu with hu|hu
     ·exact(pB u hu).ext ha (by omega) (by simp)
     ·simp at hu;subst hu;exact Oz) Ek
    refine⟨n',ad,m',jG,aR,NX.trans g1,g2,g3,?_,g5,g6⟩
    rw[g4,ff,ie]
    congr 1
    ·exact gG λu hu=>W.jy (pB u hu) ha (λb hb=>j1 hb)
    ·simp only[cr,dY,u6,jr,W.den,A.den,I.cg,I.aM,e1,e2,ks]
     rw[hg4]
     simp
where
 TJ {w0:dm} {F N:Nat->Prop}:∀{l:List bQ} {s n:Nat} {us:List W} {bl:List ar} {k:Nat->List W->List ar->T} {G:dw} {ρ:Env} {m:Nat->Nat} {w:ai} {zs:List Int} {vals:List az},
  (l.all bQ.iu)=true->cp n bl.length ρ bl->Mem w0 ρ m bl w->fX ρ s zs->aO (cH l) zs->s+(cH l).length<=n->iz F N w l zs vals->
  (∀u∈us,W.ok n bl.length ρ u)->
  (p4 l s n us bl k).holds S L G ρ->∃n' ad m' jG aR,dr n bl.length ρ m n' (kA aR) ad m'/\cp n' aR.length ad aR/\Mem w0 ad m' aR w/\jG.map (W.den ad m')=us.map (W.den ρ m)++vals/\(∀u∈jG,W.ok n' aR.length ad u)/\(k n' jG aR).holds S L G ad
 |[],s,n,us,bl,k,G,ρ,m,w,zs,vals,_,hb,hm,_,_,_,hat,pB,ae=>by
  match vals,hat with
  |[],_=>exact⟨n,ρ,m,us,bl,dr.refl _ _ _ _,hb,hm,by simp,pB,ae⟩
 | .d x::r,s,n,us,bl,k,G,ρ,m,w,zs,vals,aZ,hb,hm,hA,hz,hn,hat,pB,ae=>by
  match vals,hat with
  |v::vs,hat=>
   obtain⟨hv,hat⟩:=hat
   have hv:v=x.val zs:=hv
   simp only[cH,bQ.bds]at hz hn
   simp only[dQ]at hn
   obtain⟨i1,i2⟩:=It hz
   rw[D.C8]at i1 i2 hn
   have hs:=D.FK (ρ:=ρ) (m:=m) (N:=n) (nb:=bl.length) x i1 hA (by omega)
   obtain⟨n',ad,m',jG,aR,g1,g2,g3,g4,g5,g6⟩:=TJ (l:=r) (s:=s+x.num) (us:=us++[x.sym s]) (zs:=zs.drop x.num) (by simpa [bQ.iu]using aZ) hb hm (hA.drop x.num) i2 (by omega) hat (λu hu=>by
    rcases List.mem_append.1 hu with hu|hu
    ·exact pB u hu
    ·simp at hu;subst hu;exact hs.1) ae
   exact⟨n',ad,m',jG,aR,g1,g2,g3,by rw[g4,ff,hv];simp[hs.2],g5,g6⟩
 | .rd _::_,_,_,_,_,_,_,_,_,_,_,_,aZ,_,_,_,_,_,_,_,_=>by simp[bQ.iu]at aZ
 | .jW _ _::_,_,_,_,_,_,_,_,_,_,_,_,aZ,_,_,_,_,_,_,_,_=>by simp[bQ.iu]at aZ
end
end Go.bg
namespace Go.bg
open M
theorem II (x:Nat) (r:List Nat):lc (x::r)=2^x*(2*lc r+1):=rfl
theorem akZ (x:Nat) (r:List Nat):lc r<=lc (x::r):=by
 rw[II]
 have h1:1<=2^x:=Nat.one_le_two_pow
 have h2:2*lc r+1<=2^x*(2*lc r+1):=Nat.le_mul_of_pos_left _ h1
 omega
theorem Xp:∀(a:Nat) (l:List Nat),lc (l.drop a)<=lc l
 |0,l=>by simp
 |a+1,[]=>by simp
 |a+1,x::r=>by rw[List.drop_succ_cons];exact hT (Xp a r) (akZ x r)
theorem Xq:∀(k:Nat) (l:List Nat),lc (l.take k)<=lc l
 |0,l=>by simp[lc]
 |k+1,[]=>by simp
 |k+1,x::r=>by
  rw[List.take_succ_cons,II,II]
  exact Ky _ (by have:=Xq k r;omega)
theorem Yy (l:List (List Int)) (a k:Nat):rc ((l.drop a).take k)<=rc l:=by
 unfold rc
 rw[zw,zx]
 exact_mod_cast hT (Xq k _) (Xp a _)
theorem av4 (n:Nat):tr (wV n)=n:=by
 unfold tr wV
 by_cases h:n% 2=0
 ·rw[if_pos h,if_pos (by omega)];omega
 ·rw[if_neg h,if_neg (by omega)];omega
theorem ZD:∀(f n:Nat),0<n->n<=f->n=2^nM f n*(2*(n/2^nM f n/2)+1)
 |0,n,h,h'=>by omega
 |f+1,n,h,h'=>by
  unfold nM
  by_cases hn:n% 2=0
  ·rw[if_pos hn]
   have ih:=ZD f (n/2) (by omega) (by omega)
   have e:n/2^(nM f (n/2)+1)=n/2/2^nM f (n/2):=by rw[w6,w7,Nat.div_div_eq_div_mul]
   rw[e,w6,w7 (2^_) 2,Nat.mul_assoc,<-ih];omega
  ·rw[if_neg hn];simp;omega
theorem O8:∀(f n:Nat),n<=f->lc (aF f n)=n
 |0,n,h=>by
  have:n=0:=by omega
  subst this;rfl
 |f+1,n,h=>by
  unfold aF
  by_cases hn:n=0
  ·rw[if_pos hn,hn];rfl
  ·rw[if_neg hn,II]
   have hp:0<2^nM n n:=Nat.two_pow_pos _
   have hd:n/2^nM n n/2<=f:=by
    have h1:n/2^nM n n<=n:=Nat.div_le_self _ _
    omega
   rw[O8 f _ hd]
   exact(ZD n n (by omega) (a6 _)).symm
theorem Yx {z:Int} (h:0<=z):rc (ab z)=z:=by
 unfold rc ab
 rw[j5]
 have e:((λrow:List Int=>lc (row.map tr))∘λn=>(aF n n).map wV)=id:=by
  funext n
  simp only[F0,j5,id]
  have:(tr∘wV)=id:=by funext k;exact av4 k
  rw[this,Cx,O8 n n (a6 _)]
 rw[e,Cx,O8 _ _ (a6 _)]
 omega
def ke:V->List Nat
 | .w (.one (.sl b _ _ _ _ _))=>[b]
 | .w (.one (.slc b _ _ _))=>[b]
 |_=>[]
def LL (cap dn:I):M Unit:=cond (I.beq cap dn) (pure ()) (eZ 40 [cap,dn])
noncomputable def Jq (sh:List aw) (bl:List ar) (v:V):M I:=
 match v with
 | .w (.one (.con (.slice none 0 0)))=>pure (.const 0)
 | .w (.one (.sl b aQ o ro len cap))=>match bl[b]? with
  |some ([.rows ei off code dn kind],_)=>cond (b7 0 kind&&mc sh ei&&I.beq o off&&aA aQ sh.length) (bind (eZ 22 [code,ro,ro.add len]) λ_=>bind (LL cap dn) λ_=>ev 22 [code,ro,ro.add len] 0 bZ) fail
  |_=>fail
 | .w (.one (.slc b off len cap))=>match ri bl b off (len*sh.length)with
  |some cs=>cond (k0 sh&&bw len 1073741824&&bw len cap&&bw cap 9223372036854775807) (vo sh (lW sh.length len cs) (.const 0)) fail
  |none=>fail
 |_=>fail
noncomputable def PJ (sh:List aw) (e:aN) (bl:List ar) (v:V):M I:=
 match v with
 | .w (.one (.con (.slice none 0 0)))=>pure (.const 0)
 | .w (.one (.sl b aQ o ro len cap))=>match bl[b]? with
  |some ([.rows ei off code dn kind],t)=>cond (aA kind 2&&mc sh ei&&I.beq o (.const 0)&&I.beq off (.const 0)&&I.beq ro (.const 0)&&I.beq cap dn&&aA aQ sh.length&&aA t.1 e) (bind (eZ 22 [code,.const 0,len]) λ_=>ev 22 [code,.const 0,len] 0 bZ) fail
  |_=>fail
 | .w (.one (.slc b off len cap))=>match bl[b]? with
  |some (C,t)=>match ri bl b off (len*sh.length)with
   |some cs=>cond (k0 sh&&bw len 1073741824&&bw len cap&&bw cap 9223372036854775807&&aA off 0&&aA C.length (cap*sh.length)&& !t.2&&aA t.1 e) (vo sh (lW sh.length len cs) (.const 0)) fail
   |none=>fail
  |none=>fail
 |_=>fail
def oU:V->List Nat
 | .w (.one (.slc b _ _ _))=>[b]
 |_=>[]
def ng (w0:dm) (ρ:Env) (m:Nat->Nat) (bl:List ar) (bs os:List Nat) (g:Nat):Prop:=
 (∃b∈bs,m b=g/\∃p,bl[b]?=some p/\aX ρ p.1≠0/\(bJ p.1=true->b∈os))/\(w0.ex g∨w0.ro g∨w0.r.heap.size<=g)
section
variable {S:Nat->List Int->List Int->Prop} {L:V->Env->Prop} {n:Nat} {ρ:Env} {m:Nat->Nat} {bl:List ar} {gl:dO} {w0:dm} {P:bm} {w:ai}
theorem qV.mono {F vh:Nat->Prop} {sh:List aw} {rows:List (List Int)} {v:az} (h:qV F w sh rows v) (hF:∀g,F g->vh g):qV vh w sh rows v:=by
 rcases h with h|⟨g,o,cap,cells,t,fz,h1,h2,h3,h4⟩
 ·exact .inl h
 ·exact .inr ⟨g,o,cap,cells,t,fz,h1,h2,hF g h3,h4⟩
theorem Zb {b off len:Nat} {C:List A} {t:aN×Bool} {cs:List A} {sh:List aw} {rows:List (List Int)} (hb:cp n bl.length ρ bl) (hw:Mem w0 ρ m bl w) (hbl:bl[b]?=some (C,t)) (hcs:ri bl b off (len*sh.length)=some cs)
 (iD:∀row∈rows,bS sh row) (hX:aU sh rows=cs.map (A.den ρ m)):w0.b.heap.size<=m b/\(w0.ex (m b)∨w0.r.heap.size<=m b)/\∃cells:Array az,w.heap[m b]?=some (.cells cells t.1 (0,0))/\kc cells off sh rows/\(t.2=false->cells.size=C.length):=by
 unfold ri at hcs
 rw[hbl]at hcs
 simp only at hcs
 cases hc:(bw (off+len*sh.length) C.length&&bJ C)with
 |false=>rw[hc]at hcs;cases hcs
 |true=>
  rw[hc]at hcs
  simp only[cond_true,aG]at hcs
  simp only[aK]at hc
  have hle:=eb hc.1
  obtain⟨g1,g2,r,hr,g3⟩:=hw.et b C t hbl hc.2
  refine⟨g1,g2,_,g3,⟨iD,(C.take off).map (A.den ρ m),((C.drop off).drop (len*sh.length)).map (A.den ρ m)++r,?_,by simp;omega⟩,λht=>by rw[hr ht];simp⟩
  rw[hX,<-hcs]
  show C.map (A.den ρ m)++r=_
  have e:C=C.take off++((C.drop off).take (len*sh.length)++(C.drop off).drop (len*sh.length)):=by rw[nc,nc]
  conv=>lhs;rw[e]
  simp only[ff,ie]
theorem Fw:ab ((I.const 0).den ρ)=[]:=by rw[I.aM];exact fD
theorem oH:(0:Int)<=bZ:=nP (fE []) (nS (l:=[]) (by simp) (by simp))
theorem Za {sh:List aw} {len:Nat} {cs:List A} (gK:k0 sh=true) (hl:len<=1073741824) (aZ:∀a∈cs,A.ok n bl.length ρ a) (hh:cs.length=len*sh.length):
 aj S L (vo sh (lW sh.length len cs) (.const 0)) n ρ λad n' l=>l.aW n'/\(0<=l.den ad/\l.den ad<=bZ)/\(ab (l.den ad)).length=len/\(∀row∈ab (l.den ad),bS sh row)/\aU sh (ab (l.den ad))=cs.map (A.den ρ m):=by
 have je:=Dk (w:=sh.length) (k:=len) hh
 refine(C4 (nb:=bl.length) (m:=m) gK (rs:=lW sh.length len cs) (c:= .const 0) (λrow hr a ha=>aZ a (Dl row hr a ha)) (I.cz _ _) (by rw[I.aM];exact⟨cn _,oH⟩) (by rw[Fw];intro _ h;simp at h) (by rw[Fw,je.1];simpa using hl)).mono λax n1 l hn ha ⟨p1,bq,c9,cv,dI,dJ,fv⟩=>?_
 rw[Fw,jr]at cv
 rw[cv]
 exact⟨p1,bq,by rw[dI,je.1],dJ,by rw[fv,je.2]⟩
theorem adh {cap dn:I} {α:Type} {x:M α} {R:Env->Nat->α->Prop} (h:(0<=cap.den ρ->0<=dn.den ρ)->aj S L x n ρ R):aj S L (bind (LL cap dn) λ_=>x) n ρ R:=by
 unfold LL
 cases hc:I.beq cap dn with
 |true=>exact h (by rw[I.beq_eq hc];exact id)
 |false=>exact ga h
theorem Yz {sh:List aw} {v:V} {X:az} (hb:cp n bl.length ρ bl) (hw:Mem w0 ρ m bl w) (hv:v.ok n bl.length ρ) (bD:v.rel ρ m X):
 aj S L (Jq sh bl v) n ρ λad n' l=>l.aW n'/\(0<=l.den ad/\l.den ad<=bZ)/\qV (ng w0 ρ m bl (ke v) (oU v)) w sh (ab (l.den ad)) X:=by
 unfold Jq
 split
 ·refine aj.pure ⟨I.cz _ _,by rw[I.aM];exact⟨cn _,oH⟩,.inl ⟨bD,Fw⟩⟩
 ·rename_i b aQ o ro len cap
  split
  ·rename_i ei off code dn kind t hbl
   refine dA λhc=>ga λhk=>?_
   simp only[aK]at hc
   obtain⟨⟨⟨c1,c2⟩,c3⟩,c4⟩:=hc
   have c1:0<kind:=eb c1
   have c2:=uR c2;have c3:=I.beq_eq c3;have c4:=bk c4
   subst c2;subst c3;subst c4
   simp only[cr,dY,aa,I.den_add]at hk
   have EL:(A.sl b sh.length o ro len cap).ok n bl.length ρ:=hv
   obtain⟨ptr,e1,e2,bt⟩:=oT (m:=m) EL
   have bD:X=(A.sl b sh.length o ro len cap).den ρ m:=bD
   obtain⟨x1,⟨x2,gP,gw,gD⟩,⟨gQ,kt,ku,kv⟩,⟨k6,j2⟩,fi,gC⟩:=EL
   have eH:(A.rows sh o code dn kind).ok n bl.length ρ:=hb _ (dK hbl) _ (by simp)
   have hf:aB 22 ([code,ro,ro.add len].map (·.den ρ))=rc (((ab (code.den ρ)).drop (ro.den ρ).toNat).take (len.den ρ).toNat):=by
    simp only[cr,dY,aB,I.den_add]
    congr 2;omega
   have fg:rc (((ab (code.den ρ)).drop (ro.den ρ).toNat).take (len.den ρ).toNat)<=bZ:=by
    have h1:=Yy (ab (code.den ρ)) (ro.den ρ).toNat (len.den ρ).toNat
    rw[Yx eH.2.1.1]at h1
    exact nP h1 eH.2.1.2
   refine adh λHT=>?_
   refine(fl (by rw[hf];exact fE _) (by rw[hf];exact fg)).mono λax n1 l hn ha ⟨k1,k2⟩=>?_
   rw[hf]at k2
   refine⟨k1,by rw[k2];exact⟨fE _,fg⟩,?_⟩
   rw[k2,dW]
   have hlen:(((ab (code.den ρ)).drop (ro.den ρ).toNat).take (len.den ρ).toNat).length=(len.den ρ).toNat:=by simp;omega
   rcases iX (cap.den ρ) 0 with cE|cE
   ·left
    have:=fi cE
    refine⟨by rw[bD,e1,e2 cE,if_pos cE,this];rfl,by rw[this];simp⟩
   ·right
    clear fg
    rcases iX (dn.den ρ) 0 with tN|tN
    ·have:=HT cE;omega
    ·obtain⟨kp,cells,ic,fz,bo,⟨bI,b6⟩,_⟩:=(hw.rws b sh o code dn kind t hbl (by omega)).2 tN
     refine⟨m b,(o.den ρ).toNat+(ro.den ρ).toNat*sh.length,(cap.den ρ).toNat,cells,ic,fz,?_,⟨by rw[hlen];have:=gC cE;omega,by omega⟩,⟨⟨b,by simp[ke],rfl,_,hbl,by rw[nC (by omega) tN];omega,λh=>by cases h⟩,kp⟩,bo,?_⟩
     ·rw[bD,e1,bt cE,hlen,if_neg (by omega)]
     ·exact b6.sub _ _ (by omega)
  ·exact aj.fail
 ·rename_i b off len cap
  split
  ·rename_i cs hcs
   refine dA λhc=>?_
   simp only[aK]at hc
   obtain⟨⟨⟨c1,c2⟩,c3⟩,c4⟩:=hc
   have c2:=eb c2;have c3:=eb c3;have c4:=eb c4
   obtain⟨d1,d2,d3⟩:=Ea hw hb hcs
   refine(Za (m:=m) c1 c2 d2 d1).mono λax n1 l hn ha ⟨k1,k2,k3,k4,pD⟩=>⟨k1,k2,.inr ?_⟩
   have bD:X= .slice (some ⟨m b,off,none⟩) len cap:=bD
   cases hbl:bl[b]? with
   |none=>unfold ri at hcs;rw[hbl]at hcs;cases hcs
   |some q=>
    obtain⟨C,t⟩:=q
    obtain⟨g1,g2,cells,g3,g4,_⟩:=Zb hb hw hbl hcs k4 pD
    have jT:bJ C=true:=by
     unfold ri at hcs
     rw[hbl]at hcs
     simp only at hcs
     cases hc:(bw (off+len*sh.length) C.length&&bJ C)with
     |false=>rw[hc]at hcs;cases hcs
     |true=>simp only[aK]at hc;exact hc.2
    exact⟨m b,off,cap,cells,t.1,(0,0),by rw[bD,k3],⟨by omega,by omega⟩,⟨⟨b,by simp[ke],rfl,_,hbl,by rw[iQ jT];decide,λ_=>by simp[oU]⟩,g2.elim .inl λh=> .inr (.inr h)⟩,g3,g4⟩
  ·exact aj.fail
 ·exact aj.fail
theorem anX {sh:List aw} {e:aN} {v:V} {X:az} (hex:∀g,¬w0.ex g) (hb:cp n bl.length ρ bl) (hw:Mem w0 ρ m bl w) (hv:v.ok n bl.length ρ) (bD:v.rel ρ m X):
 aj S L (PJ sh e bl v) n ρ λad n' l=>l.aW n'/\(0<=l.den ad/\l.den ad<=bZ)/\p3 (λg=>w0.r.heap.size<=g) w sh e (ab (l.den ad)) X:=by
 unfold PJ
 split
 ·refine aj.pure ⟨I.cz _ _,by rw[I.aM];exact⟨cn _,oH⟩,.inl ⟨bD,Fw⟩⟩
 ·rename_i b aQ o ro len cap
  split
  ·rename_i ei off code dn kind t hbl
   refine dA λhc=>ga λhk=>?_
   simp only[aK]at hc
   obtain⟨⟨⟨⟨⟨⟨⟨c1,c2⟩,c3⟩,De⟩,LI⟩,gy⟩,c4⟩,c5⟩:=hc
   have c1:=bk c1
   have c2:=uR c2;have c3:=I.beq_eq c3;have De:=I.beq_eq De;have LI:=I.beq_eq LI;have gy:=I.beq_eq gy;have c4:=bk c4;have c5:=bk c5
   subst c2;subst c3;subst c4;subst De;subst LI;subst gy;subst c5;subst c1
   simp only[cr,dY,aa,I.aM]at hk
   have EL:(A.sl b sh.length (.const 0) (.const 0) len cap).ok n bl.length ρ:=hv
   obtain⟨ptr,e1,e2,bt⟩:=oT (m:=m) EL
   have bD:X=(A.sl b sh.length (.const 0) (.const 0) len cap).den ρ m:=bD
   obtain⟨x1,⟨x2,gP,gw,gD⟩,⟨gQ,kt,ku,kv⟩,⟨k6,j2⟩,fi,gC⟩:=EL
   rw[I.aM]at j2
   have eH:(A.rows sh (.const 0) code cap 2).ok n bl.length ρ:=hb _ (dK hbl) _ (by simp)
   have hf:aB 22 ([code,.const 0,len].map (·.den ρ))=rc (((ab (code.den ρ)).drop 0).take (len.den ρ).toNat):=by
    simp only[cr,dY,aB,I.aM]
    congr 2
   have fg:rc (((ab (code.den ρ)).drop 0).take (len.den ρ).toNat)<=bZ:=by
    have h1:=Yy (ab (code.den ρ)) 0 (len.den ρ).toNat
    rw[Yx eH.2.1.1]at h1
    exact nP h1 eH.2.1.2
   refine(fl (by rw[hf];exact fE _) (by rw[hf];exact fg)).mono λax n1 l hn ha ⟨k1,k2⟩=>?_
   rw[hf]at k2
   refine⟨k1,by rw[k2];exact⟨fE _,fg⟩,?_⟩
   rw[k2,dW]
   have hlen:(((ab (code.den ρ)).drop 0).take (len.den ρ).toNat).length=(len.den ρ).toNat:=by simp;omega
   rcases iX (cap.den ρ) 0 with cE|cE
   ·left
    have:=fi cE
    refine⟨by rw[bD,e1,e2 cE,if_pos cE,this];rfl,by rw[this];simp⟩
   ·right
    clear fg
    obtain⟨kp,cells,ic,fz,bo,⟨bI,b6⟩,dz⟩:=(hw.rws b sh (.const 0) code cap 2 t hbl (by omega)).2 cE
    obtain⟨p0,p1,bq,cv,dI,dJ⟩:=dz (by omega)
    have bq:=bq.two
    subst p0;subst bq
    rw[I.aM]at b6
    refine⟨m b,(cap.den ρ).toNat,cells,?_,⟨by rw[hlen];have:=gC cE;omega,by omega⟩,dJ.elim (λh=>absurd h (hex _)) id,bo,?_,cv⟩
    ·rw[bD,e1,bt cE,hlen,if_neg (by omega)];simp[I.aM]
    ·have:=b6.sub 0 (len.den ρ).toNat (by omega)
     simpa using this
  ·exact aj.fail
 ·rename_i b off len cap
  split
  ·rename_i C t hbl
   split
   ·rename_i cs hcs
    refine dA λhc=>?_
    simp only[aK]at hc
    obtain⟨⟨⟨⟨⟨⟨⟨c1,c2⟩,c3⟩,c4⟩,c5⟩,gy⟩,nk⟩,mF⟩:=hc
    have c2:=eb c2;have c3:=eb c3;have c4:=eb c4
    have c5:=bk c5;have gy:=bk gy;have mF:=bk mF
    subst c5;subst mF
    obtain⟨d1,d2,d3⟩:=Ea hw hb hcs
    refine(Za (m:=m) c1 c2 d2 d1).mono λax n1 l hn ha ⟨k1,k2,k3,k4,pD⟩=>⟨k1,k2,.inr ?_⟩
    have bD:X= .slice (some ⟨m b,0,none⟩) len cap:=bD
    obtain⟨g1,g2,cells,g3,g4,g5⟩:=Zb hb hw hbl hcs k4 pD
    exact⟨m b,cap,cells,by rw[bD,k3],⟨by omega,by omega⟩,g2.elim (λh=>absurd h (hex _)) id,g3,g4,by rw[g5 (by simpa using nk),gy]⟩
   ·exact aj.fail
  ·exact aj.fail
 ·exact aj.fail
end
def Mz (d:D) (v:V):M (List I):=
 match d,v with
 | .bool,.w (.one (.bool e))=>match e with
  | .lit v=>pure [.const (cond v 1 0)]
  |e=>bind (yu e) λl=>pure [l]
 | .int k lo hi,.w (.one (.int aP x))=>cond (decide (k=aP)) (cond (n2 lo hi x) (pure [x.l]) (bind (eZ 39 [x.l,.const lo,.const hi]) λ_=>pure [x.l])) fail
 | .mix l,.w (.agg s)=>uO l s
 | .str,.w (.one (.str l))=>pure [l]
 | .jZ l,.w (.one (.str x))=>match x.dp with|some c=>cond (decide (c=dP (qk l))) (pure []) fail|none=>fail
 | .pC k c,.w (.one (.int aP x))=>match x.l.dp with|some d=>cond (decide (k=aP)&&decide (d=c)) (pure []) fail|none=>fail
 | .agg k n lo hi,.w (.agg l)=>cond (aA l.length n) (match kN k lo hi l with|some r=>pure r|none=>fail) fail
 |_,_=>fail
noncomputable def vB (bl:List ar):List bQ->List V->M (List I)
 |[],[]=>pure []
 | .d x::r,v::s=>bind (Mz x v) λa=>bind (vB bl r s) λb=>pure (a++b)
 | .rd sh::r,v::s=>bind (Jq sh bl v) λa=>bind (vB bl r s) λb=>pure (a::b)
 |_,_=>fail
section
variable {S:Nat->List Int->List Int->Prop} {L:V->Env->Prop} {w0:dm} {P:bm} {w:ai}
theorem P9:∀{sh:List aw} {zs:List Int},bS sh zs->aO (sh.map aw.en) zs/\oD aw.val sh zs=cN sh zs
 |[],[],_=>⟨trivial,rfl⟩
 |c::sh,z::zs,h=>⟨⟨h.1.1,h.1.2,(P9 h.2).1⟩,by simp[cN,(P9 h.2).2]⟩
 |[],_::_,h=>h.elim
 |_::_,[],h=>h.elim
theorem aev {d:D} {v:V} {X:az} {n nb:Nat} {ρ:Env} {m:Nat->Nat} (hv:v.ok n nb ρ) (bD:v.rel ρ m X):aj S L (Mz d v) n ρ λad n' ls=>(∀x∈ls,I.aW n' x)/\aO d.bds (ls.map (·.den ad))/\X=d.val (ls.map (·.den ad)):=by
 unfold Mz
 split
 ·rename_i e
  have bD:X= .bool (e.den ρ):=bD
  have key:aj S L (bind (yu e) λl=>pure [l]) n ρ λad n' ls=>(∀x∈ls,I.aW n' x)/\aO D.bool.bds (ls.map (·.den ad))/\X=D.bool.val (ls.map (·.den ad)):=
   Iw.bind λax n1 l hn ha ⟨g1,g2,g3⟩=>aj.pure ⟨λx hx=>by simp at hx;subst hx;exact g1,⟨g2.1,g2.2,trivial⟩,by rw[bD,g3];rfl⟩
  cases e with
  |lit b=>
   refine aj.pure ⟨λx hx=>by simp at hx;subst hx;exact I.cz _ _,?_,?_⟩
   ·simp only[cr,dY,I.aM,D.bds];cases b<;>exact⟨by decide,by decide,trivial⟩
   ·rw[bD];simp only[cr,dY,I.aM];cases b<;>rfl
  |_=>exact key
 ·rename_i k lo hi aP x
  refine dA λhk=>?_
  have hk:k=aP:=by simpa using hk
  subst hk
  have hv:x.ok n ρ:=hv
  have bD:X= .int k (x.l.den ρ):=bD
  cases hf:n2 lo hi x with
  |true=>
   have:=DA hf hv
   exact aj.pure ⟨λy hy=>by simp at hy;subst hy;exact hv.1,⟨this.1,this.2,trivial⟩,bD⟩
  |false=>
   refine ga λhk=>aj.pure ?_
   simp only[cr,dY,aa,I.aM]at hk
   exact⟨λy hy=>by simp at hy;subst hy;exact hv.1,⟨hk.1,hk.2,trivial⟩,bD⟩
 ·rename_i l s
  have bD:X= .agg (s.map (A.den ρ m)).toArray:=bD
  refine(BU (nb:=nb) (m:=m) hv).mono λax n1 ls hn ha ⟨g1,g2,g3⟩=>?_
  have:=P9 g2
  refine⟨g1,this.1,?_⟩
  rw[bD,<-g3]
  simp only[D.val,this.2]
 ·rename_i l
  have bD:X= .string (bd (U (l.den ρ))):=bD
  have hv:l.aW n/\0<=l.den ρ/\l.den ρ<=ch:=hv
  exact aj.pure ⟨λy hy=>by simp at hy;subst hy;exact hv.1,⟨hv.2.1,hv.2.2,trivial⟩,bD⟩
 ·rename_i l x
  have bD:X= .string (bd (U (x.den ρ))):=bD
  cases hc:x.dp with
  |none=>exact aj.fail
  |some c=>
   refine dA λhd=>aj.pure ⟨λy hy=>by simp at hy,trivial,?_⟩
   rw[bD,Zl (n:=n) hc (by simpa using hd)];rfl
 ·rename_i k c aP x
  have bD:X= .int aP (x.l.den ρ):=bD
  cases hc:x.l.dp with
  |none=>exact aj.fail
  |some d=>
   refine dA λhd=>aj.pure ⟨λy hy=>by simp at hy,trivial,?_⟩
   simp only[aK,decide_eq_true_eq]at hd
   rw[bD,I.gH hc,<-hd.1,hd.2];rfl
 ·rename_i k n' lo hi l
  refine dA λhk=>?_
  have hk:=bk hk
  have bD:X= .agg (l.map (A.den ρ m)).toArray:=bD
  cases hf:kN k lo hi l with
  |none=>exact aj.fail
  |some r=>
   obtain⟨g1,g2,g3⟩:=Mx (m:=m) hf hv
   rw[hk]at g2
   refine aj.pure ⟨Mw hf hv,g2,?_⟩
   rw[bD,g3]
   simp only[D.val]
   rw[mq (by simp[g1,hk])]
 ·exact aj.fail
theorem XG {n:Nat} {ρ ad:Env} {ls:List I} (h:∀x∈ls,I.aW n x) (ha:agree n ρ ad):ls.map (·.den ad)=ls.map (·.den ρ):=gG λx hx=>I.bB ha (h x hx)
theorem ng.later {n nb:Nat} {ρ ad:Env} {m:Nat->Nat} {bl:List ar} {bs os:List Nat} {g:Nat} (hb:cp n nb ρ bl) (ha:agree n ρ ad) (h:ng w0 ad m bl bs os g):ng w0 ρ m bl bs os g:=by
 obtain⟨⟨b,h1,h2,p,h3,h4,h6⟩,h5⟩:=h
 exact⟨⟨b,h1,h2,p,h3,by rw[<-pE (hb p (dK h3)) ha];exact h4,h6⟩,h5⟩
theorem DF {bl:List ar} {m:Nat->Nat}:∀{ds:List bQ} {vs:List V} {xs:List az} {n:Nat} {ρ:Env},cp n bl.length ρ bl->Mem w0 ρ m bl w->(∀v∈vs,V.ok n bl.length ρ v)->ec ρ m vs xs->
 aj S L (vB bl ds vs) n ρ λad n' ls=>(∀x∈ls,I.aW n' x)/\aO (cH ds) (ls.map (·.den ad))/\∀F:Nat->Prop,(∀g,ng w0 ρ m bl (vs.flatMap ke) (vs.flatMap oU) g->F g)->iz F (λ_=>False) w ds (ls.map (·.den ad)) xs
 |[],[],[],n,ρ,_,_,_,_=>aj.pure ⟨λ_ h=>by simp at h,trivial,λ_ _=>trivial⟩
 | .d x::r,v::s,X::xs,n,ρ,hb,hw,hv,hr=>by
  unfold vB
  refine(aev (hv v (by simp)) hr.1).bind λax n1 a hn ha ⟨g1,g2,g3⟩=>?_
  refine(DF (ds:=r) (vs:=s) (xs:=xs) (hb.ext ha hn (a6 _)) (hw.lJ hb ha) (λu hu=>(hv u (cR _ hu)).ext ha hn (a6 _)) (ec.later (λu hu=>hv u (cR _ hu)) ha hr.2)).bind λbx ed b er dk ⟨k1,k2,k3⟩=>aj.pure ⟨λy hy=>?_,?_,λF hF=>?_⟩
  ·rcases List.mem_append.1 hy with hy|hy
   ·exact(g1 y hy).mono er
   ·exact k1 y hy
  ·rw[ff,XG g1 dk]
   exact rz g2 k2
  ·have hl:(a.map (·.den ax)).length=x.num:=by rw[gi g2,D.C8]
   rw[ff,XG g1 dk]
   refine⟨?_,?_⟩
   ·show X=x.val _
    rw[D.ZL x hl];exact g3
   ·show iz F _ w r (List.drop x.num _) xs
    rw[<-hl,CD]
    exact k3 F λg hg=>hF g (by
     have:=ng.later hb ha hg
     obtain⟨⟨b5,h1,h2,p,h4,h5,h6⟩,h3⟩:=this
     exact⟨⟨b5,by simp only[o0,pZ];exact .inr h1,h2,p,h4,h5,λh=>by simp only[o0,pZ];exact .inr (h6 h)⟩,h3⟩)
 | .rd sh::r,v::s,X::xs,n,ρ,hb,hw,hv,hr=>by
  unfold vB
  refine(Yz hb hw (hv v (by simp)) hr.1).bind λax n1 a hn ha ⟨g1,g2,g3⟩=>?_
  refine(DF (ds:=r) (vs:=s) (xs:=xs) (hb.ext ha hn (a6 _)) (hw.lJ hb ha) (λu hu=>(hv u (cR _ hu)).ext ha hn (a6 _)) (ec.later (λu hu=>hv u (cR _ hu)) ha hr.2)).bind λbx ed b er dk ⟨k1,k2,k3⟩=>aj.pure ⟨λy hy=>?_,?_,λF hF=>?_⟩
  ·rcases List.mem_cons.1 hy with rfl|hy
   ·exact g1.mono er
   ·exact k1 y hy
  ·simp only[cr,I.bB dk g1]
   exact⟨g2.1,g2.2,k2⟩
  ·simp only[cr,I.bB dk g1]
   refine⟨?_,?_⟩
   ·show qV F w sh (ab _) X
    exact g3.mono λg hg=>hF g (by
     obtain⟨⟨b5,h1,h2,p,h4,h5,h6⟩,h3⟩:=hg
     exact⟨⟨b5,by simp only[o0,pZ];exact .inl h1,h2,p,h4,h5,λh=>by simp only[o0,pZ];exact .inl (h6 h)⟩,h3⟩)
   ·exact k3 F λg hg=>hF g (by
     have:=ng.later hb ha hg
     obtain⟨⟨b5,h1,h2,p,h4,h5,h6⟩,h3⟩:=this
     exact⟨⟨b5,by simp only[o0,pZ];exact .inr h1,h2,p,h4,h5,λh=>by simp only[o0,pZ];exact .inr (h6 h)⟩,h3⟩)
 |[],_::_,_,_,_,_,_,_,_=>aj.fail
 | .d _::_,[],_,_,_,_,_,_,_=>aj.fail
 | .rd _::_,[],_,_,_,_,_,_,_=>aj.fail
 | .jW _ _::_,[],_,_,_,_,_,_,_=>aj.fail
 | .jW _ _::_,_::_,_,_,_,_,_,_,_=>aj.fail
 |_,[],_::_,_,_,_,_,_,hr=>hr.elim
 |_,_::_,[],_,_,_,_,_,hr=>hr.elim
where
 ec.later {n nb:Nat} {ρ ad:Env} {m:Nat->Nat}:∀{vs:List V} {xs:List az},(∀v∈vs,V.ok n nb ρ v)->agree n ρ ad->ec ρ m vs xs->ec ad m vs xs
 |[],[],_,_,_=>trivial
 |v::vs,x::xs,hv,ha,hr=>⟨V.rel.ext hr.1 (hv v (by simp)) ha (λ_ _=>rfl),ec.later (λu hu=>hv u (cR _ hu)) ha hr.2⟩
 |[],_::_,_,_,hr=>hr.elim
 |_::_,[],_,_,hr=>hr.elim
end
end Go.bg
namespace Go.bg
open M
def vD:List Nat->List ar->List ar
 |[],bl=>bl
 |b::r,bl=>match bl[b]? with
  |some ([.rows sh off code cap (k+1)],t)=>vD r (cO bl b ([.rows sh off code cap 1],t))
  |_=>vD r bl
def sY (us:List W):V:=match us with|[u]=> .w u|l=> .fq l
def sN:List V->Bool
 |[]=>true
 | .w (.one (.slc ..))::_=>false
 |_::r=>sN r
noncomputable def dL.CS (c:dL) (n:Nat) (vs:List V) (bl:List ar) (k:RK):T:=
 vB bl c.args vs n λls n1=>cond (ni c.res&&(!(c.res.any bQ.l8)||sN vs)) (Jj c.pre ls (.call c.id ls n1 (cH c.res) (p4 c.res n1 (n1+(cH c.res).length) [] (cond (c.res.any bQ.l8) (vD (vs.flatMap ke) bl) bl) λed us kf=>k ed (sY us) kf))) .stuck
def aaG (sh:List aw) (b:Nat):V:= .w (.one (.sl b sh.length (.const 0) (.const 0) (.const 0) (.const 0)))
def Rw (rd:Bool) (sh:List aw) (b:Nat) (bl:List ar):Option (List ar):=
 match bl[b]? with
 |some ([],(t,false))=>cond rd (some (cO bl b ([.rows sh (.const 0) (.const 0) (.const 0) 1],(t,false)))) none
 |some ([.rows ei off code cap kind],t)=>cond (mc sh ei&&I.beq off (.const 0)&&I.beq cap (.const 0)&&b7 0 kind) (some bl) none
 |_=>none
def jL (rd:Bool):List bQ->List V->List ar->List V×List ar
 | .rd sh::r,v::s,bl=>match v with
  | .w (.one (.slc b 0 0 0))=>match Rw rd sh b bl with
   |some nX=>(aaG sh b::(jL rd r s nX).1,(jL rd r s nX).2)
   |none=>(v::(jL rd r s bl).1,(jL rd r s bl).2)
  |_=>(v::(jL rd r s bl).1,(jL rd r s bl).2)
 |_::r,v::s,bl=>(v::(jL rd r s bl).1,(jL rd r s bl).2)
 |_,vs,bl=>(vs,bl)
noncomputable def dL.E (c:dL) (n:Nat) (vs:List V) (bl:List ar) (k:RK):T:=
 c.CS n (jL (c.res.any bQ.l8) c.args vs bl).1 (jL (c.res.any bQ.l8) c.args vs bl).2 k
section
variable {S:Nat->List Int->List Int->Prop} {L:V->Env->Prop} {w0:dm} {P:bm}
theorem Mem.zero {ρ:Env} {m:Nat->Nat} {bl:List ar} {w:ai} {b:Nat} {sh:List aw} {t:aN} (h:Mem w0 ρ m bl w) (hbl:bl[b]?=some ([],(t,false))):Mem w0 ρ m (cO bl b ([.rows sh (.const 0) (.const 0) (.const 0) 1],(t,false))) w:=by
 have lq:b<bl.length:=(List.getElem?_eq_some_iff.1 hbl).1
 obtain⟨bo,bI,r,hr,b6⟩:=h.et b [] (t,false) hbl rfl
 have hr:=hr rfl
 subst hr
 have cM:∀(i:Nat) (p:ar),(cO bl b ([.rows sh (.const 0) (.const 0) (.const 0) 1],(t,false)))[i]?=some p->(i=b/\p=([.rows sh (.const 0) (.const 0) (.const 0) 1],(t,false)))∨(i≠b/\bl[i]?=some p):=λi p hi=>by
  rw[ia,nO]at hi
  split at hi
  ·rename_i eo
   subst eo
   simp only[lq,if_true,aG]at hi
   exact .inl ⟨rfl,hi.symm⟩
  ·rename_i eo;exact .inr ⟨λe=>eo e.symm,hi⟩
 have hold:aX ρ ([]:List A)=2:=iQ rfl
 refine⟨h.ext,h.gg,h.iF,h.gI,h.eI,h.fM,λi gZ t' hi gu=>?_,λi ei gj code' fZ lB t' hi=>?_,λi j p q hi hj he=>?_⟩
 ·rcases cM i _ hi with⟨rfl,cD⟩|⟨hne,hi⟩
  ·cases cD;cases gu
  ·exact h.et i gZ t' hi gu
 ·rcases cM i _ hi with⟨rfl,cD⟩|⟨hne,hi⟩
  ·cases cD
   intro _
   simp only[I.aM]
   exact⟨λh0=>by omega,λ_=>⟨bI.elim .inl λh=> .inr (.inr h),_,_,_,b6,⟨cn _,by rw[fD];intro _ h;simp at h,[],[],by simp[fD,aU],rfl⟩,λbU=>by omega⟩⟩
  ·exact h.rws i ei gj _ fZ lB t' hi
 ·rcases cM i _ hi with⟨rfl,cD⟩|⟨hne,mK⟩
  ·rcases cM j _ hj with⟨rfl,oO⟩|⟨aiQ,hj⟩
   ·exact .inl rfl
   ·rcases h.inj i j _ q hbl hj he with h1|h1|h1|h1
    ·exact .inl h1
    ·simp only[hold]at h1;omega
    ·simp only[hold]at h1;omega
    ·exact .inr (.inr (.inr h1))
  ·rcases cM j _ hj with⟨yb,oO⟩|⟨aiQ,hj⟩
   ·subst yb
    rcases h.inj i j p _ mK hbl he with h1|h1|h1|h1
    ·exact .inl h1
    ·simp only[hold]at h1;omega
    ·exact .inr (.inr (.inl h1))
    ·simp only[hold]at h1;omega
   ·exact h.inj i j p q mK hj he
theorem auO {n:Nat} {ρ:Env} {m:Nat->Nat} {w:ai} {rd:Bool} {sh:List aw} {b:Nat} {bl nX:List ar} (h:Rw rd sh b bl=some nX) (hm:Mem w0 ρ m bl w) (hb:cp n bl.length ρ bl):Mem w0 ρ m nX w/\cp n nX.length ρ nX/\nX.length=bl.length/\b<bl.length:=by
 unfold Rw at h
 split at h
 ·rename_i t hbl
  cases rd with
  |false=>cases h
  |true=>
   simp only[cond_true,aG]at h
   subst h
   refine⟨hm.zero hbl,hb.set (λa ha=>?_),ib _ _ _,(List.getElem?_eq_some_iff.1 hbl).1⟩
   have ha:a= .rows sh (.const 0) (.const 0) (.const 0) 1:=by simpa using ha
   subst ha
   refine⟨⟨I.cz _ _,I.cz _ _,I.cz _ _⟩,?_,?_⟩
   ·simp only[I.aM];exact⟨cn _,oH⟩
   ·simp only[I.aM];omega
 ·rename_i ei off code cap kind t hbl
  cases hc:(mc sh ei&&I.beq off (.const 0)&&I.beq cap (.const 0)&&b7 0 kind)with
  |false=>rw[hc]at h;cases h
  |true=>
   rw[hc]at h
   simp only[cond_true,aG]at h
   subst h
   exact⟨hm,hb,rfl,(List.getElem?_eq_some_iff.1 hbl).1⟩
 ·cases h
theorem Rx {n:Nat} {ρ:Env} {m:Nat->Nat} {w:ai} {rd:Bool}:∀{ds:List bQ} {vs:List V} {bl:List ar} {xs:List az},Mem w0 ρ m bl w->cp n bl.length ρ bl->(∀v∈vs,V.ok n bl.length ρ v)->ec ρ m vs xs->
 Mem w0 ρ m (jL rd ds vs bl).2 w/\cp n (jL rd ds vs bl).2.length ρ (jL rd ds vs bl).2/\(jL rd ds vs bl).2.length=bl.length/\(∀v∈(jL rd ds vs bl).1,V.ok n bl.length ρ v)/\ec ρ m (jL rd ds vs bl).1 xs
 |[],vs,bl,xs,hm,hb,hv,hr=>⟨hm,hb,rfl,hv,hr⟩
 |d::r,[],bl,xs,hm,hb,hv,hr=>by
  cases d<;>exact⟨hm,hb,rfl,hv,hr⟩
 |d::r,v::s,bl,xs,hm,hb,hv,hr=>by
  match xs,hr with
  |x::xs,hr=>
  have eN:Mem w0 ρ m (jL rd r s bl).2 w/\cp n (jL rd r s bl).2.length ρ (jL rd r s bl).2/\(jL rd r s bl).2.length=bl.length/\(∀u∈(v::(jL rd r s bl).1),V.ok n bl.length ρ u)/\ec ρ m (v::(jL rd r s bl).1) (x::xs):=by
   obtain⟨g1,g2,g3,g4,g5⟩:=Rx (rd:=rd) (ds:=r) (vs:=s) hm hb (λu hu=>hv u (cR _ hu)) hr.2
   exact⟨g1,g2,g3,λu hu=>by
    rcases List.mem_cons.1 hu with rfl|hu
    ·exact hv u (by simp)
    ·exact g4 u hu,hr.1,g5⟩
  cases d with
  |d y=>exact eN
  |jW sh e=>exact eN
  |rd sh=>
   unfold jL
   split
   ·rename_i b _
    split
    ·rename_i nX hz
     obtain⟨bo,bI,b6,dz⟩:=auO hz hm hb
     obtain⟨g1,g2,g3,g4,g5⟩:=Rx (rd:=rd) (ds:=r) (vs:=s) bo bI (λu hu=>by rw[b6];exact hv u (cR _ hu)) hr.2
     refine⟨g1,g2,by rw[g3,b6],λu hu=>?_,?_,g5⟩
     ·rcases List.mem_cons.1 hu with rfl|hu
      ·refine⟨dz,⟨I.cz _ _,I.cz _ _,I.cz _ _,I.cz _ _⟩,?_⟩
       simp only[I.aM]
       exact⟨⟨by omega,by omega,by omega,by omega⟩,⟨by omega,by omega⟩,λh=>by omega,λ_=>by omega⟩
      ·rw[<-b6];exact g4 u hu
     ·have h0:x= .slice (some ⟨m b,0,none⟩) 0 0:=hr.1
      rw[h0]
      simp[aaG,V.rel,W.den,A.den,I.aM]
    ·exact eN
   ·exact eN
theorem Mem.low {ρ:Env} {m:Nat->Nat} {bl:List ar} {w:ai} {b k:Nat} {sh:List aw} {off code cap:I} {t:aN×Bool} (h:Mem w0 ρ m bl w) (hbl:bl[b]?=some ([.rows sh off code cap (k+1)],t)):Mem w0 ρ m (cO bl b ([.rows sh off code cap 1],t)) w:=by
 have lq:b<bl.length:=(List.getElem?_eq_some_iff.1 hbl).1
 have cM:∀(i:Nat) (p:ar),(cO bl b ([.rows sh off code cap 1],t))[i]?=some p->(i=b/\p=([.rows sh off code cap 1],t))∨(i≠b/\bl[i]?=some p):=λi p hi=>by
  rw[ia,nO]at hi
  split at hi
  ·rename_i eo
   subst eo
   simp only[lq,if_true,aG]at hi
   exact .inl ⟨rfl,hi.symm⟩
  ·rename_i eo;exact .inr ⟨λe=>eo e.symm,hi⟩
 have hk:∀(i:Nat) (p:ar),(cO bl b ([.rows sh off code cap 1],t))[i]?=some p->∃p',bl[i]?=some p'/\aX ρ p.1<=aX ρ p'.1/\(aX ρ p'.1≠0->True):=λi p hi=>by
  rcases cM i p hi with⟨rfl,rfl⟩|⟨hne,hi⟩
  ·refine⟨_,hbl,?_,λ_=>trivial⟩
   simp only[aX];split<;>omega
  ·exact⟨p,hi,a6 _,λ_=>trivial⟩
 refine⟨h.ext,h.gg,h.iF,h.gI,h.eI,h.fM,λi gZ t' hi ho=>?_,λi ei gj code' fZ lB t' hi=>?_,λi j p q hi hj he=>?_⟩
 ·rcases cM i _ hi with⟨rfl,cD⟩|⟨hne,hi⟩
  ·cases cD;cases ho
  ·exact h.et i gZ t' hi ho
 ·rcases cM i _ hi with⟨rfl,cD⟩|⟨hne,hi⟩
  ·cases cD
   intro _
   obtain⟨g1,g2⟩:=h.rws i _ _ _ _ (k+1) _ hbl (by omega)
   refine⟨g1,λhc=>?_⟩
   obtain⟨g3,cells,ic,fz,g4,g5,_⟩:=g2 hc
   exact⟨g3,cells,ic,fz,g4,g5,λh2=>by omega⟩
  ·exact h.rws i ei gj _ fZ lB t' hi
 ·obtain⟨p',h1,h2,_⟩:=hk i p hi
  obtain⟨q',h3,h4,_⟩:=hk j q hj
  rcases h.inj i j p' q' h1 h3 he with h5|h5|h5|h5
  ·exact .inl h5
  ·exact .inr (.inl ⟨by omega,by omega⟩)
  ·exact .inr (.inr (.inl (by omega)))
  ·exact .inr (.inr (.inr (by omega)))
theorem ME {n nb:Nat} {ρ:Env} {m:Nat->Nat} {w:ai}:∀{bs:List Nat} {bl:List ar},Mem w0 ρ m bl w->cp n nb ρ bl->Mem w0 ρ m (vD bs bl) w/\cp n nb ρ (vD bs bl)/\(vD bs bl).length=bl.length/\
 ∀(i:Nat) (p:ar),(vD bs bl)[i]?=some p->∃p',bl[i]?=some p'/\aX ρ p.1<=aX ρ p'.1/\(i∈bs->bJ p'.1=false->aX ρ p.1<=1)
 |[],bl,h,hb=>⟨h,hb,rfl,λi p hi=>⟨p,hi,a6 _,λh=>by simp at h⟩⟩
 |b::r,bl,h,hb=>by
  unfold vD
  split
  ·rename_i sh off code cap k t hbl
   have lq:b<bl.length:=(List.getElem?_eq_some_iff.1 hbl).1
   have hW:cp n nb ρ (cO bl b ([.rows sh off code cap 1],t)):=λp hp a ha=>by
    rw[ia]at hp
    rcases Gf hp with hp|hp
    ·exact hb p hp a ha
    ·subst hp
     simp at ha;subst ha
     have h0:A.ok n nb ρ (.rows sh off code cap (k+1)):=hb _ (dK hbl) _ (by simp)
     exact h0
   obtain⟨g1,g2,g3,g4⟩:=ME (bs:=r) (h.low hbl) hW
   refine⟨g1,g2,by rw[g3,ib],λi p hp=>?_⟩
   obtain⟨p',h1,h2,h3⟩:=g4 i p hp
   by_cases hH:i=b
   ·subst hH
    rw[ia,List.getElem?_set_self lq]at h1
    cases h1
    refine⟨_,hbl,hT h2 (by simp only[aX];split<;>omega),λ_ _=>hT h2 (by simp only[aX];split<;>omega)⟩
   ·rw[ia,List.getElem?_set_ne (λe=>hH e.symm)]at h1
    exact⟨p',h1,h2,λhi ho=>h3 (by simpa [hH]using hi) ho⟩
  ·rename_i hno
   obtain⟨g1,g2,g3,g4⟩:=ME (bs:=r) h hb
   refine⟨g1,g2,g3,λi p hp=>?_⟩
   obtain⟨p',h1,h2,h3⟩:=g4 i p hp
   refine⟨p',h1,h2,λhi ho=>?_⟩
   rcases List.mem_cons.1 hi with rfl|hi
   ·obtain⟨C,t⟩:=p'
    obtain⟨sh,off,code,cap,k,rfl⟩:=I8 ho
    cases k with
    |zero=>
     have:aX ρ [A.rows sh off code cap 0]=0:=by simp[aX]
     simp only[this]at h2;omega
    |succ k=>exact absurd h1 (hno _ _ _ _ _ _)
   ·exact h3 hi ho
theorem P4 {n nb:Nat} {ρ:Env} {m:Nat->Nat} {us:List W} {vals:List az} (h:∀u∈us,W.ok n nb ρ u) (hm:us.map (W.den ρ m)=vals):(sY us).ok n nb ρ/\(sY us).rel ρ m (pQ vals):=by
 subst hm
 unfold sY pQ
 split
 ·exact⟨h _ (by simp),rfl⟩
 ·rename_i hne
  refine⟨h,?_⟩
  split
  ·rename_i x hx
   match us,hne,hx with
   |[u],hne,_=>exact absurd rfl (hne u)
  ·rfl
theorem XW:∀{vs:List V},sN vs=true->vs.flatMap oU=[]
 |[],_=>rfl
 |v::r,h=>by
  unfold sN at h
  split at h
  ·rename_i heq;cases heq
  ·cases h
  ·rename_i hne heq
   cases heq
   rw[o0,XW h,gT]
   unfold oU
   split
   ·exact(hne _ _ _ _ rfl).elim
   ·rfl
theorem XX:∀{vs:List V} {b:Nat},sN vs=true->b∈vs.flatMap ke->∃aQ o ro len cap,V.w (.one (.sl b aQ o ro len cap))∈vs
 |[],b,_,h=>by simp at h
 |v::r,b,h,hb=>by
  simp only[o0,pZ]at hb
  rcases hb with hb|hb
  ·unfold ke at hb
   split at hb
   ·simp at hb;subst hb;exact⟨_,_,_,_,_,CE ..⟩
   ·simp[sN]at h
   ·simp at hb
  ·have h':sN r=true:=by
    unfold sN at h
    split at h
    ·rename_i heq;cases heq
    ·cases h
    ·rename_i heq;cases heq;exact h
   obtain⟨aQ,o,ro,len,cap,h1⟩:=XX h' hb
   exact⟨aQ,o,ro,len,cap,cR _ h1⟩
theorem dL.Td {c:dL} {spec:List Int->List Int->Prop} {f:cy} {TK:Array az} (cw:∀zs rs,spec zs rs->S c.id zs rs) (n:Nat) (vs:List V) (bl:List ar) (k:RK) (G:dw) (ρ:Env) (m:Nat->Nat) (w:ai) (xs:List az) (R':u5->ai->Prop)
 (hc:∀zs,aO (cH c.args) zs->yP c.pre zs->iz (ng w0 ρ m bl (vs.flatMap ke) (vs.flatMap oU)) (λ_=>False) w c.args zs xs->
   iY P f TK w λe w'=>w.Extends w'/\∃rs us,aO (cH c.res) rs/\spec zs rs/\iz (λg=>ng w0 ρ m bl (vs.flatMap ke) (vs.flatMap oU) g∨w.heap.size<=g) (λg=>w.heap.size<=g) w' c.res rs us/\e= .returned (pQ us))
 (hb:cp n bl.length ρ bl) (hw:Mem w0 ρ m bl w) (hv:∀v∈vs,V.ok n bl.length ρ v) (hr:ec ρ m vs xs) (ae:(c.CS n vs bl k).holds S L G ρ) (hk:tw S L w0 k n bl.length ρ m G R'):
 iY P f TK w R':=by
 unfold dL.CS at ae
 obtain⟨ax,n1,ls,e4,dF,⟨g1,g2,g3⟩,ae⟩:=DF (S:=S) (L:=L) hb hw hv hr G _ ae
 cases hq:(ni c.res&&(!(c.res.any bQ.l8)||sN vs))with
 |false=>rw[hq]at ae;exact ae.elim
 |true=>
  rw[hq]at ae
  simp only[cond_true]at ae
  obtain⟨gJ,ae⟩:=preM_holds ae
  simp only[T.holds]at ae
  simp only[aK,qL,js]at hq
  refine(hc _ g2 gJ (g3 _ λ_ h=>h)).mono ?_
  rintro e w' ⟨he,rs,us,r1,r2,fo,rfl⟩
  have ae:=kG ae r1 (cw _ _ r2)
  have hb1:=hb.ext dF e4 (a6 bl.length)
  have ajE:=(hw.grow he).lJ hb dF
  have dk:agree n1 ax (bu ax n1 rs):=agree.bu rs n1 ax
  have hb2:=hb1.ext dk (CA n1 (cH c.res).length) (a6 bl.length)
  have Im:=ajE.lJ hb1 dk
  have hA:fX (bu ax n1 rs) n1 rs:=fX.bu ax n1 rs
  have Ih:rs.length=(cH c.res).length:=gi r1
  have sy:=dF.trans dk e4
  have DU:dr n bl.length ρ m (n1+(cH c.res).length) bl.length (bu ax n1 rs) m:=⟨by omega,sy,a6 _,λ_ _=>rfl⟩
  have fu:∀(i:Nat) (p:ar),bl[i]?=some p->aX (bu ax n1 rs) p.1=aX ρ p.1:=λi p hi=>pE (hb p (dK hi)) sy
  have D8:∀(i:Nat) (p:ar),bl[i]?=some p->w.heap.size<=m i->aX ρ p.1=0:=λi p hi fa=>by
   by_cases h0:aX ρ p.1=0
   ·exact h0
   ·have:=hw.lt hi h0;omega
  have fin:∀aR:List ar,cp (n1+(cH c.res).length) aR.length (bu ax n1 rs) aR->Mem w0 (bu ax n1 rs) m aR w'->aR.length=bl.length->
   (∀(i:Nat) (p:ar),aR[i]?=some p->(ng w0 ρ m bl (vs.flatMap ke) (vs.flatMap oU) (m i)∨w.heap.size<=m i)->(c.res.any bQ.l8)=true->aX (bu ax n1 rs) p.1<=1)->
   (∀(i:Nat) (p:ar),aR[i]?=some p->w.heap.size<=m i->aX (bu ax n1 rs) p.1=0)->
   (p4 c.res n1 (n1+(cH c.res).length) [] aR λed us kf=>k ed (sY us) kf).holds S L G (bu ax n1 rs)->R' (.returned (pQ us)) w':=λaR hW ru hlen dG ahH ae=>by
   have hF:∀g,(ng w0 ρ m bl (vs.flatMap ke) (vs.flatMap oU) g∨w.heap.size<=g)->w0.ex g∨w0.ro g∨w0.r.heap.size<=g:=λg hg=>by
    rcases hg with hg|hg
    ·exact hg.2
    ·exact .inr (.inr (hT hw.eI hg))
   have hN:∀g,w.heap.size<=g->w0.b.heap.size<=g/\w0.r.heap.size<=g:=λg hg=>⟨hT hw.ext.size hg,hT hw.eI hg⟩
   have h1:(c.res.all λb=> !b.l8)=true∨∀(i:Nat) (p:ar),aR[i]?=some p->(ng w0 ρ m bl (vs.flatMap ke) (vs.flatMap oU) (m i)∨w.heap.size<=m i)->aX (bu ax n1 rs) p.1<=1:=by
    cases rr:c.res.any bQ.l8 with
    |true=>exact .inr λi p hi hf=>dG i p hi hf rr
    |false=>
     left
     rw[tf]
     intro b hb
     cases fg:b.l8 with
     |false=>rfl
     |true=>rw[List.any_eq_true.2 ⟨b,hb,fg⟩]at rr;cases rr
   obtain⟨n',ad,m',jG,kf,p1,bq,cv,dI,dJ,fv⟩:=vp (S:=S) (L:=L) hF hN (l:=c.res) (us:=[]) (vals:=us) hq.1 hW ru hA r1 (a6 _) fo h1 (.inr ahH) (λu hu=>by simp at hu) ae
   have kl:=P4 (m:=m') dJ (by simpa using dI)
   exact hk n' (sY jG) kf G ad m' w' (pQ us) (DU.trans (hlen▸p1)) (dU.refl _ _) kl.1 kl.2 bq cv fv
  cases rr:c.res.any bQ.l8 with
  |false=>
   rw[rr]at ae
   exact fin bl hb2 Im rfl (λ_ _ _ _ h=>by rw[rr]at h;cases h) (λi p hi fa=>by rw[fu i p hi];exact D8 i p hi fa) ae
  |true=>
   rw[rr]at ae hq
   obtain⟨f1,f2,f3,f4⟩:=ME (bs:=vs.flatMap ke) Im hb2
   have n6:sN vs=true:=by
    rcases hq.2 with h|h
    ·cases h
    ·exact h
   refine fin _ (by rw[f3];exact f2) f1 f3 (λi p hi hf _=>?_) (λi p hi fa=>?_) ae
   ·obtain⟨p',h1,h2,h3⟩:=f4 i p hi
    rw[fu i p' h1]at h2
    rcases hf with⟨⟨b,VX,Nn,q,sE,oP,ai9⟩,_⟩|fa
    ·obtain⟨aQ,o,ro,len,cap,kk⟩:=XX n6 VX
     rcases hw.inj i b p' q h1 sE (by rw[Nn])with h5|h5|h5|h5
     ·subst h5
      rw[h1]at sE;cases sE
      cases ho:bJ p'.1 with
      |false=>exact h3 VX ho
      |true=>
       have:=ai9 ho
       rw[XW n6]at this
       simp at this
     ·omega
     ·omega
     ·exact absurd h5 oP
    ·have:=D8 i p' h1 fa;omega
   ·obtain⟨p',h1,h2,_⟩:=f4 i p hi
    rw[fu i p' h1]at h2
    have:=D8 i p' h1 fa;omega
theorem dL.aaO {c:dL} {spec:List Int->List Int->Prop} (hc:c.eB P w0.b spec) (cw:∀zs rs,spec zs rs->S c.id zs rs) (n:Nat) (vs:List V) (bl:List ar) (k:RK) (G:dw) (ρ:Env) (m:Nat->Nat) (w:ai) (xs:List az) (R':u5->ai->Prop)
 (hb:cp n bl.length ρ bl) (hw:Mem w0 ρ m bl w) (hv:∀v∈vs,V.ok n bl.length ρ v) (hr:ec ρ m vs xs) (ae:(c.CS n vs bl k).holds S L G ρ) (hk:tw S L w0 k n bl.length ρ m G R'):
 (callFunc c.f xs.toArray).run P w= .ok (.enter c.f xs.toArray) w/\iY P c.f xs.toArray w R':=by
 exact⟨hc.1 _ _,dL.Td cw n vs bl k G ρ m w xs R' (λzs h1 h2 h3=>hc.2 _ w xs zs hw.ext h1 h2 h3) hb hw hv hr ae hk⟩
theorem dL.xh {c:dL} {spec:List Int->List Int->Prop} (hc:c.eB P w0.b spec) (cw:∀zs rs,spec zs rs->S c.id zs rs) (n:Nat) (vs:List V) (bl:List ar) (k:RK) (G:dw) (ρ:Env) (m:Nat->Nat) (w:ai) (xs:List az) (R':u5->ai->Prop)
 (hb:cp n bl.length ρ bl) (hw:Mem w0 ρ m bl w) (hv:∀v∈vs,V.ok n bl.length ρ v) (hr:ec ρ m vs xs) (ae:(c.E n vs bl k).holds S L G ρ) (hk:tw S L w0 k n bl.length ρ m G R'):
 (callFunc c.f xs.toArray).run P w= .ok (.enter c.f xs.toArray) w/\iY P c.f xs.toArray w R':=by
 obtain⟨g1,g2,g3,g4,g5⟩:=Rx (rd:=c.res.any bQ.l8) (ds:=c.args) hw hb hv hr
 exact c.aaO hc cw n _ _ k G ρ m w xs R' g2 g1 (λv hv=>by rw[g3];exact g4 v hv) g5 ae (by rw[g3];exact hk)
end
end Go.bg
namespace Go.bg
open M
def O.aW (n:Nat):O->Prop
 |l x=>x.aW n
 |b x=>x.aW n
theorem O.bB {n:Nat} {ρ ad:Env} (ha:agree n ρ ad):∀{o:O},o.aW n->o.den ad=o.den ρ
 | .l x,h=>I.bB ha h
 | .b x,h=>by simp only[O.den];rw[aS.bB ha h]
theorem X9 {k:cS} {n nb:Nat} {ρ:Env}:∀{l:List A} {os:List O},hM k l=some os->(∀a∈l,A.ok n nb ρ a)->∀o∈os,O.aW n o
 |[],os,h,_=>by simp[hM]at h;subst h;intro x hx;simp at hx
 | .int aP x::s,os,h,aZ=>by
  simp only[hM]at h
  cases hc:decide (k=aP)with
  |false=>simp[hc]at h
  |true=>
   cases hr:hM k s with
   |none=>simp[hc,hr]at h
   |some r'=>
    simp only[hc,hr,cond_true,aG]at h
    subst h
    intro y hy
    rcases List.mem_cons.1 hy with hy|hy
    ·rw[hy]
     have h0:A.ok n nb ρ (.int aP x):=aZ _ (CE ..)
     have h0:x.ok n ρ:=h0
     exact h0.1
    ·exact X9 hr (λa ha=>aZ a (cR _ ha)) y hy
 | .bool _::_,_,h,_=>by simp[hM]at h
 | .ptr .. ::_,_,h,_=>by simp[hM]at h
 | .lG .. ::_,_,h,_=>by simp[hM]at h
 | .gptr .. ::_,_,h,_=>by simp[hM]at h
 | .slc .. ::_,_,h,_=>by simp[hM]at h
 | .con _::_,_,h,_=>by simp[hM]at h
 | .str _::_,_,h,_=>by simp[hM]at h
 | .rows .. ::_,_,h,_=>by simp[hM]at h
 | .sl .. ::_,_,h,_=>by simp[hM]at h
 | .ep .. ::_,_,h,_=>by simp[hM]at h
theorem aw.anV {c:aw} {a:A} {o:O} {n nb:Nat} {ρ:Env} (h:c.out a=some o) (ha:a.ok n nb ρ):o.aW n:=by
 unfold aw.out at h
 split at h
 ·rename_i k _ _ aP x
  cases hk:decide (k=aP)with
  |false=>simp[hk]at h
  |true=>
   simp only[hk,cond_true,aG]at h
   subst h
   have ha:x.ok n ρ:=ha
   exact ha.1
 ·simp only[aG]at h;subst h
  exact ha.1
 ·simp only[aG]at h;subst h
  exact ha
 ·cases h
theorem Yc {n nb:Nat} {ρ:Env}:∀{d:List aw} {l:List A} {os:List O},mU d l=some os->(∀a∈l,A.ok n nb ρ a)->∀o∈os,O.aW n o
 |[],[],os,h,_=>by simp[mU]at h;subst h;intro x hx;simp at hx
 |c::d,a::s,os,h,aZ=>by
  simp only[mU]at h
  cases h1:c.out a with
  |none=>simp[h1]at h
  |some o=>
   cases h2:mU d s with
   |none=>simp[h1,h2]at h
   |some X7=>
    simp only[h1,h2,aG]at h
    subst h
    intro y hy
    rcases List.mem_cons.1 hy with hy|hy
    ·rw[hy];exact aw.anV h1 (aZ a (CE ..))
    ·exact Yc h2 (λb hb=>aZ b (cR _ hb)) y hy
 |[],_::_,_,h,_=>by simp[mU]at h
 |_::_,[],_,h,_=>by simp[mU]at h
theorem anU {d:D} {u:W} {os:List O} {n nb:Nat} {ρ:Env} (h:pF d u=some os) (hu:u.ok n nb ρ):∀o∈os,O.aW n o:=by
 unfold pF at h
 split at h
 ·rename_i k _ _ aP x
  cases hk:decide (k=aP)with
  |false=>simp[hk]at h
  |true=>
   simp only[hk,cond_true,aG]at h
   subst h
   have hu:x.ok n ρ:=hu
   intro o ho;simp at ho;subst ho;exact hu.1
 ·simp only[aG]at h;subst h
  intro o ho;simp at ho;subst ho;exact hu
 ·rename_i k n' _ _ l
  cases hk:aA l.length n' with
  |false=>simp[hk]at h
  |true=>
   simp only[hk,cond_true]at h
   exact X9 h hu
 ·simp only[aG]at h;subst h
  intro o ho;simp at ho;subst ho;exact hu.1
 ·exact Yc h hu
 ·cases h
noncomputable def BR (bl:List ar):bQ->W->M (List O)
 | .d x,u=>match pF x u with|some os=>pure os|none=>fail
 | .rd sh,u=>bind (Jq sh bl (.w u)) λl=>pure [.l l]
 | .jW sh e,u=>bind (PJ sh e bl (.w u)) λl=>pure [.l l]
noncomputable def Jr (bl:List ar):List bQ->List W->M (List O)
 |[],[]=>pure []
 |b::r,u::s=>bind (BR bl b u) λa=>bind (Jr bl r s) λc=>pure (a++c)
 |_,_=>fail
noncomputable def Fz (bl:List ar) (ds:List bQ) (v:V):M (List O):=
 match v with
 | .w u=>match ds with|[d]=>BR bl d u|_=>fail
 | .fq l=>match ds with|[_]=>fail|_=>Jr bl ds l
 |_=>fail
def O.toW:O->W
 |l x=> .one (.int .u8 ⟨x,0,0⟩)
 |b x=> .one (.bool x)
def W.toO:W->O
 | .one (.int _ x)=> .l x.l
 | .one (.bool e)=> .b e
 |_=> .l (.const 0)
theorem O.toW_toO (o:O):o.toW.toO=o:=by cases o<;>rfl
def wD (os:List O):V:= .fq (os.map O.toW)
def qU (K:List Int->Prop) (v:V) (ρ:Env):Prop:=
 match v with
 | .fq l=>K (l.map λu=>u.toO.den ρ)
 |_=>False
theorem Le {K:List Int->Prop} {os:List O} {ρ:Env}:qU K (wD os) ρ=K (os.map (O.den ρ)):=by
 unfold qU wD
 simp only[j5]
 congr 1
 exact gG λo _=>by simp[F0,O.toW_toO]
section
variable {S:Nat->List Int->List Int->Prop} {L:V->Env->Prop} {w0:dm} {P:bm} {w:ai}
theorem p3.mono {N CW:Nat->Prop} {sh:List aw} {e:aN} {rows:List (List Int)} {v:az} (h:p3 N w sh e rows v) (hN:∀g,N g->CW g):p3 CW w sh e rows v:=by
 rcases h with h|⟨g,cap,cells,h1,h2,h3,h4⟩
 ·exact .inl h
 ·exact .inr ⟨g,cap,cells,h1,h2,hN g h3,h4⟩
def KY (w0:dm) (g:Nat):Prop:=w0.ex g∨w0.ro g∨w0.r.heap.size<=g
theorem YF {d:bQ} {u:W} {n:Nat} {ρ:Env} {m:Nat->Nat} {bl:List ar} (hex:∀g,¬w0.ex g) (hb:cp n bl.length ρ bl) (hw:Mem w0 ρ m bl w) (hu:u.ok n bl.length ρ):
 aj S L (BR bl d u) n ρ λad n' os=>(∀o∈os,O.aW n' o)/\os.length=d.num/\(d.iu=false->aO d.bds (os.map (O.den ad)))/\∀zs,d.at (KY w0) (λg=>w0.r.heap.size<=g) w (os.map (O.den ad)++zs) (u.den ρ m):=by
 cases d with
 |d x=>
  unfold BR
  cases ho:pF x u with
  |none=>simp only[ho];exact aj.fail
  |some os=>
   simp only[ho]
   have:=PI (ρ:=ρ) (m:=m) ho
   exact aj.pure ⟨anU ho hu,this.1,λh=>(by simp[bQ.iu]at h),λzs=>(this.2 zs).symm⟩
 |rd sh=>
  unfold BR
  refine(Yz (v:= .w u) hb hw hu rfl).bind λax n1 l hn ha ⟨g1,g2,g3⟩=>aj.pure ⟨λo ho=>by simp at ho;subst ho;exact g1,rfl,λ_=>⟨g2.1,g2.2,trivial⟩,λzs=>?_⟩
  exact g3.mono λg hg=>hg.2
 |jW sh e=>
  unfold BR
  refine(anX (v:= .w u) hex hb hw hu rfl).bind λax n1 l hn ha ⟨g1,g2,g3⟩=>aj.pure ⟨λo ho=>by simp at ho;subst ho;exact g1,rfl,λ_=>⟨g2.1,g2.2,trivial⟩,λzs=>g3⟩
theorem al1 {n:Nat} {ρ ad:Env} {os:List O} (h:∀x∈os,O.aW n x) (ha:agree n ρ ad):os.map (O.den ad)=os.map (O.den ρ):=gG λx hx=>O.bB ha (h x hx)
theorem YG {m:Nat->Nat} {bl:List ar} (hex:∀g,¬w0.ex g):∀{ds:List bQ} {us:List W} {n:Nat} {ρ:Env},cp n bl.length ρ bl->Mem w0 ρ m bl w->(∀u∈us,W.ok n bl.length ρ u)->
 aj S L (Jr bl ds us) n ρ λad n' os=>(∀o∈os,O.aW n' o)/\iz (KY w0) (λg=>w0.r.heap.size<=g) w ds (os.map (O.den ad)) (us.map (W.den ρ m))
 |[],[],n,ρ,_,_,_=>aj.pure ⟨λ_ h=>by simp at h,trivial⟩
 |b::r,u::s,n,ρ,hb,hw,hu=>by
  unfold Jr
  refine(YF hex hb hw (hu u (by simp))).bind λax n1 a hn ha ⟨g1,g2,_,g3⟩=>?_
  refine(YG (ds:=r) (us:=s) hex (hb.ext ha hn (a6 _)) (hw.lJ hb ha) (λx hx=>(hu x (cR _ hx)).ext ha hn (a6 _))).bind λbx ed c er dk ⟨k1,k2⟩=>aj.pure ⟨λo ho=>?_,?_⟩
  ·rcases List.mem_append.1 ho with ho|ho
   ·have:=g1 o ho
    cases o with
    |l x=>exact I.aW.mono this er
    |b x=>exact aS.aW.mono er this
   ·exact k1 o ho
  ·rw[ff,al1 g1 dk]
   refine⟨g3 _,?_⟩
   rw[<-g2,<-j6 (f:=O.den ax) (as:=a),CD]
   have e:s.map (W.den ρ m)=s.map (W.den ax m):=gG λx hx=>(W.jy (hu x (cR _ hx)) ha (λ_ _=>rfl)).symm
   rw[e];exact k2
 |[],_::_,_,_,_,_,_=>aj.fail
 |_::_,[],_,_,_,_,_=>aj.fail
theorem P2 {ds:List bQ} {v:V} {val:az} {n:Nat} {ρ:Env} {m:Nat->Nat} {bl:List ar} (hex:∀g,¬w0.ex g) (hb:cp n bl.length ρ bl) (hw:Mem w0 ρ m bl w) (hv:v.ok n bl.length ρ) (hr:v.rel ρ m val):
 aj S L (Fz bl ds v) n ρ λad n' os=>∃us,val=pQ us/\iz (KY w0) (λg=>w0.r.heap.size<=g) w ds (os.map (O.den ad)) us:=by
 unfold Fz
 split
 ·rename_i u
  split
  ·rename_i d
   refine(YF hex hb hw hv).mono λax n1 os hn ha ⟨g1,g2,_,g3⟩=>⟨[u.den ρ m],hr,?_,trivial⟩
   have:=g3 []
   rwa [gT]at this
  ·exact aj.fail
 ·rename_i l
  split
  ·exact aj.fail
  ·rename_i hne
   refine(YG (ds:=ds) hex hb hw hv).mono λax n1 os hn ha ⟨g1,g2⟩=>⟨l.map (W.den ρ m),?_,g2⟩
   have hr:val= .tuple (l.map (W.den ρ m)).toArray:=hr
   rw[hr]
   unfold pQ
   split
   ·rename_i x hx
    exfalso
    have hl:l.length=1:=by have:=congrArg kA hx;simpa using this
    match ds,l,hl,g2,hne with
    |[d],[u],_,_,hne=>exact hne d rfl
    |[],[u],_,g2,_=>simp[iz]at g2
    |_::_::_,[u],_,g2,_=>simp[iz]at g2
   ·rfl
 ·exact aj.fail
def Bp (i:Nat):I:=⟨0,[(1,i)]⟩
theorem IS (ρ:Env) (zs:List Int):((cA zs.length).map Bp).map (·.den (bu ρ 0 zs))=zs:=by
 refine Xz (by simp) λj hj=>?_
 have hj:j<zs.length:=by simpa using hj
 have:=fX.bu ρ 0 zs j hj
 rw[oE]at this
 simp[Bp,I.den,gq,af,hj]at this⊢
 exact this
noncomputable def dL.tree (bc:jO) (P:bm) (gl:dO) (cal:eg) (li:cy->Nat->Option dC) (rounds d:Nat) (c:dL):T:=
 cond (ni c.args&& !(c.args.any bQ.ny)) (Ji c.pre ((cA (cH c.args).length).map Bp) (p4 c.args 0 (cH c.args).length [] [] λn us bl=>vr bc P gl cal li rounds d c.f n (us.map V.w) bl λn' v aR=>Fz aR c.res v n' λos _=> .leaf (wD os))) .stuck
theorem K7 {ρ:Env} {m:Nat->Nat}:∀{us:List W} {xs:List az},us.map (W.den ρ m)=xs->ec ρ m (us.map V.w) xs
 |[],[],_=>trivial
 |u::us,x::xs,h=>by
  simp only[cr,hS]at h
  exact⟨h.1.symm,K7 h.2⟩
 |[],_::_,h=>by simp at h
 |_::_,[],h=>by simp at h
noncomputable def iA:List dL->jO
 |[],_=>none
 |c::r,f=>cond (aA c.f f) (some c.E) (iA r f)
theorem kI {wb:ai} {r:ai} {ex ro:Nat->Prop}:∀{l:List dL},(∀c∈l,c.eB P wb (S c.id))->oF S L ⟨wb,r,ex,ro,[]⟩ P (iA l)
 |[],_=>λf g h=>by cases h
 |c::l,h=>λf g hf=>by
  unfold iA at hf
  cases hb:aA c.f f with
  |true=>
   rw[hb]at hf
   simp only[cond_true,aG]at hf
   have:=bk hb
   subst this;subst hf
   intro n vs bl k G ρ m w xs R' h1 h2 h3 h4 h5 h6
   exact dL.xh (w0:=⟨wb,r,ex,ro,[]⟩) (h c (by simp)) (λ_ _ h=>h) n vs bl k G ρ m w xs R' h1 h2 h3 h4 h5 h6
  |false=>
   rw[hb]at hf
   exact kI (λc hc=>h c (cR _ hc)) f g hf
theorem dL.Fe {wb:ai} {gl:dO} {c:dL} {bc:jO} {cal:eg} {li:cy->Nat->Option dC} {rounds d:Nat} {spec:List Int->List Int->Prop} (hm:P.follows .mixedOrders=true) (cx:∀r ex ro,fk S P gl ⟨wb,r,ex,ro,[]⟩ cal) (hg:eK gl ⟨wb,wb,λ_=>False,λ_=>False,[]⟩)
 (iB:∀(L:V->Env->Prop) (r:ai) (ro:Nat->Prop),oF S L ⟨wb,r,λ_=>False,ro,[]⟩ P bc) (hf:∀args w,(callFunc c.f args).run P w= .ok (.enter c.f args) w)
 (ht:mB (cH c.args) λzs=>(c.tree bc P gl cal li rounds d).holds S (qU λrs=>aO (cH c.res) rs/\spec zs rs) (λ_ _=>False) (bu (λ_=>0) 0 zs)):c.eB P wb spec:=by
 refine⟨hf,λF w vs zs hw hz EB hat=>?_⟩
 have ae:=kG ht hz
 have lz:=gi hz
 unfold dL.tree at ae
 cases hq:(ni c.args&& !(c.args.any bQ.ny))with
 |false=>rw[hq]at ae;exact ae.elim
 |true=>
  rw[hq]at ae
  simp only[cond_true]at ae
  have ae:=preA_holds ae (by rw[<-lz,IS];exact EB)
  simp only[aK,js]at hq
  have kk:Mem ⟨wb,w,λ_=>False,F,[]⟩ (bu (λ_=>0) 0 zs) (λ_=>0) [] w:=⟨hw,rfl,rfl,rfl,a6 _,λ_ _ _=>rfl,λi cs t h=>by simp at h,λi sh off code cap kind t h=>by simp at h,λi j p q h=>by simp at h⟩
  have hall:(c.args.all λb=> !b.ny)=true:=by
   rw[tf]
   intro b hb
   cases fg:b.ny with
   |false=>rfl
   |true=>rw[List.any_eq_true.2 ⟨b,hb,fg⟩]at hq;cases hq.2
  obtain⟨n',ad,m',us,bl,p1,bq,cv,dI,dJ,fv⟩:=vp (S:=S) (L:=_) (w0:=⟨wb,w,λ_=>False,F,[]⟩) (F:=F) (N:=λ_=>False) (λg hg=> .inr (.inl hg)) (λg hg=>hg.elim) (l:=c.args) (s:=0) (us:=[]) (bl:=[]) (m:=λ_=>0) hq.1 (λp hp=>by simp at hp) kk (fX.bu _ 0 zs) hz (by omega) hat (.inr λi p h=>by simp at h) (.inl hall) (λu hu=>by simp at hu) ae
  have NF:eK gl ⟨wb,w,λ_=>False,F,[]⟩:=hg
  refine(Di (S:=S) (w0:=⟨wb,w,λ_=>False,F,[]⟩) rfl hm (cx w (λ_=>False) F) NF (iB _ _ _) d c.f n' (us.map V.w) bl _ _ ad m' w vs _ bq cv (λv hv=>by
   obtain⟨u,hu,rfl⟩:=List.mem_map.1 hv
   exact dJ u hu) (K7 (by simpa using dI)) fv ?_).2
  intro ed v aR dx bx ey w' val h1 h2 h3 h4 h5 h6 h7
  obtain⟨fI,mQ,os,rq,q7,⟨xs,hx1,hx2⟩,hl⟩:=P2 (S:=S) (w0:=⟨wb,w,λ_=>False,F,[]⟩) (λg hg=>hg) h5 h6 h3 h4 dx _ h7
  have hl:qU _ (wD os) fI:=hl
  rw[Le]at hl
  refine⟨?_,os.map (O.den fI),xs,hl.1,hl.2,?_,by rw[hx1]⟩
  ·have lr:∀i:Nat,i<w.heap.size->w'.heap[i]?=w.heap[i]?:=λi hi=>h6.fM i hi λh=>h
   exact⟨h6.gg,h6.iF,h6.gI,h6.eI,λa ha=>by simp only[iW,lr a.block ha],λa ha=>by simp only[ti,lr a.block ha],lr⟩
  ·exact zR (λg hg=>by
    rcases hg with hg|hg|hg
    ·exact hg.elim
    ·exact .inl hg
    ·exact .inr hg) (λg hg=>hg) hx2
where
 zR {F vh N CW:Nat->Prop} {w:ai} (hF:∀g,F g->vh g) (hN:∀g,N g->CW g):∀{ds:List bQ} {zs:List Int} {vs:List az},iz F N w ds zs vs->iz vh CW w ds zs vs
 |[],_,[],_=>trivial
 | .d x::r,zs,v::vs,h=>⟨h.1,zR hF hN h.2⟩
 | .rd sh::r,zs,v::vs,h=>⟨qV.mono h.1 hF,zR hF hN h.2⟩
 | .jW sh e::r,zs,v::vs,h=>⟨p3.mono h.1 hN,zR hF hN h.2⟩
 |[],_,_::_,h=>h.elim
 |_::_,_,[],h=>by simp[iz]at h
end
def bQ.nums:bQ->List Nat
 | .d x=>x.nums
 |_=>[1]
def uG (ds:List bQ):List Nat:=ds.flatMap bQ.nums
def Ld (ds:List bQ) (K:List (List Int)->Prop) (v:V) (st:gp) (aE:gn):Prop:=
 match v with
 | .fq l=>K ((gk (uG ds) (l.map W.toO)).map (BY st aE))
 |_=>False
theorem aa8 {ds:List bQ} {K:List (List Int)->Prop} (v:V) (ρ:Env) (st:gp) (aE:gn) (ht:mA ρ st aE) (h:Ld ds K v st aE):qU (λrs=>K (gk (uG ds) rs)) v ρ:=by
 unfold Ld at h
 unfold qU
 split at h
 ·rename_i l
  have e:l.map (λu=>u.toO.den ρ)=(l.map W.toO).map (O.den ρ):=by simp
  simp only[e]
  rw[JK]
  rwa [show(gk (uG ds) (l.map W.toO)).map (BY st aE)=(gk (uG ds) (l.map W.toO)).map (List.map (O.den ρ)) from gG λo _=>Y4 ht o]at h
 ·exact h.elim
def ja (sh:Nat->List Nat×List Nat) (lsh:Nat->List Nat) (S:Nat->List (List Int)->List (List Int)->Prop) (K:List (List Int)->List (List Int)->Prop) (lens:List Nat) (bds:List (Int×Int)) (ds:List bQ) (t:T):Prop:=
 vn lens 0 bds (λst aE zs=>t.kQ sh lsh S (Ld ds (K zs)) (λ_ _=>False) st aE) [] []
theorem Lj {sh:Nat->List Nat×List Nat} {lsh:Nat->List Nat} {S:Nat->List (List Int)->List (List Int)->Prop} {K:List (List Int)->List (List Int)->Prop} {lens:List Nat} {bds:List (Int×Int)} {ds:List bQ} {t:T}
 (h:ja sh lsh S K lens bds ds t):mB bds λzs=>t.holds (cl sh S) (qU λrs=>K (gk lens zs) (gk (uG ds) rs)) (λ_ _=>False) (bu (λ_=>0) 0 zs):=by
 refine se λzs hi=>?_
 obtain⟨st,aE,h1,h2⟩:=zP h (show mA (λ_=>0) [] [] from⟨trivial,λ_=>rfl⟩) hi
 exact lx (λv ρ st aE ht hl=>aa8 v ρ st aE ht hl) t _ _ _ st aE (λ_ _ hf=>hf.elim) h1 h2
end Go.bg
namespace Go.bg
open M
structure j9 where
 c:bz
 pre:Nat
def j9.eB (P:bm) (wb:ai) (q:j9) (spec:List Int->List Int->Prop):Prop:=
 ∀zs,aO (de q.c.args) zs->aa q.pre zs->∃rs,aO (de q.c.res) rs/\spec zs rs/\∀w,wb.Extends w->xi P q.c.f (lM q.c.args zs).toArray w (e6 q.c.res rs)
noncomputable def j9.M (q:j9):List ar->List V->M V:=λ_ vs n k=>
 match pk q.c.args vs with
 |some l=> .mG q.pre l (.call q.c.id l n (de q.c.res) (k (BS q.c.res n) (n+(de q.c.res).length)))
 |none=> .stuck
noncomputable def cF (Jm:List j9) (cons:List bz):eg:=λf=>
 match Jm.filter (λq=>aA f q.c.f)with
 |[]=>G8 cons f
 |l=>some λbl vs n k=>match l.find? (λq=>(pk q.c.args vs).isSome)with
  |some q=>q.M bl vs n k
  |none=>match G8 cons f with
   |some g=>g bl vs n k
   |none=> .stuck
section
variable {S:Nat->List Int->List Int->Prop} {P:bm} {gl:dO} {w0:dm}
theorem j9.snd {q:j9} {spec:List Int->List Int->Prop} (hc:q.eB P w0.b spec) (cw:∀zs rs,spec zs rs->S q.c.id zs rs) (L:V->Env->Prop) (n:Nat) (ρ:Env) (m:Nat->Nat) (bl:List ar) (vs:List V) (xs:List az)
 (oQ:∀v∈vs,V.ok n bl.length ρ v) (hr:ec ρ m vs xs):aj S L (q.M bl vs) n ρ λad n' v=>v.ok n' bl.length ad/\∃val,v.rel ad m val/\∀w,Mem w0 ρ m bl w->xi P q.c.f xs.toArray w val:=by
 intro G k hk
 unfold j9.M at hk
 cases hl:pk q.c.args vs with
 |none=>simp[hl,T.holds]at hk
 |some l=>
  simp only[hl]at hk
  obtain⟨jR,hk⟩:=hk
  obtain⟨h1,h2⟩:=MA hl oQ hr
  obtain⟨rs,r1,r2,fo⟩:=hc _ h1 jR
  have ae:=LK hk r1 (cw _ _ r2)
  have hlen:=gi r1
  have kl:=P3 (m:=m) (nb:=bl.length) (N:=n+(de q.c.res).length) r1 (fX.bu ρ n rs) (a6 _)
  refine⟨_,_,_,CA _ _,agree.bu rs n ρ,⟨kl.1,_,kl.2,λw hw=>?_⟩,ae⟩
  rw[h2]at fo
  exact fo w hw.ext
theorem ct {Jm:List j9} {cons:List bz} (hq:∀q∈Jm,q.eB P w0.b (S q.c.id)) (hc:∀c∈cons,c.cP P w0.b (S c.id)):fk S P gl w0 (cF Jm cons):=by
 intro f g px L n ρ m bl vs xs h1 h2 h3 h4
 unfold cF at px
 split at px
 ·exact T5 (gl:=gl) hc f g px L n ρ m bl vs xs h1 h2 h3 h4
 ·rename_i l hl
  simp only[aG]at px
  subst px
  intro G k hk
  simp only at hk
  split at hk
  ·rename_i q Nr
   have dH:=List.mem_filter.1 (CC Nr)
   have Ee:=bk dH.2
   subst Ee
   exact j9.snd (hq q dH.1) (λ_ _ h=>h) L n ρ m bl vs xs h3 h4 G k hk
  ·split at hk
   ·rename_i jb sB
    exact T5 (gl:=gl) hc f jb sB L n ρ m bl vs xs h1 h2 h3 h4 G k hk
   ·exact hk.elim
def idx (c:Int):List UInt8->Int
 |[]=>-1
 |b::r=>if(b.toNat:Int)=c then 0 else if idx c r<0 then-1 else idx c r+1
theorem ES (c:Int):∀l:List UInt8,-1<=idx c l/\idx c l<l.length
 |[]=>by simp[idx]
 |b::r=>by
  have:=ES c r
  simp only[idx,dv]
  split
  ·omega
  ·split<;>omega
theorem find_range (p:Nat->Bool):∀n:Nat,(cA (n+1)).find? p=if p 0=true then some 0 else((cA n).find? λi=>p (i+1)).map (·+1):=λn=>by
 rw[aaB,KH]
 cases h:p 0 with
 |true=>simp
 |false=>
  simp only[o3,if_false]
  rw[avI];rfl
theorem W4 (c:Int):∀l:List UInt8,(match(cA l.length).find? λi=>decide (((l.getD i 0).toNat:Int)=c)with|some i=>(i:Int)|none=>-1)=idx c l
 |[]=>rfl
 |b::r=>by
  have ih:=W4 c r
  rw[dv,find_range]
  simp only[qK,Cz,decide_eq_true_eq,idx]
  by_cases h:(b.toNat:Int)=c
  ·simp[h]
  ·simp only[if_neg h]
   have hr:=ES c r
   cases hf:(cA r.length).find? λi=>decide (((r.getD i 0).toNat:Int)=c)with
   |none=>rw[hf]at ih;simp only[Option.map_none]at ih⊢;rw[<-ih];simp
   |some i=>rw[hf]at ih;simp only[Option.map_some]at ih⊢;rw[<-ih,if_neg (by omega)];rfl
theorem find_congr {α:Type} {p q:α->Bool}:∀{l:List α},(∀x∈l,p x=q x)->l.find? p=l.find? q
 |[],_=>rfl
 |x::r,h=>by
  rw[KH,KH,h x (by simp),find_congr λy hy=>h y (cR _ hy)]
theorem ap2 (l:List UInt8) (c:Int) (h0:0<=c) (h1:c<=255) (w:ai):(RY #[.string (bd l),.int .u8 c]).run P w= .ok (.int .i64 (idx c l)) w:=by
 have hsz:(bd l).size=l.length:=pc l
 have vR:∀i,i<l.length->(bd l)[i]! =l.getD i 0:=λi hi=>by
  have:i<(bd l).size:=by omega
  rw[getElem!_pos (bd l) i this]
  simp only[af,jt hi,qN]
  rfl
 have e:((cA (bd l).size).find? λi=>(bd l)[i]! ==c.toNat.toUInt8)=(cA l.length).find? λi=>decide (((l.getD i 0).toNat:Int)=c):=by
  rw[hsz]
  refine find_congr λi hi=>?_
  have hi:=List.mem_range.1 hi
  rw[vR i hi]
  have hc:c.toNat.toUInt8.toNat=c.toNat:=by simp;omega
  rw[Bool.eq_iff_iff]
  simp only[beq_iff_eq,decide_eq_true_eq]
  rw[<-Z2,hc]
  omega
 have hf:=W4 c l
 have hd:RY #[.string (bd l),.int .u8 c]=(match(cA (bd l).size).find? (λi=>(bd l)[i]! ==c.toNat.toUInt8)with
  |some i=>zv (goInt i)
  |none=>zv (goInt (-1)):Sem az):=rfl
 rw[hd,e,<-hf]
 cases(cA l.length).find? λi=>decide (((l.getD i 0).toNat:Int)=c)<;>rfl
theorem ajQ {f:cy} {fn:Func} {id:Nat} {wb:ai} (hf:P.funcs[f]?=some fn) (Ew:(fn.name== "runtime.NumGoroutine")=false) (hb:fn.body.isNone=true) (hn:Ku fn=none) (he:Kv fn=some RY):
 (⟨f,id,[.str,.int .u8 0 255],[.int .i64 (-1) 9223372036854775807]⟩:bz).cP P wb λzs rs=>rs=[idx (zs.getD 1 0) (U (zs.getD 0 0))]:=by
 intro zs hz
 match zs,hz with
 |[s,c],hz=>
  obtain⟨s1,s2,c1,c2,_⟩:=hz
  have hr:=ES c (U s)
  have hl:(U s).length<=9223372036854775807:=by have:=tu s2;unfold fQ at this;omega
  refine⟨[idx c (U s)],(show aO [((-1:Int),9223372036854775807)] _ from⟨by omega,by omega,trivial⟩),rfl,λw _=> .inl ?_⟩
  rw[run_callFunc_extern hf Ew hb hn he]
  have:=ap2 (P:=P) (U s) c c1 c2 w
  show((RY #[.string (bd (U s)),.int .u8 c]).run P w).andThen _=_
  rw[this];rfl
 |[],h=>exact h.elim
 |[_],h=>exact(h.2.2).elim
 |_::_::_::_,h=>exact(h.2.2.2.2).elim
def cmpL:List UInt8->List UInt8->Int
 |[],[]=>0
 |[],_::_=>-1
 |_::_,[]=>1
 |a::l,b::r=>if a=b then cmpL l r else if a<b then-1 else 1
theorem LY:∀l r:List UInt8,-1<=cmpL l r/\cmpL l r<=1
 |[],[]=>by decide
 |[],_::_=>by unfold cmpL;decide
 |_::_,[]=>by unfold cmpL;decide
 |a::l,b::r=>by
  have:=LY l r
  unfold cmpL
  split
  ·exact this
  ·split<;>decide
theorem Ub:∀l r:List UInt8,(cmpL l r=-1↔dj l r=true)/\(cmpL l r=0↔l=r)
 |[],[]=>by simp[cmpL,dj]
 |[],_::_=>by simp[cmpL,dj]
 |_::_,[]=>by simp[cmpL,dj]
 |a::l,b::r=>by
  have ih:=Ub l r
  unfold cmpL dj
  by_cases h:a=b
  ·subst h;simp[ih.1,ih.2]
  ·by_cases h2:a<b
   ·simp[h,h2]
   ·have:b<a:=by
     rcases Nat.lt_trichotomy a.toNat b.toNat with h3|h3|h3
     ·exact absurd (UInt8.lt_iff_toNat_lt.2 h3) h2
     ·exact absurd (UInt8.toNat_inj.1 h3) h
     ·exact UInt8.lt_iff_toNat_lt.2 h3
    simp[h,h2,this]
theorem aer (p:Nat->Bool) (n:Nat):(cA (n+1)).find? p=if p 0=true then some 0 else((cA n).find? λi=>p (i+1)).map (·+1):=by
 rw[aaB,KH]
 cases h:p 0 with
 |true=>simp
 |false=>simp[avI];rfl
theorem Uc:∀l r:List UInt8,(match(cA (min l.length r.length)).find? λi=>l.getD i 0 != r.getD i 0 with
 |some i=>if l.getD i 0<r.getD i 0 then(-1:Int)else 1
 |none=>if l.length<r.length then-1 else if l.length>r.length then 1 else 0)=cmpL l r
 |[],[]=>by simp[cmpL]
 |[],_::_=>by simp[cmpL]
 |_::_,[]=>by simp[cmpL]
 |a::l,b::r=>by
  have ih:=Uc l r
  have e:min (a::l).length (b::r).length=min l.length r.length+1:=by simp only[dv];omega
  rw[e,aer]
  unfold cmpL
  by_cases h:a=b
  ·subst h
   simp only[qK,bne_self_eq_false,o3,if_false,Cz,if_true]
   rw[<-ih]
   cases(cA (min l.length r.length)).find? λi=>l.getD i 0 != r.getD i 0 with
   |none=>simp
   |some i=>simp
  ·simp[h]
theorem ap0 (l r:List UInt8) (w:ai):(RZ #[.string (bd l),.string (bd r)]).run P w= .ok (.int .i64 (cmpL l r)) w:=by
 have hg:∀(x:List UInt8) (i:Nat),i<x.length->(bd x)[i]! =x.getD i 0:=λx i hi=>by
  have:i<(bd x).size:=by rw[pc];exact hi
  rw[getElem!_pos (bd x) i this]
  simp only[af,jt hi,qN]
  rfl
 have e:aaC (bd l) (bd r)=cmpL l r:=by
  rw[<-Uc]
  unfold aaC
  rw[pc,pc]
  have hf:((cA (min l.length r.length)).find? λi=>(bd l)[i]! != (bd r)[i]!)=(cA (min l.length r.length)).find? λi=>l.getD i 0 != r.getD i 0:=find_congr λi hi=>by
   have hi:=List.mem_range.1 hi
   rw[hg l i (by omega),hg r i (by omega)]
  rw[hf]
  cases ae:(cA (min l.length r.length)).find? λi=>l.getD i 0 != r.getD i 0 with
  |none=>rfl
  |some i=>
   have hi:=List.mem_range.1 (CC ae)
   simp only[hg l i (by omega),hg r i (by omega)]
 have hd:RZ #[.string (bd l),.string (bd r)]=(zv (goInt (aaC (bd l) (bd r))):Sem az):=rfl
 rw[hd,e];rfl
theorem adE {f:cy} {fn:Func} {id:Nat} {wb:ai} (hf:P.funcs[f]?=some fn) (Ew:(fn.name== "runtime.NumGoroutine")=false) (hb:fn.body.isNone=true) (hn:Ku fn=none) (he:Kv fn=some RZ):
 (⟨f,id,[.str,.str],[.int .i64 (-1) 1]⟩:bz).cP P wb λzs rs=>rs=[cmpL (U (zs.getD 0 0)) (U (zs.getD 1 0))]:=by
 intro zs hz
 match zs,hz with
 |[s,c],hz=>
  have hr:=LY (U s) (U c)
  refine⟨[cmpL (U s) (U c)],(show aO [((-1:Int),1)] _ from⟨hr.1,hr.2,trivial⟩),rfl,λw _=> .inl ?_⟩
  rw[run_callFunc_extern hf Ew hb hn he]
  have:=ap0 (P:=P) (U s) (U c) w
  show((RZ #[.string (bd (U s)),.string (bd (U c))]).run P w).andThen _=_
  rw[this];rfl
 |[],h=>exact h.elim
 |[_],h=>exact(h.2.2).elim
 |_::_::_::_,h=>exact(h.2.2.2.2).elim
end
end Go.bg
namespace Go.bg
section
variable {S:Nat->List Int->List Int->Prop} {P:bm} {gl:dO} {wb:ai}
def dR (args res:List D) (spec:List Int->List Int->Prop):Prop:=∀zs rs fc,aO (de args) zs->aO (de res) rs->aO (de res) fc->spec zs rs->spec zs fc->e6 res rs=e6 res fc
theorem bz.I0 {c:bz} {cal:eg} {li:cy->Nat->Option dC} {rounds d:Nat} {spec:List Int->List Int->Prop} (hm:P.follows .mixedOrders=true) (cx:∀r ex ro,fk S P gl ⟨wb,r,ex,ro,[]⟩ cal) (hg:eK gl ⟨wb,wb,λ_=>False,λ_=>False,[]⟩)
 (hf:∀args w,(callFunc c.f args).run P w= .ok (.enter c.f args) w) (hu:dR c.args c.res spec)
 (ht:mB (de c.args) λzs=>(c.tree P gl cal li rounds d).holds S (my c.res λrs=>aO (de c.res) rs/\spec zs rs) (λ_ _=>False) (bu (λ_=>0) 0 zs)):c.eB P wb spec:=by
 refine⟨hf,λzs hz=>?_⟩
 have h0:=bz.calls hm cx hg hz (kG ht hz) wb (na wb)
 obtain⟨e,w',v,ad,m,val,h1,h2,h3,h4⟩:=Calls.some h0
 obtain⟨rs,⟨hb,hs⟩,hv⟩:=xt h3 h2
 refine⟨rs,hb,hs,λw hw=>?_⟩
 refine(bz.calls hm cx hg hz (kG ht hz) w hw).mono λe w' ⟨v,ad,m,val,h1,h2,h3,h4⟩=>?_
 obtain⟨fc,⟨hW,Oq⟩,hv'⟩:=xt h3 h2
 rw[hu zs fc rs hz hW hb Oq hs]at hv'
 exact⟨by rw[h1,hv'],h4⟩
noncomputable def j9.tree (P:bm) (gl:dO) (cal:eg) (li:cy->Nat->Option dC) (rounds d:Nat) (q:j9):T:=
 .pb q.pre ((cA (de q.c.args).length).map Bp) (q.c.tree P gl cal li rounds d)
theorem j9.I0 {q:j9} {cal:eg} {li:cy->Nat->Option dC} {rounds d:Nat} {spec:List Int->List Int->Prop} (hm:P.follows .mixedOrders=true) (cx:∀r ex ro,fk S P gl ⟨wb,r,ex,ro,[]⟩ cal) (hg:eK gl ⟨wb,wb,λ_=>False,λ_=>False,[]⟩)
 (hf:∀args w,(callFunc q.c.f args).run P w= .ok (.enter q.c.f args) w) (hu:dR q.c.args q.c.res spec)
 (ht:mB (de q.c.args) λzs=>(q.tree P gl cal li rounds d).holds S (my q.c.res λrs=>aO (de q.c.res) rs/\spec zs rs) (λ_ _=>False) (bu (λ_=>0) 0 zs)):q.eB P wb spec:=by
 intro zs hz hp
 have km:=kG ht hz
 have hl:=gi hz
 unfold j9.tree at km
 rw[<-hl]at km
 have km:=km (by rw[IS];exact hp)
 have h0:=bz.calls hm cx hg hz km wb (na wb)
 obtain⟨e,w',v,ad,m,val,h1,h2,h3,h4⟩:=Calls.some h0
 obtain⟨rs,⟨hb,hs⟩,hv⟩:=xt h3 h2
 refine⟨rs,hb,hs,λw hw=> .inr ⟨hf _ _,?_⟩⟩
 refine(bz.calls hm cx hg hz km w hw).mono λe w' ⟨v,ad,m,val,h1,h2,h3,h4⟩=>?_
 obtain⟨fc,⟨hW,Oq⟩,hv'⟩:=xt h3 h2
 rw[hu zs fc rs hz hW hb Oq hs]at hv'
 exact⟨by rw[h1,hv'],h4⟩
end
theorem wR {α:Type}:∀(kU:List Nat) (l:List α),(gk kU l).flatten=l
 |[],[]=>rfl
 |[],_::_=>by simp[gk]
 |k::kU,l=>by simp only[gk,rW,wR kU,nc]
section
variable {P:bm} {gl:dO} {wb:ai} {sh:Nat->List Nat×List Nat} {SB:Nat->List (List Int)->List (List Int)->Prop}
def bO (SB:Nat->List (List Int)->List (List Int)->Prop) (res:List D) (id:Nat):List (List Int)->List (List Int)->Prop:=λzs rs=>aO (de res) rs.flatten/\SB id zs rs
theorem ZM {lsh:Nat->List Nat} {id:Nat} {lens:List Nat} {bds:List (Int×Int)} {ds:List D} {t:T} (hl:lens=(sh id).1) (hd:sO ds=(sh id).2) (h:tA sh lsh SB (bO SB ds id) lens bds ds t):
 mB bds λzs=>t.holds (cl sh SB) (my ds λrs=>aO (de ds) rs/\cl sh SB id zs rs) (λ_ _=>False) (bu (λ_=>0) 0 zs):=by
 refine se λzs hz=>?_
 have h:=kG (Tw h) hz
 simp only[bO,wR]at h
 rw[hl,hd]at h
 exact h
theorem anG {c:bz} {cal:eg} {li:cy->Nat->Option dC} {rounds d:Nat} {lsh:Nat->List Nat} {lens:List Nat} (hm:P.follows .mixedOrders=true) (cx:∀r ex ro,fk (cl sh SB) P gl ⟨wb,r,ex,ro,[]⟩ cal) (hg:eK gl ⟨wb,wb,λ_=>False,λ_=>False,[]⟩)
 (hf:su P c.f=true) (hu:dR c.args c.res (cl sh SB c.id)) (hl:lens=(sh c.id).1) (hd:sO c.res=(sh c.id).2)
 (hv:tA sh lsh SB (bO SB c.res c.id) lens (de c.args) c.res (c.tree P gl cal li rounds d)):c.eB P wb (cl sh SB c.id):=
 bz.I0 hm cx hg (enters hf) hu (ZM hl hd hv)
theorem apt {q:j9} {cal:eg} {li:cy->Nat->Option dC} {rounds d:Nat} {lsh:Nat->List Nat} {lens:List Nat} (hm:P.follows .mixedOrders=true) (cx:∀r ex ro,fk (cl sh SB) P gl ⟨wb,r,ex,ro,[]⟩ cal) (hg:eK gl ⟨wb,wb,λ_=>False,λ_=>False,[]⟩)
 (hf:su P q.c.f=true) (hu:dR q.c.args q.c.res (cl sh SB q.c.id)) (hl:lens=(sh q.c.id).1) (hd:sO q.c.res=(sh q.c.id).2)
 (hv:tA sh lsh SB (bO SB q.c.res q.c.id) lens (de q.c.args) q.c.res (q.tree P gl cal li rounds d)):q.eB P wb (cl sh SB q.c.id):=
 j9.I0 hm cx hg (enters hf) hu (ZM hl hd hv)
end
end Go.bg
namespace Go.bg
open Go.ChangeShapes Go.WideShapes Go.RowKit
variable {H:Type} {enc:aN×az->H} {P:bm}
def BZ (g:aN->Option (List aw)) (cells:aN->Nat):List Field->Nat->Option (List aw)
 |[],_=>some []
 |f::r,o=>match g f.type,BZ g cells r (o+cells f.type)with
  |some l,some m=>cond (aA f.offset o&&aA (cells f.type) l.length) (some (l++m)) none
  |_,_=>none
def uS (P:bm):Nat->aN->Option (List aw)
 |0,_=>none
 |d+1,t=>match P.underlying t with
  |some (.int k)=>some [.int k k.min k.max]
  |some .string=>some [.str]
  |some .bool=>some [.bool]
  |some (.struct dE)=>BZ (uS P d) P.cellsOf dE.toList 0
  |some (.array n e)=>match uS P d e with
   |some l=>cond (aA (P.cellsOf e) l.length) (some (cV n l).flatten) none
   |none=>none
  |_=>none
theorem bS.append:∀{a b:List aw} {x y:List Int},bS a x->bS b y->bS (a++b) (x++y)/\cN (a++b) (x++y)=cN a x++cN b y
 |[],_,[],_,_,h=>⟨h,rfl⟩
 |_::_,_,_::_,_,h,h'=>by
  have:=bS.append h.2 h'
  exact⟨⟨h.1,this.1⟩,by simp only[u6,cN,this.2]⟩
 |[],_,_::_,_,h,_=>h.elim
 |_::_,_,[],_,h,_=>h.elim
def Lf (enc:aN×az->H) (P:bm) (w:ai) (base:Nat) (spare:Nat->Bool) (held:Bool) (t:aN) (sh:List aw):Prop:=
 ∀(n:Nat) (cs:List az) (x:m8 H×List r0),RF enc P w base spare held n t cs=some x->cs.length=sh.length->(∀m∈x.1.weights P t,m<=reachBytes)->
  ∃zs,bS sh zs/\cs=cN sh zs/\x.2=[]
theorem X5 {base n:Nat} {w:ai} {spare:Nat->Bool} {held:Bool} {g:aN->Option (List aw)} (hg:∀t sh,g t=some sh->Lf enc P w base spare held t sh) {cs:List az}:∀(dE:List Field) (o:Nat) (sh:List aw) (xs:List (m8 H×List r0)),BZ g P.cellsOf dE o=some sh->cs.length=o+sh.length->xs.length=dE.length->
 (∀(j:Nat) (f:Field),dE[j]?=some f->RF enc P w base spare held n f.type ((cs.drop f.offset).take (P.cellsOf f.type))=xs[j]?)->
 (∀m∈KI P (dE.map (·.type)) (xs.map (·.1)),m<=reachBytes)->
 ∃zs,bS sh zs/\cs.drop o=cN sh zs/\xs.flatMap (·.2)=[]
 |[],o,sh,xs,h,hl,hx,_,_=>by
  simp only[BZ,aG]at h
  subst h
  have:xs=[]:=List.length_eq_zero_iff.1 (by simpa using hx)
  subst this
  exact⟨[],trivial,RA (by simp at hl;omega),rfl⟩
 |f::dE,o,sh,[],_,_,hx,_,_=>by simp at hx
 |f::dE,o,sh,x::xs,h,hl,hx,hf,hw=>by
  unfold BZ at h
  cases h1:g f.type with
  |none=>simp[h1]at h
  |some l=>
   cases h2:BZ g P.cellsOf dE (o+P.cellsOf f.type)with
   |none=>simp[h1,h2]at h
   |some m=>
    simp only[h1,h2]at h
    cases hc:(aA f.offset o&&aA (P.cellsOf f.type) l.length)with
    |false=>simp[hc]at h
    |true=>
     simp only[hc,cond_true,aG]at h
     subst h
     simp only[aK]at hc
     have e1:=bk hc.1
     have e2:=bk hc.2
     have h0:=hf 0 f rfl
     simp only[qO]at h0
     simp only[cr,KI,pZ]at hw
     simp only[dQ]at hl
     obtain⟨zs,a1,a2,a3⟩:=hg f.type l h1 n ((cs.drop f.offset).take (P.cellsOf f.type)) x h0 (by rw[mw,rV,e1,e2];omega) λm' hm=>hw m' (.inl hm)
     obtain⟨e7,b1,b2,b3⟩:=X5 (cs:=cs) hg dE (o+P.cellsOf f.type) m xs h2 (by omega) (by simpa using hx) (λj nq hj=>by simpa using hf (j+1) nq (by simpa using hj)) λm' hm=>hw m' (.inr hm)
     have DY:=bS.append a1 b1
     refine⟨zs++e7,DY.1,?_,by simp[a3,b3]⟩
     rw[DY.2,<-a2,<-b2,e1,<-Gc]
     exact(nc _ _).symm
theorem X4 {base n:Nat} {w:ai} {spare:Nat->Bool} {held:Bool} {e:aN} {l:List aw} (hg:Lf enc P w base spare held e l) (hc:P.cellsOf e=l.length) {cs:List az}:∀(k i:Nat) (xs:List (m8 H×List r0)),cs.length=(i+k)*l.length->xs.length=k->
 (∀j,j<k->RF enc P w base spare held n e ((cs.drop ((i+j)*P.cellsOf e)).take (P.cellsOf e))=xs[j]?)->
 (∀m∈KJ P e (xs.map (·.1)),m<=reachBytes)->
 ∃zs,bS (cV k l).flatten zs/\cs.drop (i*l.length)=cN (cV k l).flatten zs/\xs.flatMap (·.2)=[]
 |0,i,xs,hl,hx,_,_=>by
  have:xs=[]:=List.length_eq_zero_iff.1 hx
  subst this
  exact⟨[],trivial,RA (by rw[hl];exact a6 _),rfl⟩
 |k+1,i,[],_,hx,_,_=>by simp at hx
 |k+1,i,x::xs,hl,hx,hf,hw=>by
  have h0:=hf 0 (Nat.succ_pos k)
  simp only[qO,ld]at h0
  simp only[cr,KJ,pZ]at hw
  have hl2:cs.length=i*l.length+(l.length+k*l.length):=by rw[hl,Nat.add_mul,r5];omega
  obtain⟨zs,a1,a2,a3⟩:=hg n _ x h0 (by rw[mw,rV,hc];omega) λm' hm=>hw m' (.inl hm)
  obtain⟨e7,b1,b2,b3⟩:=X4 hg hc k (i+1) xs (by rw[hl];congr 1;omega) (by simpa using hx) (λj hj=>by
   have:=hf (j+1) (by omega)
   rw[show i+(j+1)=i+1+j by omega]at this
   simpa using this) λm' hm=>hw m' (.inr hm)
  have DY:=bS.append a1 b1
  refine⟨zs++e7,by rw[tq,rW];exact DY.1,?_,by simp[a3,b3]⟩
  rw[tq,rW,DY.2,<-a2,<-b2,hc,r5,<-Gc]
  exact(nc _ _).symm
theorem I5 {base:Nat} {w:ai} {spare:Nat->Bool} {held:Bool}:∀(d:Nat) (t:aN) (sh:List aw),uS P d t=some sh->Lf enc P w base spare held t sh
 |0,t,sh,h=>by simp[uS]at h
 |d+1,t,sh,h=>by
  have ih:=I5 (base:=base) (w:=w) (spare:=spare) (held:=held) d
  intro n cs x hx hl hw
  unfold uS at h
  split at h
  ·rename_i k hu
   simp only[aG]at h
   subst h
   obtain⟨z,rfl,rfl,vY⟩:=aae hu hx
   have:=ZP.1 vY
   exact⟨[z],⟨this,trivial⟩,rfl,rfl⟩
  ·rename_i hu
   simp only[aG]at h
   subst h
   obtain⟨s,rfl,rfl,hs⟩:=avK hu hx
   have hb:s.data.toList.length<=fQ:=hw _ (by simp[KK])
   refine⟨[dP s.data.toList],⟨⟨p9 _,oG hb⟩,trivial⟩,?_,rfl⟩
   simp[cN,aw.val,fS,bd]
  ·rename_i hu
   simp only[aG]at h
   subst h
   obtain⟨b,rfl,rfl⟩:=DataW.trod_bool hu hx
   refine⟨[cond b 1 0],⟨?_,trivial⟩,?_,rfl⟩
   ·cases b<;>simp[aw.en]
   ·cases b<;>simp[cN,aw.val]
  ·rename_i dE hu
   obtain⟨xs,m,rfl,rfl,hlen,hn,AI⟩:=DataW.trod_struct hu hx
   simp only[KK,hu]at hw
   obtain⟨zs,a1,a2,a3⟩:=X5 (n:=m) ih dE.toList 0 sh xs h (by omega) (by rw[hn];simp) (λj f hj=>AI j f (by simpa using hj)) hw
   exact⟨zs,a1,by simpa using a2,a3⟩
  ·rename_i k e hu
   cases h1:uS P d e with
   |none=>simp[h1]at h
   |some l=>
    simp only[h1]at h
    cases hc:aA (P.cellsOf e) l.length with
    |false=>simp[hc]at h
    |true=>
     simp only[hc,cond_true,aG]at h
     subst h
     have hc:=bk hc
     obtain⟨xs,m,rfl,rfl,hlen,hn,AI⟩:=au4 hu hx
     simp only[KK,hu]at hw
     have hX:(cV k l).flatten.length=k*l.length:=by simp
     obtain⟨zs,a1,a2,a3⟩:=X4 (n:=m) (ih e l h1) hc k 0 xs (by rw[hl,hX];simp) hn (λj hj=>by
      have:=AI j hj
      simpa using this) hw
     exact⟨zs,a1,by simpa using a2,a3⟩
  ·cases h
theorem apP {fits:aN->Bool}:∀(d:Nat) (e:aN) (count off n:Nat),rowAt P fits d e count off n=true->off<=count*P.cellsOf e
 |0,_,_,_,_,h=>by simp[rowAt]at h
 |d+1,e,count,off,n,h=>by
  unfold rowAt at h
  dsimp only at h
  split at h
  ·cases h
  ·rename_i hs
   have ah1:=Nat.div_add_mod off (P.cellsOf e)
   have hlt:=Nat.mod_lt off (Nat.pos_of_ne_zero hs)
   rw[qL]at h
   rcases h with h|h
   ·simp only[aK,beq_iff_eq,decide_eq_true_eq]at h
    have h1:off/P.cellsOf e<=count:=by omega
    have:=Ky (P.cellsOf e) h1
    rw[w7 count];omega
   ·rw[aK]at h
    have h1:off/P.cellsOf e<count:=by simpa using h.1
    have h1:off/P.cellsOf e+1<=count:=h1
    have:=Ky (P.cellsOf e) h1
    rw[Nat.mul_add,CF]at this
    rw[w7 count];omega
theorem Xw:∀(d:Nat) (e:aN) (count off:Nat) (u:aN) (n:Nat),liesAt P d e count off u n=true->off<=count*P.cellsOf e
 |0,_,_,_,_,_,h=>by simp[liesAt]at h
 |d+1,e,count,off,u,n,h=>by
  unfold liesAt at h
  rw[qL]at h
  rcases h with h|h
  ·exact apP _ _ _ _ _ h
  ·split at h
   ·exact Xw d e count off _ _ h
   ·cases h
theorem adt {base:Nat} {w:ai} {a:Addr} {n:Nat} {cs:List az} (h:w.cells? base a n=some cs):cs.length=n/\∀j,j<n->w.cell? (a.add j)=cs[j]?:=by
 unfold World.cells? at h
 split at h
 ·have hl:=List.Xr h
  refine⟨by simpa using hl,λj hj=>?_⟩
  have:=List.U8 h j j (by simp[hj])
  exact this
 ·cases h
where
 List.Xr {α β:Type} {f:α->Option β}:∀{l:List α} {r:List β},l.mapM f=some r->r.length=l.length
  |[],r,h=>by simp at h;subst h;rfl
  |x::l,r,h=>by
   rw[aac]at h
   cases hx:f x with
   |none=>simp[hx]at h
   |some y=>
    cases hl:l.mapM f with
    |none=>simp[hx,hl]at h
    |some s=>
     simp[hx,hl]at h
     subst h
     simp[List.Xr hl]
 List.U8 {α β:Type} {f:α->Option β}:∀{l:List α} {r:List β},l.mapM f=some r->∀(j:Nat) (x:α),l[j]?=some x->f x=r[j]?
  |[],r,h,j,x,hx=>by simp at hx
  |y::l,r,h,j,x,hx=>by
   rw[aac]at h
   cases hy:f y with
   |none=>simp[hy]at h
   |some z=>
    cases hl:l.mapM f with
    |none=>simp[hy,hl]at h
    |some s=>
     simp[hy,hl]at h
     subst h
     cases j with
     |zero=>simp at hx;subst hx;simp[hy]
     |succ j=>simpa using List.U8 hl j x (by simpa using hx)
theorem YS {cells:Array az} {sh:List aw}:∀(len o:Nat),o<=cells.size->(∀i,i<len->∃zs,bS sh zs/\∀j,j<sh.length->cells[o+i*sh.length+j]?=(cN sh zs)[j]?)->(0<len->0<sh.length)->
 ∃rows:List (List Int),rows.length=len/\kc cells o sh rows
 |0,o,ho,_,_=>⟨[],rfl,λ_ h=>by simp at h,cells.toList.take o,cells.toList.drop o,by simp[aU],by simp;omega⟩
 |len+1,o,ho,h,hp=>by
  obtain⟨zs,a1,a2⟩:=h 0 (Nat.succ_pos _)
  have hp:=hp (Nat.succ_pos _)
  have hv:=zf a1
  have Et:=a2 (sh.length-1) (by omega)
  have hsz:o+sh.length<=cells.size:=by
   have:(cN sh zs)[sh.length-1]?≠none:=by rw[jt (by omega)];simp
   rw[<-Et]at this
   have:=Array.afp.1 this
   omega
  obtain⟨rows,b1,b2,pre,post,b3,b4⟩:=YS len (o+sh.length) hsz (λi hi=>by
   obtain⟨e7,c1,c2⟩:=h (i+1) (by omega)
   refine⟨e7,c1,λj hj=>?_⟩
   rw[<-c2 j hj]
   congr 1
   rw[r5];omega) λ_=>hp
  refine⟨zs::rows,by simp[b1],λrow hr=>?_,cells.toList.take o,post,?_,by simp;omega⟩
  ·rcases List.mem_cons.1 hr with rfl|hr
   ·exact a1
   ·exact b2 row hr
  ·have e1:pre=cells.toList.take (o+sh.length):=by
    rw[b3,ie,List.take_left' b4]
   have e2:pre=cells.toList.take o++cN sh zs:=by
    rw[e1,List.take_add]
    congr 1
    refine List.ext_getElem? λj=>?_
    by_cases hj:j<sh.length
    ·have:=a2 j hj
     rw[List.getElem?_take,if_pos hj,List.getElem?_drop,<-this]
     simp
    ·rw[RQ (by simp;omega),RQ (by omega)]
   have bt:cells.toList=cells.toList.take o++cN sh zs++aU sh rows++post:=by rw[<-e2];exact b3
   have eS:aU sh (zs::rows)=cN sh zs++aU sh rows:=by simp[aU]
   rw[eS,<-ie];exact bt
where
 Array.afp {α:Type} {a:Array α} {i:Nat}:a[i]?≠none↔i<a.size:=by simp
def KR (P:bm) (t:aN):bQ->Prop
 | .d (.int k lo hi)=>P.underlying t=some (.int k)/\lo=k.min/\hi=k.max
 | .d .bool=>P.underlying t=some .bool
 | .d .str=>P.underlying t=some .string
 | .d (.agg k n lo hi)=>∃e,P.underlying t=some (.array n e)/\uS P 8 t=some (cV n (.int k lo hi))/\P.cellsOf t=n
 | .d (.mix l)=>((∃dE,P.underlying t=some (.struct dE))∨∃n e,P.underlying t=some (.array n e))/\uS P 8 t=some l/\P.cellsOf t=l.length
 | .d (.jZ _)=>False
 | .d (.pC ..)=>False
 | .rd sh=>∃e,P.underlying t=some (.slice e)/\uS P 8 e=some sh/\P.cellsOf e=sh.length/\k0 sh=true
 | .jW _ _=>False
theorem bS.aO:∀{sh:List aw} {zs:List Int},bS sh zs->aO (sh.map aw.en) zs
 |[],[],_=>trivial
 |_::_,_::_,h=>⟨h.1.1,h.1.2,bS.aO h.2⟩
 |[],_::_,h=>h.elim
 |_::_,[],h=>h.elim
theorem YM:∀(sh:List aw) (zs:List Int),cN sh zs=oD aw.val sh zs
 |[],_=>by simp[cN]
 |_::_,[]=>by simp[cN]
 |c::sh,z::zs=>by simp only[cN,Ks,YM sh zs]
theorem YL (k:cS) (lo hi:Int):∀(n:Nat) (zs:List Int),zs.length=n->cN (cV n (.int k lo hi)) zs=zs.map (r3 k)
 |0,[],_=>rfl
 |n+1,z::zs,h=>by
  rw[tq]
  simp only[cN,cr,YL k lo hi n zs (by simpa using h)]
  rfl
 |0,_::_,h=>by simp at h
 |n+1,[],h=>by simp at h
theorem XH (k:cS) (lo hi:Int):∀n:Nat,(cV n (aw.int k lo hi)).map aw.en=c7 lo hi n
 |0=>rfl
 |n+1=>by rw[tq,cr,XH k lo hi n];rfl
theorem anP {b0:Nat} {w:ai} {t:aN} {b:bQ} {v:az} {x:m8 H} {bX:List r0} (ht:KR P t b) (ly:Gj P w .any b0 t v) (hd:DataW.Trod enc P w 0 (λ_=>true) true t v x bX) (hw:∀m∈x.weights P t,m<=reachBytes):
 ∃zs,aO b.bds zs/\zs.length=b.num/\b.at (λg=>g<w.heap.size) (λ_=>False) w zs v:=by
 obtain⟨fuel,hf⟩:=hd
 have agg:((∃dE,P.underlying t=some (.struct dE))∨∃n e,P.underlying t=some (.array n e))->∃cs,v= .agg cs/\cs.size=P.cellsOf t:=λh=>by
  unfold Gj at ly
  rcases h with⟨dE,h⟩|⟨n,e,h⟩
  ·rw[h]at ly;obtain⟨cs,a,b,_⟩:=ly;exact⟨cs,a,b⟩
  ·rw[h]at ly;obtain⟨cs,a,b,_⟩:=ly;exact⟨cs,a,b⟩
 cases b with
 |jW _ _=>exact ht.elim
 |d y=>
  cases y with
  |jZ l=>exact ht.elim
  |pC k c=>exact ht.elim
  |int k lo hi=>
   obtain⟨h1,rfl,rfl⟩:=ht
   obtain⟨n,rfl⟩:=okWide_int h1 ly
   obtain⟨n',h,hx,vY⟩:=aae h1 hf
   simp[zz]at h
   subst h
   have:=ZP.1 vY
   exact⟨[n],⟨this.1,this.2,trivial⟩,rfl,rfl⟩
  |bool=>
   obtain⟨c,rfl⟩:=okWide_bool ht ly
   refine⟨[cond c 1 0],?_,rfl,?_⟩
   ·cases c<;>simp[bQ.bds,D.bds,aO]
   ·cases c<;>simp[bQ.at,D.val]
  |str=>
   obtain⟨s,rfl⟩:=okWide_string ht ly
   obtain⟨ap9,h,hx,hs⟩:=avK ht hf
   simp[zz]at h
   subst h
   simp only[cj]at hx
   have hb:s.data.toList.length<=fQ:=hw _ (by rw[hx.1];simp[KK])
   exact⟨[dP s.data.toList],⟨p9 _,oG hb,trivial⟩,rfl,by simp[bQ.at,D.val,fS,bd]⟩
  |agg k n lo hi=>
   obtain⟨e,h1,h2,h3⟩:=ht
   obtain⟨cs,rfl,hsz⟩:=agg (.inr ⟨n,e,h1⟩)
   obtain⟨zs,a1,a2,_⟩:=I5 8 t _ h2 fuel _ _ hf (by show cs.toList.length=_;simp[hsz,h3]) hw
   have hl:zs.length=n:=by have:=a1.len;simpa using this
   have hcs:cs=(cN (cV n (.int k lo hi)) zs).toArray:=by rw[<-a2];simp[zz]
   refine⟨zs,?_,hl,?_⟩
   ·have:=a1.aO;rw[XH]at this;exact this
   ·show avL cs=_
    rw[hcs,YL k lo hi n zs hl]
    simp only[D.val,<-hl,RD]
  |mix l=>
   obtain⟨h1,h2,h3⟩:=ht
   obtain⟨cs,rfl,hsz⟩:=agg h1
   obtain⟨zs,a1,a2,_⟩:=I5 8 t _ h2 fuel _ _ hf (by show cs.toList.length=_;simp[hsz,h3]) hw
   have hl:zs.length=l.length:=a1.len
   have hcs:cs=(cN l zs).toArray:=by rw[<-a2];simp[zz]
   refine⟨zs,a1.aO,hl,?_⟩
   show avL cs=_
   rw[hcs,YM];rfl
 |rd sh=>
  obtain⟨e,h1,h2,h3,sF⟩:=ht
  have h4:0<sh.length:=by
   unfold k0 at sF
   simp only[aK,Nat.blt_eq]at sF
   exact sF.1.2
  obtain⟨a,len,cap,rfl⟩:=okWide_slice h1 ly
  rcases DataW.trod_slice h1 hf with⟨h,_⟩|⟨TA,lC,fZ,elems,rest,n,rfl,h,hx,_,NY,ra,AI,ah6,hsp,n6⟩
  ·simp[zz]at h
   obtain⟨rfl,rfl,rfl⟩:=h
   exact⟨[0],⟨cn _,oH,trivial⟩,rfl,.inl ⟨rfl,fD⟩⟩
  ·simp[zz]at h
   obtain⟨rfl,rfl,rfl⟩:=h
   have aik:w.has P .any b0 TA e cap:=by
    unfold Gj at ly
    rw[h1]at ly
    simp only[Cell.okWide,Cell.ok,h1]at ly
    exact ly.2.2
   obtain⟨_,WL,row,LS,gK,aiD⟩:=aik
   obtain⟨g,o,sp⟩:=TA
   simp only at WL
   subst WL
   obtain⟨cells,JV,fz,tS,n4⟩:∃cells JV fz,w.heap[g]?=some (.cells cells JV fz)/\cells.size=LS/\JV=row:=by
    unfold World.shape? at gK
    split at gK
    ·rename_i c el fz hb
     simp only[aG,cj]at gK
     exact⟨c,el,fz,hb,gK.2,gK.1⟩
    ·cases gK
   have ho:o<=cells.size:=by
    have:=Xw _ _ _ _ _ _ aiD
    have h6:=Nat.div_mul_le_self LS (P.cellsOf row)
    have h7:o<=LS/P.cellsOf row*P.cellsOf row:=this
    omega
   simp only[cj]at hx
   obtain⟨hx1,hx2⟩:=hx
   rw[hx1]at hw
   simp only[KK,h1,lR,pZ]at hw
   obtain⟨rows,r1,r2⟩:=YS (cells:=cells) (sh:=sh) len o ho (λi hi=>by
    have:=ah6 i hi
    cases hy:elems[i]? with
    |none=>rw[List.getElem?_eq_none_iff]at hy;omega
    |some y=>
     rw[hy,Option.bind_eq_some_iff]at this
     obtain⟨cs,g1,g2⟩:=this
     obtain⟨l1,l2⟩:=adt g1
     obtain⟨zs,ah,z2,_⟩:=I5 8 e sh h2 n cs y g2 (by rw[l1,h3]) λm hm=>by
      refine hw m (.inr (.inl ?_))
      exact XJ hy hm
     refine⟨zs,ah,λj hj=>?_⟩
     have:=l2 j (by rw[h3];exact hj)
     rw[gW,gW]at this
     simp only[iW,tS,Option.isSome_none,o3,if_false]at this
     rw[<-z2,<-this,h3]) λ_=>h4
   have cE:(cap:Int)<=9223372036854775807:=by unfold maxLen at ra;omega
   have Ih:rows.length<=maxLen:=by omega
   have agL:rc rows<=bZ:=nS Ih λr hr=>(r2.1 r hr).row sF
   refine⟨[rc rows],⟨fE _,agL,trivial⟩,rfl,.inr ⟨g,o,cap,cells,JV,fz,?_,?_,?_,tS,?_⟩⟩
   ·simp[dW,r1]
   ·simp only[qK,dW,r1];exact⟨NY,cE⟩
   ·exact(Array.getElem?_eq_some_iff.1 tS).1
   ·simp only[qK,dW];exact r2
where
 XJ {e:aN}:∀{l:List (m8 H×List r0)} {i:Nat} {y:m8 H×List r0} {m:Nat},l[i]?=some y->m∈y.1.weights P e->m∈KJ P e (l.map (·.1))
  |x::l,0,y,m,h,hm=>by
   simp only[qO,aG]at h
   subst h
   simp only[cr,KJ,pZ]
   exact .inl hm
  |x::l,i+1,y,m,h,hm=>by
   simp only[cr,KJ,pZ]
   exact .inr (XJ (by simpa using h) hm)
  |[],_,_,_,h,_=>by simp at h
def KS (P:bm):List aN->List bQ->Prop
 |[],[]=>True
 |t::ts,b::bs=>KR P t b/\KS P ts bs
 |_,_=>False
theorem bQ.acu {F N:Nat->Prop} {w:ai} (b:bQ) {zs l:List Int} {v:az} (h:zs.length=b.num) (ha:b.at F N w zs v):b.at F N w (zs++l) v:=by
 cases b with
 |d x=>
  show v=x.val (zs++l)
  rw[D.ZL x (l:=l) h];exact ha
 |rd sh=>match zs,h with|[z],_=>exact ha
 |jW sh e=>match zs,h with|[z],_=>exact ha
theorem X3 {b0:Nat} {w:ai}:∀{ts:List aN} {bs:List bQ} {vs:List az} {xs:List (m8 H)} {bX:List r0},KS P ts bs->(∀(j:Nat) t v,ts[j]?=some t->vs[j]?=some v->Gj P w .any b0 t v)->aaD enc P w 0 (λ_=>true) true ts vs xs bX->
 (∀m∈KI P ts xs,m<=reachBytes)->∃zs,aO (cH bs) zs/\iz (λg=>g<w.heap.size) (λ_=>False) w bs zs vs/\xs.length=bs.length
 |[],[],[],[],bX,_,_,h,_=>⟨[],trivial,trivial,rfl⟩
 |[],[],_::_,_,_,_,_,h,_=>h.elim
 |[],[],[],_::_,_,_,_,h,_=>h.elim
 |[],_::_,_,_,_,h,_,_,_=>h.elim
 |_::_,[],_,_,_,h,_,_,_=>h.elim
 |_::_,_::_,[],_,_,_,_,h,_=>by cases h
 |_::_,_::_,_::_,[],_,_,_,h,_=>by cases h
 |t::ts,b::bs,v::vs,x::xs,bX,ht,hv,h,hw=>by
  obtain⟨p,q,h1,h2,rfl⟩:=h
  simp only[KI,pZ]at hw
  obtain⟨zs,a1,a2,a3⟩:=anP ht.1 (hv 0 t v rfl rfl) h1 λm hm=>hw m (.inl hm)
  obtain⟨e7,b1,b2,b3⟩:=X3 ht.2 (λj t v h1 h2=>hv (j+1) t v (by simpa using h1) (by simpa using h2)) h2 λm hm=>hw m (.inr hm)
  refine⟨zs++e7,W8 a1 b1,⟨bQ.acu b a2 a3,?_⟩,by simp[b3]⟩
  rw[<-a2,CD];exact b2
theorem ZB (hl:laidOutB P=true) {W W':ai} (hb:Below W.heap.size W W'):∀{ts:List aN} {vs:List az} {xs:List (m8 H)} {bX:List r0},(∀t∈ts,P.readableRec t=true/\t<P.types.size)->aaD enc P W 0 (λ_=>true) true ts vs xs bX->(∀x∈bX,x.block<W.heap.size)->
 aaD enc P W' 0 (λb=>decide (b<W.heap.size)) true ts vs xs bX
 |[],[],[],_,_,h,_=>h
 |[],_::_,_,_,_,h,_=>h.elim
 |[],[],_::_,_,_,h,_=>h.elim
 |_::_,[],_,_,_,h,_=>by cases h
 |_::_,_::_,[],_,_,h,_=>by cases h
 |t::ts,v::vs,x::xs,bX,hr,h,hlt=>by
  obtain⟨p,q,h1,h2,rfl⟩:=h
  exact⟨p,q,Below.trod hl (hr t (by simp)).1 (hr t (by simp)).2 h1 hb λx hx=>hlt x (List.mem_append.2 (.inl hx)),ZB hl hb (λt ht=>hr t (cR _ ht)) h2 λx hx=>hlt x (List.mem_append.2 (.inr hx)),rfl⟩
theorem adu {C:Checked} {os:Os} {f:cy} {fn:Func} {s:ChangeSpec} {apart:Bool} {X:ai->Array az->Prop}
 (bD:∀(w w':ai) (args:Array az),w.heap=w'.heap->X w args->X w' args)
 (own:ownKnob C.prog.godebug=none) (started:os.Started) (Px:C.prog.inits.idxOf? f=none) (vQ:C.prog.funcs[f]?=some fn)
 (witness:∃(w:ai) (tape:Tape) (i:Input),w.os=os/\(w.forCall tape i).Shaped C.prog/\i.vars=[]/\avM C.prog (w.forCall tape i) .any w.heap.size f i/\
   ((s.pre enc C.prog fn [] apart (w.forCall tape i).memory i.args/\X (w.forCall tape i).memory i.args)/\sizedMet enc C.prog fn (R0 s) apart (w.forCall tape i).memory i.args)/\({}:Assume).holds C.prog (lone (avN C.prog f i.args .normal) [] (w.forCall tape i)))
 (contract:∀(W:ai) (base:Nat) (args:Array az) (ds gs:List (m8 H)) (before:List r0),
   (∀(j:Nat) t v,fn.params[j]?=some t->args[j]?=some v->Gj C.prog W .any base t v)->
   DataW.Whole enc C.prog fn.params.toList s.vars apart W args.toList ds gs before->(KI C.prog (fn.params.toList++s.plain.varTypes C.prog) (ds++gs)).all (·<=reachBytes)=true->X W args->W.ShapedOpen C.prog->
   iY C.prog f args W λe W'=>∃v,e= .returned v/\s.post enc C.prog fn apart true false false W args v W'):
 ReturnsInHanded {} C os f .any (λw args=>(s.pre enc C.prog fn [] apart w args/\X w args)/\sizedMet enc C.prog fn (R0 s) apart w args) (s.post enc C.prog fn apart true false false):=by
 refine returnsInHanded_of_calls own started Px witness ?_
 intro w tape i _ gK _ aZ gJ axF
 obtain⟨_,_,_,aeA,Ef,_,_,_,_,ly⟩:=aZ
 have e:aeA=fn:=gE (Ef.symm.trans vQ)
 subst e
 obtain⟨⟨⟨ds,gs,before,hw,hc⟩,hx⟩,hz⟩:=gJ
 have ru:=az5 (w':=w.forCall tape i) (by rfl) hw
 refine(contract (w.forCall tape i) w.heap.size i.args ds gs before ly ru (hz.weights hw) (bD _ _ _ (by rfl) hx) gK).mono λe W' ⟨v,he,hp⟩=>?_
 subst he
 exact az6 hp
theorem akV {C:Checked} {os:Os} {f:cy} {fn:Func} {s:ChangeSpec} {X:ai->Array az->Prop} {apart:Bool} {ts:List aN} {tb:aN} {bs:List bQ}
 (bD:∀(w w':ai) (args:Array az),w.heap=w'.heap->X w args->X w' args)
 (own:ownKnob C.prog.godebug=none) (started:os.Started) (Px:C.prog.inits.idxOf? f=none) (vQ:C.prog.funcs[f]?=some fn)
 (witness:∃(w:ai) (tape:Tape) (i:Input),w.os=os/\(w.forCall tape i).Shaped C.prog/\i.vars=[]/\avM C.prog (w.forCall tape i) .any w.heap.size f i/\
   ((s.pre enc C.prog fn [] apart (w.forCall tape i).memory i.args/\X (w.forCall tape i).memory i.args)/\sizedMet enc C.prog fn (R0 s) apart (w.forCall tape i).memory i.args)/\({}:Assume).holds C.prog (lone (avN C.prog f i.args .normal) [] (w.forCall tape i)))
 (hp:fn.params.toList=ts) (hr:fn.resultTypes.toList=[tb]) (eT:fn.resultTypes.size=1) (ajr:C.prog.underlying tb=some .bool) (EK:KS C.prog ts bs) (rn:laidOutB C.prog=true) (rr:(ts.all λt=>C.prog.readableRec t&&decide (t<C.prog.types.size))=true) (OB:s.vars=[])
 (hs:∀xs:List (m8 H),xs.length=bs.length->s.fn H xs={results:=[.lit (.bool true)],args:=xs,vars:=[]})
 (contract:∀(W:ai) (zs:List Int) (vs:List az),aO (cH bs) zs->iz (λg=>g<W.heap.size) (λ_=>False) W bs zs vs->X W vs.toArray->W.ShapedOpen C.prog->iY C.prog f vs.toArray W λe W'=>e= .returned (.bool true)/\W.Extends W'):
 ReturnsInHanded {} C os f .any (λw args=>(s.pre enc C.prog fn [] apart w args/\X w args)/\sizedMet enc C.prog fn (R0 s) apart w args) (s.post enc C.prog fn apart true false false):=by
 refine adu bD own started Px vQ witness ?_
 intro W base args xs gs before ajz mI hsz hx gK
 have agM:=mI
 have hlt:=mI.lt
 obtain⟨p,q,hA,M1,rfl,H0,Ws⟩:=mI
 rw[hp]at hA
 rw[OB]at M1
 obtain⟨rfl,rfl⟩:gs=[]/\q=[]:=by
  cases gs with
  |nil=>exact⟨rfl,M1⟩
  |cons g r=>exact absurd M1 (by intro h;cases h)
 have ly:∀(j:Nat) t v,ts[j]?=some t->args.toList[j]?=some v->Gj C.prog W .any base t v:=λj t v h1 h2=>ajz j t v (by rw[<-hp]at h1;simpa using h1) (by simpa using h2)
 have e:(fn.params.toList++s.plain.varTypes C.prog)=ts:=by rw[hp];simp[DataSpec.varTypes,az8,OB]
 rw[e,gT,tf]at hsz
 obtain⟨zs,hz,hat,hlen⟩:=X3 EK ly hA λn hn=>by simpa using hsz n hn
 have nu:args=args.toList.toArray:=by simp
 rw[nu]at hx
 have qe:iY C.prog f args W λe W'=>e= .returned (.bool true)/\W.Extends W':=by
  have:=contract W zs args.toList hz hat hx gK
  rwa [<-nu]at this
 refine qe.mono λe W' ⟨he,hw⟩=>?_
 subst he
 have Ef:=hs (xs++[]) (by simp[hlen])
 have ahJ:Below W.heap.size W W':=⟨hw.os,hw.tape,hw.output,hw.size,λi hi=>hw.block i hi⟩
 refine⟨_,rfl,_,_,_,[],p,[],agM,?_,?_,?_,akv hw _,λh=>by cases h⟩
 ·rw[Ef,hr,eT];exact trodAll_mk1 (shut_bool ajr true)
 ·rw[Ef,hp,gT]
  exact ZB rn ahJ (λt ht=>by
   have:=List.all_eq_true.1 rr t ht
   simpa using this) hA λx hx=>hlt x (by simp[hx])
 ·rw[Ef,OB];rfl
section
variable {gl:dO} {wb:ai} {sh:Nat->List Nat×List Nat} {SB:Nat->List (List Int)->List (List Int)->Prop}
def eL (SB:Nat->List (List Int)->List (List Int)->Prop) (res:List bQ) (id:Nat):List (List Int)->List (List Int)->Prop:=λzs rs=>aO (cH res) rs.flatten/\SB id zs rs
theorem acT {c:dL} {bc:jO} {cal:eg} {li:cy->Nat->Option dC} {rounds d:Nat} {lsh:Nat->List Nat} {lens:List Nat} (hm:P.follows .mixedOrders=true) (cx:∀r ex ro,fk (cl sh SB) P gl ⟨wb,r,ex,ro,[]⟩ cal) (hg:eK gl ⟨wb,wb,λ_=>False,λ_=>False,[]⟩)
 (iB:∀(L:V->Env->Prop) (r:ai) (ro:Nat->Prop),oF (cl sh SB) L ⟨wb,r,λ_=>False,ro,[]⟩ P bc) (hf:su P c.f=true) (hl:lens=(sh c.id).1) (hd:uG c.res=(sh c.id).2)
 (hv:ja sh lsh SB (eL SB c.res c.id) lens (cH c.args) c.res (c.tree bc P gl cal li rounds d)):c.eB P wb (cl sh SB c.id):=by
 refine dL.Fe (li:=li) (rounds:=rounds) (d:=d) hm cx hg iB (enters hf) (se λzs hz=>?_)
 have h:=kG (Lj hv) hz
 simp only[eL,wR]at h
 rw[hl,hd]at h
 exact h
theorem akU {c:dL} {W:ai} {vs:List az} {zs:List Int} (hc:c.eB P W (cl sh SB c.id)) (kl:c.res=[.d .bool]) (gJ:c.pre=0) (hz:aO (cH c.args) zs) (hat:iz (λg=>g<W.heap.size) (λ_=>False) W c.args zs vs) (h1:∀a z,SB c.id a [[z]]->z=1) (h2:(sh c.id).2=[1]):
 iY P c.f vs.toArray W λe W'=>e= .returned (.bool true)/\W.Extends W':=by
 refine(hc.2 _ W vs zs (na W) hz (by rw[gJ];trivial) hat).mono λe W' ⟨hx,rs,us,hb,hs,hr,he⟩=>⟨?_,hx⟩
 rw[kl]at hb hr
 match rs,hb,us,hr,hs,he with
 |[z],hb,[u],hr,hs,he=>
  unfold cl at hs
  rw[h2]at hs
  have e1:z=1:=h1 _ z hs
  subst e1
  have:u= .bool true:=hr.1
  subst this
  rw[he];rfl
 |[z],hb,[],hr,hs,he=>exact hr.elim
 |[z],hb,_::_::_,hr,hs,he=>exact hr.2.elim
 |[],hb,_,_,_,_=>exact hb.elim
 |_::_::_,hb,_,_,_,_=>exact hb.2.2.elim
end
end Go.bg
namespace Go.bg
open M
def kF (w w':ai) (own:Option Nat):Prop:=
 w'.os=w.os/\w'.tape=w.tape/\w'.output=w.output/\w.heap.size<=w'.heap.size/\∀k:Nat,k<w.heap.size->own≠some k->w'.heap[k]?=w.heap[k]?
structure kD where
 f:cy
 id:Nat
 sh:List aw
 e:aN
 args:List bQ
 pre:Nat:=0
def kX:az->Option Nat
 | .slice (some a) _ (_+1)=>some a.block
 |_=>none
def kD.eB (P:bm) (wb:ai) (c:kD) (spec:List Int->List Int->Prop):Prop:=
 (∀args w,(callFunc c.f args).run P w= .ok (.enter c.f args) w)/\
 ∀(F:Nat->Prop) (w:ai) (v0:az) (code:Int) (vs:List az) (zs:List Int),wb.Extends w->p3 (λg=>wb.heap.size<=g) w c.sh c.e (ab code) v0->(0<=code/\code<=bZ)->aO (cH c.args) zs->yP c.pre (code::zs)->iz F (λ_=>False) w c.args zs vs->(∀g,F g->kX v0≠some g)->
  iY P c.f (v0::vs).toArray w λe w'=>kF w w' (kX v0)/\∃code' v',(0<=code'/\code'<=bZ)/\spec (code::zs) [code']/\p3 (λg=>kX v0=some g∨w.heap.size<=g) w' c.sh c.e (ab code') v'/\e= .returned v'
noncomputable def kD.R (c:kD) (n:Nat) (code:I) (r:List V) (bl:List ar) (k:RK):T:=
 vB bl c.args r n λls n1=>Jj c.pre (code::ls) (.call c.id (code::ls) n1 [(0,bZ)] (p4 [.jW c.sh c.e] n1 (n1+1) [] bl λed us kf=>k ed (sY us) kf))
noncomputable def kD.E (c:kD) (n:Nat) (vs:List V) (bl:List ar) (k:RK):T:=
 match vs with
 | .w (.one (.sl b aQ o ro len cap))::r=>match bl[b]? with
  |some ([.rows sh off code dn kind],bK)=>cond (mc c.sh sh&&aA kind 2&&I.beq o (.const 0)&&I.beq off (.const 0)&&I.beq ro (.const 0)&&I.beq cap dn&&aA bK.1 c.e)
   (.mG 31 [code,len] (c.R n code r (cO bl b ([.rows sh off code dn 0],bK)) k)) .stuck
  |_=> .stuck
 | .w (.one (.con (.slice none 0 0)))::r=>c.R n (.const 0) r bl k
 | .w (.one (.slc b 0 0 0))::r=>match bl[b]? with
  |some ([],(t,false))=>cond (aA t c.e) (c.R n (.const 0) r bl k) .stuck
  |_=> .stuck
 |_=> .stuck
section
variable {S:Nat->List Int->List Int->Prop} {L:V->Env->Prop} {w0:dm} {P:bm}
theorem Mem.alz {ρ:Env} {m:Nat->Nat} {bl:List ar} {w w':ai} {b:Nat} {sh:List aw} {off code cap:I} {t:aN×Bool} (h:Mem w0 ρ m bl w) (hbl:bl[b]?=some ([.rows sh off code cap 2],t)) {own:Option Nat} (hown:∀g,own=some g->0<=cap.den ρ/\g=m b) (hn:kF w w' own):Mem w0 ρ m (cO bl b ([.rows sh off code cap 0],t)) w':=by
 have h1:=h.kill hbl
 obtain⟨n1,ed,mQ,wy,uF⟩:=hn
 have iE:=h.rws b sh off code cap 2 t hbl (by decide)
 have hg:∀g,own=some g->w0.b.heap.size<=g/\(w0.ex g∨w0.r.heap.size<=g):=λg hg=>by
  obtain⟨hc,rfl⟩:=hown g hg
  obtain⟨_,cells,ic,fz,g1,_,g4⟩:=iE.2 hc
  obtain⟨_,_,_,_,g8,g9⟩:=g4 (by decide)
  exact⟨g8,g9⟩
 have iO:0<=cap.den ρ->aX ρ [.rows sh off code cap 2]=2:=λhc=>nC (by decide) hc
 have lr:∀i:Nat,i<w0.b.heap.size->w'.heap[i]?=w0.b.heap[i]?:=λi hi=>by
  rw[uF i (u4 hi h.ext.size) (λe=>by have:=(hg i e).1;omega),h.ext.block i hi]
 have cM:∀(i:Nat) (p:ar),(cO bl b ([.rows sh off code cap 0],t))[i]?=some p->(i=b/\p=([.rows sh off code cap 0],t))∨(i≠b/\bl[i]?=some p):=λi p hi=>by
  have lq:b<bl.length:=(List.getElem?_eq_some_iff.1 hbl).1
  rw[ia,nO]at hi
  split at hi
  ·rename_i eo
   subst eo
   simp only[lq,if_true,aG]at hi
   exact .inl ⟨rfl,hi.symm⟩
  ·rename_i eo;exact .inr ⟨λe=>eo e.symm,hi⟩
 have Ij:∀(i:Nat) (p:ar),i≠b->bl[i]?=some p->aX ρ p.1≠0->w'.heap[m i]?=w.heap[m i]?:=λi p hne hi hk=>by
  refine uF _ (h.lt hi hk) λe=>?_
  obtain⟨hc,e⟩:=hown _ e
  exact h.ne hbl hi (by rw[iO hc];exact a6 _) hk (λe=>hne e.symm) e.symm
 refine⟨⟨n1.trans h.ext.os,ed.trans h.ext.tape,mQ.trans h.ext.output,hT h.ext.size wy,λa ha=>by simp only[iW,lr a.block ha],λa ha=>by simp only[ti,lr a.block ha],lr⟩,n1.trans h.gg,ed.trans h.iF,mQ.trans h.gI,hT h.eI wy,λi hi hx=>?_,λi cs t' hi ho=>?_,λi ei gj code' fZ lB t' hi=>?_,h1.inj⟩
 ·rw[uF i (u4 hi h.eI) (λe=>by rcases(hg i e).2 with h|h;exact hx h;omega)]
  exact h.fM i hi hx
 ·rcases cM i _ hi with⟨rfl,cD⟩|⟨hne,hi⟩
  ·cases cD;cases ho
  ·obtain⟨g1,g2,r,hr,g3⟩:=h.et i cs t' hi ho
   exact⟨g1,g2,r,hr,by rw[Ij i _ hne hi (by rw[iQ ho];decide)];exact g3⟩
 ·rcases cM i _ hi with⟨rfl,cD⟩|⟨hne,hi⟩
  ·cases cD;exactλhk=>absurd rfl hk
  ·exact(h.rws i ei gj code' fZ lB t' hi).grow λhk hc=>Ij i _ hne hi (by simp only[nC hk hc];exact hk)
theorem kD.Lh {c:kD} {spec:List Int->List Int->Prop} (hc:c.eB P w0.b spec) (cw:∀zs rs,spec zs rs->S c.id zs rs) (n nb:Nat) (code:I) (r:List V) (nW:List ar) (k:RK) (G:dw) (ρ:Env) (m:Nat->Nat) (w:ai) (X:az) (xs:List az) (R':u5->ai->Prop)
 (N5:nW.length=nb) (xW:cp n nW.length ρ nW) (Eo:Mem w0 ρ m nW w) (hv:∀v∈r,V.ok n nW.length ρ v) (hr:ec ρ m r xs) (r2:code.aW n) (hO:0<=code.den ρ/\code.den ρ<=bZ)
 (AQ:p3 (λg=>w0.b.heap.size<=g) w c.sh c.e (ab (code.den ρ)) X) (aiF:∀w',kF w w' (kX X)->Mem w0 ρ m nW w') (Ic:∀g,kX X=some g->w0.b.heap.size<=g/\w0.r.heap.size<=g) (Wv:∀(i:Nat) (p:ar),nW[i]?=some p->kX X=some (m i)->aX ρ p.1=0)
 (ae:(c.R n code r nW k).holds S L G ρ) (hk:tw S L w0 k n nb ρ m G R'):iY P c.f (X::xs).toArray w R':=by
 subst N5
 unfold kD.R at ae
 obtain⟨ax,n1,ls,e4,dF,⟨g1,g2,g3⟩,ae⟩:=DF (S:=S) (L:=L) xW Eo hv hr G _ ae
 obtain⟨gJ,ae⟩:=preM_holds ae
 simp only[T.holds]at ae
 have ad8:code.den ax=code.den ρ:=I.bB dF r2
 have hF:∀g,ng w0 ρ m nW (r.flatMap ke) (r.flatMap oU) g->kX X≠some g:=λg hg he=>by
  obtain⟨⟨b5,_,Nn,p,Ig,vV,_⟩,_⟩:=hg
  exact vV (Wv b5 p Ig (by rw[he,Nn]))
 rw[cr,ad8]at gJ ae
 refine(hc.2 (ng w0 ρ m nW (r.flatMap ke) (r.flatMap oU)) w X (code.den ρ) xs _ Eo.ext AQ hO g2 gJ (g3 _ λ_ h=>h) hF).mono ?_
 rintro e w' ⟨l3,code',v',k1,k3,k4,rfl⟩
 have ae:=kG ae (show aO [((0:Int),bZ)] [code'] from⟨k1.1,k1.2,trivial⟩) (cw _ _ k3)
 have hl:=aiF w' l3
 have hb1:=xW.ext dF e4 (a6 nW.length)
 have dk:agree n1 ax (bu ax n1 [code']):=agree.bu [code'] n1 ax
 have hb2:=hb1.ext dk (CA n1 1) (a6 nW.length)
 have Im:=(hl.lJ xW dF).lJ hb1 dk
 have hA:fX (bu ax n1 [code']) n1 [code']:=fX.bu ax n1 [code']
 have sy:=dF.trans dk e4
 have DU:dr n nW.length ρ m (n1+1) nW.length (bu ax n1 [code']) m:=⟨by omega,sy,a6 _,λ_ _=>rfl⟩
 have hN:∀g,(kX X=some g∨w.heap.size<=g)->w0.b.heap.size<=g/\w0.r.heap.size<=g:=λg hg=>by
  rcases hg with hg|hg
  ·exact Ic g hg
  ·exact⟨hT Eo.ext.size hg,hT Eo.eI hg⟩
 have D8:∀(i:Nat) (p:ar),nW[i]?=some p->(kX X=some (m i)∨w.heap.size<=m i)->aX (bu ax n1 [code']) p.1=0:=λi p hi hg=>by
  rw[pE (xW p (dK hi)) sy]
  rcases hg with hg|hg
  ·exact Wv i p hi hg
  ·by_cases h0:aX ρ p.1=0
   ·exact h0
   ·have:=Eo.lt hi h0;omega
 obtain⟨n',ad,m',jG,kf,p1,bq,cv,dI,dJ,fv⟩:=vp (S:=S) (L:=L) (w0:=w0) (F:=λ_=>False) (N:=λg=>kX X=some g∨w.heap.size<=g) (λg hg=>hg.elim) hN (l:=[.jW c.sh c.e]) (us:=[]) (vals:=[v']) (by rfl) hb2 Im hA (show aO [((0:Int),bZ)] [code'] from⟨k1.1,k1.2,trivial⟩) (a6 _) ⟨k4,trivial⟩ (.inl rfl) (.inr D8) (λu hu=>by simp at hu) ae
 have kl:=P4 (m:=m') (vals:=[v']) dJ (by rw[dI];rfl)
 exact hk n' (sY jG) kf G ad m' w' v' (DU.trans p1) (dU.refl _ _) kl.1 kl.2 bq cv fv
theorem kF.ext {w w':ai} (h:kF w w' none):w.Extends w':=by
 obtain⟨n1,ed,mQ,wy,uF⟩:=h
 have lr:∀i:Nat,i<w.heap.size->w'.heap[i]?=w.heap[i]?:=λi hi=>uF i hi (λe=>by cases e)
 exact⟨n1,ed,mQ,wy,λa ha=>by simp only[iW,lr a.block ha],λa ha=>by simp only[ti,lr a.block ha],lr⟩
theorem kD.xh {c:kD} {spec:List Int->List Int->Prop} (hex:∀g,¬w0.ex g) (hc:c.eB P w0.b spec) (cw:∀zs rs,spec zs rs->S c.id zs rs) (n:Nat) (vs:List V) (bl:List ar) (k:RK) (G:dw) (ρ:Env) (m:Nat->Nat) (w:ai) (xs:List az) (R':u5->ai->Prop)
 (hb:cp n bl.length ρ bl) (hw:Mem w0 ρ m bl w) (hv:∀v∈vs,V.ok n bl.length ρ v) (hr:ec ρ m vs xs) (ae:(c.E n vs bl k).holds S L G ρ) (hk:tw S L w0 k n bl.length ρ m G R'):
 (callFunc c.f xs.toArray).run P w= .ok (.enter c.f xs.toArray) w/\iY P c.f xs.toArray w R':=by
 refine⟨hc.1 _ _,?_⟩
 have z4:0<=(I.const 0).den ρ/\(I.const 0).den ρ<=bZ:=by rw[I.aM];exact⟨cn _,by have:=nS (l:=[]) (by simp) (by simp);exact nP (fE []) this⟩
 have z0:ab ((I.const 0).den ρ)=[]:=by rw[I.aM];exact fD
 unfold kD.E at ae
 split at ae
 ·rename_i b aQ o ro len cap r
  split at ae
  rotate_left
  ·exact ae.elim
  rename_i sh off code dn kind bK hbl
  cases hgd:(mc c.sh sh&&aA kind 2&&I.beq o (.const 0)&&I.beq off (.const 0)&&I.beq ro (.const 0)&&I.beq cap dn&&aA bK.1 c.e)with
  |false=>rw[hgd]at ae;exact ae.elim
  |true=>
  rw[hgd]at ae
  simp only[cond_true]at ae
  simp only[aK]at hgd
  obtain⟨⟨⟨⟨⟨⟨b0,k2⟩,b1⟩,b2⟩,b3⟩,b4⟩,mC⟩:=hgd
  have b0:=uR b0
  have mC:=bk mC
  have k2:=bk k2
  have b1:=I.beq_eq b1
  have b2:=I.beq_eq b2
  have b3:=I.beq_eq b3
  have b4:=I.beq_eq b4
  subst k2;subst b1;subst b2;subst b3;subst b4;subst b0
  match xs,hr with
  |X::xs,hr=>
  obtain⟨yc,ae⟩:=ae
  have yc:len.den ρ=(ab (code.den ρ)).length:=yc
  have sF:(A.sl b aQ (.const 0) (.const 0) len cap).ok n bl.length ρ:=hv (.w (.one (.sl b aQ (.const 0) (.const 0) len cap))) (by simp)
  obtain⟨ptr,e1,e2,bt⟩:=oT (m:=m) sF
  have l6:X=(A.sl b aQ (.const 0) (.const 0) len cap).den ρ m:=hr.1
  rw[e1]at l6
  obtain⟨x1,⟨x2,gP,gw,gD⟩,⟨gQ,kt,ku,kv⟩,⟨k6,j2⟩,fi,gC⟩:=sF
  rw[I.aM]at j2
  have iE:=hw.rws b c.sh (.const 0) code cap 2 bK hbl (by decide)
  have eH:(A.rows c.sh (.const 0) code cap 2).ok n bl.length ρ:=hb _ (dK hbl) _ (by simp)
  obtain⟨⟨r1,r2,fo⟩,hO,bb⟩:=eH
  have lq:b<bl.length:=(List.getElem?_eq_some_iff.1 hbl).1
  have H9:(len.den ρ).toNat=(ab (code.den ρ)).length:=by omega
  have hown:(∀g,kX X=some g->0<=cap.den ρ/\g=m b)/\p3 (λg=>w0.b.heap.size<=g) w c.sh c.e (ab (code.den ρ)) X/\(∀g,kX X=some g->w0.b.heap.size<=g/\w0.r.heap.size<=g):=by
   by_cases hc0:cap.den ρ<0
   ·have hl0:=fi hc0
    have bD:X= .slice none (len.den ρ).toNat (if cap.den ρ<0 then 0 else(cap.den ρ).toNat):=by rw[l6,e2 hc0]
    refine⟨(λg h=>by rw[bD]at h;cases h),Or.inl ⟨by rw[bD,if_pos hc0,hl0];rfl,iE.1 hc0⟩,(λg h=>by rw[bD]at h;cases h)⟩
   ·obtain⟨_,cells,ic,fz,g1,⟨g2,g3⟩,g4⟩:=iE.2 (by omega)
    obtain⟨g0,g5,g6,g7,g8,g9⟩:=g4 (by decide)
    have g6:=g6.two
    subst g0 g6
    rw[I.aM]at g3
    have bD:X= .slice (some ⟨m b,0,none⟩) (ab (code.den ρ)).length (cap.den ρ).toNat:=by
     rw[l6,bt (by omega),if_neg hc0,H9,I.aM];simp
    have hh:=gC (by omega)
    have Ww:∀g,kX X=some g->g=m b:=λg h=>by
     rw[bD]at h
     unfold kX at h
     split at h
     ·rename_i heq
      injection heq with h1 h2 h3
      injection h1 with h1
      rw[<-h1]at h
      cases h;rfl
     ·cases h
    refine⟨(λg h=>⟨by omega,Ww g h⟩),Or.inr ⟨m b,(cap.den ρ).toNat,cells,bD,⟨by omega,by omega⟩,g8,by rw[<-mC];exact g1,g3,g7⟩,(λg h=>by
     rw[Ww g h]
     rcases g9 with h|h
     ·exact absurd h (hex _)
     ·exact⟨g8,h⟩)⟩
  obtain⟨lv,AQ,Ic⟩:=hown
  have VV:=ib bl b ([.rows c.sh (.const 0) code cap 0],bK)
  refine kD.Lh (S:=S) (L:=L) (w0:=w0) hc cw n bl.length code r (cO bl b ([.rows c.sh (.const 0) code cap 0],bK)) k G ρ m w X xs R' VV ?_ (hw.kill hbl) (λv hv'=>by rw[VV];exact hv v (cR _ hv')) hr.2 r2 hO AQ (λw' hn=>hw.alz hbl lv hn) Ic (λi p hi hg=>?_) ae hk
  ·refine hb.set ?_
   intro y hy
   have hy:y= .rows c.sh (.const 0) code cap 0:=by simpa using hy
   subst hy
   exact hb _ (dK hbl) (.rows c.sh (.const 0) code cap 2) (by simp)
  ·by_cases h0:aX ρ p.1=0
   ·exact h0
   ·exfalso
    obtain⟨hc,aiO⟩:=lv _ hg
    have cM:i≠b/\bl[i]?=some p:=by
     rw[ia,nO]at hi
     split at hi
     ·rename_i eo
      subst eo
      simp only[lq,if_true,aG]at hi
      subst hi
      exact absurd (by simp[aX]) h0
     ·rename_i eo;exact⟨λe=>eo e.symm,hi⟩
    exact hw.ne hbl cM.2 (by rw[nC (by decide) hc];exact a6 _) h0 (λe=>cM.1 e.symm) aiO.symm
 ·rename_i r
  match xs,hr with
  |X::xs,hr=>
  have bD:X= .slice none 0 0:=hr.1
  subst bD
  exact kD.Lh (S:=S) (L:=L) (w0:=w0) hc cw n bl.length (.const 0) r bl k G ρ m w _ xs R' rfl hb hw (λv hv'=>hv v (cR _ hv')) hr.2 (I.cz _ _) z4 (Or.inl ⟨rfl,z0⟩) (λw' hn=>hw.grow hn.ext) (λg h=>by cases h) (λi p hi h=>by cases h) ae hk
 ·rename_i b r
  split at ae
  rotate_left
  ·exact ae.elim
  rename_i t hbl
  cases EJ:aA t c.e with
  |false=>rw[EJ]at ae;exact ae.elim
  |true=>
   rw[EJ]at ae
   simp only[cond_true]at ae
   have EJ:=bk EJ
   subst EJ
   match xs,hr with
   |X::xs,hr=>
   have bD:X= .slice (some ⟨m b,0,none⟩) 0 0:=hr.1
   subst bD
   obtain⟨g1,g2,zg,g3,g4⟩:=hw.et b [] (c.e,false) hbl rfl
   have g3:=g3 rfl
   subst g3
   refine kD.Lh (S:=S) (L:=L) (w0:=w0) hc cw n bl.length (.const 0) r bl k G ρ m w _ xs R' rfl hb hw (λv hv'=>hv v (cR _ hv')) hr.2 (I.cz _ _) z4 (Or.inr ⟨m b,0,#[],?_,⟨?_,by decide⟩,g1,by simpa using g4,?_,by simp⟩) (λw' hn=>hw.grow hn.ext) (λg h=>by cases h) (λi p hi h=>by cases h) ae hk
   ·rw[z0];rfl
   ·rw[z0];exact a6 _
   ·rw[z0];exact⟨λ_ h=>by simp at h,[],[],by simp[aU],rfl⟩
 ·exact ae.elim
noncomputable def Iq:List kD->jO->jO
 |[],g,f=>g f
 |c::r,g,f=>cond (aA c.f f) (some c.E) (Iq r g f)
theorem WY {wb r:ai} {ro:Nat->Prop} {bc:jO} (iB:oF S L ⟨wb,r,λ_=>False,ro,[]⟩ P bc):∀{l:List kD},(∀c∈l,c.eB P wb (S c.id))->oF S L ⟨wb,r,λ_=>False,ro,[]⟩ P (Iq l bc)
 |[],_=>iB
 |c::l,h=>λf g hf=>by
  unfold Iq at hf
  cases hb:aA c.f f with
  |true=>
   rw[hb]at hf
   simp only[cond_true,aG]at hf
   have:=bk hb
   subst this;subst hf
   intro n vs bl k G ρ m w xs R' h1 h2 h3 h4 h5 h6
   exact kD.xh (w0:=⟨wb,r,λ_=>False,ro,[]⟩) (λ_ h=>h) (h c (by simp)) (λ_ _ h=>h) n vs bl k G ρ m w xs R' h1 h2 h3 h4 h5 h6
  |false=>
   rw[hb]at hf
   exact WY iB (λc hc=>h c (cR _ hc)) f g hf
end
end Go.bg
namespace Go.bg
open M Go.RowKit
variable {S:Nat->List Int->List Int->Prop} {L:V->Env->Prop} {P:bm} {gl:dO} {cal:eg}
def KW (P:bm) (f:cy):Prop:=
 (∀args w,(callFunc f args).run P w= .ok (.enter f args) w)/\
 ∀(l bs oI:Nat) (sv:az) (g off len cap c:Nat) (J:Nat->ai->Prop) (W:ai),
  0<c->len<=9223372036854775807->c∣len->len<=cap->c<=9223372036854775807->
  (sv= .slice (some ⟨g,off,none⟩) len cap∨(sv= .slice none 0 0/\len=0))->
  (∀i W,J i W->W.cell? ⟨bs,0,none⟩=some sv/\W.cell? ⟨oI,0,none⟩=some (.int .i64 c))->
  (∀i W,J i W->J i W.drew)->
  (∀i W,J i W->c*i<len->YieldAt zD 0 P l #[.slice (some ⟨g,off+c*i,none⟩) c c] W λe W'=>e= .returned (.bool true)/\J (i+1) W')->
  J 0 W->CallsIn zD 0 P f #[.func (.yield l) #[] #[],.pointer (some ⟨bs,0,none⟩),.pointer (some ⟨oI,0,none⟩)] W λe W'=>(∃v,e= .returned v)/\J (len/c) W'
theorem Mq {b w w':ai} (h:b.Extends w) (h1:w'.os=w.os) (h2:w'.tape=w.tape) (h3:w'.output=w.output) (h4:w.heap.size<=w'.heap.size) (h5:∀k,k<b.heap.size->w'.heap[k]?=w.heap[k]?):b.Extends w':=
 ⟨h1.trans h.os,h2.trans h.tape,h3.trans h.output,hT h.size h4,λa ha=>(World.cell?_of_block (h5 _ ha)).trans (h.cell a ha),λa ha=>(World.frozen?_of_block (h5 _ ha)).trans (h.frozen a ha),λi hi=>(h5 i hi).trans (h.block i hi)⟩
theorem Mem.zn {b r r':ai} {ex ro:Nat->Prop} {ds xD:List xb} {ρ:Env} {m:Nat->Nat} {bl:List ar} {w w':ai} (h:Mem ⟨b,r,ex,ro,ds⟩ ρ m bl w) (l:Nat) (hl:b.heap.size<=l) (hex:¬ex l) (hlt:l<r.heap.size)
 (hr:r'.os=r.os/\r'.tape=r.tape/\r'.output=r.output/\r'.heap.size=r.heap.size) (hw:w'.os=w.os/\w'.tape=w.tape/\w'.output=w.output/\w'.heap.size=w.heap.size)
 (h1:∀k,k≠l->r'.heap[k]?=r.heap[k]?) (h2:∀k,k≠l->w'.heap[k]?=w.heap[k]?) (h3:w'.heap[l]?=r'.heap[l]?) (hc:∀o:Obj,r.heap[l]?=some o->o.isCells=false):Mem ⟨b,r',ex,ro,xD⟩ ρ m bl w':=by
 have WQ:w.heap[l]?=r.heap[l]?:=h.fM l hlt hex
 have ne:∀{g:Nat} {cs:Array az} {t:aN} {fz:Nat×Nat},w.heap[g]?=some (.cells cs t fz)->g≠l:=λ{g cs t fz} hg e=>by
  subst e
  rw[WQ]at hg
  have:=hc _ hg
  simp[Obj.isCells]at this
 refine⟨Mq h.ext hw.1 hw.2.1 hw.2.2.1 (by omega) (λk hk=>h2 k (by simp only at hl hk;omega)),by rw[hw.1,h.gg];exact hr.1.symm,by rw[hw.2.1,h.iF];exact hr.2.1.symm,by rw[hw.2.2.1,h.gI];exact hr.2.2.1.symm,by have:=h.eI;simp only at this⊢;omega,λi hi hx=>?_,λi cs t hi ho=>?_,λi sh off code cap kind t hi=>?_,h.inj⟩
 ·by_cases e:i=l
  ·subst e;exact h3
  ·rw[h2 i e,h1 i e]
   exact h.fM i (by simp only at hi⊢;omega) hx
 ·obtain⟨g1,g2,zg,mM,g3⟩:=h.et i cs t hi ho
  refine⟨g1,g2.imp id λh=>?_,zg,mM,by rw[h2 _ (ne g3)];exact g3⟩
  simp only at h⊢;omega
 ·intro hk
  obtain⟨g1,g2⟩:=h.rws i sh off code cap kind t hi hk
  refine⟨g1,λcE=>?_⟩
  obtain⟨k1,cells,t',fz,k2,k3,k4⟩:=g2 cE
  refine⟨k1.imp id (·.imp id λh=>by simp only at h⊢;omega),cells,t',fz,by rw[h2 _ (ne k2)];exact k2,k3,λDP=>?_⟩
  obtain⟨dV,nz,og,oR,rA,lA⟩:=k4 DP
  exact⟨dV,nz,og,oR,rA,lA.imp id λh=>by simp only at h⊢;omega⟩
structure Sub (w1 w0:dm):Prop where
 b:w1.b=w0.b
 os:w1.r.os=w0.r.os
 tape:w1.r.tape=w0.r.tape
 out:w1.r.output=w0.r.output
 size:w0.r.heap.size<=w1.r.heap.size
 ex:∀g,w1.ex g∨w1.r.heap.size<=g->w0.ex g∨w0.r.heap.size<=g
 ro:∀g,w1.ro g->w0.ro g
 fM:∀i,i<w0.r.heap.size->¬w0.ex i->w1.r.heap[i]?=w0.r.heap[i]?
theorem Mem.less {w1 w0:dm} {ρ:Env} {m:Nat->Nat} {bl:List ar} {w:ai} (h:Mem w1 ρ m bl w) (s:Sub w1 w0):Mem w0 ρ m bl w:=by
 refine⟨s.b▸h.ext,h.gg.trans s.os,h.iF.trans s.tape,h.gI.trans s.out,hT s.size h.eI,λi hi hx=>?_,λi cs t hi ho=>?_,λi sh off code cap kind t hi=>?_,h.inj⟩
 ·have hne:¬w1.ex i:=λe=>by
   rcases s.ex i (.inl e)with e|e
   ·exact hx e
   ·omega
  exact(h.fM i (u4 hi s.size) hne).trans (s.fM i hi hx)
 ·obtain⟨g1,g2,g3⟩:=h.et i cs t hi ho
  exact⟨s.b▸g1,s.ex _ g2,g3⟩
 ·intro hk
  obtain⟨g1,g2⟩:=h.rws i sh off code cap kind t hi hk
  refine⟨g1,λcE=>?_⟩
  obtain⟨k1,cells,t',fz,k2,k3,k4⟩:=g2 cE
  refine⟨?_,cells,t',fz,k2,k3,λDP=>?_⟩
  ·rcases k1 with k1|k1|k1
   ·exact(s.ex _ (.inl k1)).imp id .inr
   ·exact .inr (.inl (s.ro _ k1))
   ·exact(s.ex _ (.inr k1)).imp id .inr
  ·obtain⟨dV,nz,og,oR,rA,lA⟩:=k4 DP
   exact⟨dV,nz,og,oR,s.b▸rA,s.ex _ lA⟩
def narrow (w0:dm) (W:ai) (ds:List xb):dm:=⟨w0.b,W,λg=>(w0.ex g∨w0.r.heap.size<=g)/\∃o:Obj,W.heap[g]?=some o/\o.isCells=true,w0.ro,ds⟩
theorem Mem.narrow {w0:dm} {ρ:Env} {m:Nat->Nat} {bl:List ar} {w:ai} (h:Mem w0 ρ m bl w) (ds:List xb):Mem (narrow w0 w ds) ρ m bl w:=by
 refine⟨h.ext,rfl,rfl,rfl,a6 _,λ_ _ _=>rfl,λi cs t hi ho=>?_,λi sh off code cap kind t hi=>?_,h.inj⟩
 ·obtain⟨g1,g2,zg,mM,g3⟩:=h.et i cs t hi ho
  exact⟨g1,.inl ⟨g2,_,g3,rfl⟩,zg,mM,g3⟩
 ·intro hk
  obtain⟨g1,g2⟩:=h.rws i sh off code cap kind t hi hk
  refine⟨g1,λcE=>?_⟩
  obtain⟨k1,cells,t',fz,k2,k3,k4⟩:=g2 cE
  refine⟨?_,cells,t',fz,k2,k3,λDP=>?_⟩
  ·rcases k1 with k1|k1|k1
   ·exact .inl ⟨.inl k1,_,k2,rfl⟩
   ·exact .inr (.inl k1)
   ·exact .inl ⟨.inr k1,_,k2,rfl⟩
  ·obtain⟨dV,nz,og,oR,rA,lA⟩:=k4 DP
   exact⟨dV,nz,og,oR,rA,.inl ⟨lA,_,k2,rfl⟩⟩
theorem Sub.narrow {w0:dm} {ρ:Env} {m:Nat->Nat} {bl:List ar} {w:ai} (h:Mem w0 ρ m bl w) (ds:List xb):Sub (narrow w0 w ds) w0:=
 ⟨rfl,h.gg,h.iF,h.gI,h.eI,λg hg=>by
  rcases hg with hg|hg
  ·exact hg.1
  ·exact .inr (hT h.eI hg),λ_ h=>h,λi hi hx=>h.fM i hi hx⟩
theorem Sub.zn {w0:dm} {b r r':ai} {ex ro:Nat->Prop} {ds xD:List xb} (s:Sub ⟨b,r,ex,ro,ds⟩ w0) (l:Nat) (hl:w0.r.heap.size<=l) (hr:r'.os=r.os/\r'.tape=r.tape/\r'.output=r.output/\r'.heap.size=r.heap.size)
 (h1:∀k,k≠l->r'.heap[k]?=r.heap[k]?):Sub ⟨b,r',ex,ro,xD⟩ w0:=
 ⟨s.b,hr.1.trans s.os,hr.2.1.trans s.tape,hr.2.2.1.trans s.out,by have:=s.size;simp only at this⊢;omega,λg hg=>s.ex g (hg.imp id λh=>by simp only at h⊢;omega),s.ro,λi hi hx=>by
  rw[h1 i (by omega)];exact s.fM i hi hx⟩
theorem Mem.ds {b r:ai} {ex ro:Nat->Prop} {ds xD:List xb} {ρ:Env} {m:Nat->Nat} {bl:List ar} {w:ai} (h:Mem ⟨b,r,ex,ro,ds⟩ ρ m bl w):Mem ⟨b,r,ex,ro,xD⟩ ρ m bl w:=
 ⟨h.ext,h.gg,h.iF,h.gI,h.eI,h.fM,h.et,h.rws,h.inj⟩
theorem fk.ds {b r:ai} {ex ro:Nat->Prop} {ds xD:List xb} (h:fk S P gl ⟨b,r,ex,ro,ds⟩ cal):fk S P gl ⟨b,r,ex,ro,xD⟩ cal:=λf g hf L n ρ m bl vs xs h1 h2 h3 h4=>by
 obtain⟨w,hw⟩:=h2
 exactλG zE ae=>by
  obtain⟨ad,n',v,k1,k2,⟨k3,val,k4,pD⟩,sI⟩:=h f g hf L n ρ m bl vs xs h1 ⟨w,hw.ds⟩ h3 h4 G zE ae
  exact⟨ad,n',v,k1,k2,⟨k3,val,k4,λw hw=>pD w hw.ds⟩,sI⟩
noncomputable def PZ (P:bm) (gl:dO) (cal:eg) (inl:iy) (li:Nat->Option dC) (rounds:Nat) (cells:List (Nat×Nat×Int×Int)) (sq:cy) (g:Operand) (bX:Array Tmp) (assign body:Code) (n:Nat) (tm:List V) (bl:List ar) (k:fA):T:=
 match bM tm g,bX.toList,hb cells 0 (n+1) bl with
 | .nm f [.ptr bs 0,.ptr oI 0],[p],some (dS,l2,b2)=>match bl[bs]?,bl[oI]?,dS[bs]?,dS[oI]? with
  |some ([.sl b aQ o ro len cap],_),some ([.int .i64 N],_),some ([xs],_),some ([FQ],_)=>match N.l.dp with
   |some c=>cond (aA f sq&&decide (0<c)&&decide (c<=9223372036854775807)&&aA aQ 1&&ko assign&&ko body&&kM tm tm&&kL dS dS&&A.beq xs (.sl b aQ o ro len cap)&&A.beq FQ (.int .i64 N)&&bJ [xs]&&bJ [FQ])
    (.mG 70 [len,.const c] (.loop n (l2++[.const 0]) (n+1) (b2++[(0,9223372036854775807)])
      (.mE (.lt ((I.var (n+1+l2.length)).smul c) len)
        (kK P gl cal inl li rounds assign (n+1+l2.length+1) (pN tm p (.w (.one (.sl b 1 o (ro.add ((I.var (n+1+l2.length)).smul c)) (.const c) (.const c))))) dS λx n' bR aR=>match x with
          | .normal=>kK P gl cal inl li rounds body n' bR aR λx n' bR aR=>match x with
           | .normal=>match hb cells 0 (n+1) (aR.take bl.length)with
            |some (mD,v2,_)=>cond (kL dS mD) (.again n (v2++[(I.var (n+1+l2.length)).add (.const 1)])) .stuck
            |none=> .stuck
           |_=> .stuck
          |_=> .stuck)
        (k (n+1+l2.length+1) tm dS)))) .stuck
   |none=> .stuck
  |_,_,_,_=> .stuck
 |_,_,_=> .stuck
theorem WG {eN:List Nat}:∀(tm:List V) (i s:Nat),(∀j,i<=j->j<i+tm.length->eN.any (aA j)=true)->hs eN [] i s tm=some (tm,[],[])
 |[],_,_,_=>rfl
 |v::r,i,s,h=>by
  unfold hs
  rw[h i (a6 _) (by simp),WG r (i+1) s λj h1 h2=>h j (by omega) (by simp only[dv];omega)]
  rfl
theorem Xj (tm:List V) (s:Nat):hs (cA tm.length) [] 0 s tm=some (tm,[],[]):=
 WG tm 0 s λj _ h=>List.any_eq_true.2 ⟨j,List.mem_range.2 (by omega),wZ j⟩
theorem sS (w:ai) (l:Nat) (o:Obj):(w.putObj l o).os=w.os/\(w.putObj l o).tape=w.tape/\(w.putObj l o).output=w.output/\(w.putObj l o).heap.size=w.heap.size:=⟨rfl,rfl,rfl,R2⟩
theorem Mem.cell0 {w0:dm} {ρ:Env} {m:Nat->Nat} {bl:List ar} {w:ai} (h:Mem w0 ρ m bl w) {i:Nat} {x:A} {t:aN×Bool} (hi:bl[i]?=some ([x],t)) (ho:bJ [x]=true):w.cell? ⟨m i,0,none⟩=some (x.den ρ m):=by
 obtain⟨_,_,r,_,h3⟩:=h.et i _ t hi ho
 simp[iW,h3]
def KT (fx:List Int->Prop) (w0:dm) (W1:ai) (n:Nat) (ρ:Env) (m:Nat->Nat) (tm:List V) (dS:List ar) (b2:List (Int×Int)) (k2:Nat) (tmps:Array az) (i:Nat) (W:ai):Prop:=
 ∃zs,zs.length=k2/\aO (b2++[(0,9223372036854775807)]) (zs++[(i:Int)])/\fx (zs++[(i:Int)])/\R (narrow w0 W1 []) (n+1+k2+1) (bu ρ (n+1) (zs++[(i:Int)])) m tm dS {tmps:=tmps,defers:=[]} W
theorem apC {w0:dm} {inl:iy} {li:Nat->Option dC} {rounds:Nat} {cells:List (Nat×Nat×Int×Int)} {sq:cy} {g:Operand} {bX:Array Tmp} {assign body:Code} (je:KW P sq) (hm:P.follows .mixedOrders=true)
 (cx:∀r ex ro,fk S P gl ⟨w0.b,r,ex,ro,[]⟩ cal) (hg:eK gl w0) (jf:∀r ex ro,lU S L ⟨w0.b,r,ex,ro,[]⟩ P inl)
 {n:Nat} {ρ:Env} {m:Nat->Nat} {tm:List V} {bl:List ar} {a:Act} {w:ai} {G:dw} {k:fA} {Q:Exit->Act->ai->Prop} (h:R w0 n ρ m tm bl a w) (mJ:w0.ds=[])
 (ae:(PZ P gl cal inl li rounds cells sq g bX assign body n tm bl k).holds S L G ρ)
 (hk:∀n' ad bR aR dx w1 D dc w',dr n bl.length ρ m n' (kA aR) ad m->dU n G dx->Sub w1 w0->¬w1.ex D->w1.r.heap[D]?=some (.deferred (some []))->w0.r.heap.size<=D->w0.b.heap.size<=D->w1.ds=[{target:= .collected D,args:=#[]}]->
   R w1 n' ad m bR aR dc w'->(k n' bR aR).holds S L dx ad->Q .normal dc w'):(Code.rangeFunc g bX assign body).wpIn zD 0 P Q a w:=by
 unfold PZ at ae
 split at ae
 rotate_left
 ·exact ae.elim
 rename_i f bs oI p dS l2 b2 e1 e2 bt
 split at ae
 rotate_left
 ·exact ae.elim
 rename_i b aQ o ro len cap ts N ayc xs nL FQ ayd bo bI b6 dz
 split at ae
 rotate_left
 ·exact ae.elim
 rename_i c hc
 generalize gf:(aA f sq&&decide (0<c)&&decide (c<=9223372036854775807)&&aA aQ 1&&ko assign&&ko body&&kM tm tm&&kL dS dS&&A.beq xs (.sl b aQ o ro len cap)&&A.beq FQ (.int .i64 N)&&bJ [xs]&&bJ [FQ])=tG at ae
 cases tG with
 |false=>exact ae.elim
 |true=>
 simp only[aK,decide_eq_true_eq]at gf
 obtain⟨⟨⟨⟨⟨⟨⟨⟨⟨⟨⟨c1,c2⟩,c3⟩,c4⟩,c5⟩,gy⟩,nk⟩,mF⟩,p8⟩,xz⟩,ac3⟩,ac4⟩:=gf
 have c1:=bk c1
 have c4:=bk c4
 subst c1;subst c4
 have p8:=A.beq_eq p8
 have xz:=A.beq_eq xz
 subst p8;subst xz
 simp only[cond_true,T.holds]at ae
 obtain⟨AF,fx,gV,MT,hB⟩:=ae
 have AF:c∣len.den ρ:=by simpa [aa,Dj,I.aM]using AF
 have Ob:A.ok n bl.length ρ (.sl b 1 o ro len cap):=h.b _ (dK bo) _ (by simp)
 obtain⟨xY,⟨n7,lv,AQ,Ic⟩,qi⟩:=Ob
 obtain⟨⟨s1,s2,fR,nF⟩,⟨nG,JC⟩,wM,wN⟩:=qi
 have aih:a.eval g= .func (.func f) #[] #[.pointer (some ⟨m bs,0,none⟩),.pointer (some ⟨m oI,0,none⟩)]:=by
  have:=(b9 h.t g).2
  rw[e1]at this
  exact this
 have ai7:bX=#[p]:=by rw[<-Array.toArray_toList (xs:=bX),e2]
 subst ai7
 refine wpIn_rangeFunc ?_
 intro fn vQ
 obtain⟨rec,yh⟩:∃rec:LoopState->Option Code->Loop,rec=λst apa=>{state:=st,pending:=apa,fn,tmps:=a.tmps,params:=#[p],assign,body,defers:=w.heap.size}:=⟨_,rfl⟩
 obtain⟨W1,HN⟩:∃W1,(w.alloc (.deferred (some []))).alloc (.loop (rec .ready none))=W1:=⟨_,rfl⟩
 have qd:W1.heap[w.heap.size+1]?=some (.loop (rec .ready none)):=by
  rw[<-HN];have:=avR (w.alloc (.deferred (some []))) (.loop (rec .ready none));rwa [World.size_alloc]at this
 have MU:W1.heap[w.heap.size]?=some (.deferred (some [])):=by
  rw[<-HN];exact(Below.heap_alloc _ _ _ (by simp)).trans (avR w _)
 have tT:w.heap.size+1<W1.heap.size:=(Array.getElem?_eq_some_iff.1 qd).1
 have Vv:Mem w0 ρ m bl W1:=by rw[<-HN];exact h.ba.grow (((na w).alloc _).alloc _)
 have hbl:w0.b.heap.size<=w.heap.size:=h.ba.ext.size
 have Ih:w0.r.heap.size<=w.heap.size:=h.ba.eI
 generalize hl:w.heap.size+1=l at*
 generalize hD:w.heap.size=D at*
 have x6:∀(k:Nat) (o:Obj),W1.heap[k]?=some o->o.isCells=false->¬(narrow w0 W1 []).ex k:=λk o hk ho ⟨_,bV,h1,h2⟩=>by
  rw[hk]at h1;cases h1;rw[ho]at h2;cases h2
 have abl:R (narrow w0 W1 []) n ρ m tm bl {tmps:=a.tmps,defers:=[]} W1:=⟨h.t,rfl,h.b,Vv.narrow []⟩
 have Il:∀v∈tm,V.ok n bl.length ρ v:=λv hv=>by
  obtain⟨i,hi⟩:=List.getElem?_of_mem hv
  exact(h.t.2 i v hi).1
 have Ds:hb cells 0 (n+1+([]:List I).length) bl=some (dS,l2,b2):=bt
 obtain⟨N0,axK⟩:=D0 bt
 have head:∀{n':Nat} {ad:Env} {m':Nat->Nat} {aR mD:List ar} {v2:List I} {qY:List (Int×Int)} {W:ai} {x:I},bl.length<=aR.length->agree n ρ ad->(∀b,b<bl.length->m' b=m b)->
  R (narrow w0 W1 []) n' ad m' tm aR {tmps:=a.tmps,defers:=[]} W->hb cells 0 (n+1) (aR.take bl.length)=some (mD,v2,qY)->kL dS mD=true->
  v2.length=l2.length/\aO b2 (v2.map (·.den ad))/\R (narrow w0 W1 []) (n+1+l2.length+1) (bu ρ (n+1) (v2.map (·.den ad)++[x.den ad])) m tm dS {tmps:=a.tmps,defers:=[]} W:=λ{n' ad m' aR mD v2 qY W x} k1 k2 k3 k4 pD sI=>by
  obtain⟨dV,nz,og,_⟩:=Wa (li:={eN:=cA tm.length,ints:=[],cells:=cells}) (ext:=[x]) k1 k2 k3 Il h.b k4 (Xj tm (n+1)) Ds (Xj tm (n+1)) (v2:=v2) pD nk sI
  simp only[gF,oE,ld,jr,dv,ff,cr,dY]at dV nz og
  exact⟨dV,nz,og⟩
 obtain⟨i0,i1,i2⟩:=head (x:= .const 0) (a6 _) (agree.refl n ρ) (λ_ _=>rfl) abl (by rw[RD];exact bt) mF
 have agE:KT fx w0 W1 n ρ m tm dS b2 l2.length a.tmps 0 W1:=by
  refine⟨l2.map (·.den ρ),by simp,rz i1 ⟨by simp,by simp,trivial⟩,?_,by simpa [I.aM]using i2⟩
  simpa [I.aM]using MT
 have still:∀{i:Nat} {W:ai} {k:Nat} {o:Obj},KT fx w0 W1 n ρ m tm dS b2 l2.length a.tmps i W->W1.heap[k]?=some o->o.isCells=false->W.heap[k]?=some o:=λ{i W k o} hJ hk ho=>by
  obtain⟨zs,ah,z2,z3,z4⟩:=hJ
  exact(z4.ba.fM k (Array.getElem?_eq_some_iff.1 hk).1 (x6 k o hk ho)).trans hk
 obtain⟨C,hC⟩:∃C:Nat,(C:Int)=c:=⟨c.toNat,avS (by omega)⟩
 obtain⟨mz,MX⟩:∃mz:Nat,(mz:Int)=len.den ρ:=⟨(len.den ρ).toNat,avS (by omega)⟩
 have Nu:C∣mz:=by rw[<-hC,<-MX]at AF;exact Int.natCast_dvd_natCast.1 AF
 have ahO:mz<=(cap.den ρ).toNat:=by
  by_cases h0:cap.den ρ<0
  ·have:=wM h0;omega
  ·have:=wN (by omega);omega
 have Ip:∀{i:Nat} {zs:List Int},zs.length=l2.length->bu ρ (n+1) (zs++[(i:Int)]) (n+1+l2.length)=i:=λ{i zs} hz=>by
  rw[B3 _ _ _ _ (by simp[hz]),<-hz];simp
 have fm:∀{i:Nat} {zs:List Int},agree n ρ (bu ρ (n+1) (zs++[(i:Int)])):=λ{i zs}=>(agree.bu _ (n+1) ρ).mono (by omega)
 have main:=je.2 l (m bs) (m oI) ((A.sl b 1 o ro len cap).den ρ m) (m b) ((o.den ρ).toNat+(ro.den ρ).toNat) mz (cap.den ρ).toNat C (KT fx w0 W1 n ρ m tm dS b2 l2.length a.tmps) W1 (by omega) (by omega) Nu ahO (by omega)
  (by
    simp only[A.den]
    by_cases h0:cap.den ρ<0
    ·rw[if_pos h0];have:=wM h0;exact .inr ⟨rfl,by omega⟩
    ·rw[if_neg h0];refine .inl ?_;rw[show(len.den ρ).toNat=mz by omega,CF])
  (λi W hJ=>by
    obtain⟨zs,ah,z2,z3,z4⟩:=hJ
    have jn:=z4.ba.cell0 b6 ac3
    have qz:=z4.ba.cell0 dz ac4
    have Ob:A.ok n bl.length ρ (.sl b 1 o ro len cap):=h.b _ (dK bo) _ (by simp)
    have aiX:A.ok n bl.length ρ (.int .i64 N):=h.b _ (dK bI) _ (by simp)
    rw[A.jy Ob fm (λ_ _=>rfl)]at jn
    rw[A.jy aiX fm (λ_ _=>rfl)]at qz
    refine⟨jn,qz.trans ?_⟩
    simp only[A.den,I.gH hc,hC])
  (λi W hJ=>by
    obtain⟨zs,ah,z2,z3,z4⟩:=hJ
    exact⟨zs,ah,z2,z3,z4.t,z4.d,z4.b,z4.ba.grow (Kq (na W))⟩)
  ?_ agE
 ·refine⟨l,[{target:= .collected D,args:=#[]}],W1,{target:= .fn (.func f) #[.pointer (some ⟨m bs,0,none⟩),.pointer (some ⟨m oI,0,none⟩)],args:=#[.func (.yield l) #[] #[]]},W1,f,
   #[.func (.yield l) #[] #[],.pointer (some ⟨m bs,0,none⟩),.pointer (some ⟨m oI,0,none⟩)],W1,?_,?_,λnq We=>trivial,?_,λhs=>by simp[zD]at hs,?_⟩
  ·rw[<-HN,yh,<-hl,<-hD];exact run_enterLoop_outer _ _ _ _ _
  ·simp only[resolve,aih]
   simp[go_sem]
  ·simp[invoke,go_sem,je.1]
  ·refine main.mono ?_
   rintro e W2 ⟨⟨v,rfl⟩,hJ⟩
   have H7:=still hJ qd rfl
   have axI:=still hJ MU rfl
   obtain⟨zs,ah,z2,z3,z4⟩:=hJ
   have q9:=(kG hB z2 z3).2
   have Eu:len.den (bu ρ (n+1) (zs++[((mz/C:Nat):Int)]))=mz:=by rw[I.bB fm AQ,MX]
   have hq:C*(mz/C)=mz:=Nat.mul_div_cancel' Nu
   have rb:aS.den (bu ρ (n+1) (zs++[((mz/C:Nat):Int)])) (.lt ((I.var (n+1+l2.length)).smul c) len)=false:=by
    simp only[aS.den,I.kh,I.cg,Ip ah,Eu,decide_eq_false_iff_not]
    rw[<-hC]
    have:(C:Int)*((mz/C:Nat):Int)=(mz:Int):=by exact_mod_cast hq
    omega
   have q9:=q9 rb
   refine⟨none,_,by have:=run_endLoop (P:=P) H7 (by rw[yh];simp);rw[yh]at this;exact this,?_⟩
   simp only
   obtain⟨KX,agz⟩:∃o,o=Obj.loop {({state:= .ready,pending:=none,fn,tmps:=a.tmps,params:=#[p],assign,body,defers:=D}:Loop)with state:= .exhausted}:=⟨_,rfl⟩
   rw[<-agz]
   have aba:Mem ⟨w0.b,W1.putObj l KX,(narrow w0 W1 []).ex,w0.ro,[{target:= .collected D,args:=#[]}]⟩ (bu ρ (n+1) (zs++[((mz/C:Nat):Int)])) m dS (W2.putObj l KX):=
    Mem.zn z4.ba l (by omega) (x6 l _ qd rfl) tT (sS _ _ _) (sS _ _ _) (λk hk=>rX hk) (λk hk=>rX hk) (by rw[vf (Array.getElem?_eq_some_iff.1 H7).1,vf tT]) (λo ho=>by rw[qd]at ho;cases ho;rfl)
   refine hk _ _ _ _ _ ⟨w0.b,W1.putObj l KX,(narrow w0 W1 []).ex,w0.ro,[{target:= .collected D,args:=#[]}]⟩ D _ _ ⟨by omega,fm,by omega,λ_ _=>rfl⟩ (λbp sC=>?_) (Sub.zn (Sub.narrow Vv []) l (by omega) (sS _ _ _) (λk hk=>rX hk)) (x6 D _ MU rfl) ((rX (by omega)).trans MU) Ih hbl rfl ⟨z4.t,?_,z4.b,aba⟩ q9
   ·unfold dw.set
    cases hb:aA bp n with
    |true=>have:=bk hb;omega
    |false=>rfl
   ·show _++a.defers=_
    rw[h.d,mJ];rfl
 ·
  intro i W hJ hlt
  have H7:=still hJ qd rfl
  obtain⟨zs,ah,z2,z3,z4⟩:=hJ
  have q9:=(kG hB z2 z3).1
  have Eu:len.den (bu ρ (n+1) (zs++[(i:Int)]))=mz:=by rw[I.bB fm AQ,MX]
  have rb:aS.den (bu ρ (n+1) (zs++[(i:Int)])) (.lt ((I.var (n+1+l2.length)).smul c) len)=true:=by
   simp only[aS.den,I.kh,I.cg,Ip ah,Eu,decide_eq_true_eq]
   rw[<-hC];exact_mod_cast hlt
  have q9:=q9 rb
  have hh:C*i+C<=mz:=by
   obtain⟨q,rfl⟩:=Nu
   have:i<q:=Nat.lt_of_mul_lt_mul_left hlt
   have:C*(i+1)<=C*q:=Ky C this
   rw[Nat.mul_succ]at this
   omega
  have Np:¬cap.den ρ<0:=λh0=>by have:=wM h0;omega
  have D6:=wN (by omega)
  have hid:(ro.add ((I.var (n+1+l2.length)).smul c)).den (bu ρ (n+1) (zs++[(i:Int)]))=ro.den ρ+(C*i:Nat):=by
   rw[I.den_add,I.kh,I.cg,Ip ah,I.bB fm lv,<-hC];simp
  have Wx:o.den (bu ρ (n+1) (zs++[(i:Int)]))=o.den ρ:=I.bB fm n7
  have ajA:(V.w (.one (.sl b 1 o (ro.add ((I.var (n+1+l2.length)).smul c)) (.const c) (.const c)))).ok (n+1+l2.length+1) dS.length (bu ρ (n+1) (zs++[(i:Int)])):=by
   refine⟨by omega,⟨n7.mono (by omega),I.sZ (lv.mono (by omega)) (I.uQ (I.ez (by omega))),I.cz _ _,I.cz _ _⟩,?_⟩
   rw[hid,Wx,I.aM]
   exact⟨⟨s1,by omega,by omega,by omega⟩,⟨by omega,by omega⟩,λh=>by omega,λ_=>cn _⟩
  have ajC:(V.w (.one (.sl b 1 o (ro.add ((I.var (n+1+l2.length)).smul c)) (.const c) (.const c)))).rel (bu ρ (n+1) (zs++[(i:Int)])) m (.slice (some ⟨m b,(o.den ρ).toNat+(ro.den ρ).toNat+C*i,none⟩) C C):=by
   simp only[V.rel,bg.W.den,A.den,hid,Wx,I.aM,CF]
   rw[if_neg (by omega),show c.toNat=C by omega,show(ro.den ρ+(C*i:Nat)).toNat=(ro.den ρ).toNat+C*i by omega,Nat.add_assoc]
  have VA:R (narrow w0 W1 []) (n+1+l2.length+1) (bu ρ (n+1) (zs++[(i:Int)])) m (pN tm p (.w (.one (.sl b 1 o (ro.add ((I.var (n+1+l2.length)).smul c)) (.const c) (.const c))))) dS
   (({tmps:=a.tmps,defers:=[]}:Act).put (some p) (.slice (some ⟨m b,(o.den ρ).toNat+(ro.den ρ).toNat+C*i,none⟩) C C)) W:=
   ⟨dD.put z4.t (some p) ajA ajC,z4.d,z4.b,z4.ba⟩
  have hy:=run_yield (P:=P) (args:=#[.slice (some ⟨m b,(o.den ρ).toNat+(ro.den ρ).toNat+C*i,none⟩) C C]) H7 (by rw[yh];rfl)
  rw[yh]at hy
  have aei:(({tmps:=a.tmps,defers:=[]}:Act).put (some p) (.slice (some ⟨m b,(o.den ρ).toNat+(ro.den ρ).toNat+C*i,none⟩) C C))={tmps:=((#[p]:Array Tmp).zip #[KD (some ⟨m b,(o.den ρ).toNat+(ro.den ρ).toNat+C*i,none⟩) C C]).foldl (λtmps (t,a)=>tmps.setIfInBounds t a) a.tmps,defers:=[]}:=by
   simp[Act.put]
  rw[aei]at VA
  refine⟨fn,_,assign,body,hy,roundIn_of_wpIn trivial ?_⟩
  refine Aa (rd:=some l) hm (cx _ _ _) (λg cs h=>hg g cs h) (jf _ _ _) assign (.inr c5) _ _ _ _ _ _ _ _ W _ VA q9 λx n1 ax iG JU nX G1 a1 w1 g1 g2 g3 g4=>?_
  cases x with
  |exit id=>exact g4.elim
  |ret=>exact g4.elim
  |normal=>
   simp only at g4
   have Wo:w1.heap[l]?=some (.loop (rec .ready none)):=(g3.ba.fM l tT (x6 l _ qd rfl)).trans qd
   obtain⟨xf,MR⟩:∃o,o=Obj.loop {rec .ready none with state:= .busy}:=⟨_,rfl⟩
   have agv:xf.isCells=false:=by rw[MR];rfl
   have M2:Mem ⟨w0.b,W1.putObj l xf,(narrow w0 W1 []).ex,w0.ro,[]⟩ ax iG nX (w1.putObj l xf):=
    Mem.zn g3.ba l (by omega) (x6 l _ qd rfl) tT (sS _ _ _) (sS _ _ _) (λk hk=>rX hk) (λk hk=>rX hk) (by rw[vf (Array.getElem?_eq_some_iff.1 Wo).1,vf tT]) (λo ho=>by rw[qd]at ho;cases ho;rfl)
   refine⟨w1.putObj l xf,by rw[MR];exact run_beginRound Wo (by rw[yh]),?_⟩
   refine Aa (rd:=some l) hm (cx _ _ _) (λg cs h=>hg g cs h) (jf _ _ _) body (.inr gy) n1 JU nX _ G1 ax iG a1 _ _ (⟨g3.t,g3.d,g3.b,M2⟩:R ⟨w0.b,W1.putObj l xf,(narrow w0 W1 []).ex,w0.ro,[]⟩ n1 ax iG JU nX a1 (w1.putObj l xf)) g4 λx ed bx ey aq5 kf Gx a2 w2 k1 k2 k3 k4=>?_
   cases x with
   |exit id=>exact k4.elim
   |ret=>exact k4.elim
   |normal=>
    simp only at k4
    split at k4
    rotate_left
    ·exact k4.elim
    rename_i mD v2 qY eS
    cases hf:kL dS mD with
    |false=>rw[hf]at k4;exact k4.elim
    |true=>
    rw[hf]at k4
    simp only[cond_true,T.holds]at k4
    have Es:w2.heap[l]?=some xf:=(k3.ba.fM l (by rw[R2];exact tT) (x6 l _ qd rfl)).trans (vf tT)
    have aiH:=(Array.getElem?_eq_some_iff.1 Es).1
    rw[MR]at Es
    refine⟨_,_,run_endRound none Es,rfl,?_⟩
    have aje:({{rec .ready none with state:= .busy}with state:=if(none:Option Code).isNone then .ready else .done,pending:=none}:Loop)=rec .ready none:=by rw[yh];rfl
    rw[aje]
    have aa9:Mem (narrow w0 W1 []) bx ey kf (w2.putObj l (.loop (rec .ready none))):=
     Mem.zn k3.ba l (by omega) (x6 l _ qd rfl) (by rw[R2];exact tT) ⟨rfl,rfl,rfl,World.putObj_size.symm⟩ (sS _ _ _) (λk hk=>(rX hk).symm) (λk hk=>rX hk) (by rw[vf aiH,qd]) (λo ho=>by rw[vf tT]at ho;cases ho;exact agv)
    have MV:dr n bl.length ρ m (n+1+l2.length+1) dS.length (bu ρ (n+1) (zs++[(i:Int)])) m:=⟨by omega,fm,by omega,λ_ _=>rfl⟩
    have xN:=(MV.trans g1).trans k1
    have abm:R (narrow w0 W1 []) ed bx ey tm kf {tmps:=a.tmps,defers:=[]} (w2.putObj l (.loop (rec .ready none))):=⟨h.t.ext xN.ha xN.hn xN.hb xN.hm,rfl,k3.b,aa9⟩
    obtain⟨oB,rO,s7⟩:=head (x:=(I.var (n+1+l2.length)).add (.const 1)) xN.hb xN.ha xN.hm abm eS hf
    have WX:bx (n+1+l2.length)=i:=by rw[(g1.trans k1).ha _ (by omega),Ip ah]
    have hx:((I.var (n+1+l2.length)).add (.const 1)).den bx=((i+1:Nat):Int):=by rw[I.den_add,I.cg,I.aM,WX];simp
    rw[hx]at s7
    have MS:Gx n=λvs=>fx vs/\gV vs<gV (zs++[(i:Int)]):=by
     rw[k2 n (by have:=g1.hn;omega),g2 n (by omega)]
     unfold dw.set
     rw[show aA n n=true from wZ n];rfl
    rw[MS,ff,cr,dY,hx]at k4
    have:i+1<=mz:=by
     have:=Nat.mul_le_mul_right i (show 1<=C by omega)
     omega
    exact⟨v2.map (·.den bx),by simp[oB],rz rO ⟨by omega,by omega,trivial⟩,k4.1,s7⟩
noncomputable def zY (P:bm) (gl:dO) (cal:eg) (inl:iy) (li:cy->Nat->Option dC) (rounds:Nat) (cells:List (Nat×Nat×Int×Int)) (sq:cy):iy:=
 λf n vs bl k=>match P.funcs[f]? with
  |none=> .stuck
  |some fn=>match fn.body with
   |some (.seq bT (.seq (.seq c1 (.block _ (.rangeFunc g bX assign body))) c3))=>cond (!(fn.name== "runtime.NumGoroutine")&&bw vs.length fn.ntmps)
    (kK P gl cal inl (li f) rounds bT n (vs++BQ (fn.ntmps-vs.length)) bl λx n tm bl=>match x with
      | .normal=>kK P gl cal inl (li f) rounds c1 n tm bl λx n tm bl=>match x with
       | .normal=>PZ P gl cal inl (li f) rounds cells sq g bX assign body n tm bl λn tm bl=>
        kK P gl cal (λ_ _ _ _ _=> .stuck) (li f) rounds c3 n tm bl λx n tm bl=>match x with
         | .exit _=> .stuck
         |_=>Fy P gl fn n tm bl k
       |_=> .stuck
      |_=> .stuck) .stuck
   |_=> .stuck
theorem ajX {w0:dm}:lU S L w0 P (λ_ _ _ _ _=> .stuck):=λf n vs bl k G ρ m w xs R' _ _ _ _ ae _=>ae.elim
theorem TW {w0:dm} {inl:iy} {li:cy->Nat->Option dC} {rounds:Nat} {cells:List (Nat×Nat×Int×Int)} {sq:cy} (je:KW P sq) (hm:P.follows .mixedOrders=true)
 (cx:∀r ex ro,fk S P gl ⟨w0.b,r,ex,ro,[]⟩ cal) (hg:eK gl w0) (jf:∀r ex ro,lU S L ⟨w0.b,r,ex,ro,[]⟩ P inl) (mJ:w0.ds=[]):lU S L w0 P (zY P gl cal inl li rounds cells sq):=by
 have WO:w0=⟨w0.b,w0.r,w0.ex,w0.ro,[]⟩:=by cases w0;simp at mJ;subst mJ;rfl
 have V0:fk S P gl w0 cal:=by rw[WO];exact cx _ _ _
 have Wh:lU S L w0 P inl:=by rw[WO];exact jf _ _ _
 intro f n vs bl k G ρ m w xs R' hb kk oQ hrel ae hk
 unfold zY at ae
 cases hf:P.funcs[f]? with
 |none=>simp[hf,T.holds]at ae
 |some fn=>
  simp only[hf]at ae
  split at ae
  rotate_left
  ·exact ae.elim
  rename_i bT c1 id g bX assign body c3 tM
  cases hc:(!(fn.name== "runtime.NumGoroutine")&&bw vs.length fn.ntmps)with
  |false=>simp[hc,T.holds]at ae
  |true=>
   simp only[hc,cond_true]at ae
   simp only[aK,js]at hc
   have hlen:=K8 hrel
   refine⟨?_,?_⟩
   ·have h1:¬fn.name= "runtime.NumGoroutine" :=by have:=hc.1;simpa using this
    simp[callFunc,hf,tM,h1]
   ·refine(callsIn_wide (n:=0)).1 (callsIn_of_wp_marks hf tM trivial ?_ rfl)
    have hR:R w0 n ρ m (vs++BQ (fn.ntmps-vs.length)) bl {tmps:=xs.toArray++th (fn.ntmps-xs.toArray.size) undef,defers:=[]} w:=by
     refine⟨?_,mJ.symm,hb,kk⟩
     have:=GI (K6 (fn.ntmps-vs.length) oQ hrel)
     have e:(xs++cV (fn.ntmps-vs.length) undef).toArray=xs.toArray++th (fn.ntmps-xs.toArray.size) undef:=by
      simp[hlen]
     rw[e]at this
     exact this
    refine wpIn_seq (Aa (rd:=none) hm V0 hg Wh bT (.inl rfl) n _ bl _ G ρ m _ w _ hR ae λx n1 ax iG JU nX G1 a1 w1 h1 h2 h3 h4=>?_)
    cases x with
    |exit id=>exact h4.elim
    |ret=>exact h4.elim
    |normal=>
    refine wpIn_seq (wpIn_seq (Aa (rd:=none) hm V0 hg Wh c1 (.inl rfl) n1 JU nX _ G1 ax iG a1 w1 _ h3 h4 λx ed bx ey aq5 kf Gx a2 w2 k1 k2 k3 k4=>?_))
    cases x with
    |exit id=>exact k4.elim
    |ret=>exact k4.elim
    |normal=>
    refine wpIn_block (apC je hm cx hg jf k3 mJ k4 λmQ fI aq6 acQ K0 b3 D a3 ats p1 bq cv dI dJ fv lF rH PL PK=>?_)
    have ahN:fk S P gl b3 cal:=by
     have e:b3=⟨w0.b,b3.r,b3.ex,b3.ro,b3.ds⟩:=by have:=cv.b;cases b3;simp at this;subst this;rfl
     rw[e];exact(cx _ _ _).ds
    have x8:eK gl b3:=λg cs h=>by rw[cv.b];exact hg g cs h
    refine Aa (rd:=none) hm ahN x8 ajX c3 (.inl rfl) mQ aq6 acQ _ K0 fI ey a3 ats _ PL PK λx wy Gv Bq Zz Da Gy a4 w4 bo bI b6 dz=>?_
    have hD:w4.heap[D]?=some (.deferred (some [])):=(b6.ba.fM D (Array.getElem?_eq_some_iff.1 dJ).1 dI).trans dJ
    have aiJ:=(Array.getElem?_eq_some_iff.1 hD).1
    have abb:Mem ⟨b3.b,b3.r.putObj D (.deferred none),b3.ex,b3.ro,[]⟩ Gv Bq Da (w4.putObj D (.deferred none)):=by
     have e:b3=⟨b3.b,b3.r,b3.ex,b3.ro,b3.ds⟩:=rfl
     refine Mem.zn (e▸b6.ba) D (by rw[cv.b];exact lF) dI (Array.getElem?_eq_some_iff.1 dJ).1 (sS _ _ _) (sS _ _ _) (λk hk=>rX hk) (λk hk=>rX hk) (by rw[vf aiJ,vf (Array.getElem?_eq_some_iff.1 dJ).1]) (λo ho=>by rw[dJ]at ho;cases ho;rfl)
    have abq:Sub ⟨b3.b,b3.r.putObj D (.deferred none),b3.ex,b3.ro,[]⟩ w0:=Sub.zn (ds:=b3.ds) cv D fv (sS _ _ _) (λk hk=>rX hk)
    have Tm:Mem w0 Gv Bq Da (w4.putObj D (.deferred none)):=abb.less abq
    have abn:R w0 wy Gv Bq Zz Da {a4 with defers:=[]} (w4.putObj D (.deferred none)):=⟨b6.t,mJ.symm,b6.b,Tm⟩
    have fin:(Fy P gl fn wy Zz Da k).holds S L Gy Gv->LeavesInM zD 0 P fn a4.tmps R' a4.defers .returning w4:=λhr=>by
     obtain⟨v,val,oB,rO,s7,FO⟩:=P1 hg abn hr
     have cJ:=(((h1.trans k1).trans p1).trans bo)
     have hA:=(((h2.trans k2 h1.hn).trans bq (h1.trans k1).hn).trans bI ((h1.trans k1).trans p1).hn)
     rw[b6.d,rH]
     exact⟨by simp,.inl ⟨D,_,rfl,run_takeDeferred hD,val,s7,hk wy v Da Gy Gv Bq _ val cJ hA oB rO b6.b Tm FO⟩⟩
    cases x with
    |exit id=>exact dz.elim
    |normal=>exact fin dz
    |ret=>exact fin dz
end Go.bg
namespace Go.bg
open M
variable {S:Nat->List Int->List Int->Prop} {L:V->Env->Prop} {P:bm} {gl:dO} {cal:eg}
structure ik where
 c:dL
 ty:aN
 nil:Bool
def wG (p:ik) (g k:Nat):Array az:=cond p.nil #[.slice (some ⟨g,0,none⟩) k k,.slice none 0 0] #[.slice (some ⟨g,0,none⟩) k k]
def ik.eB (P:bm) (wb:ai) (p:ik) (spec:List Int->List Int->Prop):Prop:=
 (∀args w,(callFunc p.c.f args).run P w= .ok (.enter p.c.f args) w)/\
 ∀(F:Nat->Prop) (w:ai) (vs:List az) (zs:List Int) (g:Nat),wb.Extends w->aO (cH p.c.args) zs->yP p.c.pre zs->iz F (λ_=>False) w p.c.args zs vs->wb.heap.size<=g->¬F g->w.heap[g]?=some (.cells vs.toArray p.ty (0,0))->
  iY P p.c.f (wG p g vs.length) w λe w'=>w.Extends w'/\∃rs us,aO (cH p.c.res) rs/\spec zs rs/\iz (λg=>F g∨w.heap.size<=g) (λg=>w.heap.size<=g) w' p.c.res rs us/\e= .returned (pQ us)
def Jd (nil:Bool) (vs:List V):Option (Nat×Nat×Nat):=
 match vs with
 |[.w (.one (.slc b 0 len cap))]=>cond nil none (some (b,len,cap))
 |[.w (.one (.slc b 0 len cap)),.w (.one (.con (.slice none 0 0)))]=>cond nil (some (b,len,cap)) none
 |_=>none
def iT (a:A):V:= .w (.one a)
noncomputable def ik.E (p:ik) (n:Nat) (vs:List V) (bl:List ar) (k:RK):T:=
 match Jd p.nil vs with
 |some (b,len,cap)=>match bl[b]? with
  |some (cs,(t,false))=>cond (bJ cs&&aA len cs.length&&aA cap cs.length&&aA t p.ty&& !(((cs.map iT).flatMap ke).any (aA b))) (p.c.CS n (cs.map iT) bl k) .stuck
  |_=> .stuck
 |none=> .stuck
theorem K9 {ρ:Env} {m:Nat->Nat}:∀(cs:List A),ec ρ m (cs.map iT) (cs.map (A.den ρ m))
 |[]=>trivial
 |a::r=>⟨rfl,K9 r⟩
theorem ao7 {p:ik} {vs:List V} {b len cap:Nat} {ρ:Env} {m:Nat->Nat} {xs:List az} (h:Jd p.nil vs=some (b,len,cap)) (hr:ec ρ m vs xs) (NY:cap=len):xs.toArray=wG p (m b) len:=by
 subst NY
 unfold Jd at h
 split at h
 ·cases hn:p.nil with
  |true=>rw[hn]at h;cases h
  |false=>
   rw[hn]at h;cases h
   match xs,hr with
   |[x],hr=>have hx:x=_:=hr.1;rw[hx];simp[wG,hn,W.den,A.den]
 ·cases hn:p.nil with
  |false=>rw[hn]at h;cases h
  |true=>
   rw[hn]at h;cases h
   match xs,hr with
   |[x,y],hr=>have hx:x=_:=hr.1;have hy:y=_:=hr.2.1;rw[hx,hy];simp[wG,hn,W.den,A.den]
 ·cases h
theorem ik.xh {w0:dm} {p:ik} {spec:List Int->List Int->Prop} (hc:p.eB P w0.b spec) (cw:∀zs rs,spec zs rs->S p.c.id zs rs) (n:Nat) (vs:List V) (bl:List ar) (k:RK) (G:dw) (ρ:Env) (m:Nat->Nat) (w:ai) (xs:List az) (R':u5->ai->Prop)
 (hb:cp n bl.length ρ bl) (hw:Mem w0 ρ m bl w) (hv:∀v∈vs,V.ok n bl.length ρ v) (hr:ec ρ m vs xs) (ae:(p.E n vs bl k).holds S L G ρ) (hk:tw S L w0 k n bl.length ρ m G R'):
 (callFunc p.c.f xs.toArray).run P w= .ok (.enter p.c.f xs.toArray) w/\iY P p.c.f xs.toArray w R':=by
 refine⟨hc.1 _ _,?_⟩
 unfold ik.E at ae
 split at ae
 rotate_left
 ·exact ae.elim
 rename_i b len cap hp
 split at ae
 rotate_left
 ·exact ae.elim
 rename_i cs t hbl
 cases gf:(bJ cs&&aA len cs.length&&aA cap cs.length&&aA t p.ty&& !(((cs.map iT).flatMap ke).any (aA b)))with
 |false=>rw[gf]at ae;exact ae.elim
 |true=>
 rw[gf]at ae
 simp only[aK,js]at gf
 obtain⟨⟨⟨⟨c1,c2⟩,c3⟩,c4⟩,c5⟩:=gf
 have c2:=bk c2
 have c3:=bk c3
 have c4:=bk c4
 subst c4
 rw[ao7 hp hr (by omega),c2]
 obtain⟨b1,b2,r,n8,b3⟩:=hw.et b cs _ hbl c1
 have n8:=n8 rfl
 subst n8
 rw[gT]at b3
 refine dL.Td (f:=p.c.f) cw n (cs.map iT) bl k G ρ m w (cs.map (A.den ρ m)) R' (λzs h1 h2 h3=>?_) hb hw (λv hv=>?_) (K9 cs) ae hk
 ·have:=hc.2 _ w _ zs (m b) hw.ext h1 h2 h3 b1 (λhF=>?_) b3
  ·rwa [j6]at this
  ·obtain⟨⟨b5,k1,k2,q,k3,k4,_⟩,_⟩:=hF
   have hne:b≠b5:=λe=>by
    subst e
    rw[List.any_eq_true.2 ⟨b,k1,wZ b⟩]at c5;cases c5
   rcases hw.inj b b5 _ q hbl k3 k2.symm with h|h|h|h
   ·exact hne h
   ·have:=iQ (ρ:=ρ) c1;simp only at h;omega
   ·have:=iQ (ρ:=ρ) c1;simp only at h;omega
   ·exact k4 h
 ·obtain⟨a,ha,rfl⟩:=List.mem_map.1 hv
  exact hb _ (dK hbl) a ha
def Mv (p:ik) (vs:List V):Bool:=match Jd p.nil vs with
 |some (_,len,_)=>aA len p.c.args.length
 |none=>false
noncomputable def qs:List ik->jO->jO
 |[],bc=>bc
 |p::r,bc=>λf=>cond (aA p.c.f f) (some λn vs bl k=>cond (Mv p vs) (p.E n vs bl k) (match qs r bc f with
  |some g=>g n vs bl k
  |none=> .stuck)) (qs r bc f)
theorem BE {w0:dm} {bc:jO} (iB:oF S L w0 P bc):∀{l:List ik},(∀p∈l,p.eB P w0.b (S p.c.id))->oF S L w0 P (qs l bc)
 |[],_=>iB
 |p::l,h=>λf g hf=>by
  unfold qs at hf
  cases hb:aA p.c.f f with
  |true=>
   rw[hb]at hf
   simp only[cond_true,aG]at hf
   have:=bk hb
   subst this;subst hf
   intro n vs bl k G ρ m w xs R' h1 h2 h3 h4 h5 h6
   have h5:(cond (Mv p vs) (p.E n vs bl k) (match qs l bc p.c.f with
    |some g=>g n vs bl k
    |none=> .stuck)).holds S L G ρ:=h5
   cases hq:Mv p vs with
   |true=>
    rw[hq]at h5
    exact ik.xh (h p (by simp)) (λ_ _ h=>h) n vs bl k G ρ m w xs R' h1 h2 h3 h4 h5 h6
   |false=>
    rw[hq]at h5
    simp only[cond_false]at h5
    cases hr:qs l bc p.c.f with
    |none=>rw[hr]at h5;exact h5.elim
    |some jb=>
     rw[hr]at h5
     exact BE iB (λp hp=>h p (cR _ hp)) p.c.f jb hr n vs bl k G ρ m w xs R' h1 h2 h3 h4 h5 h6
  |false=>
   rw[hb]at hf
   exact BE iB (λp hp=>h p (cR _ hp)) f g hf
def nD:W->A
 | .one a=>a
 |_=> .con undef
noncomputable def ik.tree (bc:jO) (P:bm) (gl:dO) (cal:eg) (li:cy->Nat->Option dC) (rounds d:Nat) (p:ik):T:=
 cond (ni p.c.args&& !(p.c.args.any bQ.ny)) (Ji p.c.pre ((cA (cH p.c.args).length).map Bp) (p4 p.c.args 0 (cH p.c.args).length [] [] λn us bl=>
  cond (us.all (λu=>match u with| .one _=>true|_=>false)&&bJ (us.map nD)) (vr bc P gl cal li rounds d p.c.f n (cond p.nil [iT (.slc bl.length 0 us.length us.length),iT (.con (.slice none 0 0))] [iT (.slc bl.length 0 us.length us.length)]) (bl++[(us.map nD,(p.ty,false))]) λn' v aR=>match aR[bl.length]? with
   |some (cs,(t,false))=>cond (nj cs (us.map nD)&&aA t p.ty) (Fz (cO aR bl.length eC) p.c.res v n' λos _=> .leaf (wD os)) .stuck
   |_=> .stuck) .stuck)) .stuck
theorem Mem.more {b r:ai} {ex ex' ro:Nat->Prop} {ds:List xb} {ρ:Env} {m:Nat->Nat} {bl:List ar} {w:ai} (h:Mem ⟨b,r,ex,ro,ds⟩ ρ m bl w) (he:∀g,ex g->ex' g):Mem ⟨b,r,ex',ro,ds⟩ ρ m bl w:=
 ⟨h.ext,h.gg,h.iF,h.gI,h.eI,λi hi hx=>h.fM i hi λjU=>hx (he i jU),λi cs t hi ho=>by
  obtain⟨h1,h2,h3⟩:=h.et i cs t hi ho
  exact⟨h1,h2.imp (he _) id,h3⟩,λi sh off code cap kind t hi hk=>by
  obtain⟨g1,g2⟩:=h.rws i sh off code cap kind t hi hk
  refine⟨g1,λhc=>?_⟩
  obtain⟨k1,cells,t',fz,k2,k3,k4⟩:=g2 hc
  refine⟨k1.imp (he _) id,cells,t',fz,k2,k3,λh2=>?_⟩
  obtain⟨dV,nz,og,oR,rA,lA⟩:=k4 h2
  exact⟨dV,nz,og,oR,rA,lA.imp (he _) id⟩,h.inj⟩
theorem Mem.drop {b r:ai} {ro:Nat->Prop} {ρ:Env} {m:Nat->Nat} {bl:List ar} {w:ai} {g i0:Nat} {cs:List A} {t:aN} (h:Mem ⟨b,r,λi=>i=g,ro,[]⟩ ρ m bl w) (hi:bl[i0]?=some (cs,(t,false))) (ho:bJ cs=true) (hg:m i0=g) (hr:r.heap[g]?=some (.cells (cs.map (A.den ρ m)).toArray t (0,0))):
 Mem ⟨b,r,λ_=>False,ro,[]⟩ ρ m (cO bl i0 eC) w:=by
 have hlen:i0<bl.length:=(List.getElem?_eq_some_iff.1 hi).1
 have cM:∀(i:Nat) (q:ar),(cO bl i0 eC)[i]?=some q->(i=i0/\q=eC)∨(i≠i0/\bl[i]?=some q):=λi q hq=>by
  rw[ia,nO]at hq
  split at hq
  ·rename_i eo
   subst eo
   simp only[hlen,if_true,aG]at hq
   exact .inl ⟨rfl,hq.symm⟩
  ·rename_i eo;exact .inr ⟨λe=>eo e.symm,hq⟩
 have fu:aX ρ eC.1=0:=by simp[eC,aX,I.aM]
 have jR:aX ρ cs=2:=iQ ho
 have hne:∀(i:Nat) (q:ar),i≠i0->bl[i]?=some q->aX ρ q.1≠0->m i≠g:=λi q kP hq hk e=>by
  rcases h.inj i i0 q _ hq hi (by rw[e,hg])with h1|h1|h1|h1
  ·exact kP h1
  ·simp only at h1;omega
  ·exact hk h1
  ·simp only at h1;omega
 refine⟨h.ext,h.gg,h.iF,h.gI,h.eI,λi dZ _=>?_,λi gZ t' hq gu=>?_,λi sh off code cap kind t' hq=>?_,λi j p q hp hq he=>?_⟩
 ·by_cases e:i=g
  ·subst e
   obtain⟨_,_,zg,iE,h3⟩:=h.et i0 cs _ hi ho
   have iE:=iE rfl
   subst iE
   rw[gT,hg]at h3
   rw[h3];exact hr.symm
  ·exact h.fM i dZ e
 ·rcases cM i _ hq with⟨_,e⟩|⟨kP,hq⟩
  ·simp only[eC,cj]at e
   rw[e.1]at gu;simp[bJ]at gu
  ·obtain⟨h1,h2,h3⟩:=h.et i gZ t' hq gu
   refine⟨h1,?_,h3⟩
   rcases h2 with h2|h2
   ·exact absurd h2 (hne i _ kP hq (by rw[iQ gu];decide))
   ·exact .inr h2
 ·rcases cM i _ hq with⟨_,e⟩|⟨kP,hq⟩
  ·simp only[eC,cj,hS,A.rows.injEq,and_true]at e
   intro hk
   exact absurd e.1.2.2.2.2 hk
  ·intro hk
   obtain⟨g1,g2⟩:=h.rws i sh off code cap kind t' hq hk
   refine⟨g1,λhc=>?_⟩
   have yf:m i≠g:=hne i _ kP hq (by simp only[aX];rw[if_neg (by omega)];exact hk)
   obtain⟨k1,cells,FL,fz,k2,k3,k4⟩:=g2 hc
   refine⟨?_,cells,FL,fz,k2,k3,λh2=>?_⟩
   ·rcases k1 with k1|k1
    ·exact absurd k1 yf
    ·exact .inr k1
   ·obtain⟨dV,nz,og,oR,rA,lA⟩:=k4 h2
    refine⟨dV,nz,og,oR,rA,?_⟩
    rcases lA with lA|lA
    ·exact absurd lA yf
    ·exact .inr lA
 ·rcases cM i _ hp with⟨_,e⟩|⟨kP,hp⟩
  ·subst e;exact .inr (.inr (.inl fu))
  ·rcases cM j _ hq with⟨_,e⟩|⟨Wj,hq⟩
   ·subst e;exact .inr (.inr (.inr fu))
   ·exact h.inj i j p q hp hq he
theorem ik.Fe {wb:ai} {gl:dO} {p:ik} {bc:jO} {cal:eg} {li:cy->Nat->Option dC} {rounds d:Nat} {spec:List Int->List Int->Prop} (hm:P.follows .mixedOrders=true) (cx:∀r ex ro,fk S P gl ⟨wb,r,ex,ro,[]⟩ cal) (hg:eK gl ⟨wb,wb,λ_=>False,λ_=>False,[]⟩)
 (iB:∀(L:V->Env->Prop) (r:ai) (ex ro:Nat->Prop),oF S L ⟨wb,r,ex,ro,[]⟩ P bc) (hf:∀args w,(callFunc p.c.f args).run P w= .ok (.enter p.c.f args) w)
 (ht:mB (cH p.c.args) λzs=>(p.tree bc P gl cal li rounds d).holds S (qU λrs=>aO (cH p.c.res) rs/\spec zs rs) (λ_ _=>False) (bu (λ_=>0) 0 zs)):p.eB P wb spec:=by
 refine⟨hf,λF w vs zs g hw hz EB hat No DS hcell=>?_⟩
 have ae:=kG ht hz
 have lz:=gi hz
 unfold ik.tree at ae
 cases hq:(ni p.c.args&& !(p.c.args.any bQ.ny))with
 |false=>rw[hq]at ae;exact ae.elim
 |true=>
  rw[hq]at ae
  simp only[cond_true]at ae
  have ae:=preA_holds ae (by rw[<-lz,IS];exact EB)
  simp only[aK,js]at hq
  have kk:Mem ⟨wb,w,λ_=>False,F,[]⟩ (bu (λ_=>0) 0 zs) (λ_=>0) [] w:=⟨hw,rfl,rfl,rfl,a6 _,λ_ _ _=>rfl,λi cs t h=>by simp at h,λi sh off code cap kind t h=>by simp at h,λi j p q h=>by simp at h⟩
  have hall:(p.c.args.all λb=> !b.ny)=true:=by
   rw[tf]
   intro b hb
   cases fg:b.ny with
   |false=>rfl
   |true=>rw[List.any_eq_true.2 ⟨b,hb,fg⟩]at hq;cases hq.2
  obtain⟨n',ad,m',us,bl,p1,bq,cv,dI,dJ,fv⟩:=vp (S:=S) (L:=_) (w0:=⟨wb,w,λ_=>False,F,[]⟩) (F:=F) (N:=λ_=>False) (λg hg=> .inr (.inl hg)) (λg hg=>hg.elim) (l:=p.c.args) (s:=0) (us:=[]) (bl:=[]) (m:=λ_=>0) hq.1 (λp hp=>by simp at hp) kk (fX.bu _ 0 zs) hz (by omega) hat (.inr λi p h=>by simp at h) (.inl hall) (λu hu=>by simp at hu) ae
  cases l5:(us.all (λu=>match u with| .one _=>true|_=>false)&&bJ (us.map nD))with
  |false=>rw[l5]at fv;exact fv.elim
  |true=>
  rw[l5]at fv
  simp only[cond_true]at fv
  simp only[aK]at l5
  have WN:∀u∈us,u= .one (nD u):=λu hu=>by
   have:=List.all_eq_true.1 l5.1 u hu
   cases u with
   |one a=>rfl
   |_=>simp at this
  have oQ:(us.map nD).map (A.den ad m')=vs:=by
   have e:us.map (W.den ad m')=vs:=by simpa using dI
   rw[<-e,j5]
   refine gG λu hu=>?_
   rw[WN u hu];rfl
  have OA:∀a∈us.map nD,A.ok n' bl.length ad a:=λa ha=>by
   obtain⟨u,hu,rfl⟩:=List.mem_map.1 ha
   have h1:=dJ u hu
   rw[WN u hu]at h1
   exact h1
  have H2:g<w.heap.size:=(Array.getElem?_eq_some_iff.1 hcell).1
  have gz:=(cv.more (ex':=λi=>i=g) λ_ h=>h.elim).push (x:=(us.map nD,(p.ty,false))) (g:=g) bq OA (λ_=>⟨No,.inl rfl,[],λ_=>rfl,by rw[gT,oQ];exact hcell⟩) (λsh off code cap kind he=>by
   simp only at he;rw[he]at l5;simp[bJ]at l5) (λi q hi he=>by
    refine .inr (.inl ?_)
    by_cases h0:aX ad q.1=0
    ·exact h0
    ·exfalso
     obtain⟨cs,t⟩:=q
     cases ho:bJ cs with
     |true=>
      obtain⟨_,h2,_⟩:=cv.et i cs t hi ho
      rcases h2 with h2|h2
      ·exact h2
      ·simp only at h2;omega
     |false=>
      obtain⟨sh,off,code,cap,k,e⟩:=I8 ho
      subst e
      simp only[aX]at h0
      split at h0
      ·exact h0 rfl
      ·rename_i hc
       obtain⟨h1,_⟩:=(cv.rws i sh off code cap k t hi h0).2 (by omega)
       rcases h1 with h1|h1|h1
       ·exact h1
       ·rw[he]at h1;exact DS h1
       ·simp only at h1;omega)
  have xX:cp n' (bl++[(us.map nD,(p.ty,false))]).length ad (bl++[(us.map nD,(p.ty,false))]):=λq hq a jd=>by
   rcases List.mem_append.1 hq with hq|hq
   ·exact(bq q hq a jd).ext (agree.refl _ _) (a6 _) (by simp)
   ·simp at hq;subst hq
    exact(OA a jd).ext (agree.refl _ _) (a6 _) (by simp)
  have ajw:us.length=vs.length:=by rw[<-oQ];simp
  have NF:eK gl ⟨wb,w,λi=>i=g,F,[]⟩:=hg
  have WJ:V.ok n' (bl++[(us.map nD,(p.ty,false))]).length ad (iT (.slc bl.length 0 us.length us.length)):=by
   show bl.length<_
   simp
  have qi:(iT (.slc bl.length 0 us.length us.length)).rel ad (jl m' bl.length g) (.slice (some ⟨g,0,none⟩) vs.length vs.length):=by
   simp[V.rel,iT,W.den,A.den,ks,ajw]
  have nu:∀v∈(cond p.nil [iT (.slc bl.length 0 us.length us.length),iT (.con (.slice none 0 0))] [iT (.slc bl.length 0 us.length us.length)]),V.ok n' (bl++[(us.map nD,(p.ty,false))]).length ad v:=λv hv=>by
   have ahT:V.ok n' (bl++[(us.map nD,(p.ty,false))]).length ad (iT (.con (.slice none 0 0))):=rfl
   cases hn:p.nil with
   |true=>
    rw[hn]at hv
    simp only[cond_true,lR,Cw,or_false]at hv
    rcases hv with rfl|rfl
    ·exact WJ
    ·exact ahT
   |false=>
    rw[hn]at hv
    simp only[cond_false,lR,Cw,or_false]at hv
    subst hv
    exact WJ
  have hrel:ec ad (jl m' bl.length g) (cond p.nil [iT (.slc bl.length 0 us.length us.length),iT (.con (.slice none 0 0))] [iT (.slc bl.length 0 us.length us.length)]) (wG p g vs.length).toList:=by
   unfold wG
   cases hn:p.nil with
   |true=>simp only[cond_true];exact⟨qi,rfl,trivial⟩
   |false=>simp only[cond_false];exact⟨qi,trivial⟩
  have HS:=(Di (S:=S) (w0:=⟨wb,w,λi=>i=g,F,[]⟩) (R':=λe w'=>w.Extends w'/\∃rs us,aO (cH p.c.res) rs/\spec zs rs/\iz (λg=>F g∨w.heap.size<=g) (λg=>w.heap.size<=g) w' p.c.res rs us/\e= .returned (pQ us)) rfl hm (cx w _ F) NF (iB _ _ _ _) d p.c.f n' _ _ _ _ ad (jl m' bl.length g) w _ xX gz nu hrel fv ?_).2
  ·simpa using HS
  intro ed v aR dx bx ey w' val h1 h2 h3 h4 h5 h6 h7
  simp only at h7
  split at h7
  rotate_left
  ·exact h7.elim
  rename_i cs t hb2
  cases gf:(nj cs (us.map nD)&&aA t p.ty)with
  |false=>rw[gf]at h7;exact h7.elim
  |true=>
  rw[gf]at h7
  simp only[cond_true]at h7
  simp only[aK]at gf
  have ad9:=zU gf.1
  have q3:=bk gf.2
  subst ad9;subst q3
  have D2:bl.length<(bl++[(us.map nD,(p.ty,false))]).length:=by simp
  have Ia:ey bl.length=g:=by rw[h1.hm _ D2,ks]
  have rb:(us.map nD).map (A.den bx ey)=vs:=by
   rw[<-oQ]
   refine gG λa ha=>?_
   rw[A.jy (OA a ha) h1.ha (λb hb=>?_)]
   rw[h1.hm b (by simp;omega),j1 hb]
  have hD:=h6.drop hb2 l5.2 Ia (by rw[rb];exact hcell)
  have fg:cp ed (cO aR bl.length eC).length bx (cO aR bl.length eC):=by
   rw[ib]
   intro q hq a ha
   rw[ia]at hq
   rcases Gf hq with hq|hq
   ·exact h5 q hq a ha
   ·subst hq
    simp only[eC,lR,Cw,or_false]at ha
    subst ha
    exact⟨⟨I.cz _ _,I.cz _ _,I.cz _ _⟩,by rw[I.aM];exact⟨cn _,oH⟩,by rw[I.aM];omega⟩
  obtain⟨fI,mQ,os,rq,q7,⟨xs,hx1,hx2⟩,hl⟩:=P2 (S:=S) (w0:=⟨wb,w,λ_=>False,F,[]⟩) (λg hg=>hg) fg hD (by rw[ib];exact h3) h4 dx _ h7
  have hl:qU _ (wD os) fI:=hl
  rw[Le]at hl
  refine⟨?_,os.map (O.den fI),xs,hl.1,hl.2,?_,by rw[hx1]⟩
  ·have lr:∀i:Nat,i<w.heap.size->w'.heap[i]?=w.heap[i]?:=λi hi=>hD.fM i hi λh=>h
   exact⟨hD.gg,hD.iF,hD.gI,hD.eI,λa ha=>by simp only[iW,lr a.block ha],λa ha=>by simp only[ti,lr a.block ha],lr⟩
  ·exact dL.Fe.zR (λg hg=>by
    rcases hg with hg|hg|hg
    ·exact hg.elim
    ·exact .inl hg
    ·exact .inr hg) (λg hg=>hg) hx2
section
variable {wb:ai} {sh:Nat->List Nat×List Nat} {SB:Nat->List (List Int)->List (List Int)->Prop}
theorem Ys {p:ik} {bc:jO} {cal:eg} {li:cy->Nat->Option dC} {rounds d:Nat} {lsh:Nat->List Nat} {lens:List Nat} (hm:P.follows .mixedOrders=true) (cx:∀r ex ro,fk (cl sh SB) P gl ⟨wb,r,ex,ro,[]⟩ cal) (hg:eK gl ⟨wb,wb,λ_=>False,λ_=>False,[]⟩)
 (iB:∀(L:V->Env->Prop) (r:ai) (ex ro:Nat->Prop),oF (cl sh SB) L ⟨wb,r,ex,ro,[]⟩ P bc) (hf:su P p.c.f=true) (hl:lens=(sh p.c.id).1) (hd:uG p.c.res=(sh p.c.id).2)
 (hv:ja sh lsh SB (eL SB p.c.res p.c.id) lens (cH p.c.args) p.c.res (p.tree bc P gl cal li rounds d)):p.eB P wb (cl sh SB p.c.id):=by
 refine ik.Fe (li:=li) (rounds:=rounds) (d:=d) hm cx hg iB (enters hf) (se λzs hz=>?_)
 have h:=kG (Lj hv) hz
 simp only[eL,wR]at h
 rw[hl,hd]at h
 exact h
end
end Go.bg
namespace Go.bg
open M
variable {S:Nat->List Int->List Int->Prop} {L:V->Env->Prop} {P:bm} {gl:dO} {cal:eg}
inductive e8 where
 |int (k:cS) (c:Int)
 |fn (f:cy)
def e8.val:e8->az
 |int k c=> .int k c
 |fn f=> .func (.func f) #[] #[]
def e8.A:e8->A
 |int k c=> .int k (bj.const c)
 |fn f=> .con (.func (.func f) #[] #[])
def Hv:e8->A->Bool
 | .int k c,.int aP x=>decide (k=aP)&&(match x.l.dp with|some d=>decide (d=c)|none=>false)
 | .fn f,.con v=>match v with
  | .func (.func nq) a b=>aA f nq&&aA a.size 0&&aA b.size 0
  |_=>false
 |_,_=>false
def DD:List e8->List A->Bool
 |[],[]=>true
 |r::l,a::s=>Hv r a&&DD l s
 |_,_=>false
def DC:List e8->List V->Bool
 |[],[]=>true
 |r::l,.w (.one a)::s=>Hv r a&&DC l s
 |_,_=>false
theorem UJ {r:e8} {a:A} {ρ:Env} {m:Nat->Nat} (h:Hv r a=true):a.den ρ m=r.val:=by
 unfold Hv at h
 split at h
 ·rename_i k c aP x
  simp only[aK,decide_eq_true_eq]at h
  obtain⟨h1,h2⟩:=h
  cases hc:x.l.dp with
  |none=>rw[hc]at h2;cases h2
  |some d=>
   rw[hc]at h2
   have h2:=of_decide_eq_true h2
   subst h1;subst h2
   simp[A.den,e8.val,I.gH hc]
 ·rename_i f v
  split at h
  ·rename_i nq x y
   simp only[aK]at h
   obtain⟨⟨h1,h2⟩,h3⟩:=h
   have h1:=bk h1
   have h2:=bk h2
   have h3:=bk h3
   rw[vb h2,vb h3,h1];rfl
  ·cases h
 ·cases h
theorem UK {ρ:Env} {m:Nat->Nat}:∀{l:List e8} {cs:List A},DD l cs=true->cs.map (A.den ρ m)=l.map e8.val
 |[],[],_=>rfl
 |r::l,a::s,h=>by
  simp only[DD,aK]at h
  simp[UJ h.1,UK h.2]
 |[],_::_,h=>by cases h
 |_::_,[],h=>by cases h
theorem UI {ρ:Env} {m:Nat->Nat}:∀{l:List e8} {vs:List V} {xs:List az},DC l vs=true->ec ρ m vs xs->xs=l.map e8.val
 |[],[],[],_,_=>rfl
 |r::l,.w (.one a)::s,x::xs,h,hr=>by
  simp only[DC,aK]at h
  have hx:x=a.den ρ m:=hr.1
  rw[hx,UJ h.1,UI h.2 hr.2];rfl
 |[],[],_::_,_,h=>h.elim
 |_::_,[],_,h,_=>by cases h
structure kE where
 c:dL
 cells:List e8
 ty:aN
 tail:List e8
structure Te (g:Nat) (w w':ai):Prop where
 os:w'.os=w.os
 tape:w'.tape=w.tape
 out:w'.output=w.output
 size:w.heap.size<=w'.heap.size
 et:∀i,i<w.heap.size->i≠g->w'.heap[i]?=w.heap[i]?
def kE.eB (P:bm) (wb:ai) (p:kE) (spec:List Int->List Int->Prop):Prop:=
 (∀args w,(callFunc p.c.f args).run P w= .ok (.enter p.c.f args) w)/\
 ∀(F:Nat->Prop) (w:ai) (vs:List az) (zs:List Int) (g:Nat),wb.Extends w->aO (cH p.c.args) zs->yP p.c.pre zs->iz F (λ_=>False) w p.c.args zs vs->wb.heap.size<=g->¬F g->w.heap[g]?=some (.cells (p.cells.map e8.val).toArray p.ty (0,0))->
  iY P p.c.f (.pointer (some ⟨g,0,none⟩)::(vs++p.tail.map e8.val)).toArray w λe w'=>Te g w w'/\∃rs us,aO (cH p.c.res) rs/\spec zs rs/\iz (λg=>F g∨w.heap.size<=g) (λg=>w.heap.size<=g) w' p.c.res rs us/\e= .returned (pQ us)
noncomputable def kE.E (p:kE) (n:Nat) (vs:List V) (bl:List ar) (k:RK):T:=
 match vs with
 | .w (.one (.ptr b 0))::us=>match bl[b]? with
  |some (cs,(t,false))=>cond (bJ cs&&DD p.cells cs&&aA t p.ty&&DC p.tail (us.drop p.c.args.length)&&bw p.c.args.length us.length&& !(((us.take p.c.args.length).flatMap ke).any (aA b))&&ni p.c.res&& !(p.c.res.any bQ.l8))
   (vB bl p.c.args (us.take p.c.args.length) n λls n1=>Jj p.c.pre ls (.call p.c.id ls n1 (cH p.c.res) (p4 p.c.res n1 (n1+(cH p.c.res).length) [] (cO bl b eC) λed us kf=>k ed (sY us) kf))) .stuck
  |_=> .stuck
 |_=> .stuck
theorem Mem.but {w0:dm} {ρ:Env} {m:Nat->Nat} {bl:List ar} {w w':ai} {b:Nat} {cs:List A} {t:aN×Bool} (h:Mem w0 ρ m bl w) (hi:bl[b]?=some (cs,t)) (ho:bJ cs=true) (hx:Te (m b) w w'):Mem w0 ρ m (cO bl b eC) w':=by
 have hlen:b<bl.length:=(List.getElem?_eq_some_iff.1 hi).1
 have cM:∀(i:Nat) (q:ar),(cO bl b eC)[i]?=some q->(i=b/\q=eC)∨(i≠b/\bl[i]?=some q):=λi q hq=>by
  rw[ia,nO]at hq
  split at hq
  ·rename_i eo
   subst eo
   simp only[hlen,if_true,aG]at hq
   exact .inl ⟨rfl,hq.symm⟩
  ·rename_i eo;exact .inr ⟨λe=>eo e.symm,hq⟩
 have fu:aX ρ eC.1=0:=by simp[eC,aX,I.aM]
 have jR:aX ρ cs=2:=iQ ho
 have hne:∀(i:Nat) (q:ar),i≠b->bl[i]?=some q->aX ρ q.1≠0->m i≠m b:=λi q kP hq hk e=>by
  rcases h.inj i b q _ hq hi e with h1|h1|h1|h1
  ·exact kP h1
  ·simp only at h1;omega
  ·exact hk h1
  ·simp only at h1;omega
 obtain⟨hb1,hb2,_⟩:=h.et b cs t hi ho
 refine⟨Mq h.ext hx.os hx.tape hx.out hx.size (λk hk=>hx.et k (u4 hk h.ext.size) (by omega)),hx.os.trans h.gg,hx.tape.trans h.iF,hx.out.trans h.gI,hT h.eI hx.size,λi dZ hex=>?_,λi gZ t' hq gu=>?_,λi sh off code cap kind t' hq=>?_,λi j p q hp hq he=>?_⟩
 ·have NK:i≠m b:=λe=>by
   subst e
   rcases hb2 with h2|h2
   ·exact hex h2
   ·omega
  rw[hx.et i (u4 dZ h.eI) NK]
  exact h.fM i dZ hex
 ·rcases cM i _ hq with⟨_,e⟩|⟨kP,hq⟩
  ·simp only[eC,cj]at e
   rw[e.1]at gu;simp[bJ]at gu
  ·obtain⟨h1,h2,r,h3,h4⟩:=h.et i gZ t' hq gu
   exact⟨h1,h2,r,h3,by rw[hx.et _ (Array.getElem?_eq_some_iff.1 h4).1 (hne i _ kP hq (by rw[iQ gu];decide))];exact h4⟩
 ·rcases cM i _ hq with⟨_,e⟩|⟨kP,hq⟩
  ·simp only[eC,cj,hS,A.rows.injEq,and_true]at e
   intro hk
   exact absurd e.1.2.2.2.2 hk
  ·intro hk
   obtain⟨g1,g2⟩:=h.rws i sh off code cap kind t' hq hk
   refine⟨g1,λhc=>?_⟩
   have yf:=hne i _ kP hq (by simp only[aX];rw[if_neg (by omega)];exact hk)
   obtain⟨k1,cells,FL,fz,k2,k3,k4⟩:=g2 hc
   exact⟨k1,cells,FL,fz,by rw[hx.et _ (Array.getElem?_eq_some_iff.1 k2).1 yf];exact k2,k3,k4⟩
 ·rcases cM i _ hp with⟨_,e⟩|⟨kP,hp⟩
  ·subst e;exact .inr (.inr (.inl fu))
  ·rcases cM j _ hq with⟨_,e⟩|⟨Wj,hq⟩
   ·subst e;exact .inr (.inr (.inr fu))
   ·exact h.inj i j p q hp hq he
theorem cp.dead {n nb:Nat} {ρ:Env} {bl:List ar} (h:cp n nb ρ bl) (b:Nat):cp n nb ρ (cO bl b eC):=by
 intro q hq a ha
 rw[ia]at hq
 rcases Gf hq with hq|hq
 ·exact h q hq a ha
 ·subst hq
  simp only[eC,lR,Cw,or_false]at ha
  subst ha
  exact⟨⟨I.cz _ _,I.cz _ _,I.cz _ _⟩,by rw[I.aM];exact⟨cn _,oH⟩,by rw[I.aM];omega⟩
theorem La {ρ:Env} {m:Nat->Nat}:∀(k:Nat) {vs:List V} {xs:List az},ec ρ m vs xs->ec ρ m (vs.take k) (xs.take k)/\ec ρ m (vs.drop k) (xs.drop k)
 |0,vs,xs,h=>⟨by simp;trivial,by simpa using h⟩
 |k+1,[],[],_=>⟨trivial,trivial⟩
 |k+1,v::vs,x::xs,h=>⟨⟨h.1,(La k h.2).1⟩,(La k h.2).2⟩
 |_+1,[],_::_,h=>h.elim
 |_+1,_::_,[],h=>h.elim
theorem kE.xh {w0:dm} {p:kE} {spec:List Int->List Int->Prop} (hc:p.eB P w0.b spec) (cw:∀zs rs,spec zs rs->S p.c.id zs rs) (n:Nat) (vs:List V) (bl:List ar) (k:RK) (G:dw) (ρ:Env) (m:Nat->Nat) (w:ai) (xs:List az) (R':u5->ai->Prop)
 (hb:cp n bl.length ρ bl) (hw:Mem w0 ρ m bl w) (hv:∀v∈vs,V.ok n bl.length ρ v) (hr:ec ρ m vs xs) (ae:(p.E n vs bl k).holds S L G ρ) (hk:tw S L w0 k n bl.length ρ m G R'):
 (callFunc p.c.f xs.toArray).run P w= .ok (.enter p.c.f xs.toArray) w/\iY P p.c.f xs.toArray w R':=by
 refine⟨hc.1 _ _,?_⟩
 unfold kE.E at ae
 split at ae
 rotate_left
 ·exact ae.elim
 rename_i b us
 split at ae
 rotate_left
 ·exact ae.elim
 rename_i cs t hbl
 match xs,hr with
 |x::xs,hr=>
 cases gf:(bJ cs&&DD p.cells cs&&aA t p.ty&&DC p.tail (us.drop p.c.args.length)&&bw p.c.args.length us.length&& !(((us.take p.c.args.length).flatMap ke).any (aA b))&&ni p.c.res&& !(p.c.res.any bQ.l8))with
 |false=>rw[gf]at ae;exact ae.elim
 |true=>
 rw[gf]at ae
 simp only[cond_true]at ae
 simp only[aK,js]at gf
 obtain⟨⟨⟨⟨⟨⟨⟨c1,c2⟩,c3⟩,c4⟩,c5⟩,gy⟩,nk⟩,mF⟩:=gf
 have c3:=bk c3
 subst c3
 obtain⟨hx,hr⟩:=hr
 have hx:x= .pointer (some ⟨m b,0,none⟩):=hx
 subst hx
 obtain⟨r1,r2⟩:=La p.c.args.length hr
 have ajt:=UI c4 r2
 have eM:xs=xs.take p.c.args.length++p.tail.map e8.val:=by rw[<-ajt,nc]
 obtain⟨b1,b2,r,n8,b3⟩:=hw.et b cs _ hbl c1
 have n8:=n8 rfl
 subst n8
 rw[gT,UK c2]at b3
 obtain⟨ax,n1,ls,e4,dF,⟨g1,g2,g3⟩,ae⟩:=DF (S:=S) (L:=L) hb hw (λv hv'=>hv v (cR _ (List.mem_of_mem_take hv'))) r1 G _ ae
 obtain⟨gJ,ae⟩:=preM_holds ae
 simp only[T.holds]at ae
 rw[eM]
 refine(hc.2 (ng w0 ρ m bl ((us.take p.c.args.length).flatMap ke) ((us.take p.c.args.length).flatMap oU)) w _ _ (m b) hw.ext g2 gJ (g3 _ λ_ h=>h) b1 (λhF=>?_) b3).mono ?_
 ·obtain⟨⟨b5,k1,k2,q,k3,k4,_⟩,_⟩:=hF
  have hne:b≠b5:=λe=>by
   subst e
   rw[List.any_eq_true.2 ⟨b,k1,wZ b⟩]at gy;cases gy
  rcases hw.inj b b5 _ q hbl k3 k2.symm with h|h|h|h
  ·exact hne h
  ·have:=iQ (ρ:=ρ) c1;simp only at h;omega
  ·have:=iQ (ρ:=ρ) c1;simp only at h;omega
  ·exact k4 h
 rintro e w' ⟨he,rs,jG,r1,r2,fo,rfl⟩
 have ae:=kG ae r1 (cw _ _ r2)
 have gz:=hw.but hbl c1 he
 have fg:=hb.dead b
 have hl:(cO bl b eC).length=bl.length:=ib _ _ _
 have dk:agree n1 ax (bu ax n1 rs):=agree.bu rs n1 ax
 have sy:=dF.trans dk e4
 have hb2:cp (n1+(cH p.c.res).length) (cO bl b eC).length (bu ax n1 rs) (cO bl b eC):=by rw[hl];exact fg.ext sy (by omega) (a6 _)
 have agG:Mem w0 (bu ax n1 rs) m (cO bl b eC) w':=gz.lJ (by rw[hl];exact fg) sy
 have hA:fX (bu ax n1 rs) n1 rs:=fX.bu ax n1 rs
 have DU:dr n bl.length ρ m (n1+(cH p.c.res).length) (cO bl b eC).length (bu ax n1 rs) m:=⟨by omega,sy,by rw[hl];exact a6 _,λ_ _=>rfl⟩
 have hF:∀g,(ng w0 ρ m bl ((us.take p.c.args.length).flatMap ke) ((us.take p.c.args.length).flatMap oU) g∨w.heap.size<=g)->w0.ex g∨w0.ro g∨w0.r.heap.size<=g:=λg hg=>by
  rcases hg with hg|hg
  ·exact hg.2
  ·exact .inr (.inr (hT hw.eI hg))
 have hN:∀g,w.heap.size<=g->w0.b.heap.size<=g/\w0.r.heap.size<=g:=λg hg=>⟨hT hw.ext.size hg,hT hw.eI hg⟩
 have rr:(p.c.res.all λb=> !b.l8)=true:=by
  rw[tf]
  intro b hb
  cases fg:b.l8 with
  |false=>rfl
  |true=>rw[List.any_eq_true.2 ⟨b,hb,fg⟩]at mF;cases mF
 obtain⟨n',ad,m',asC,kf,p1,bq,cv,dI,dJ,fv⟩:=vp (S:=S) (L:=L) hF hN (l:=p.c.res) (us:=[]) (vals:=jG) nk hb2 agG hA r1 (a6 _) fo (.inl rr) (.inr λi q hi fa=>by
  by_cases h0:aX (bu ax n1 rs) q.1=0
  ·exact h0
  ·exfalso
   rw[ia,nO]at hi
   split at hi
   ·rename_i e
    subst e
    split at hi
    ·cases hi;exact h0 (by simp[eC,aX,I.aM])
    ·cases hi
   ·rw[pE (hb q (dK hi)) sy]at h0
    have:=hw.lt hi h0;omega) (λu hu=>by simp at hu) ae
 have kl:=P4 (m:=m') dJ (by simpa using dI)
 exact hk n' (sY asC) kf G ad m' w' (pQ jG) (DU.trans p1) (dU.refl _ _) kl.1 kl.2 bq cv fv
noncomputable def y6:List kE->jO->jO
 |[],bc=>bc
 |p::r,bc=>λf=>cond (aA p.c.f f) (some p.E) (y6 r bc f)
theorem P0 {w0:dm} {bc:jO} (iB:oF S L w0 P bc):∀{l:List kE},(∀p∈l,p.eB P w0.b (S p.c.id))->oF S L w0 P (y6 l bc)
 |[],_=>iB
 |p::l,h=>λf g hf=>by
  unfold y6 at hf
  cases hb:aA p.c.f f with
  |true=>
   rw[hb]at hf
   simp only[cond_true,aG]at hf
   have:=bk hb
   subst this;subst hf
   intro n vs bl k G ρ m w xs R' h1 h2 h3 h4 h5 h6
   exact kE.xh (h p (by simp)) (λ_ _ h=>h) n vs bl k G ρ m w xs R' h1 h2 h3 h4 h5 h6
  |false=>
   rw[hb]at hf
   exact P0 iB (λp hp=>h p (cR _ hp)) f g hf
noncomputable def kE.tree (f:iy) (p:kE):T:=
 cond (ni p.c.args&& !(p.c.args.any bQ.ny)) (Ji p.c.pre ((cA (cH p.c.args).length).map Bp) (p4 p.c.args 0 (cH p.c.args).length [] [] λn us bl=>
  cond (bJ (p.cells.map e8.A)) (f p.c.f n (iT (.ptr bl.length 0)::(us.map V.w++p.tail.map λr=>iT r.A)) (bl++[(p.cells.map e8.A,(p.ty,false))]) λn' v aR=>match aR[bl.length]? with
   |some (cs,_)=>cond (bJ cs) (Fz (cO aR bl.length eC) p.c.res v n' λos _=> .leaf (wD os)) .stuck
   |none=> .stuck) .stuck)) .stuck
theorem e8.R5 (r:e8) (ρ:Env) (m:Nat->Nat):r.A.den ρ m=r.val:=by cases r<;>simp[e8.A,e8.val,A.den,bj.const,I.aM]
theorem e8.R6 (r:e8) (n nb:Nat) (ρ:Env):r.A.ok n nb ρ:=by
 cases r with
 |int k c=>exact bj.lX _ _ _
 |fn f=>rfl
theorem Tl {ρ:Env} {m:Nat->Nat}:∀{vs us:List V} {xs e7:List az},ec ρ m vs xs->ec ρ m us e7->ec ρ m (vs++us) (xs++e7)
 |[],_,[],_,_,h=>h
 |_::_,_,_::_,_,h,h'=>⟨h.1,Tl h.2 h'⟩
 |[],_,_::_,_,h,_=>h.elim
 |_::_,_,[],_,h,_=>h.elim
theorem Mem.adV {b r r':ai} {ro:Nat->Prop} {ρ:Env} {m:Nat->Nat} {bl:List ar} {w:ai} {g i0:Nat} {cs:List A} {t:aN×Bool} (h:Mem ⟨b,r,λi=>i=g,ro,[]⟩ ρ m bl w) (hi:bl[i0]?=some (cs,t)) (ho:bJ cs=true) (hg:m i0=g)
 (hr:r'.os=r.os/\r'.tape=r.tape/\r'.output=r.output/\r'.heap.size=r.heap.size) (h1:∀k,k≠g->r'.heap[k]?=r.heap[k]?) (h2:r'.heap[g]?=w.heap[g]?):
 Mem ⟨b,r',λ_=>False,ro,[]⟩ ρ m (cO bl i0 eC) w:=by
 have hlen:i0<bl.length:=(List.getElem?_eq_some_iff.1 hi).1
 have cM:∀(i:Nat) (q:ar),(cO bl i0 eC)[i]?=some q->(i=i0/\q=eC)∨(i≠i0/\bl[i]?=some q):=λi q hq=>by
  rw[ia,nO]at hq
  split at hq
  ·rename_i eo
   subst eo
   simp only[hlen,if_true,aG]at hq
   exact .inl ⟨rfl,hq.symm⟩
  ·rename_i eo;exact .inr ⟨λe=>eo e.symm,hq⟩
 have fu:aX ρ eC.1=0:=by simp[eC,aX,I.aM]
 have jR:aX ρ cs=2:=iQ ho
 have hne:∀(i:Nat) (q:ar),i≠i0->bl[i]?=some q->aX ρ q.1≠0->m i≠g:=λi q kP hq hk e=>by
  rcases h.inj i i0 q _ hq hi (by rw[e,hg])with h1|h1|h1|h1
  ·exact kP h1
  ·simp only at h1;omega
  ·exact hk h1
  ·simp only at h1;omega
 refine⟨h.ext,h.gg.trans hr.1.symm,h.iF.trans hr.2.1.symm,h.gI.trans hr.2.2.1.symm,by have:=h.eI;simp only at this⊢;omega,λi dZ _=>?_,λi gZ t' hq gu=>?_,λi sh off code cap kind t' hq=>?_,λi j p q hp hq he=>?_⟩
 ·by_cases e:i=g
  ·subst e;exact h2.symm
  ·show w.heap[i]?=r'.heap[i]?
   rw[h1 i e];exact h.fM i (by simp only at dZ⊢;omega) e
 ·rcases cM i _ hq with⟨_,e⟩|⟨kP,hq⟩
  ·simp only[eC,cj]at e
   rw[e.1]at gu;simp[bJ]at gu
  ·obtain⟨k1,k2,k3⟩:=h.et i gZ t' hq gu
   refine⟨k1,?_,k3⟩
   rcases k2 with k2|k2
   ·exact absurd k2 (hne i _ kP hq (by rw[iQ gu];decide))
   ·exact .inr (by simp only at k2⊢;omega)
 ·rcases cM i _ hq with⟨_,e⟩|⟨kP,hq⟩
  ·simp only[eC,cj,hS,A.rows.injEq,and_true]at e
   intro hk
   exact absurd e.1.2.2.2.2 hk
  ·intro hk
   obtain⟨g1,g2⟩:=h.rws i sh off code cap kind t' hq hk
   refine⟨g1,λhc=>?_⟩
   have yf:m i≠g:=hne i _ kP hq (by simp only[aX];rw[if_neg (by omega)];exact hk)
   obtain⟨k1,cells,FL,fz,k2,k3,k4⟩:=g2 hc
   refine⟨?_,cells,FL,fz,k2,k3,λh2=>?_⟩
   ·rcases k1 with k1|k1|k1
    ·exact absurd k1 yf
    ·exact .inr (.inl k1)
    ·exact .inr (.inr (by simp only at k1⊢;omega))
   ·obtain⟨dV,nz,og,oR,rA,lA⟩:=k4 h2
    refine⟨dV,nz,og,oR,rA,?_⟩
    rcases lA with lA|lA
    ·exact absurd lA yf
    ·exact .inr (by simp only at lA⊢;omega)
 ·rcases cM i _ hp with⟨_,e⟩|⟨kP,hp⟩
  ·subst e;exact .inr (.inr (.inl fu))
  ·rcases cM j _ hq with⟨_,e⟩|⟨Wj,hq⟩
   ·subst e;exact .inr (.inr (.inr fu))
   ·exact h.inj i j p q hp hq he
theorem kE.amu {wb:ai} {p:kE} {inl:iy} {spec:List Int->List Int->Prop}
 (jf:∀(L:V->Env->Prop) (r:ai) (ex ro:Nat->Prop),lU S L ⟨wb,r,ex,ro,[]⟩ P inl) (hf:∀args w,(callFunc p.c.f args).run P w= .ok (.enter p.c.f args) w)
 (ht:mB (cH p.c.args) λzs=>(p.tree inl).holds S (qU λrs=>aO (cH p.c.res) rs/\spec zs rs) (λ_ _=>False) (bu (λ_=>0) 0 zs)):p.eB P wb spec:=by
 refine⟨hf,λF w vs zs g hw hz EB hat No DS hcell=>?_⟩
 have ae:=kG ht hz
 have lz:=gi hz
 unfold kE.tree at ae
 cases hq:(ni p.c.args&& !(p.c.args.any bQ.ny))with
 |false=>rw[hq]at ae;exact ae.elim
 |true=>
  rw[hq]at ae
  simp only[cond_true]at ae
  have ae:=preA_holds ae (by rw[<-lz,IS];exact EB)
  simp only[aK,js]at hq
  have kk:Mem ⟨wb,w,λ_=>False,F,[]⟩ (bu (λ_=>0) 0 zs) (λ_=>0) [] w:=⟨hw,rfl,rfl,rfl,a6 _,λ_ _ _=>rfl,λi cs t h=>by simp at h,λi sh off code cap kind t h=>by simp at h,λi j p q h=>by simp at h⟩
  have hall:(p.c.args.all λb=> !b.ny)=true:=by
   rw[tf]
   intro b hb
   cases fg:b.ny with
   |false=>rfl
   |true=>rw[List.any_eq_true.2 ⟨b,hb,fg⟩]at hq;cases hq.2
  obtain⟨n',ad,m',us,bl,p1,bq,cv,dI,dJ,fv⟩:=vp (S:=S) (L:=_) (w0:=⟨wb,w,λ_=>False,F,[]⟩) (F:=F) (N:=λ_=>False) (λg hg=> .inr (.inl hg)) (λg hg=>hg.elim) (l:=p.c.args) (s:=0) (us:=[]) (bl:=[]) (m:=λ_=>0) hq.1 (λp hp=>by simp at hp) kk (fX.bu _ 0 zs) hz (by omega) hat (.inr λi p h=>by simp at h) (.inl hall) (λu hu=>by simp at hu) ae
  cases l5:bJ (p.cells.map e8.A)with
  |false=>rw[l5]at fv;exact fv.elim
  |true=>
  rw[l5]at fv
  simp only[cond_true]at fv
  have H2:g<w.heap.size:=(Array.getElem?_eq_some_iff.1 hcell).1
  have rb:∀ρ m,(p.cells.map e8.A).map (A.den ρ m)=p.cells.map e8.val:=λρ m=>by
   rw[j5];exact gG λr _=>r.R5 ρ m
  have V4:∀n nb ρ,∀a∈p.cells.map e8.A,A.ok n nb ρ a:=λn nb ρ a ha=>by
   obtain⟨r,_,rfl⟩:=List.mem_map.1 ha
   exact r.R6 n nb ρ
  have gz:=(cv.more (ex':=λi=>i=g) λ_ h=>h.elim).push (x:=(p.cells.map e8.A,(p.ty,false))) (g:=g) bq (V4 _ _ _) (λ_=>⟨No,.inl rfl,[],λ_=>rfl,by rw[gT,rb];exact hcell⟩) (λsh off code cap kind he=>by
   simp only at he;rw[he]at l5;simp[bJ]at l5) (λi q hi he=>by
    refine .inr (.inl ?_)
    by_cases h0:aX ad q.1=0
    ·exact h0
    ·exfalso
     obtain⟨cs,t⟩:=q
     cases ho:bJ cs with
     |true=>
      obtain⟨_,h2,_⟩:=cv.et i cs t hi ho
      rcases h2 with h2|h2
      ·exact h2
      ·simp only at h2;omega
     |false=>
      obtain⟨sh,off,code,cap,k,e⟩:=I8 ho
      subst e
      simp only[aX]at h0
      split at h0
      ·exact h0 rfl
      ·rename_i hc
       obtain⟨h1,_⟩:=(cv.rws i sh off code cap k t hi h0).2 (by omega)
       rcases h1 with h1|h1|h1
       ·exact h1
       ·rw[he]at h1;exact DS h1
       ·simp only at h1;omega)
  have xX:cp n' (bl++[(p.cells.map e8.A,(p.ty,false))]).length ad (bl++[(p.cells.map e8.A,(p.ty,false))]):=λq hq a jd=>by
   rcases List.mem_append.1 hq with hq|hq
   ·exact(bq q hq a jd).ext (agree.refl _ _) (a6 _) (by simp)
   ·simp at hq;subst hq
    exact V4 _ _ _ a jd
  have nu:∀v∈(iT (.ptr bl.length 0)::(us.map V.w++p.tail.map λr=>iT r.A)),V.ok n' (bl++[(p.cells.map e8.A,(p.ty,false))]).length ad v:=λv hv=>by
   rcases List.mem_cons.1 hv with rfl|hv
   ·show bl.length<_;simp
   ·rcases List.mem_append.1 hv with hv|hv
    ·obtain⟨u,hu,rfl⟩:=List.mem_map.1 hv
     exact W.ok.ext (dJ u hu) (agree.refl _ _) (a6 _) (by simp)
    ·obtain⟨r,_,rfl⟩:=List.mem_map.1 hv
     exact r.R6 _ _ _
  have ajx:∀u∈us,W.den ad (jl m' bl.length g) u=W.den ad m' u:=λu hu=>W.jy (dJ u hu) (agree.refl _ _) (λb hb=>j1 hb)
  have hrel:ec ad (jl m' bl.length g) (iT (.ptr bl.length 0)::(us.map V.w++p.tail.map λr=>iT r.A)) (.pointer (some ⟨g,0,none⟩)::(vs++p.tail.map e8.val)):=by
   refine⟨by simp[iT,V.rel,W.den,A.den,ks],Tl (K7 ?_) ?_⟩
   ·rw[gG ajx];simpa using dI
   ·have:=K9 (ρ:=ad) (m:=jl m' bl.length g) (p.tail.map e8.A)
    rw[j5,j5]at this
    have e:(A.den ad (jl m' bl.length g)∘e8.A)=e8.val:=funext λr=>r.R5 _ _
    rw[e]at this
    exact this
  refine((jf _ _ _ _ p.c.f n' _ _ _ _ ad (jl m' bl.length g) w _ _ xX gz nu hrel fv ?_).2)
  intro ed v aR dx bx ey w' val h1 h2 h3 h4 h5 h6 h7
  simp only at h7
  split at h7
  rotate_left
  ·exact h7.elim
  rename_i cs t hb2
  cases gf:bJ cs with
  |false=>rw[gf]at h7;exact h7.elim
  |true=>
  rw[gf]at h7
  simp only[cond_true]at h7
  have D2:bl.length<(bl++[(p.cells.map e8.A,(p.ty,false))]).length:=by simp
  have Ia:ey bl.length=g:=by rw[h1.hm _ D2,ks]
  obtain⟨PB,aiU⟩:∃o,w'.heap[g]?=some o:=by
   obtain⟨_,_,r,_,cq⟩:=h6.et bl.length cs t hb2 gf
   rw[Ia]at cq
   exact⟨_,cq⟩
  have hD:=h6.adV (r':=w.putObj g PB) hb2 gf Ia (sS _ _ _) (λk hk=>rX hk) (by rw[vf H2,aiU])
  have fg:cp ed (cO aR bl.length eC).length bx (cO aR bl.length eC):=by
   rw[ib]
   exact h5.dead _
  obtain⟨fI,mQ,os,rq,q7,⟨xs,hx1,hx2⟩,hl⟩:=P2 (S:=S) (w0:=⟨wb,w.putObj g PB,λ_=>False,F,[]⟩) (λg hg=>hg) fg hD (by rw[ib];exact h3) h4 dx _ h7
  have hl:qU _ (wD os) fI:=hl
  rw[Le]at hl
  refine⟨⟨h6.gg,h6.iF,h6.gI,h6.eI,λi hi NK=>h6.fM i hi NK⟩,os.map (O.den fI),xs,hl.1,hl.2,?_,by rw[hx1]⟩
  have hsz:(w.putObj g PB).heap.size=w.heap.size:=R2
  exact dL.Fe.zR (λg hg=>by
   rcases hg with hg|hg|hg
   ·exact hg.elim
   ·exact .inl hg
   ·exact .inr (hsz▸hg)) (λg hg=>hsz▸hg) hx2
section
variable {wb:ai} {sh:Nat->List Nat×List Nat} {SB:Nat->List (List Int)->List (List Int)->Prop}
theorem YI {p:kE} {inl:iy} {lsh:Nat->List Nat} {lens:List Nat}
 (jf:∀(L:V->Env->Prop) (r:ai) (ex ro:Nat->Prop),lU (cl sh SB) L ⟨wb,r,ex,ro,[]⟩ P inl) (hf:su P p.c.f=true) (hl:lens=(sh p.c.id).1) (hd:uG p.c.res=(sh p.c.id).2)
 (hv:ja sh lsh SB (eL SB p.c.res p.c.id) lens (cH p.c.args) p.c.res (p.tree inl)):p.eB P wb (cl sh SB p.c.id):=by
 refine kE.amu jf (enters hf) (se λzs hz=>?_)
 have h:=kG (Lj hv) hz
 simp only[eL,wR]at h
 rw[hl,hd]at h
 exact h
end
end Go.bg
namespace Go.bg
abbrev fB (p:Int->Prop):Prop:=∀z:Int,0<=z->z<=9223372036854775807->p z
abbrev bF (k:Nat) (l:List Int) (p:Int->Prop):Prop:=∀z:Int,0<=z->z<=9223372036854775807->z=aB k l->p z
abbrev cX (p:Int->Prop):Prop:=∀z:Int,0<=z->z<=bZ->p z
abbrev aH (k:Nat) (l:List Int) (p:Int->Prop):Prop:=∀z:Int,0<=z->z<=bZ->z=aB k l->p z
abbrev cu (p:Int->Prop):Prop:=∀z:Int,0<=z->z<=ch->p z
abbrev bW (k:Nat) (l:List Int) (p:Int->Prop):Prop:=∀z:Int,0<=z->z<=ch->z=aB k l->p z
abbrev Jk (p:Int->Prop):Prop:=∀z:Int,0<=z->z<=255->p z
abbrev ao (k:Nat) (l:List Int) (p:Int->Prop):Prop:=∀z:Int,0<=z->z<=255->z=aB k l->p z
abbrev ea (p:Int->Prop):Prop:=∀z:Int,0<=z->z<=1->p z
abbrev df (k:Nat) (l:List Int) (p:Int->Prop):Prop:=∀z:Int,0<=z->z<=1->z=aB k l->p z
abbrev kq (p:Int->Prop):Prop:=∀z:Int,0<=z->z<=18446744073709551615->p z
abbrev Fp (k:Nat) (l:List Int) (p:Int->Prop):Prop:=∀z:Int,0<=z->z<=18446744073709551615->z=aB k l->p z
abbrev mW (p:Int->Prop):Prop:=∀z:Int,0<=z->z<=4294967295->p z
abbrev Fq (k:Nat) (l:List Int) (p:Int->Prop):Prop:=∀z:Int,0<=z->z<=4294967295->z=aB k l->p z
abbrev bY (p:Int->Prop):Prop:=∀z:Int,(-1)<=z->z<=9223372036854775807->p z
abbrev cQ (p:Int->Prop):Prop:=∀z:Int,0<=z->p z
abbrev eW (a b:Int) (p:Int->Prop):Prop:=∀z:Int,a<=z->z<=b->p z
abbrev Jl (a b:Int) (k:Nat) (l:List Int) (p:Int->Prop):Prop:=∀z:Int,a<=z->z<=b->z=aB k l->p z
abbrev dT (x m:Int) (p:Int->Prop):Prop:=∀z:Int,0<=z->z<=1->0<=x-m*z->x-m*z<m->p z
abbrev cc (a b x m:Int) (p:Int->Prop):Prop:=∀z:Int,a<=z->z<=b->0<=x-m*z->x-m*z<m->p z
abbrev aD (b:Bool) (p q:Prop):Prop:=(b=true->p)/\(b=false->q)
end Go.bg
namespace Go.cd
open Go Go.bg
def wL:List Int:=[4794697086780616226,8158064640168781261,13096744586834688815,16840607885511220156,4131703408338449720,6480981068601479193,10538285296894168987,12329834152419229976,15566598209576043074,1334009975649890238,2608012711638119052,6128411473006802146,8268148722764581231,9286055187155687089,11230858885718282805,13951009754708518548,16472876342353939154,17275323862435702243,1135362057144423861,2597628984639134821,3308224258029322869,5365058923640841347,6679025012923562964,8573033837759648693,10970295158949994411,12119686244451234320,12683024718118986047,13788192230050041572,14330467153632333762,15395433587784984357,489312712824947311,1452737877330783856,2861767655752347644,3322285676063803686,5560940570517711597,5996557281743188959,7280758554555802590,8532644243296465576,9350256976987008742,10552545826968843579,11727347734174303076,12113106623233404929,14000437183269869457,14369950271660146224,15101387698204529176,15463397548674623760,17586052441742319658,1182934255886127544,1847814050463011016,2177327727835720531,2830643537854262169,3796741975233480872,4115178125766777443,5681478168544905931,6601373596472566643,7507060721942968483,8399075790359081724,8693463985226723168,9568029438360202098,10144078919501101548,10430055236837252648,11840083180663258601,13761210420658862357,14299343276471374635,14566680578165727644,15097957966210449927,16922976911328602910,17689382322260857208,500013540394364858,748580250866718886,1242879168328830382,1977374033974150939,2944078676154940804,3659926193048069267,4368137639120453308,4836135668995329356,5532061633213252278,6448918945643986474,6902733635092675308,7801388544844847127]
def GW:List Int:=[7640891576956012808,13503953896175478587,4354685564936845355,11912009170470909681,5840696475078001361,11170449401992604703,2270897969802886507,6620516959819538809]
structure fr where
 k:cS
 w:Nat
 s:Nat
 t:Nat
 a:List Nat
 b:List Nat
 c:List Nat
 d:List Nat
 n:Nat
def cB:fr:=⟨.u32,32,3,10,[2,13,22],[6,11,25],[7,18],[17,19],64⟩
def cC:fr:=⟨.u64,64,7,6,[28,34,39],[14,18,41],[1,8],[19,61],80⟩
def Ju (w n:Nat) (x:Int):Int:=x/2^n+(x% 2^n)*2^(w-n)
def JH (p:fr) (l:List Nat) (x:Int):Int:=l.foldl (λy n=>cf .xor p.k y (Ju p.w n x)) 0
def tD (p:fr) (x:Int):Int:=JH p p.a x
def tE (p:fr) (x:Int):Int:=JH p p.b x
def zl (p:fr) (x:Int):Int:=cf .xor p.k (JH p p.c x) (x/2^p.s)
def zm (p:fr) (x:Int):Int:=cf .xor p.k (JH p p.d x) (x/2^p.t)
def md (p:fr) (x:Int):Int:=x% 2^p.w
def xB (p:fr) (e f g:Int):Int:=cf .xor p.k (cf .and p.k e f) (cf .and p.k (2^p.w-1-e) g)
def E6 (p:fr) (a b c:Int):Int:=cf .xor p.k (cf .xor p.k (cf .and p.k a b) (cf .and p.k a c)) (cf .and p.k b c)
def zd (p:fr) (i:Nat):Int:=wL.getD i 0/2^(64-p.w)
def wB (p:fr) (m:List Int):Int:=md p (m.getD (m.length-16) 0+zl p (m.getD (m.length-15) 0)+m.getD (m.length-7) 0+zm p (m.getD (m.length-2) 0))
def qb (p:fr):Nat->List Int->List Int
 |0,m=>m
 |j+1,m=>qb p j (m++[wB p m])
def sched (p:fr) (m:List Int):List Int:=qb p (p.n-16) m
def s5 (p:fr) (i:Nat) (x:Int):List Int->List Int
 |[a,b,c,d,e,f,g,h]=>
  let t:=md p (h+tE p e+xB p e f g+zd p i+x)
  let u:=md p (tD p a+E6 p a b c)
  [md p (t+u),a,b,c,md p (d+t),e,f,g]
 |l=>l
def uP (p:fr):Nat->List Int->List Int->List Int
 |_,[],v=>v
 |i,x::m,v=>uP p (i+1) m (s5 p i x v)
def uT (p:fr) (h m:List Int):List Int:=oD (λa b=>md p (a+b)) h (uP p 0 (sched p m) h)
def atv (p:fr) (b:List Int) (j:Nat):Int:=(cA (p.w/8)).foldl (λy q=>y*256+b.getD (j*(p.w/8)+q) 0) 0
def uX (p:fr) (b:List Int):List Int:=(cA 16).map (atv p b)
def xy (p:fr) (b:List Int):Nat->List Int->List Int
 |0,h=>h
 |i+1,h=>uT p (xy p b i h) (uX p ((b.drop (2*p.w*i)).take (2*p.w)))
def p6 (p:fr):List Int:=GW.map (·/2^(64-p.w))
def kg (p:fr) (x:Int) (q:Nat):Int:=x/2^(p.w-8-8*q)% 256
def sQ (p:fr) (h:List Int):List Int:=h.flatMap λx=>(cA (p.w/8)).map (kg p x)
def o9 (p:fr) (b:List Int):List Int:=sQ p (xy p b (b.length/(2*p.w)) (p6 p))
def kY (w n:Nat):Nat:=(n+1+w/4+(2*w-1))/(2*w)*(2*w)
def sf (n:Nat):List Int:=(cA 8).map λq=>((n/2^(56-8*q)% 256:Nat):Int)
def pI (p:fr) (b:List Int):List Int:=b++[128]++cV (kY p.w b.length-b.length-9) 0++sf (8*b.length)
def qw (p:fr) (b:List Int):List Int:=o9 p (pI p b)
def ck (z:Int):List Int:=(ab z).map λr=>r.getD 0 0
def pH (n w:Int):Int:=if n<0∨1099511627776<n∨(w≠32/\w≠64)then 0 else kY w.toNat n.toNat
def digit (n:Int):UInt8:=([48,49,50,51,52,53,54,55,56,57,97,98,99,100,101,102]:List UInt8).getD n.toNat 0
def Wd (b:List Int):List UInt8:=b.flatMap λx=>[digit (x/16),digit (x% 16)]
def abv:Nat->List (List Int)->List (List Int)->Prop
 |440,[[n],[w]],rs=>rs=[[pH n w]]
 |441,[[n],[w]],rs=>rs=[[pH n w]]
 |442,[[z]],[[r]]=>ck r=pI cB (ck z)
 |443,[[z]],[[r]]=>ck r=pI cC (ck z)
 |444,[[x]],rs=>rs=[[tD cB x]]
 |445,[[x]],rs=>rs=[[tE cB x]]
 |446,[[x]],rs=>rs=[[zl cB x]]
 |447,[[x]],rs=>rs=[[zm cB x]]
 |448,[[x]],rs=>rs=[[tD cC x]]
 |449,[[x]],rs=>rs=[[tE cC x]]
 |450,[[x]],rs=>rs=[[zl cC x]]
 |451,[[x]],rs=>rs=[[zm cC x]]
 |452,[[z]],rs=>rs=[qw cB (ck z)]
 |453,[[z]],rs=>rs=[qw cC (ck z)]
 |454,[[z]],[[s]]=>U s=Wd (ck z)
 |455,[[z]],[[s]]=>U s=Wd (ck z)
 |456,[],rs=>rs=[[1]]
 |457,[_,_],[[r]]=>r=1
 |458,[_,_,_],[[r]]=>r=1
 |459,[_,_,_],[[r]]=>r=1
 |460,[[z]],[[r]]=>ab r=ab z
 |461,[[z]],[[r]]=>ab r=ab z
 |462,[[z]],[[r]]=>ab r=ab z
 |463,[[z]],[[r]]=>ab r=ab z
 |468,[[a],[b],[c],[d]],[[r]]=>ab r=ab a++(ab b++(ab c++ab d))
 |469,[[a],[b],[c]],[[r]]=>ab r=ab a++(ab b++ab c)
 |470,[[a],[b],[c],[d]],rs=>rs=[qw cB (ck a++(ck b++(ck c++ck d)))]
 |471,[[a],[b],[c]],rs=>rs=[qw cC (ck a++(ck b++ck c))]
 |466,[[i]],rs=>rs=[[zd cB i.toNat]]
 |467,[[i]],rs=>rs=[[zd cC i.toNat]]
 |464,[[z]],[[r]]=>ck r=o9 cB (ck z)
 |465,[[z]],[[r]]=>ck r=o9 cC (ck z)
 |_,_,_=>False
end Go.cd
namespace Go.cd
open Go Go.bg
abbrev ay:=List UInt8
def u8 (z:Int):UInt8:=k8 z.toNat
def bh (b:Bool):Int:=cond b 1 0
def jV (p:UInt8->Bool) (l:ay):ay:=l.dropWhile p
def jj (p:UInt8->Bool) (l:ay):ay:=(l.reverse.dropWhile p).reverse
def jF (p:UInt8->Bool) (l:ay):ay:=jV p (jj p l)
def dd (l:ay):Bool:=(cA l.length).any λi=>l.getD i 0==46&&l.getD (i+1) 0==46
def EV (c:UInt8):Bool:=bw 97 c.toNat&&bw c.toNat 122
def ua (c:UInt8):Bool:=bw 65 c.toNat&&bw c.toNat 90
def iu (c:UInt8):Bool:=bw 48 c.toNat&&bw c.toNat 57
def aqn:ay:=[33,35,36,37,38,39,42,43,47,61,63,94,95,96,123,124,125,126,45]
def EU (c:UInt8):Bool:=EV c||ua c||iu c||aqn.contains c||c==46
def Dv (c:UInt8):Bool:=c==46||c==45
def v8 (c:UInt8):Bool:=EV c||ua c||iu c||Dv c
def Ff (inn vw:UInt8->Bool) (s:ay):Bool:=(cA s.length).all λi=>
 inn (s.getD i 0)&&(!vw (s.getD i 0)||(b7 0 i&&b7 (i+1) s.length))&& !(s.getD i 0==46&&b7 0 i&&s.getD (i-1) 0==46)
def qn (s:ay):Bool:=b7 0 s.length&&bw s.length 64&&Ff EU (·==46) s
def kR (s:ay):Bool:=b7 0 s.length&&bw s.length 230&&Ff v8 Dv s
def BI (s:ay):Bool:=b7 0 s.length&&bw s.length 5&&s.all iu
def nZ (c:Int) (s:ay):ay×ay×Int:=cond (decide (0<=idx c s)) (s.take (idx c s).toNat,s.drop ((idx c s).toNat+1),1) (s,[],0)
def ox (s:ay):Bool:=kR (nZ 58 s).1&&(decide ((nZ 58 s).2.2=0)||BI (nZ 58 s).2.1)
def lo (c:UInt8):UInt8:=cond (ua c) (k8 (c.toNat+32)) c
def lower (s:ay):ay:=s.map lo
def Dx (t:ay):ay×Int:=
 cond (decide (0<=idx 64 t)&&bw t.length 254&&qn (t.take (idx 64 t).toNat)&&kR (t.drop ((idx 64 t).toNat+1))&&(t.drop ((idx 64 t).toNat+1)).contains 46) (lower t,0) ([],2)
def vx (s:ay):ay×Int:=Dx (jF (·==32) s)
def zi:ay:=[32,45,46,40,41]
def fs:ay->ay->Bool->Option (ay×Bool)
 |[],d,p=>some (d,p)
 |c::r,d,p=>cond (iu c) (fs r (d++[c]) p) (cond (c==43&&d.isEmpty&& !p) (fs r d true) (cond (zi.contains c) (fs r d p) none))
def nY (w:ay):Option (ay×ay):=
 cond (w==[]) (some ([],[])) (cond (w==[71,66]) (some ([52,52],[48])) (cond (w==[85,83]) (some ([49],[])) (cond (w==[68,69]) (some ([52,57],[48])) (cond (w==[70,82]) (some ([51,51],[48])) (cond (w==[67,72]) (some ([52,49],[48])) none)))))
def Fk (w code nK d:ay) (p:Bool):ay:=cond (!p&& !(w==[])) (code++cond (nK.isPrefixOf d) (d.drop nK.length) d) d
def wH (n:ay):ay×Int:=cond (b7 n.length 6||b7 15 n.length||n.getD 0 0==48) ([],2) (n,0)
def qt (w s:ay):ay×Int:=match nY w with
 |none=>([],7)
 |some (code,nK)=>match fs s [] false with
  |none=>([],2)
  |some (d,p)=>wH (Fk w code nK d p)
def Pb (a b c d:ay):Bool:=cond (a==c) (dj b d) (dj a c)
def Dw:ay:=[101,109,97,105,108]
def E9:ay:=[109,115,105,115,100,110]
def wx (m:ay) (p:ay×Int):ay×ay×Int:=cond (decide (p.2=0)) (m,p.1,0) ([],[],p.2)
def qp (m w:ay):ay×ay×Int:=cond (m==Dw) (wx m (vx w)) (cond (m==E9) (wx m (qt [] w)) ([],[],1))
def rK (m w:ay):Bool:=decide ((qp m w).2.2=0)&&(m==(qp m w).1)&&(w==(qp m w).2.1)
def Iv (c:UInt8):Bool:=EV c||iu c||([46,95,61,47,43,45]:ay).contains c
def Iu (c:UInt8):Bool:=EV c||ua c||iu c
def pJ (k:UInt8) (s:ay):ay×ay×Int:=
 cond (b7 0 s.length&&bw s.length 255&&s.getD 0 0==k&&decide (0<=idx 58 s)&&ox (s.drop ((idx 58 s).toNat+1))) ((s.take (idx 58 s).toNat).drop 1,s.drop ((idx 58 s).toNat+1),1) ([],[],0)
def wz (k:UInt8) (inn:UInt8->Bool) (most:Nat) (s:ay):Bool:=
 decide ((pJ k s).2.2=1)&&b7 0 (pJ k s).1.length&&bw (pJ k s).1.length most&&(pJ k s).1.all inn
def mY (s:ay):Bool:=wz 64 Iv 200 s
def BT (s:ay):Bool:=wz 33 Iu 64 s
def Ze (s:ay):ay×ay×Int:=cond (mY s||BT s) ((s.take (idx 58 s).toNat).drop 1,s.drop ((idx 58 s).toNat+1),0) ([],[],2)
def Ll:ay:=[65,66,67,68,69,70,71,72,73,74,75,76,77,78,79,80,81,82,83,84,85,86,87,88,89,90,97,98,99,100,101,102,103,104,105,106,107,108,109,110,111,112,113,114,115,116,117,118,119,120,121,122,48,49,50,51,52,53,54,55,56,57,45,95]
def fT (c:UInt8):Int:=idx (c.toNat:Int) Ll
def uD (n:Nat):UInt8:=Ll.getD n 0
def PO:ay->ay
 |[]=>[]
 |[a]=>[uD (a.toNat/4),uD (a.toNat% 4*16)]
 |[a,b]=>[uD (a.toNat/4),uD (a.toNat% 4*16+b.toNat/16),uD (b.toNat% 16*4)]
 |a::b::c::r=>uD (a.toNat/4)::uD (a.toNat% 4*16+b.toNat/16)::uD (b.toNat% 16*4+c.toNat/64)::uD (c.toNat% 64)::PO r
def vu (a b c d:Int):Int:=262144*a+(4096*b+(64*c+d))
def Jf:ay->ay->Option ay
 |out,[]=>some out
 |_,[_]=>none
 |out,[a,b]=>cond (decide (0<=fT a)&&decide (0<=fT b)&&decide (vu (fT a) (fT b) 0 0% 65536=0)) (some (out++[u8 (vu (fT a) (fT b) 0 0/65536)])) none
 |out,[a,b,c]=>cond (decide (0<=fT a)&&decide (0<=fT b)&&decide (0<=fT c)&&decide (vu (fT a) (fT b) (fT c) 0% 256=0)) (some (out++[u8 (vu (fT a) (fT b) (fT c) 0/65536)]++[u8 (vu (fT a) (fT b) (fT c) 0/256% 256)])) none
 |out,a::b::c::d::r=>cond (decide (0<=fT a)&&decide (0<=fT b)&&decide (0<=fT c)&&decide (0<=fT d)) (Jf (out++[u8 (vu (fT a) (fT b) (fT c) (fT d)/65536)]++[u8 (vu (fT a) (fT b) (fT c) (fT d)/256% 256)]++[u8 (vu (fT a) (fT b) (fT c) (fT d)% 256)]) r) none
def gX (r:Int):ay:=(ab r).map λrow=>k8 (row.getD 0 0).toNat
def UC (s:ay):Bool:=decide (s.length=44)&&s.getD 0 0==36&&(Jf [] (s.drop 1)).isSome
abbrev nh:=(ay×ay)×ay×Int
def C7:nh:=(([],[]),[],0)
def oC (r:List Int):ay×ay:=(U (r.getD 0 0),U (r.getD 1 0))
def q0 (r:List Int):nh:=(oC r,U (r.getD 2 0),r.getD 3 0)
def bds (z:Int):List nh:=(ab z).map q0
def J0 (z:Int):List (ay×ay):=(ab z).map oC
def GV (b:nh):Bool:=decide (0<=b.2.2)&&(decide (b.2.2<=1099511627776)&&(rK b.1.1 b.1.2&&mY b.2.1))
def IJ (a b:ay×ay):Bool:=Pb a.1 a.2 b.1 b.2
def Hf (a b:ay×ay):Int:=cond (a==b) 0 (cond (IJ a b) (-1) 1)
def Zc:List nh->Bool
 |[]=>true
 |[_]=>true
 |a::b::r=>IJ a.1 b.1&&Zc (b::r)
def zb (l:List nh):Bool:=bw l.length 64&&l.all GV&&Zc l
def UF (l:List nh) (w:ay×ay):Option nh:=cond (zb l) (l.find? (λb=>b.1==w)) none
def X0 (l:List nh) (x:ay):List (ay×ay):=cond (zb l) ((l.filter (·.2.1==x)).map (·.1)) []
def TQ (l:List nh) (w:nh):List nh×Int:=cond (GV w&&zb l) (cond (l.any (·.1==w.1)) (l.map (λb=>cond (b.1==w.1) w b),0) (cond (decide (l.length=64)) (l,10) (l.filter (λb=>IJ b.1 w.1)++w::l.filter (λb=>IJ w.1 b.1),0))) (l,1)
def ZH (l:List nh) (w:nh):List nh×Int:=cond (zb l) (match l.find? (·.1==w.1)with|none=>(l,7)|some b=>cond (b.2.1==w.2.1) (l.filter (λb=> !(b.1==w.1)),0) (l,14)) (l,1)
def abf (l:List nh) (w:ay×ay) (i f:Int):Prop:=(0<=i/\i<=l.length)/\(f=1->i<l.length)/\(zb l=true->(∀j:Nat,(j:Int)<i->Hf (l.getD j C7).1 w<0)/\(∀j:Nat,i<=j->j<l.length->0<=Hf (l.getD j C7).1 w)/\(f=1↔i<l.length/\Hf (l.getD i.toNat C7).1 w=0))
structure fK where
 id:Int
 sec:ay
 who:ay×ay
 tok:ay
 xw:Int
 since:Int
 B5:Int
 shown:Int
 Qs:Int
deriving DecidableEq
def rM:fK:=⟨0,[],([],[]),[],0,0,0,0,0⟩
def nH (r:List Int):fK:=⟨r.getD 0 0,U (r.getD 1 0),(U (r.getD 2 0),U (r.getD 3 0)),U (r.getD 4 0),r.getD 5 0,r.getD 6 0,r.getD 7 0,r.getD 8 0,r.getD 9 0⟩
def h9 (z:Int):List fK:=(ab z).map nH
def uI (t:ay):Bool:=t.all λc=>bw 32 c.toNat&&bw c.toNat 126
def mb (t:ay):Bool:= !t.isEmpty&&(bw t.length 64&&(uI t&& !t.contains 32))
def FN (n:Int):Bool:=decide (0<=n)&&decide (n<=1099511627776)
def JE (s:fK):Bool:=(decide (1<=s.id)&&decide (s.id<=1099511627776))&&(FN s.since&&FN s.Qs)&&(decide (1<=s.xw)&&decide (s.xw<=1000)&&(decide (0<=s.B5)&&decide (s.B5<=3)))&&(decide (s.shown=1)||decide (s.Qs=0))&&(mb s.sec&&(mb s.tok&&rK s.who.1 s.who.2))
def TD (a b:fK):Bool:=decide (a.sec=b.sec)&&decide (a.who=b.who)
def adB (x s:fK):Bool:=TD x s||(decide (x.tok=s.tok)||decide (s.id<=x.id))
def wK (l:List fK):Bool:=bw l.length 16&&(cA l.length).all λi=>JE (l.getD i rM)&&(l.take i).all λx=> !adB x (l.getD i rM)
def att (x:Int):Int:=(x+9223372036854775808)% 18446744073709551616-9223372036854775808
def I1 (s:fK) (now:Int):Bool:=decide (86400<att (now-s.since))
def yQ (l:List fK) (now:Int):List fK:=l.filter λs=> !I1 s now
def UG (l:List fK) (id:Int):Option fK:=cond (wK l) (l.find? λs=>decide (s.id=id)) none
def sP (l:List fK) (now:Int) (w:fK):Nat×Int:=cond (FN now&&wK l) (match l.findIdx? (λs=>decide (s.id=w.id))with
 |some i=>cond (decide ((l.getD i rM).sec=w.sec)&& !I1 (l.getD i rM) now) (i,0) (0,11)
 |none=>(0,11)) (0,1)
def Y7 (l:List fK) (now:Int) (w:fK):(ay×ay)×Int:=cond (decide ((sP l now w).2=0)) (cond (decide ((l.getD (sP l now w).1 rM).shown=1)) ((l.getD (sP l now w).1 rM).who,0) (([],[]),14)) (([],[]),(sP l now w).2)
def aqQ (l:List fK) (now:Int) (w:fK) (i:Nat) (s:fK):List fK×Int:=cond (decide (s.B5=3)) (l,16) (cond (decide (s.tok=w.tok)) (cond (decide (s.shown=1)) (l,0) (l.set i {s with shown:=1,Qs:=now},0)) (l.set i {s with B5:=s.B5+1},12))
def Zm (l:List fK) (now:Int) (w:fK):List fK×Int:=cond (decide ((sP l now w).2=0)) (aqQ l now w (sP l now w).1 (l.getD (sP l now w).1 rM)) (l,(sP l now w).2)
def apG (live:List fK) (w:fK) (i:Nat) (s:fK):List fK×Int×Int×Int:=(live.set i {s with xw:=max s.xw w.xw},s.id,bh (decide (s.xw<w.xw)),0)
def apH (l live:List fK) (w:fK):List fK×Int×Int×Int:=cond (live.any (λs=>decide (s.id=w.id))||live.any (λs=>decide (s.tok=w.tok))) (l,0,0,6) (cond (decide (live.length=16)) (l,0,0,10) (live.filter (λs=>decide (s.id<w.id))++w::live.filter (λs=>decide (w.id<s.id)),w.id,1,0))
def YD (l:List fK) (w:fK):List fK×Int×Int×Int:=cond (JE w&&(decide (w.B5<=0)&&(!decide (w.shown=1)&&wK l))) (match(yQ l w.since).findIdx? (λs=>TD s w)with
 |some i=>apG (yQ l w.since) w i ((yQ l w.since).getD i rM)
 |none=>apH l (yQ l w.since) w) (l,0,0,1)
def abe (l:List fK) (n i f:Int):Prop:=(0<=i/\i<=l.length)/\(f=1->i<l.length)/\(wK l=true->(∀j:Nat,(j:Int)<i->(l.getD j rM).id<n)/\(∀j:Nat,i<=j->j<l.length->n<=(l.getD j rM).id)/\(f=1↔i<l.length/\(l.getD i.toNat rM).id=n))
def acs:List Int:=[5,116,477315081741,437051401625,117,1,100,0,0,0]
structure tz where
 tok:ay
 dy:ay
 zO:List ay
deriving DecidableEq
def FP:tz:=⟨[],[],[]⟩
def JW (z:Int):List ay:=(ab z).map λr=>U (r.getD 0 0)
def asD (r:List Int):tz:=⟨U (r.getD 0 0),U (r.getD 1 0),JW (r.getD 2 0)⟩
def B4 (z:Int):List tz:=(ab z).map asD
def aq8 (l:List tz):Nat:=l.length+(l.map λu=>u.zO.length).sum
def Jt (l:List ay):Bool:=(cA l.length).all λi=>mb (l.getD i [])&&(decide (i=0)||dj (l.getD (i-1) []) (l.getD i []))
def YH (l:List tz):Bool:=bw l.length 16&&(l.all (λu=>mY u.dy&&(bw u.zO.length 4&&Jt u.zO))&&Jt (l.map (·.tok)))
def abg (l:List tz) (t:ay) (i f:Int):Prop:=(0<=i/\i<=l.length)/\(f=1->i<l.length)/\(Jt (l.map (·.tok))=true->(∀j:Nat,(j:Int)<i->dj (l.getD j FP).tok t=true)/\(∀j:Nat,i<=j->j<l.length->dj (l.getD j FP).tok t=false)/\(f=1↔i<l.length/\(l.getD i.toNat FP).tok=t))
def yI (l:List tz) (t:ay):Int×Int:=cond (YH l) (match l.findIdx? (λu=>decide (u.tok=t))with|some k=>((k:Int),0)|none=>(0,14)) (0,1)
def atu (l:List tz) (t:ay):ay×Int:=cond (decide ((yI l t).2=0)) ((l.getD (yI l t).1.toNat FP).dy,0) ([],(yI l t).2)
def ab8 (l:List tz) (t:ay) (d:List ay):Int:=cond (decide ((yI l t).2=0)) (cond (d.all λs=>(l.getD (yI l t).1.toNat FP).zO.contains s) 0 13) (yI l t).2
structure cW where
 tok:ay
 who:ay×ay
 room:ay
 aqh:ay
 s3:ay
 hV:ay
deriving DecidableEq
def cG:cW:=⟨[],([],[]),[],[],[],[]⟩
def gN (r:List Int):cW:=⟨U (r.getD 0 0),(U (r.getD 1 0),U (r.getD 2 0)),U (r.getD 3 0),U (r.getD 4 0),U (r.getD 5 0),U (r.getD 6 0)⟩
def a7 (z:Int):List cW:=(ab z).map gN
def l9 (p:cW):Bool:=mb p.tok&&(mb p.s3&&(rK p.who.1 p.who.2&&(BT p.room&&(mY p.aqh&&(p.hV.isEmpty||mY p.hV)))))
def uN (l:List cW):Bool:=(cA l.length).all λi=>decide (i=0)||dj (l.getD (i-1) cG).tok (l.getD i cG).tok
def gA (l:List cW):Bool:=bw l.length 32&&(l.all l9&&uN l)
def zK (l:List cW) (t:ay) (i f:Int):Prop:=(0<=i/\i<=l.length)/\(f=1->i<l.length)/\(uN l=true->(∀j:Nat,(j:Int)<i->dj (l.getD j cG).tok t=true)/\(∀j:Nat,i<=j->j<l.length->dj (l.getD j cG).tok t=false)/\(f=1↔i<l.length/\(l.getD i.toNat cG).tok=t))
def pj (l:List cW) (t:ay):Option cW:=cond (gA l) (l.find? λp=>decide (p.tok=t)) none
def oz (l:List cW) (w:cW):List cW×Int:=cond (l9 w&&(w.hV.isEmpty&&gA l)) (cond (l.any λp=>decide (p.tok=w.tok)) (l,6) (cond (decide (l.length=32)) (l,10) (l.filter (λp=>dj p.tok w.tok)++w::l.filter (λp=>dj w.tok p.tok),0))) (l,1)
def oX (who:ay×ay) (p:cW):Bool:=decide (p.who=who)&&p.hV.isEmpty
def oy (l:List cW) (who:ay×ay) (dy:ay):List cW×List cW×Int:=cond (mY dy&&gA l) (l.map (λp=>cond (oX who p) {p with hV:=dy} p),(l.filter (oX who)).map (λp=>{p with hV:=dy}),0) (l,[],1)
def GM:ay:=[65,66,67,68,69,70,71,72,73,74,75,76,77,78,79,80,81,82,83,84,85,86,87,88,89,90,97,98,99,100,101,102,103,104,105,106,107,108,109,110,111,112,113,114,115,116,117,118,119,120,121,122,48,49,50,51,52,53,54,55,56,57,43,47]
def kV (n:Nat):UInt8:=GM.getD n 0
def gM:ay->ay
 |[]=>[]
 |[a]=>[kV (a.toNat/4),kV (a.toNat% 4*16)]
 |[a,b]=>[kV (a.toNat/4),kV (a.toNat% 4*16+b.toNat/16),kV (b.toNat% 16*4)]
 |a::b::c::r=>kV (a.toNat/4)::kV (a.toNat% 4*16+b.toNat/16)::kV (b.toNat% 16*4+c.toNat/64)::kV (c.toNat% 64)::gM r
def om:List Int:=[117,477315081741,437051401625,1786258745,1786259033,1721197221,0]
def abw:Nat->List (List Int)->List (List Int)->Prop
 |600,[[z]],[[r]]=>r=bh (mb (U z))
 |601,[r],[[z]]=>z=bh (l9 (gN r))
 |602,[[z]],[[r]]=>r=bh (gA (a7 z))
 |603,[[z],[t]],[[i],[f]]=>zK (a7 z) (U t) i f
 |604,[[z],[t]],[r,[f]]=>match pj (a7 z) (U t)with
  |some b=>gN r=b/\f=1
  |none=>r=[0,0,0,0,0,0,0]/\f=0
 |605,[[c],[i],[r]],[[y]]=>ab y=(ab c).take i.toNat++ab r++(ab c).drop i.toNat
 |606,[[z],r],[[y],[e]]=>(a7 y,e)=oz (a7 z) (gN r)
 |607,[[z],a,[m]],[[y],[d],[e]]=>(a7 y,a7 d,e)=oy (a7 z) (oC a) (U m)
 |608,[],[r]=>r=om
 |612,[r],[[z]]=>z=bh (l9 (gN r))
 |613,[[z]],[[r]]=>r=bh (gA (a7 z))
 |614,[[z],[t]],[r,[f]]=>match pj (a7 z) (U t)with
  |some b=>gN r=b/\f=1
  |none=>r=[0,0,0,0,0,0,0]/\f=0
 |615,[[z],r],[[y],[e]]=>(a7 y,e)=oz (a7 z) (gN r)
 |616,[[z],a,[m]],[[y],[d],[e]]=>(a7 y,a7 d,e)=oy (a7 z) (oC a) (U m)
 |617,[[a],[b]],[[r]]=>r=bh (decide (a7 a=a7 b))
 |618,[[r]],[[z]]=>U z=gM (gX r)
 |619,[[z]],[[r]]=>ab r=ab z
 |n,a,b=>abv n a b
def abx:Nat->List (List Int)->List (List Int)->Prop
 |500,[[z]],[[r]]=>r=bh (decide (200<aq8 (B4 z)))
 |501,[[z]],[[r]]=>r=bh ((U z).contains 32)
 |502,[[z]],[[r]]=>r=bh (mb (U z))
 |503,[[z]],[[r]]=>r=bh (Jt (JW z))
 |504,[[z]],[[r]]=>r=bh (YH (B4 z))
 |505,[[z],[t]],[[i],[f]]=>abg (B4 z) (U t) i f
 |506,[[z],[t]],[[i],[e]]=>(i,e)=yI (B4 z) (U t)
 |507,[[z],[t]],[[s],[e]]=>(U s,e)=atu (B4 z) (U t)
 |511,[[z],[t],[d]],[[e]]=>e=ab8 (B4 z) (U t) (JW d)
 |512,[[z],[t]],[[r]]=>r=bh ((JW z).contains (U t))
 |510,[[a],[b]],[[r]]=>r=cond (dj (U a) (U b)) (-1) (cond (decide (U a=U b)) 0 1)
 |n,a,b=>abw n a b
def abt:Nat->List (List Int)->List (List Int)->Prop
 |400,[[z]],[[r]]=>r=bh (uI (U z))
 |401,[[z]],[[r]]=>r=bh (mb (U z))
 |402,[r],[[z]]=>z=bh (JE (nH r))
 |403,[[z]],[[r]]=>r=bh (wK (h9 z))
 |404,[[z],[n]],[[i],[f]]=>abe (h9 z) n i f
 |417,[r,[n]],[[z]]=>z=bh (I1 (nH r) n)
 |405,[[z],[n]],[r,[f]]=>match UG (h9 z) n with
  |some b=>nH r=b/\f=1
  |none=>r=[0,0,0,0,0,0,0,0,0,0]/\f=0
 |406,[[z],[n],r],[[i],[e]]=>(i,e)=(((sP (h9 z) n (nH r)).1:Int),(sP (h9 z) n (nH r)).2)
 |407,[[z],[n],r],[a,[e]]=>(oC a,e)=Y7 (h9 z) n (nH r)
 |408,[[z],[n],r],[[y],[e]]=>(h9 y,e)=Zm (h9 z) n (nH r)
 |409,[[z],[n]],[[y]]=>h9 y=yQ (h9 z) n
 |410,[[z],[n]],[[y]]=>h9 y=cond (FN n&&wK (h9 z)) (yQ (h9 z) n) []
 |411,[[c],[i],[r]],[[y]]=>ab y=(ab c).take i.toNat++ab r++(ab c).drop i.toNat
 |412,[[z],r],[[y],[i],[s],[e]]=>(h9 y,i,s,e)=YD (h9 z) (nH r)
 |416,[[a],[b]],[[r]]=>r=bh (decide (h9 a=h9 b))
 |418,[],[r]=>r=acs
 |413,[],[[r]]=>r=1
 |414,[_],[[r]]=>r=1
 |415,[_,_],[[r]]=>r=1
 |420,[[z]],[[r]]=>r=bh (mb (U z))
 |422,[r],[[z]]=>z=bh (JE (nH r))
 |423,[[z]],[[r]]=>r=bh (wK (h9 z))
 |424,[[z],[n]],[[y]]=>h9 y=cond (FN n&&wK (h9 z)) (yQ (h9 z) n) []
 |425,[[z],[n]],[r,[f]]=>match UG (h9 z) n with
  |some b=>nH r=b/\f=1
  |none=>r=[0,0,0,0,0,0,0,0,0,0]/\f=0
 |426,[[z],[n],r],[[i]]=>i=match(h9 z).findIdx? (λs=>decide (s.id=(nH r).id)&&(decide (s.sec=(nH r).sec)&& !I1 s n))with
  |some k=>(k:Int)
  |none=>-1
 |427,[[z],[n],r],[[y],[e]]=>(h9 y,e)=Zm (h9 z) n (nH r)
 |428,[[z],[n],r],[a,[e]]=>(oC a,e)=Y7 (h9 z) n (nH r)
 |429,[[z],r],[[y],[i],[s],[e]]=>(h9 y,i,s,e)=YD (h9 z) (nH r)
 |430,[_,_],[[r]]=>r=1
 |431,[_,_,_],[[r]]=>r=1
 |n,a,b=>abx n a b
def abr:Nat->List (List Int)->List (List Int)->Prop
 |300,[r],[[z]]=>z=bh (GV (q0 r))
 |301,[r,a],[[z]]=>z=Hf (oC r) (oC a)
 |302,[[z],a],[[i],[f]]=>abf (bds z) (oC a) i f
 |303,[[z]],[[r]]=>r=bh (zb (bds z))
 |304,[[z],a],[r,[f]]=>match UF (bds z) (oC a)with
  |some b=>q0 r=b/\f=1
  |none=>q0 r=C7/\f=0
 |305,[[z],[x]],[[y]]=>J0 y=X0 (bds z) (U x)
 |306,[[c],[i],[r]],[[y]]=>ab y=(ab c).take i.toNat++ab r++(ab c).drop i.toNat
 |307,[[c],[i],[j]],[[y]]=>ab y=(ab c).take i.toNat++(ab c).drop j.toNat
 |308,[[z],r],[[y],[e]]=>(bds y,e)=TQ (bds z) (q0 r)
 |309,[[z],r],[[y],[e]]=>(bds y,e)=ZH (bds z) (q0 r)
 |310,[],[[r]]=>r=1
 |311,[_,_],[[r]]=>r=1
 |312,[_],[[r]]=>r=1
 |320,[r],[[z]]=>z=bh (GV (q0 r))
 |321,[[z]],[[r]]=>r=bh (zb (bds z))
 |322,[[z],a],[r,[f]]=>match UF (bds z) (oC a)with
  |some b=>q0 r=b/\f=1
  |none=>q0 r=C7/\f=0
 |323,[[z],a],[[y]]=>bds y=(bds z).filter (λb=> !(b.1==oC a))
 |324,[[z],r],[[y],[e]]=>(bds y,e)=TQ (bds z) (q0 r)
 |325,[[z],r],[[y],[e]]=>(bds y,e)=ZH (bds z) (q0 r)
 |326,[[z],[x]],[[y]]=>J0 y=X0 (bds z) (U x)
 |327,[[a],[b]],[[r]]=>r=bh (decide (bds a=bds b))
 |328,[[a],[b]],[[r]]=>r=bh (decide (J0 a=J0 b))
 |329,[_,_,_],[[r]]=>r=1
 |n,a,b=>abt n a b
def SB:Nat->List (List Int)->List (List Int)->Prop
 |73,[[z],[b]],[[r]]=>r=idx b (U z)
 |36,[[z],[b]],[[r]]=>U r=jV (·==u8 b) (U z)
 |37,[[z],[b]],[[r]]=>U r=jj (·==u8 b) (U z)
 |120,[[z]],[[r]]=>U r=jF (·==32) (U z)
 |121,[[z]],[[r]]=>U r=jF (·==46) (U z)
 |122,[[z]],[[r]]=>U r=jF Dv (U z)
 |123,[[z]],[[r]]=>U r=jF v8 (U z)
 |124,[[z]],[[r]]=>U r=jF iu (U z)
 |125,[[z]],[[a],[b],[c]]=>(U a,U b,c)=nZ 64 (U z)
 |126,[[z]],[[a],[b],[c]]=>(U a,U b,c)=nZ 58 (U z)
 |127,[[z]],[[r]]=>r=bh ((U z).contains 46)
 |128,[[z]],[[r]]=>r=bh (dd (U z))
 |44,[[s],[b]],[[r]]=>r=bh ((U s).all λc=>(U b).contains c)
 |65,[[s],[b]],[[r]]=>r=bh ((U s).all λc=>(U b).contains c)
 |28,[[z]],[[r]]=>U r=lower (U z)
 |17,[[z]],[[r]]=>U r=lower (U z)
 |31,[[z],[c]],[[r]]=>r=bh ((U z).contains (u8 c))
 |47,[[z]],[[r]]=>r=bh (kR (U z))
 |30,[[z]],[[r]]=>r=bh (kR (U z))
 |27,[[z]],[[r]]=>r=bh (ox (U z))
 |24,[[z]],[[r]]=>r=bh (qn (U z))
 |29,[[z]],[[r]]=>r=bh (qn (U z))
 |50,[[c]],[[r]]=>r=bh (EV (u8 c))
 |51,[[c]],[[r]]=>r=bh (ua (u8 c))
 |52,[[c]],[[r]]=>r=bh (iu (u8 c))
 |10,[[z]],[[a],[e]]=>(U a,e)=vx (U z)
 |11,[[z]],[[a],[e]]=>(U a,e)=vx (U z)
 |35,[[w]],[[c],[t],[o]]=>match nY (U w)with
  |some (code,nK)=>U c=code/\t=bh (!nK.isEmpty)/\o=1
  |none=>U c=[]/\t=0/\o=0
 |32,[[w]],[[c,t],[o]]=>match nY (U w)with
  |some (code,nK)=>U c=code/\U t=nK/\o=1
  |none=>o=0/\U c=[]/\U t=[]
 |33,[[s]],[[d],[p],[o]]=>match fs (U s) [] false with
  |some (d',p')=>U d=d'/\p=bh p'/\o=1
  |none=>U d=[]/\p=0/\o=0
 |34,[[s],[t]],[[r]]=>U r=cond ((U t).isPrefixOf (U s)) ((U s).drop (U t).length) (U s)
 |12,[[w],[s]],[[a],[e]]=>(U a,e)=qt (U w) (U s)
 |13,[[w],[s]],[[a],[e]]=>(U a,e)=qt (U w) (U s)
 |14,[[a,b],[c,d]],[[r]]=>r=bh (Pb (U a) (U b) (U c) (U d))
 |21,[[a,b],[c,d]],[[r]]=>r=bh (Pb (U a) (U b) (U c) (U d))
 |15,[[m],[w]],[[a,b],[e]]=>(U a,U b,e)=qp (U m) (U w)
 |18,[[m],[w]],[[a,b],[e]]=>(U a,U b,e)=qp (U m) (U w)
 |16,[[m,w]],[[r]]=>r=bh (rK (U m) (U w))
 |19,[[m,w]],[[r]]=>r=bh (rK (U m) (U w))
 |20,[[m,w]],[[r]]=>U r=U m++[32]++U w
 |202,[[z]],[[r]]=>U r=jF Iv (U z)
 |203,[[z]],[[r]]=>U r=jF Iu (U z)
 |200,[[z]],[[r]]=>r=bh (mY (U z))
 |207,[[z]],[[r]]=>r=bh (mY (U z))
 |201,[[z]],[[r]]=>r=bh (BT (U z))
 |208,[[z]],[[r]]=>r=bh (BT (U z))
 |204,[[z]],[[r]]=>r=idx 58 (U z)
 |205,[[z]],[[r]]=>r=bh (ox (U z))
 |206,[[z],[k]],[[a],[b],[c]]=>(U a,U b,c)=pJ (u8 k) (U z)
 |211,[[z],[k]],[[a],[b],[c]]=>(U a,U b,c)=pJ (u8 k) (U z)
 |209,[[z]],[[a],[b],[e]]=>(U a,U b,e)=Ze (U z)
 |210,[[z]],[[a],[b],[e]]=>(U a,U b,e)=Ze (U z)
 |220,[[z]],[[r],[e]]=>match Jf [] (U z)with
  |some l=>gX r=l/\e=0
  |none=>gX r=[]/\e=2
 |221,[[z]],[[r],[e]]=>match Jf [] (U z)with
  |some l=>gX r=l/\e=0
  |none=>gX r=[]/\e=2
 |222,[[r]],[[z]]=>U z=PO (gX r)
 |225,[[r]],[[z]]=>U z=PO (gX r)
 |223,[[z]],[[r]]=>r=bh (UC (U z))
 |224,[[z]],[[r]]=>r=bh (UC (U z))
 |230,[[c]],[[r]]=>r=idx c Ll
 |226,[],[[r]]=>r=1
 |227,[_],[[r]]=>r=1
 |228,[_],[[r]]=>r=1
 |229,[_,_],[[r]]=>r=1
 |9,[],[[r]]=>r=1
 |3,[_],[[r]]=>r=1
 |4,[_,_],[[r]]=>r=1
 |5,[_],[[r]]=>r=1
 |6,[_,_,_],[[r]]=>r=1
 |7,[_,_],[[r]]=>r=1
 |8,[_,_],[[r]]=>r=1
 |n,a,b=>abr n a b
theorem QX (b:UInt8):u8 (b.toNat:Int)=b:=by simp[u8]
theorem JX {b:UInt8} {z:Int} (h0:0<=z) (h1:z<=255):((b.toNat:Int)=z)↔(b==u8 z)=true:=by
 rw[beq_iff_eq,<-Z2]
 unfold u8
 simp
 omega
theorem W0 {c:Int} (h0:0<=c) (h1:c<=255):∀l:ay,(idx c l=-1/\u8 c∉l)∨(0<=idx c l/\(idx c l).toNat<l.length/\l.getD (idx c l).toNat 0=u8 c/\u8 c∈l/\∀j,j<(idx c l).toNat->l.getD j 0≠u8 c)
 |[]=> .inl ⟨rfl,by simp⟩
 |b::r=>by
  have hb:=JX (b:=b) h0 h1
  have ih:=W0 h0 h1 r
  by_cases he:(b.toNat:Int)=c
  ·have hW:b=u8 c:=by simpa using hb.1 he
   right
   have:idx c (b::r)=0:=by simp[idx,he]
   rw[this]
   refine⟨cn _,by simp,by simp[hW],by simp[hW],λj hj=>by simp at hj⟩
  ·have hW:¬b=u8 c:=λe=>he (hb.2 (by simpa using e))
   rcases ih with⟨h2,h3⟩|⟨h2,h3,h4,h5,h6⟩
   ·left
    exact⟨by simp[idx,he,h2],by simp[h3];exactλe=>hW e.symm⟩
   ·right
    have e:idx c (b::r)=idx c r+1:=by
     show(if(b.toNat:Int)=c then 0 else if idx c r<0 then-1 else idx c r+1)=_
     rw[if_neg he,if_neg (by omega)]
    have q3:(idx c (b::r)).toNat=(idx c r).toNat+1:=by omega
    rw[q3]
    refine⟨by omega,by simp;omega,by simpa using h4,by simp[h5],λj hj=>?_⟩
    cases j with
    |zero=>simpa using hW
    |succ j=>simpa using h6 j (by omega)
theorem Ir {c:Int} (h0:0<=c) (h1:c<=255) (l:ay):decide (0<=idx c l)=l.contains (u8 c):=by
 rcases W0 h0 h1 l with⟨h2,h3⟩|⟨h2,_,_,h3,_⟩
 ·rw[h2];simp[h3]
 ·simp[h2,h3]
theorem p5 (b:Bool):0<=bh b/\bh b<=1:=by cases b<;>decide
theorem Lu (b:Bool):decide (bh b=1)=b:=by cases b<;>rfl
theorem aru {z:Int} (h0:0<=z) (h1:z<=255):((u8 z).toNat:Int)=z:=by unfold u8;simp;omega
theorem JT (l:ay) (i:Nat) (h:i<l.length):l.take (i+1)=l.take i++[l.getD i 0]:=by
 rw[List.take_add_one];simp[af,h]
theorem sm (l:ay) (i:Nat) (h:i<l.length):l.drop i=l.getD i 0::l.drop (i+1):=by
 rw[List.drop_eq_getElem_cons h];simp[af,h]
theorem ak2 {z:Int} (h:z<=ch):((U z).length:Int)<=9223372036854775807:=by
 have:=tu h;unfold fQ at this;omega
theorem BV (p:UInt8->Bool) (l:ay) (x:UInt8):jj p (l++[x])=cond (p x) (jj p l) (l++[x]):=by
 unfold jj
 simp only[List.reverse_append,List.reverse_cons,List.reverse_nil,jr,List.singleton_append,List.dropWhile_cons]
 cases p x<;>simp
end Go.cd
namespace Go.cd
open Go Go.bg
def PD:List Int:=[929955233495203,466365720129213,1662059464998953,2033849074728123,1442794654840575]
def b8:dO:=[(0,wL.map λz=>(.u64,z)),(1,GW.map λz=>(.u64,z)),(3,([1,0,0,0,0]:List Int).map λz=>(.u64,z)),(4,PD.map λz=>(.u64,z))]
def GX (w:Nat) (r:List Int) (i:Nat):Bool:=decide (r.getD (i/w) 0/2^(i% w)% 2=1)
def y5 (G:Nat->List Int->List Int) (e n:List Int):Nat->List Int
 |0=>[1,0,0,0,0]
 |k+1=>let s:=G 664 (y5 G e n k);cond (GX 64 n (255-k)) (G 643 (s++e)) s
def uE (G:Nat->List Int->List Int) (p n:List Int):Nat->List Int
 |0=>G 648 []
 |k+1=>let s:=G 651 ((uE G p n k).take 15);cond (GX 8 n (255-k)) (G 650 (s++p)) s
def CT (G:Nat->List Int->List Int) (id:Nat) (zs:List Int):List Int:=cond (aA id 645) (y5 G (zs.take 5) (zs.drop 5) 256) (cond (aA id 652) (uE G (zs.take 20) (zs.drop 20) 256) (G id zs))
def tx (G:Nat->List Int->List Int) (id:Nat) (zs rs:List (List Int)):Prop:=rs.flatten=CT G id zs.flatten
def Fm (G:Nat->List Int->List Int) (s:List Int):List Int:=G 653 ((uE G (G 647 []) (G 654 ((qw cC s).take 32)) 256).take 15)
def nB (G:Nat->List Int->List Int) (t:ay):ay:=gM ((Fm G (qw cB (t.map λb=>(b.toNat:Int)))).map λz=>k8 z.toNat)
def qy (key:ay->ay) (l:List cW) (k:ay):Bool:=gA l&&l.any λp=>p.hV.isEmpty&&decide (key p.s3=k)
def abu (G:Nat->List Int->List Int) (id:Nat) (zs rs:List (List Int)):Prop:=match id,zs,rs with
 |655,[s],rs=>rs=[Fm G s]
 |656,[p],[[r]]=>U r=nB G (gN p).s3
 |657,[[z],[k]],[[r]]=>r=bh (qy (nB G) (a7 z) (U k))
 |658,[],[[r]]=>r=1
 |659,[_,_,_],[[r]]=>r=1
 |660,[_,_,_],[[r]]=>r=1
 |661,[_],[[r]]=>r=1
 |_,_,_=>False
def lh (G:Nat->List Int->List Int) (id:Nat):List (List Int)->List (List Int)->Prop:=cond (b7 id 640) (SB id) (cond (b7 id 655||b7 661 id) (tx G id) (abu G id))
end Go.cd
namespace Go.cd
open Go Go.bg
def GK:D:= .mix [.str,.str]
def L9:D:= .int .u8 0 255
def adR:D:= .int .i64 (-1) 9223372036854775807
def Dn:D:= .int .i64 0 21
def Xm:D:= .jZ [32]
def Xi:D:= .jZ [46]
def aks:D:= .jZ [46,46]
def aku:D:= .jZ [46,45]
def akq:D:= .jZ [64]
def akr:D:= .jZ [58]
def akw:D:= .jZ [97,98,99,100,101,102,103,104,105,106,107,108,109,110,111,112,113,114,115,116,117,118,119,120,121,122,65,66,67,68,69,70,71,72,73,74,75,76,77,78,79,80,81,82,83,84,85,86,87,88,89,90,48,49,50,51,52,53,54,55,56,57,46,45]
def akt:D:= .jZ [48,49,50,51,52,53,54,55,56,57]
def akC:D:= .jZ [97,98,99,100,101,102,103,104,105,106,107,108,109,110,111,112,113,114,115,116,117,118,119,120,121,122,48,49,50,51,52,53,54,55,56,57,46,95,61,47,43,45]
def akB:D:= .jZ [97,98,99,100,101,102,103,104,105,106,107,108,109,110,111,112,113,114,115,116,117,118,119,120,121,122,65,66,67,68,69,70,71,72,73,74,75,76,77,78,79,80,81,82,83,84,85,86,87,88,89,90,48,49,50,51,52,53,54,55,56,57]
def akD:D:= .jZ [65,66,67,68,69,70,71,72,73,74,75,76,77,78,79,80,81,82,83,84,85,86,87,88,89,90,97,98,99,100,101,102,103,104,105,106,107,108,109,110,111,112,113,114,115,116,117,118,119,120,121,122,48,49,50,51,52,53,54,55,56,57,43,47]
def wE:bQ:= .jW [.int .u8 0 255] 5
def adO:D:= .int .i64 (-1) 1
def Ut:D:= .int .i64 0 9223372036854775807
def Ad:D:= .int .i64 (-9223372036854775808) 9223372036854775807
def Ur:D:= .int .i64 0 79
def alX:bQ:= .rd [.int .u32 0 4294967295]
def I9:bQ:= .jW [.int .u32 0 4294967295] 99
def alY:bQ:= .rd [.int .u64 0 18446744073709551615]
def Ja:bQ:= .jW [.int .u64 0 18446744073709551615] 85
def akb:D:= .pC .i64 32
def akf:D:= .pC .i64 64
def oK:D:= .int .u32 0 4294967295
def ki:D:= .int .u64 0 18446744073709551615
def sb:D:= .agg .u8 32 0 255
def Ty:D:= .agg .u8 64 0 255
def rD:bQ:= .rd [.int .u8 0 255]
def pp:D:= .mix [.str,.str,.str,.str,.str,.str,.str]
def rC:bQ:= .rd [.str,.str,.str,.str,.str,.str,.str]
def anQ:bQ:= .jW [.str,.str,.str,.str,.str,.str,.str] 32
def f5:D:= .agg .u64 5 0 18446744073709551615
def f4:D:= .agg .u64 4 0 18446744073709551615
def Yr:D:= .mix [.int .u64 0 18446744073709551615,.int .u64 0 18446744073709551615,.int .u64 0 18446744073709551615,.int .u64 0 18446744073709551615,.int .u64 0 18446744073709551615,.int .u64 0 18446744073709551615,.int .u64 0 18446744073709551615,.int .u64 0 18446744073709551615,.int .u64 0 18446744073709551615,.int .u64 0 18446744073709551615,.int .u64 0 18446744073709551615,.int .u64 0 18446744073709551615,.int .u64 0 18446744073709551615,.int .u64 0 18446744073709551615,.int .u64 0 18446744073709551615]
def rI:D:= .mix [.int .u64 0 18446744073709551615,.int .u64 0 18446744073709551615,.int .u64 0 18446744073709551615,.int .u64 0 18446744073709551615,.int .u64 0 18446744073709551615,.int .u64 0 18446744073709551615,.int .u64 0 18446744073709551615,.int .u64 0 18446744073709551615,.int .u64 0 18446744073709551615,.int .u64 0 18446744073709551615,.int .u64 0 18446744073709551615,.int .u64 0 18446744073709551615,.int .u64 0 18446744073709551615,.int .u64 0 18446744073709551615,.int .u64 0 18446744073709551615,.int .u64 0 18446744073709551615,.int .u64 0 18446744073709551615,.int .u64 0 18446744073709551615,.int .u64 0 18446744073709551615,.int .u64 0 18446744073709551615]
def c1:D:= .int .u64 0 1
def alB:bQ:= .rd [.bool,.int .u8 0 255,.int .u8 0 255,.int .u8 0 255]
end Go.cd
