/- The evaluator's soundness: operations and regions. -/
import Derived.Test.YtponpidccjmlnaaGreatDoorPaa
import Derived.Laws.Append
import Derived.Deep.AppendSrc
import Derived.Deep.Upon
import Derived.Laws.MakeOwn
import Derived.Lib.MakeNoZero
import Derived.Laws.Externs
import Derived.KernelRfl
import Derived.Lib.ConvBytes
import Derived.ArgAppend
import Derived.OrdersIn
import Derived.TacticsIn
import Derived.LoopNIn
import Derived.Sort.LoopGhostIn
open Array renaming toArray_toList->iJ,toList_map->r6,replicate->th,eq_empty_of_size_eq_zero->vb,length_toList->ve,getElem?_eq_none->FX,getElem?_eq_getElem->F2,getElem?_toList->Gb,ext'->KC,toList_range->RO,size_append->aax,mapM_eq_mapM_toList->au1,range->avx,getElem?_modify->avF,getElem?_push_lt->avH
open Bool renaming and_eq_true->aK,false_eq_true->o3,or_eq_true->qL,not_true->CB
open Classical renaming byContradiction->aau
open Eq renaming trans->c6
open Function renaming comp->F0
open Go renaming World->ai,Value->az,TypeId->aN,Program->bm,FuncId->cy,IntKind->cS,run_underlying->ef,Calls->iY,Operand->mx,setRow_other->Gd,setRow_heap->Ge
open Go.Builtin renaming zeroCells->kC,copy_->xc,append_->CM,firstCells->Gg,lenOf->RR,nextslicecap->aav,clear_->aaE
open Go.Code renaming region->avQ
open Go.Extern renaming findNext->Ku,find->Kv
open Go.Extern.BytealgMakeNoZero renaming digits->tp,makeNoZero->RW
open Go.Fence renaming wide->zD
open Go.Instr renaming sureAddr->kB,loadAt->mv,sliceAt->oY,storeAt->RN,buildSlice->aaw,alloc->avD
open Go.Lib renaming bytesWorld->Gh,bytesCells->Gi
open Go.Next renaming value->ju
open Go.Oper renaming wp->lf,uponIn->avO,wpIn_mono->avP
open Go.Question renaming cut->avz
open Go.Region renaming wanted->tl,noSelect->Kp
open Go.Result renaming andThen_ok->fW
open Go.Sem renaming run_bind->fV,run_pure->gU
open Go.Value renaming int->r3,slice->KD
open Go.Value.int renaming injEq->ayF
open Go.World renaming cell?->iW,frozen?->ti,alloc->CP,freeze->KF,alloc_eq->KG,drew->RX,drew_eq->aay
open Go.World.Extends renaming refl->na,drew->Kq
open Int renaming le_refl->cn,lt_or_le->iX,toNat_natCast->k9,le_trans->nP,natCast_nonneg->w5
open List renaming getD->af,map_cons->cr,range->cA,mem_cons_of_mem->cR,replicate->cV,length_cons->dv,mem_of_getElem?->dK,length_append->dQ,map_nil->dY,map_append->ff,length_nil->gF,map_congr_left->gG,append_nil->gT,append_assoc->ie,nil_append->jr,getElem?_eq_getElem->jt,mem_of_mem_take->jM,map_map->j5,length_map->j6,length->kA,mem_cons->lR,take_of_length_le->mq,getElem?_map->mu,length_take->mw,getElem?_take->m9,take_append_drop->nc,mem_of_mem_drop->nd,getElem?_set->nO,zipWith->oD,flatMap_cons->o0,getD_cons_zero->qK,getElem?_cons_zero->qO,getElem?_append_left->rZ,length_drop->rV,flatten_cons->rW,getD_eq_getElem?_getD->tg,size_toArray->tk,take_zero->tn,replicate_succ->tq,cons_append->u6,eq_nil_of_length_eq_zero->vd,take_succ_cons->w9,getElem?_append_right->zu,length_replicate->zC,getD_cons_succ->Cz,mem_of_find?_eq_some->CC,drop_left->CD,getElem?_append->F3,take_append_of_le_length->F4,getElem_mem->F8,drop_drop->Gc,mem_or_eq_of_mem_set->Gf,all_cons->Kn,getElem?_set_ne->Ko,zipWith_cons_cons->Ks,take_length->RD,find?_some->RE,ext_getElem?->RP,getElem?_eq_none->RQ,getElem?_set_self->Z9,getElem?_range->aat,eq_of_mem_replicate->aaz,drop_append_of_le_length->avw,flatMap_map->avC
open List.cons renaming injEq->hS
open Nat renaming beq->aA,le_refl->a6,eq_of_beq_eq_true->bk,ble->bw,blt->b7,le_of_ble_eq_true->eb,le_trans->hT,add_zero->ld,le_succ->nQ,zero_add->oE,lt_succ_self->r4,succ_mul->r5,add_mul->rU,lt_of_lt_of_le->u4,beq_refl->wZ,min_eq_left->w8,le_add_right->CA,mul_le_mul_right->RU,mul_le_mul->Z8,mod_eq_of_lt->avy,le_of_mul_le_mul_right->avG
open Option renaming map_some->qM,getD_some->qN,isSome_none->qP
open Option.some renaming injEq->aG,inj->gE
open Prod.mk renaming injEq->cj,inj->RM
open Pure renaming pure->zv
set_option linter.unusedVariables false
set_option linter.unusedSimpArgs false
namespace Go.bg
open M
structure dr (n nb:Nat) (ρ:Env) (m:Nat->Nat) (n' jh:Nat) (ad:Env) (m':Nat->Nat):Prop where
 hn:n<=n'
 ha:agree n ρ ad
 hb:nb<=jh
 hm:∀b,b<nb->m' b=m b
theorem dr.refl (n nb:Nat) (ρ:Env) (m:Nat->Nat):dr n nb ρ m n nb ρ m:=⟨a6 _,agree.refl _ _,a6 _,λ_ _=>rfl⟩
theorem dr.trans {n nb n1 wA ed XS:Nat} {ρ ax bx:Env} {m iG ey:Nat->Nat} (h:dr n nb ρ m n1 wA ax iG) (h':dr n1 wA ax iG ed XS bx ey):dr n nb ρ m ed XS bx ey:=
 ⟨hT h.hn h'.hn,h.ha.trans h'.ha h.hn,hT h.hb h'.hb,λb hb=>(h'.hm b (u4 hb h.hb)).trans (h.hm b hb)⟩
def dU (n:Nat) (G dx:dw):Prop:=∀l,l<n->dx l=G l
theorem dU.refl (n:Nat) (G:dw):dU n G G:=λ_ _=>rfl
theorem dU.trans {n n':Nat} {G dx KZ:dw} (h:dU n G dx) (h':dU n' dx KZ) (hn:n<=n'):dU n G KZ:=λl hl=>(h' l (by omega)).trans (h l hl)
structure R (w0:dm) (n:Nat) (ρ:Env) (m:Nat->Nat) (tm:List V) (bl:List ar) (a:Act) (w:ai):Prop where
 t:dD n bl.length ρ m tm a.tmps
 d:a.defers=w0.ds
 b:cp n bl.length ρ bl
 ba:Mem w0 ρ m bl w
section
variable (S:Nat->List Int->List Int->Prop) (L:V->Env->Prop) (w0:dm)
def iZ (k:fA) (n nb:Nat) (ρ:Env) (m:Nat->Nat) (G:dw) (K:Act->ai->Prop):Prop:=
 ∀n' ad m' bR aR dx dc w',dr n nb ρ m n' (kA aR) ad m'->dU n G dx->R w0 n' ad m' bR aR dc w'->(k n' bR aR).holds S L dx ad->K dc w'
def tw (k:RK) (n nb:Nat) (ρ:Env) (m:Nat->Nat) (G:dw) (R':Ending->ai->Prop):Prop:=
 ∀n' v aR dx ad m' w' val,dr n nb ρ m n' (kA aR) ad m'->dU n G dx->V.ok n' aR.length ad v->v.rel ad m' val->cp n' aR.length ad aR->Mem w0 ad m' aR w'->(k n' v aR).holds S L dx ad->R' (.returned val) w'
def lU (P:bm) (inl:iy):Prop:=
 ∀f n vs bl k G ρ m w xs R',cp n (kA bl) ρ bl->Mem w0 ρ m bl w->(∀v∈vs,V.ok n bl.length ρ v)->ec ρ m vs xs->(inl f n vs bl k).holds S L G ρ->tw S L w0 k n bl.length ρ m G R'->
  (callFunc f xs.toArray).run P w= .ok (.enter f xs.toArray) w/\iY P f xs.toArray w R'
end
section
variable {S:Nat->List Int->List Int->Prop} {L:V->Env->Prop} {w0:dm} {P:bm} {gl:dO} {cal:eg} {inl:iy}
theorem iZ.later {k:fA} {n nb n1 wA:Nat} {ρ ax:Env} {m iG:Nat->Nat} {G G1:dw} {K:Act->ai->Prop} (h:iZ S L w0 k n nb ρ m G K) (hl:dr n nb ρ m n1 wA ax iG) (hA:dU n G G1):iZ S L w0 k n1 wA ax iG G1 K:=
 λn' ad m' bR aR dx dc w' h1 h2 h3 h4=>h n' ad m' bR aR dx dc w' (hl.trans h1) (hA.trans h2 hl.hn) h3 h4
def jl (m:Nat->Nat) (nb g:Nat):Nat->Nat:=λb=>if b=nb then g else m b
theorem j1 {m:Nat->Nat} {nb g b:Nat} (h:b<nb):jl m nb g b=m b:=by simp[jl];omega
theorem ks (m:Nat->Nat) (nb g:Nat):jl m nb g nb=g:=by simp[jl]
theorem Mem.push {n:Nat} {ρ:Env} {m:Nat->Nat} {bl:List ar} {w:ai} {x:ar} {g:Nat} (h:Mem w0 ρ m bl w) (hb:cp n bl.length ρ bl) (hx:∀a∈x.1,A.ok n bl.length ρ a)
 (h1:bJ x.1=true->w0.b.heap.size<=g/\(w0.ex g∨w0.r.heap.size<=g)/\∃r:List az,(x.2.2=false->r=[])/\w.heap[g]?=some (.cells (x.1.map (A.den ρ m)++r).toArray x.2.1 (0,0)))
 (h2:∀sh off code cap kind,x.1=[.rows sh off code cap kind]->o6 w0 ρ g sh off code cap kind x.2.1 w)
 (h3:∀(i:Nat) (p:ar),bl[i]?=some p->m i=g->(aX ρ p.1<=1/\aX ρ x.1<=1)∨aX ρ p.1=0∨aX ρ x.1=0):
 Mem w0 ρ (jl m bl.length g) (bl++[x]) w:=by
 have hold:∀(i:Nat) (p:ar),(bl++[x])[i]?=some p->(i<bl.length/\bl[i]?=some p)∨(i=bl.length/\p=x):=λi p hi=>by
  rw[F3]at hi
  split at hi
  ·rename_i dZ;exact .inl ⟨dZ,hi⟩
  ·have:i=bl.length:=by
    have:=(List.getElem?_eq_some_iff.1 hi).1
    simp at this;omega
   subst this
   simp only[Nat.sub_self,qO,aG]at hi
   exact .inr ⟨rfl,hi.symm⟩
 refine⟨h.ext,h.gg,h.iF,h.gI,h.eI,h.fM,λi gZ t' hi ho=>?_,λi sh off code cap kind t' hi=>?_,λi j p q hi hj he=>?_⟩
 ·rcases hold i _ hi with⟨dZ,hi⟩|⟨rfl,cD⟩
  ·obtain⟨g1,jA,r,hr,g2⟩:=h.et i gZ t' hi ho
   rw[j1 dZ]
   refine⟨g1,jA,r,hr,?_⟩
   rw[rE (hb _ (dK hi)) (agree.refl n ρ) (λb hb=>j1 hb)]
   exact g2
  ·subst cD
   rw[ks]
   obtain⟨g1,jA,r,hr,g2⟩:=h1 ho
   refine⟨g1,jA,r,hr,?_⟩
   rw[rE hx (agree.refl n ρ) (λb hb=>j1 hb)]
   exact g2
 ·rcases hold i _ hi with⟨dZ,hi⟩|⟨rfl,cD⟩
  ·rw[j1 dZ]
   exact h.rws i sh off code cap kind t' hi
  ·subst cD
   rw[ks]
   exact h2 sh off code cap kind rfl
 ·rcases hold i p hi with⟨dZ,rl⟩|⟨rfl,cD⟩<;>rcases hold j q hj with⟨Wk,En⟩|⟨rfl,oO⟩
  ·rw[j1 dZ,j1 Wk]at he
   exact h.inj i j p q rl En he
  ·rw[j1 dZ,ks]at he
   subst oO
   exact .inr (h3 i p rl he)
  ·rw[j1 Wk,ks]at he
   subst cD
   rcases h3 j q En he.symm with h|h|h
   ·exact .inr (.inl ⟨h.2,h.1⟩)
   ·exact .inr (.inr (.inr h))
   ·exact .inr (.inr (.inl h))
  ·exact .inl rfl
theorem Mem.alloc {n:Nat} {ρ:Env} {m:Nat->Nat} {bl:List ar} {w:ai} {cs:List A} {t:aN} {ex:List az} {open_:Bool} (h:Mem w0 ρ m bl w) (hb:cp n bl.length ρ bl) (hc:∀a∈cs,A.ok n bl.length ρ a) (hop:open_=false->ex=[]) (jT:bJ cs=true):
 Mem w0 ρ (jl m bl.length w.heap.size) (bl++[(cs,(t,open_))]) (w.alloc (.cells (cs.map (A.den ρ m)++ex).toArray t)):=by
 refine(h.grow ((na w).alloc _)).push hb hc (λ_=>⟨h.ext.size,.inr h.eI,ex,hop,heap_alloc_new w _⟩) (λsh off code cap kind e=>?_) λi p hi he=>?_
 ·simp only at e
  subst e
  cases jT
 ·by_cases hk:aX ρ p.1=0
  ·exact .inr (.inl hk)
  ·have:=h.lt hi hk;omega
theorem Mem.put {kd:Nat} {ρ:Env} {m:Nat->Nat} {bl:List ar} {w:ai} {b:Nat} {sh:List aw} {off code cap code':I} {t:aN×Bool} {cells row:Array az} {fz:Nat×Nat} (h:Mem w0 ρ m bl w) (fu:2<=kd) (hbl:bl[b]?=some ([.rows sh off code cap kd],t)) (cE:0<=cap.den ρ)
 (hr:o6 w0 ρ (m b) sh off code' cap kd t.1 (w.setRow (m b) row)):Mem w0 ρ m (cO bl b ([.rows sh off code' cap kd],t)) (w.setRow (m b) row):=by
 have lq:b<bl.length:=(List.getElem?_eq_some_iff.1 hbl).1
 have iO:∀c,aX ρ [.rows sh off c cap kd]=kd:=λc=>nC (by omega) cE
 obtain⟨_,hl⟩:=h.rws b sh off code cap kd t hbl (by omega)
 obtain⟨_,cells,ic,fz,_,_,h5⟩:=hl cE
 obtain⟨_,_,_,_,h1,HD⟩:=h5 fu
 have cM:∀(i:Nat) (p:ar),(cO bl b ([.rows sh off code' cap kd],t))[i]?=some p->(i=b/\p=([.rows sh off code' cap kd],t))∨(i≠b/\bl[i]?=some p):=λi p hi=>by
  rw[ia,nO]at hi
  split at hi
  ·rename_i eo
   subst eo
   simp only[lq,if_true,aG]at hi
   exact .inl ⟨rfl,hi.symm⟩
  ·rename_i eo;exact .inr ⟨λe=>eo e.symm,hi⟩
 refine⟨h.ext.setRow (m b) _ h1,h.gg,h.iF,h.gI,by simp;exact h.eI,λi hi hx=>?_,λi gZ t' hi ho=>?_,λi ei gj code' fZ lB t' hi=>?_,λi j p q hi hj he=>?_⟩
 ·rw[Gd w (m b) i _ (λe=>by
   subst e
   rcases HD with h3|h3
   ·exact hx h3
   ·omega)]
  exact h.fM i hi hx
 ·rcases cM i _ hi with⟨rfl,cD⟩|⟨hne,hi⟩
  ·cases cD;cases ho
  ·obtain⟨g1,jA,g2⟩:=h.et i gZ t' hi ho
   exact⟨g1,jA,by rw[Gd w (m b) (m i) _ (λe=>h.ne hbl hi (by rw[iO];exact fu) (by rw[iQ ho];decide) (λe=>hne e.symm) (by first|exact e|exact e.symm))];exact g2⟩
 ·rcases cM i _ hi with⟨rfl,cD⟩|⟨hne,hi⟩
  ·cases cD;exact hr
  ·exact(h.rws i ei gj _ fZ lB t' hi).grow λhk hc=>Gd w (m b) (m i) _ (λe=>h.ne hbl hi (by rw[iO];exact fu) (by simp only[nC hk hc];exact hk) (λe=>hne e.symm) (by first|exact e|exact e.symm))
 ·have hk:∀(i:Nat) (p:ar),(cO bl b ([.rows sh off code' cap kd],t))[i]?=some p->∃p',bl[i]?=some p'/\aX ρ p'.1=aX ρ p.1:=λi p hi=>by
   rcases cM i _ hi with⟨rfl,cD⟩|⟨hne,hi⟩
   ·exact⟨_,hbl,by rw[cD];simp only[iO]⟩
   ·exact⟨p,hi,rfl⟩
  obtain⟨p',hp,ep⟩:=hk i p hi
  obtain⟨q',hq,eq⟩:=hk j q hj
  rw[<-ep,<-eq]
  exact h.inj i j p' q' hp hq he
theorem Mem.kill {ρ:Env} {m:Nat->Nat} {bl:List ar} {w:ai} {b k:Nat} {sh:List aw} {off code cap:I} {t:aN×Bool} (h:Mem w0 ρ m bl w) (hbl:bl[b]?=some ([.rows sh off code cap k],t)):Mem w0 ρ m (cO bl b ([.rows sh off code cap 0],t)) w:=by
 have lq:b<bl.length:=(List.getElem?_eq_some_iff.1 hbl).1
 have cM:∀(i:Nat) (p:ar),(cO bl b ([.rows sh off code cap 0],t))[i]?=some p->(i=b/\p=([.rows sh off code cap 0],t))∨(i≠b/\bl[i]?=some p):=λi p hi=>by
  rw[ia,nO]at hi
  split at hi
  ·rename_i eo
   subst eo
   simp only[lq,if_true,aG]at hi
   exact .inl ⟨rfl,hi.symm⟩
  ·rename_i eo;exact .inr ⟨λe=>eo e.symm,hi⟩
 have jR:aX ρ [.rows sh off code cap 0]=0:=by simp[aX]
 refine⟨h.ext,h.gg,h.iF,h.gI,h.eI,h.fM,λi gZ t' hi ho=>?_,λi ei gj code' fZ lB t' hi=>?_,λi j p q hi hj he=>?_⟩
 ·rcases cM i _ hi with⟨rfl,cD⟩|⟨hne,hi⟩
  ·cases cD;cases ho
  ·exact h.et i gZ t' hi ho
 ·rcases cM i _ hi with⟨rfl,cD⟩|⟨hne,hi⟩
  ·cases cD;exactλhk=>absurd rfl hk
  ·exact h.rws i ei gj _ fZ lB t' hi
 ·rcases cM i _ hi with⟨rfl,cD⟩|⟨hne,hi⟩
  ·exact .inr (.inr (.inl (by rw[cD];exact jR)))
  ·rcases cM j _ hj with⟨rfl,oO⟩|⟨hne,hj⟩
   ·exact .inr (.inr (.inr (by rw[oO];exact jR)))
   ·exact h.inj i j p q hi hj he
theorem dr.alloc (n:Nat) (ρ:Env) (m:Nat->Nat) (bl:List ar) (x:ar) (g:Nat):dr n bl.length ρ m n (bl++[x]).length ρ (jl m bl.length g):=
 ⟨a6 _,agree.refl _ _,by simp,λb hb=>j1 hb⟩
theorem cp.alloc {n:Nat} {ρ:Env} {bl:List ar} {cs:List A} {t:aN×Bool} (hb:cp n bl.length ρ bl) (hc:∀a∈cs,A.ok n bl.length ρ a):cp n (bl++[(cs,t)]).length ρ (bl++[(cs,t)]):=by
 intro p hp a ha
 rcases List.mem_append.1 hp with hp|hp
 ·exact(hb p hp a ha).ext (agree.refl n ρ) (a6 _) (by simp)
 ·simp at hp;subst hp;exact(hc a ha).ext (agree.refl n ρ) (a6 _) (by simp)
theorem R.alloc {n:Nat} {ρ:Env} {m:Nat->Nat} {tm:List V} {bl:List ar} {a:Act} {w:ai} {cs:List A} {t:aN} (h:R w0 n ρ m tm bl a w) (hc:∀x∈cs,A.ok n bl.length ρ x) (dst:Option Tmp) (jT:bJ cs=true):
 R w0 n ρ (jl m bl.length w.heap.size) (eV tm dst (.w (.one (.ptr bl.length 0)))) (bl++[(cs,(t,false))]) (a.put dst (.pointer (some ⟨w.heap.size,0,none⟩))) (w.alloc (.cells (cs.map (A.den ρ m)).toArray t)):=by
 have hl:=dr.alloc n ρ m bl (cs,(t,false)) w.heap.size
 have iP:=h.ba.alloc (t:=t) (ex:=[]) (open_:=false) h.b hc (λ_=>rfl) jT
 rw[gT]at iP
 exact⟨dD.put (h.t.ext hl.ha hl.hn hl.hb hl.hm) dst (by simp[V.ok,W.ok,A.ok]) (by simp[V.rel,W.den,A.den,ks]),by rw[put_defers];exact h.d,h.b.alloc hc,iP⟩
theorem R.row {n:Nat} {ρ:Env} {m:Nat->Nat} {tm:List V} {bl:List ar} {a:Act} {w:ai} {cs:List A} {t:aN} {ex:List az} {open_:Bool} (h:R w0 n ρ m tm bl a w) (hc:∀x∈cs,A.ok n bl.length ρ x) (hop:open_=false->ex=[]) (jT:bJ cs=true) (dst:Option Tmp) {v:V} {x:az}
 (hv:v.ok n (bl.length+1) ρ) (hx:v.rel ρ (jl m bl.length w.heap.size) x):
 R w0 n ρ (jl m bl.length w.heap.size) (eV tm dst v) (bl++[(cs,(t,open_))]) (a.put dst x) (w.alloc (.cells (cs.map (A.den ρ m)++ex).toArray t)):=by
 have hl:=dr.alloc n ρ m bl (cs,(t,open_)) w.heap.size
 exact⟨dD.put (h.t.ext hl.ha hl.hn hl.hb hl.hm) dst (by simpa using hv) hx,by rw[put_defers];exact h.d,h.b.alloc hc,h.ba.alloc h.b hc hop jT⟩
theorem Mem.storeCells {n:Nat} {ρ:Env} {m:Nat->Nat} {bl:List ar} {w:ai} {b off:Nat} {cs l:List A} {bK:aN×Bool} (h:Mem w0 ρ m bl w) (hb:cp n bl.length ρ bl) (hl:∀a∈l,A.ok n bl.length ρ a)
 (hbl:bl[b]?=some (cs,bK)) (qf:off+l.length<=cs.length) (n7:bJ cs=true) (lv:bJ (cs.take off++l++cs.drop (off+l.length))=true):
 ∃w',(Go.storeCells ⟨m b,off,none⟩ (l.map (A.den ρ m))).run P w= .ok () w'/\Mem w0 ρ m (cO bl b (cs.take off++l++cs.drop (off+l.length),bK)) w':=by
 obtain⟨h1,HD,r,hr,h2⟩:=h.et b cs bK hbl n7
 have hst:=run_storeCells_at P (m b) off bK.1 (l.map (A.den ρ m)) 0 (cs.map (A.den ρ m)++r).toArray w h2 (by simp;omega) (λx hx=>by
  obtain⟨a,ha,rfl⟩:=List.mem_map.1 hx
  exact A.I2 (hl a ha))
 have sG:∀k,k<=cs.length->(cs.map (A.den ρ m)++r).take k=(cs.take k).map (A.den ρ m)/\(cs.map (A.den ρ m)++r).drop k=(cs.drop k).map (A.den ρ m)++r:=λk hk=>by
  refine⟨?_,?_⟩
  ·rw[F4 (by simpa using hk),List.map_take]
  ·rw[avw (by simpa using hk),List.map_drop]
 refine⟨w.setRow (m b) ((cs.take off++l++cs.drop (off+l.length)).map (A.den ρ m)++r).toArray,?_,?_⟩
 ·simp only[ld,j6]at hst
  rw[hst]
  congr 3
  simp only[ff,ie]
  rw[(sG off (by omega)).1,(sG (off+l.length) (by omega)).2]
 ·have lq:b<bl.length:=(List.getElem?_eq_some_iff.1 hbl).1
  have cM:∀(i:Nat) (p:ar),(cO bl b (cs.take off++l++cs.drop (off+l.length),bK))[i]?=some p->(i=b/\p=(cs.take off++l++cs.drop (off+l.length),bK))∨(i≠b/\bl[i]?=some p):=λi p hi=>by
   rw[ia,nO]at hi
   split at hi
   ·rename_i eo
    subst eo
    simp only[lq,if_true,aG]at hi
    exact .inl ⟨rfl,hi.symm⟩
   ·rename_i eo;exact .inr ⟨λe=>eo e.symm,hi⟩
  have iO:aX ρ cs=2:=iQ n7
  refine⟨h.ext.setRow (m b) _ h1,h.gg,h.iF,h.gI,by simp;exact h.eI,λi hi hx=>?_,λi gZ t' hi ho=>?_,λi sh gj code cap kind t' hi=>?_,λi j p q hi hj he=>?_⟩
  ·rw[Gd w (m b) i _ (λe=>by
    subst e
    rcases HD with h3|h3
    ·exact hx h3
    ·omega)]
   exact h.fM i hi hx
  ·rcases cM i _ hi with⟨rfl,cD⟩|⟨hne,hi⟩
   ·cases cD
    exact⟨h1,HD,r,hr,Ge w (m i) _ _ _ _ h2⟩
   ·obtain⟨g1,jA,g2⟩:=h.et i gZ t' hi ho
    exact⟨g1,jA,by rw[Gd w (m b) (m i) _ (λe=>h.ne hbl hi (by rw[iO];exact a6 2) (by rw[iQ ho];decide) (λe=>hne e.symm) (by first|exact e|exact e.symm))];exact g2⟩
  ·rcases cM i _ hi with⟨rfl,cD⟩|⟨hne,hi⟩
   ·have hi:=(RM cD).1
    rw[<-hi]at lv
    cases lv
   ·exact(h.rws i sh gj code cap kind t' hi).grow λhk hc=>Gd w (m b) (m i) _ (λe=>h.ne hbl hi (by rw[iO];exact a6 2) (by simp only[nC hk hc];exact hk) (λe=>hne e.symm) (by first|exact e|exact e.symm))
  ·have hk:∀(i:Nat) (p:ar),(cO bl b (cs.take off++l++cs.drop (off+l.length),bK))[i]?=some p->∃p',bl[i]?=some p'/\aX ρ p'.1=aX ρ p.1:=λi p hi=>by
    rcases cM i _ hi with⟨rfl,cD⟩|⟨hne,hi⟩
    ·exact⟨_,hbl,by rw[cD];exact iO.trans (iQ lv).symm⟩
    ·exact⟨p,hi,rfl⟩
   obtain⟨p',hp,ep⟩:=hk i p hi
   obtain⟨q',hq,eq⟩:=hk j q hj
   rw[<-ep,<-eq]
   exact h.inj i j p' q' hp hq he
theorem Mem.store {n:Nat} {ρ:Env} {m:Nat->Nat} {bl:List ar} {w:ai} {b off:Nat} {cs l:List A} {bK:aN×Bool} (h:Mem w0 ρ m bl w) (hb:cp n bl.length ρ bl) (hl:∀a∈l,A.ok n bl.length ρ a)
 (hbl:bl[b]?=some (cs,bK)) (qf:off+l.length<=cs.length) (jB:0<l.length) (n7:bJ cs=true) (lv:bJ (cs.take off++l++cs.drop (off+l.length))=true) (ty:aN) (hs:eA P ty=some l.length) (v:az) (hv:v.cells=(l.map (A.den ρ m)).toArray):
 ∃w',(RN ty (.pointer (some ⟨m b,off,none⟩)) v).run P w= .ok () w'/\Mem w0 ρ m (cO bl b (cs.take off++l++cs.drop (off+l.length),bK)) w':=by
 obtain⟨w',gv,tU⟩:=h.storeCells (P:=P) hb hl hbl qf n7 lv
 refine⟨w',?_,tU⟩
 simp only[RN,kB,fV,gU,fW,storeVar,gO hs,hv]
 simp only[tk,j6,ne_eq,not_true_eq_false,if_false,gU,fW]
 simp only[gU,fW,gv]
theorem ib (bl:List ar) (b:Nat) (x:ar):(cO bl b x).length=bl.length:=by rw[ia];simp
theorem cp.set {n:Nat} {ρ:Env} {bl:List ar} {b:Nat} {cs:List A} {t:aN×Bool} (hb:cp n bl.length ρ bl) (hc:∀a∈cs,A.ok n bl.length ρ a):cp n (cO bl b (cs,t)).length ρ (cO bl b (cs,t)):=by
 intro p hp a ha
 rw[ib]
 rw[ia]at hp
 rcases Gf hp with h|h
 ·exact hb p h a ha
 ·subst h;exact hc a ha
theorem Ct {t:aN} {cs:List A} (h:k7 P t=some cs):∃i z,P.info? t=some i/\i.zero=some z/\tH z.cells.toList=some cs:=by
 unfold k7 at h
 cases hi:P.info? t with
 |none=>simp[hi]at h
 |some i=>
  cases hz:i.zero with
  |none=>simp[hi,hz]at h
  |some z=>simp only[hi,hz]at h;exact⟨i,z,rfl,hz,h⟩
theorem U3 {Z:Array az} {i:Nat} (h:i<Z.size):Z[i]! =Z[i]:=by simp[h]
theorem apF {z:List A} {Z:Array az} {n nb:Nat} {ρ:Env} {m:Nat->Nat} (hz:z.map (A.den ρ m)=Z.toList) (aZ:∀a∈z,A.ok n nb ρ a) (h0:0<z.length) (len:Nat):
 (∀a∈Fx z len,A.ok n nb ρ a)/\((Fx z len).map (A.den ρ m)).toArray=(avx (len*Z.size)).map λi=>Z[i% Z.size]! :=by
 have hl:Z.size=z.length:=by have:=congrArg kA hz;simpa using this.symm
 have hi:∀i,i% z.length<z.length:=λi=>Nat.mod_lt _ h0
 refine⟨λa ha=>?_,?_⟩
 ·obtain⟨i,_,rfl⟩:=List.mem_map.1 ha
  rw[jt (hi i)]
  exact aZ _ (F8 _)
 ·apply KC
  rw[r6,RO]
  simp only[Fx,j5,hl]
  refine gG λi _=>?_
  simp only[F0]
  have h1:i% z.length<Z.size:=by rw[hl];exact hi i
  rw[U3 h1,jt (hi i)]
  simp only[qN]
  have h2:=congrArg (λl=>l[i% z.length]?) hz
  simp only[mu,jt (hi i),qM]at h2
  rw[Gb,F2 h1]at h2
  simpa using h2
theorem acU {t:aN} {len n:Nat} {ρ:Env} {m:Nat->Nat} {bl:List ar} {parts:List (Nat×V)} {vals:Array (Nat×az)} {cs:List A} {e:aN} (h:LD P t len parts=some (cs,e)) (hr:GG n bl.length ρ m parts vals.toList):
 (∀a∈cs,A.ok n bl.length ρ a)/\∀w,(aaw t len vals).run P w= .ok (.slice (some ⟨w.heap.size,0,none⟩) len len) (w.alloc (.cells (cs.map (A.den ρ m)).toArray e)):=by
 unfold LD at h
 cases h1:gB P t with
 |none=>simp[h1]at h
 |some vv=>
  simp only[h1]at h
  cases h2:eA P vv with
  |none=>simp[h2]at h
  |some s=>
   cases h3:k7 P vv with
   |none=>simp[h2,h3]at h
   |some z=>
    simp only[h2,h3]at h
    cases hc:(aA z.length s&&b7 0 s&&bw (len*s) 16777216)with
    |false=>simp[hc]at h
    |true=>
     simp only[hc,cond_true]at h
     simp only[aK]at hc
     have c1:=bk hc.1.1
     have c2:=pd hc.1.2
     have c3:=eb hc.2
     cases h4:sr (λi=>some (i*s,s)) (Fx z len) parts with
     |none=>simp[h4]at h
     |some l=>
      simp only[h4,aG,cj]at h
      obtain⟨rfl,rfl⟩:=h
      obtain⟨inf,jN,hi,mO,hh⟩:=Ct h3
      have n4:=tI hh n bl.length ρ m
      have yi:=apF (Z:=jN.cells) n4.2 n4.1 (by omega) len
      have xQ:jN.cells.size=s:=by have:=congrArg kA n4.2;simp at this;omega
      obtain⟨g1,g2⟩:=Hu (m:=m) h4 yi.1 hr
      refine⟨g1,λw=>?_⟩
      rw[yi.2,xQ]at g2
      have hn:¬(16777216<len*s):=by omega
      by_cases hl0:len=0
      ·subst hl0
       have g3:Instr.fill (λi=>some (i*s,s)) ((avx (0*s)).map λi=>(#[]:Array az)[i% (#[]:Array az).size]!) vals.toList=some (l.map (A.den ρ m)).toArray:=by
        rw[<-g2];congr 1;simp
       simp[aaw,ef (fw h1),gO h2]at g3⊢
       simp[g3,newRow]
      ·have hne:¬(len*s=0):=by
        intro h0
        rcases Nat.mul_eq_zero.1 h0 with h0|h0<;>omega
       have yd:¬(s=0):=by omega
       simp[aaw,ef (fw h1),gO h2,hn,hne,hl0,yd,zeroValue,typeInfo,hi,mO,xQ,g2,newRow]
theorem auP {Z:Array az} {k:Nat} (h:0<Z.size):∃r:List az,kC Z (k+1)=(Z.toList++r).toArray:=by
 refine⟨(kC Z (k+1)).toList.drop Z.size,?_⟩
 apply KC
 have:(kC Z (k+1)).toList.take Z.size=Z.toList:=by
  apply RP
  intro i
  rw[m9]
  by_cases hi:i<Z.size
  ·have h1:i<(k+1)*Z.size:=u4 hi (by rw[r5];omega)
   rw[if_pos hi]
   simp only[kC,r6,RO,mu,aat h1,qM,avy hi]
   rw[U3 hi,Gb,F2 hi]
  ·rw[if_neg hi,RQ (by simpa using hi)]
 conv=>lhs;rw[<-nc Z.size (kC Z (k+1)).toList,this]
theorem Ea {w:ai} {n:Nat} {ρ:Env} {m:Nat->Nat} {bl:List ar} {b off k:Nat} {cs:List A} (hm:Mem w0 ρ m bl w) (hb:cp n bl.length ρ bl) (h:ri bl b off k=some cs):
 cs.length=k/\(∀a∈cs,A.ok n bl.length ρ a)/\∀j v,(cs.map (A.den ρ m))[j]?=some v->w.cell? ((⟨m b,off,none⟩:Addr).add j)=some v:=by
 unfold ri at h
 cases hbl:bl[b]? with
 |none=>simp[hbl]at h
 |some q=>
  obtain⟨C,t⟩:=q
  simp only[hbl]at h
  cases hc:(bw (off+k) C.length&&bJ C)with
  |false=>simp[hc]at h
  |true=>
   simp only[hc,cond_true,aG]at h
   simp only[aK]at hc
   have hle:=eb hc.1
   subst h
   obtain⟨_,_,r,_,h2⟩:=hm.et b C t hbl hc.2
   refine⟨by simp;omega,λa ha=>hb _ (dK hbl) a (nd (jM ha)),λj v hj=>?_⟩
   rw[gW]
   rw[mu,m9]at hj
   split at hj
   ·rename_i NT
    rw[List.getElem?_drop]at hj
    cases hq:C[off+j]? with
    |none=>simp[hq]at hj
    |some y=>
     simp only[hq,qM,aG]at hj
     have hlt:off+j<C.length:=(List.getElem?_eq_some_iff.1 hq).1
     simp only[iW,h2,qP,o3,if_false,List.getElem?_toArray]
     rw[rZ (by simpa using hlt),mu,hq]
     simp[hj]
   ·simp at hj
theorem Va {n:Nat} {ρ:Env} {m:Nat->Nat} {tm:List V} {bl:List ar} {a:Act} {w:ai} {G:dw} {K:Act->ai->Prop} {k:fA} {i:TypeInfo} {e:aN} {z:List A} {d:Option Tmp} {eh lK len:Nat} {olds news:List A} {Z:Array az}
 (h:R w0 n ρ m tm bl a w) (ho:∀a∈olds,A.ok n bl.length ρ a) (hn:∀a∈news,A.ok n bl.length ρ a) (hz:∀a∈z,A.ok n bl.length ρ a) (xQ:z.map (A.den ρ m)=Z.toList) (ae:(HC i e z d eh lK len olds news n tm bl k).holds S L G ρ) (hk:iZ S L w0 k n bl.length ρ m G K):
 (eh+len<=1000000/\aav (eh+len) lK*i.bytes<=281474976710656/\lK<eh+len/\0<len)/\
 K (a.put d (.slice (some ⟨w.heap.size,0,none⟩) (eh+len) (grownCap w (eh+len) lK e))) (w.drew.alloc (.cells ((olds.map (A.den ρ m)).toArray++(news.map (A.den ρ m)).toArray++kC Z (grownCap w (eh+len) lK e-(eh+len))) e)):=by
 unfold HC at ae
 cases hc:(bw (eh+len) 1000000&&bw (aav (eh+len) lK*i.bytes) 281474976710656&&b7 lK (eh+len)&&b7 0 len&&aA z.length i.size&&b7 0 i.size&&bJ (olds++news)&&bJ (olds++news++z))with
 |false=>rw[hc]at ae;exact ae.elim
 |true=>
  simp only[hc,cond_true,T.holds]at ae
  simp only[aK]at hc
  obtain⟨⟨hc,n7⟩,lv⟩:=hc
  have c1:=eb hc.1.1.1.1.1
  have c2:=eb hc.1.1.1.1.2
  have c3:=pd hc.1.1.1.2
  have c4:=pd hc.1.1.2
  have c5:=bk hc.1.2
  have gy:=pd hc.2
  refine⟨⟨c1,c2,c3,c4⟩,?_⟩
  have hsz:Z.size=z.length:=by have:=congrArg kA xQ;simpa using this.symm
  have fa:eh+len<=grownCap w (eh+len) lK e:=by unfold grownCap avz;exact CA _ _
  generalize grownCap w (eh+len) lK e=c at fa⊢
  have pv:R w0 n ρ m tm bl a w.drew:=⟨h.t,h.d,h.b,h.ba.grow (Kq (na w))⟩
  by_cases HU:c=eh+len
  ·subst HU
   have OL:kC Z (eh+len-(eh+len))=#[]:=by simp[kC]
   rw[OL]
   have hR:=R.row (t:=e) (cs:=olds++news) (ex:=[]) (open_:=false) pv (λx hx=>(List.mem_append.1 hx).elim (ho x) (hn x)) (λ_=>rfl) n7 d (v:= .w (.one (.slc bl.length 0 (eh+len) (eh+len)))) (x:= .slice (some ⟨w.heap.size,0,none⟩) (eh+len) (eh+len)) (by simp[V.ok,W.ok,A.ok]) (by
    show KD (some ⟨w.heap.size,0,none⟩) _ _=_
    simp[W.den,A.den,ks])
   have:=hk n ρ _ _ _ G _ _ (dr.alloc n ρ m bl (olds++news,(e,false)) w.heap.size) (dU.refl _ _) hR ae.1
   simpa [ff]using this
  ·obtain⟨q,hq⟩:∃q,c-(eh+len)=q+1:=⟨c-(eh+len)-1,by omega⟩
   rw[hq]
   obtain⟨r,hr⟩:=auP (Z:=Z) (k:=q) (by omega)
   rw[hr,<-xQ]
   have hR:=R.row (t:=e) (cs:=olds++news++z) (ex:=r) (open_:=true) pv (λx hx=>(List.mem_append.1 hx).elim (λhx=>(List.mem_append.1 hx).elim (ho x) (hn x)) (hz x)) (λh=>by cases h) lv d (v:= .mT bl.length (eh+len) (eh+len+1)) (x:= .slice (some ⟨w.heap.size,0,none⟩) (eh+len) c) (by simp[V.ok]) ⟨c,by omega,by
    rw[ks];rfl⟩
   have:=hk n ρ _ _ _ G _ _ (dr.alloc n ρ m bl (olds++news++z,(e,true)) w.heap.size) (dU.refl _ _) hR ae.2
   simpa [ff]using this
theorem acq {n:Nat} {ρ:Env} {m:Nat->Nat} {tm:List V} {bl:List ar} {a:Act} {w:ai} {G:dw} {o:Oper} {K:Act->ai->Prop} {Q:Exit->Act->ai->Prop} {k:fA} {c:Call} {s x:mx} {t t':aN}
 (h:R w0 n ρ m tm bl a w) (hop:o.op= .call c) (hh:c.callee= .builtin .append) (eM:c.args.toList=[s,x]) (kS:c.argTypes.toList=[t,t'])
 (ae:(Ls P o.dst t t' (bM tm s) (bM tm x) n tm bl k).holds S L G ρ) (hk:iZ S L w0 k n bl.length ρ m G K):o.wp P a w K Q:=by
 have a1:c.args=#[s,x]:=by rw[<-iJ (xs:=c.args),eM]
 have a2:c.argTypes=#[t,t']:=by rw[<-iJ (xs:=c.argTypes),kS]
 have hex:execOp a.eval o=(do pure (ju (<-CM #[t,t'] o.type #[a.eval s,a.eval x]))):=by
  simp[execOp,hop,resolve,hh,a1,a2,invoke,builtin]
 have tW:∀v w',(CM #[t,t'] o.type #[a.eval s,a.eval x]).run P w= .ok v w'->K (a.put o.dst v) w'->o.wp P a w K Q:=λv w' h1 h2=>by
  unfold lf
  simp only[hex,fV,h1,fW,gU]
  exact h2
 have hs:=b9 h.t s
 have hx:=b9 h.t x
 unfold Ls at ae
 split at ae
 ·rename_i b5 gj lC fZ e tX tV
  rw[tX]at hx
  have cL:a.eval x= .slice (some ⟨m b5,gj,none⟩) lC fZ:=hx.2
  split at ae
  ·rename_i i z hi hz
   split at ae
   ·rename_i news aiR
    obtain⟨n1,ed,mQ⟩:=Ea h.ba h.b aiR
    cases AU:aA t t' with
    |false=>simp[AU,T.holds]at ae
    |true=>
     have AU:=bk AU
     subst AU
     simp only[wZ,CB,cond_false]at ae
     obtain⟨inf,jN,mK,mO,n4⟩:=Ct hz
     rw[hi]at mK
     simp only[aG]at mK
     subst mK
     have n4:=tI n4 n bl.length ρ m
     cases l4:OT (bM tm s)with
     |true=>
      simp only[l4,cond_true]at ae
      have l6:a.eval s= .slice none 0 0:=by
       unfold OT at l4
       split at l4
       ·rename_i hv
        rw[hv]at hs
        exact hs.2
       ·cases l4
      obtain⟨⟨c1,c2,c3,c4⟩,c5⟩:=Va (Z:=jN.cells) h (λ_ h=>by simp at h) ed n4.1 n4.2 ae hk
      simp only[oE]at c1 c2 c3 c4 c5
      refine tW _ _ ?_ c5
      rw[l6,cL,run_append_nil w t _ e i jN (fw tV) hi mO ⟨m b5,gj,none⟩ lC fZ (news.map (A.den ρ m)) (by simpa using n1) mQ c4 (by omega) (by rw[nextslicecap_zero c4]at c2;exact c2)]
      simp
     |false=>
      simp only[l4,cond_false]at ae
      split at ae
      ·rename_i b off len cap n9
       rw[n9]at hs
       have l6:a.eval s= .slice (some ⟨m b,off,none⟩) len cap:=hs.2
       split at ae
       ·rename_i olds hold
        obtain⟨o1,o2,Py⟩:=Ea h.ba h.b hold
        obtain⟨⟨c1,c2,c3,c4⟩,c5⟩:=Va (Z:=jN.cells) h o2 ed n4.1 n4.2 ae hk
        refine tW _ _ ?_ c5
        rw[l6,cL,run_append_grow w t _ e i jN (fw tV) hi mO ⟨m b,off,none⟩ len cap (olds.map (A.den ρ m)) (by simpa using o1) Py ⟨m b5,gj,none⟩ lC fZ (news.map (A.den ρ m)) (by simpa using n1) mQ c3 (by omega) c2]
       ·exact ae.elim
      ·rename_i b len lo n9
       rw[n9]at hs
       obtain⟨lk,V5,l6⟩:=hs.2
       split at ae
       ·rename_i cs ty hbl
        cases hc:(bw (len+lC) lo&&bw ((len+lC)*i.size) cs.length&&b7 0 (lC*i.size)&&bJ cs&&bJ (cs.take (len*i.size)++news++cs.drop (len*i.size+news.length)))with
        |false=>rw[hc]at ae;exact ae.elim
        |true=>
         simp only[hc,cond_true]at ae
         simp only[aK]at hc
         obtain⟨⟨hc,n7⟩,lv⟩:=hc
         have c1:=eb hc.1.1
         have c2:=eb hc.1.2
         have c3:=pd hc.2
         obtain⟨w',gv,tU⟩:=h.ba.storeCells (P:=P) (off:=len*i.size) (l:=news) h.b ed hbl (by rw[n1,<-rU];exact c2) n7 lv
         have aZ:∀a∈cs.take (len*i.size)++news++cs.drop (len*i.size+news.length),A.ok n bl.length ρ a:=λa ha=>by
          have hcs:=h.b _ (dK hbl)
          rcases List.mem_append.1 ha with ha|ha
          ·rcases List.mem_append.1 ha with ha|ha
           ·exact hcs a (jM ha)
           ·exact ed a ha
          ·exact hcs a (nd ha)
         have D2:b<bl.length:=(List.getElem?_eq_some_iff.1 hbl).1
         refine tW (.slice (some ⟨m b,0,none⟩) (len+lC) lk) w' ?_ (hk n ρ m _ _ G _ w' ⟨a6 _,agree.refl _ _,by rw[ib];exact a6 _,λ_ _=>rfl⟩ (dU.refl _ _) ⟨?_,by rw[put_defers];exact h.d,h.b.set aZ,tU⟩ ae)
         ·have vQ:=run_firstCells_some (P:=P) w i.size lC ⟨m b5,gj,none⟩ lC fZ (news.map (A.den ρ m)) (by simpa using n1) mQ
          have hle:len+lC<=lk:=by omega
          rw[l6,cL]
          simp[CM,ef (fw tV),sizeOf,typeInfo,hi,RR,hle,vQ,gW,gv]
         ·rw[ib]
          exact dD.put h.t o.dst D2 ⟨lk,by omega,rfl⟩
       ·exact ae.elim
      ·exact ae.elim
   ·exact ae.elim
  ·exact ae.elim
 ·exact ae.elim
theorem Jn {n:Nat} {ρ:Env} {m:Nat->Nat} {tm:List V} {bl:List ar} {a:Act} {w:ai} {G:dw} {o:Oper} {K:Act->ai->Prop} {Q:Exit->Act->ai->Prop} {k:fA}
 (cx:fk S P gl w0 cal) (hg:eK gl w0) (h:R w0 n ρ m tm bl a w) (ae:(uK P cal gl bl tm o n λv n'=>k n' (eV tm o.dst v) bl).holds S L G ρ) (hk:iZ S L w0 k n bl.length ρ m G K):o.wp P a w K Q:=by
 obtain⟨ad,n',v,hn,ha,⟨hv,val,hr,hq⟩,AK⟩:=PX (L:=L) cx h.b hg ⟨w,h.ba⟩ h.t o G _ ae
 have hl:dr n bl.length ρ m n' bl.length ad m:=⟨hn,ha,a6 _,λ_ _=>rfl⟩
 have hR:∀w',w.Extends w'->R w0 n' ad m (eV tm o.dst v) bl (a.put o.dst val) w':=λw' he=>
  ⟨dD.put (h.t.ext ha hn (a6 _) (λ_ _=>rfl)) o.dst hv hr,by rw[put_defers];exact h.d,h.b.ext ha hn (a6 _),(h.ba.grow he).lJ h.b ha⟩
 unfold lf
 rcases hq w h.ba with hq|⟨f,args,hq,hc⟩
 ·rw[hq]
  exact hk n' ad m _ bl G _ w hl (dU.refl _ _) (hR w (na w)) AK
 ·rw[hq]
  refine hc.mono λe mZ ⟨he,hx⟩=>?_
  subst he
  exact hk n' ad m _ bl G _ mZ hl (dU.refl _ _) (hR mZ hx) AK
theorem adC {n nb:Nat} {ρ:Env} {m:Nat->Nat} {v:V} {f:Nat} {gY:List A} {x:az} (h:LX v=some (f,gY)) (hv:v.ok n nb ρ) (hr:v.rel ρ m x):
 (∀y∈gY,A.ok n nb ρ y)/\x= .func (.func f) #[] (gY.map (A.den ρ m)).toArray:=by
 unfold LX at h
 split at h
 ·simp only[aG,cj]at h
  obtain⟨rfl,rfl⟩:=h
  exact⟨hv,hr⟩
 ·rename_i nq a b
  cases hc:(aA a.size 0&&aA b.size 0)with
  |false=>simp[hc]at h
  |true=>
   simp only[hc,cond_true,aG,cj]at h
   obtain⟨rfl,rfl⟩:=h
   simp only[aK]at hc
   have e1:=vb (bk hc.1)
   have e2:=vb (bk hc.2)
   subst e1;subst e2
   have hr:x= .func (.func nq) #[] #[]:=hr
   exact⟨λy hy=>by simp at hy,by rw[hr];rfl⟩
 ·cases h
end
end Go.bg
namespace Go.bg
open M
theorem bS.row {sh:List aw} {row:List Int} (hs:k0 sh=true) (h:bS sh row):P8 row:=by
 unfold k0 at hs
 simp only[aK]at hs
 obtain⟨⟨h0,DM⟩,h2⟩:=hs
 refine⟨by rw[h.len];exact eb h0,?_⟩
 have hp:=jw
 clear h0 DM
 induction sh generalizing row with
 |nil=>
  cases row with
  |nil=>intro z hz;simp at hz
  |cons _ _=>exact h.elim
 |cons c sh ih=>
  cases row with
  |nil=>exact h.elim
  |cons x r=>
   simp only[Kn,aK]at h2
   intro z hz
   rcases List.mem_cons.1 hz with rfl|hz
   ·have h3:=h.1
    cases c with
    |int k lo hi=>
     have h4:=h2.1
     simp only[aK,decide_eq_true_eq]at h4
     simp only[aw.en]at h3
     omega
    |str=>simp only[aw.en]at h3;omega
    |bool=>simp only[aw.en]at h3;omega
   ·exact ih h.2 h2.2 z hz
theorem vl {sh:List aw} {rows:List (List Int)} (hs:k0 sh=true) (hl:rows.length<=1073741824) (h:∀row∈rows,bS sh row):rc rows<=bZ:=
 nS (by unfold maxLen;omega) λrow hr=>(h row hr).row hs
theorem aw.val_one (c:aw) (z:Int):(c.val z).oneCell'=true:=by cases c<;>rfl
theorem YK:∀{sh:List aw} {row:List Int},∀u∈cN sh row,u.oneCell'=true
 |[],_,u,h=>by simp[cN]at h
 |_::_,[],u,h=>by simp[cN]at h
 |c::sh,z::r,u,h=>by
  simp only[cN,lR]at h
  rcases h with rfl|h
  ·exact aw.val_one c z
  ·exact YK u h
theorem Hy {sh:List aw} {rows:List (List Int)}:∀u∈aU sh rows,u.oneCell'=true:=λu h=>by
 obtain⟨row,_,h⟩:=List.mem_flatMap.1 h
 exact YK u h
theorem kc.flat {cells:Array az} {off:Nat} {sh:List aw} {rows:List (List Int)} (h:kc cells off sh rows) {j:Nat} {v:az} (hj:(aU sh rows)[j]?=some v):cells[off+j]?=some v:=by
 obtain⟨h1,pre,post,h2,h3⟩:=h
 have hlt:=(List.getElem?_eq_some_iff.1 hj).1
 rw[<-Gb,h2,ie,zu (by omega),rZ (by omega)]
 rw[show off+j-pre.length=j by omega];exact hj
theorem kc.sub {cells:Array az} {off:Nat} {sh:List aw} {rows:List (List Int)} (h:kc cells off sh rows) (a k:Nat) (ha:a<=rows.length):kc cells (off+a*sh.length) sh ((rows.drop a).take k):=by
 obtain⟨h1,pre,post,h2,h3⟩:=h
 refine⟨λrow hr=>h1 row (nd (jM hr)),pre++aU sh (rows.take a),aU sh ((rows.drop a).drop k)++post,?_,?_⟩
 ·rw[h2]
  have:rows=rows.take a++((rows.drop a).take k++(rows.drop a).drop k):=by rw[nc,nc]
  conv=>lhs;rw[this]
  simp only[oN,ie]
 ·rw[dQ,h3,jz λrow hr=>h1 row (jM hr),mw,w8 ha]
section
variable {S:Nat->List Int->List Int->Prop} {L:V->Env->Prop} {n:Nat} {ρ:Env} {m:Nat->Nat} {bl:List ar} {gl:dO} {w0:dm} {P:bm}
theorem Iw {e:aS}:aj S L (yu e) n ρ λad n' l=>l.aW n'/\(0<=l.den ad/\l.den ad<=1)/\e.den ρ=decide (l.den ad=1):=by
 intro A k hk
 cases h:e.den ρ with
 |true=>exact⟨_,n+1,_,nQ _,agree.cI _ _ _,⟨I.ez (r4 n),by simp[I.cg,iH],by simp[I.cg,iH]⟩,hk 1 (by decide) (by decide) (by simp[h])⟩
 |false=>exact⟨_,n+1,_,nQ _,agree.cI _ _ _,⟨I.ez (r4 n),by simp[I.cg,iH],by simp[I.cg,iH]⟩,hk 0 (by decide) (by decide) (by simp[h])⟩
theorem ads {nb:Nat} {c:aw} {a:A} (ha:a.ok n nb ρ):aj S L (LQ c a) n ρ λad n' l=>l.aW n'/\(c.en.1<=l.den ad/\l.den ad<=c.en.2)/\c.val (l.den ad)=a.den ρ m:=by
 unfold LQ
 split
 ·refine dA λhc=>aj.pure ?_
  simp only[aK,decide_eq_true_eq]at hc
  obtain⟨⟨h1,h2⟩,h3⟩:=hc
  have h4:=ha.2
  refine⟨ha.1,⟨?_,?_⟩,?_⟩
  ·simp only[aw.en];omega
  ·simp only[aw.en];omega
  ·simp only[aw.val,A.den,h1]
 ·exact aj.pure ⟨ha.1,ha.2,rfl⟩
 ·split
  ·rename_i v
   refine aj.pure ⟨I.cz _ _,?_,?_⟩
   ·simp only[aw.en,I.aM];cases v<;>decide
   ·simp only[aw.val,A.den,aS.den,I.aM];cases v<;>rfl
  ·rename_i e _
   exact Iw.mono λad n' l _ _ ⟨h1,h2,h3⟩=>⟨h1,h2,by simp only[aw.val,A.den,h3]⟩
 ·exact aj.fail
theorem BU {nb:Nat}:∀{sh:List aw} {l:List A} {n:Nat} {ρ:Env},(∀a∈l,A.ok n nb ρ a)->aj S L (uO sh l) n ρ λad n' ls=>(∀x∈ls,I.aW n' x)/\bS sh (ls.map (·.den ad))/\cN sh (ls.map (·.den ad))=l.map (A.den ρ m)
 |[],[],n,ρ,_=>aj.pure ⟨λ_ h=>by simp at h,trivial,rfl⟩
 |c::sh,a::r,n,ρ,h=>by
  have h0:=h a (by simp)
  refine(ads (m:=m) h0).bind λax n1 x hn ha ⟨g1,g2,g3⟩=>(BU (nb:=nb) (sh:=sh) (l:=r) λb hb=>(h b (cR _ hb)).ext ha hn (a6 _)).bind λbx ed ls er dk ⟨k1,k2,k3⟩=>aj.pure ⟨λy hy=>?_,?_,?_⟩
  ·rcases List.mem_cons.1 hy with rfl|hy
   ·exact g1.mono er
   ·exact k1 y hy
  ·simp only[cr]
   exact⟨by rw[I.bB dk g1];exact g2,k2⟩
  ·simp only[cr,cN,I.bB dk g1,g3,k3]
   rw[rE (λb hb=>h b (cR _ hb)) ha (λ_ _=>rfl)]
 |[],_::_,_,_,_=>aj.fail
 |_::_,[],_,_,_=>aj.fail
theorem Dk {w:Nat}:∀{k:Nat} {l:List A},l.length=k*w->(lW w k l).length=k/\(lW w k l).flatten=l
 |0,l,h=>by
  have:l=[]:=vd (by omega)
  subst this;exact⟨rfl,rfl⟩
 |k+1,l,h=>by
  rw[r5]at h
  have ih:=Dk (w:=w) (k:=k) (l:=l.drop w) (by simp;omega)
  exact⟨by simp[lW,ih.1],by simp[lW,ih.2]⟩
theorem Dl {w:Nat}:∀{k:Nat} {l:List A},∀row∈lW w k l,∀a∈row,a∈l
 |0,l,row,h,a,ha=>by simp[lW]at h
 |k+1,l,row,h,a,ha=>by
  simp only[lW,lR]at h
  rcases h with rfl|h
  ·exact jM ha
  ·exact nd (Dl row h a ha)
theorem C4 {nb:Nat} {sh:List aw} (gK:k0 sh=true):∀{rs:List (List A)} {n:Nat} {ρ:Env} {c:I},(∀row∈rs,∀a∈row,A.ok n nb ρ a)->c.aW n->(0<=c.den ρ/\c.den ρ<=bZ)->(∀row∈ab (c.den ρ),bS sh row)->(ab (c.den ρ)).length+rs.length<=1073741824->
 aj S L (vo sh rs c) n ρ λad n' c'=>c'.aW n'/\(0<=c'.den ad/\c'.den ad<=bZ)/\∃c9,ab (c'.den ad)=ab (c.den ρ)++c9/\c9.length=rs.length/\(∀row∈c9,bS sh row)/\aU sh c9=rs.flatten.map (A.den ρ m)
 |[],n,ρ,c,_,h1,h2,_,_=>aj.pure ⟨h1,h2,[],by simp,rfl,λ_ h=>by simp at h,rfl⟩
 |row::rs,n,ρ,c,h0,h1,h2,h3,h4=>by
  refine(BU (nb:=nb) (m:=m) (sh:=sh) (l:=row) (h0 row (by simp))).bind λax n1 ls hn ha ⟨g1,g2,g3⟩=>?_
  have e1:c.den ax=c.den ρ:=I.bB ha h1
  have hf:aB 23 ((c::ls).map (·.den ax))=rc (ab (c.den ρ)++[ls.map (·.den ax)]):=by
   simp only[cr,aB,e1]
  simp only[dv]at h4
  have mN:∀r∈ab (c.den ρ)++[ls.map (·.den ax)],bS sh r:=λr hr=>by
   rcases List.mem_append.1 hr with hr|hr
   ·exact h3 r hr
   ·simp at hr;subst hr;exact g2
  have hb:rc (ab (c.den ρ)++[ls.map (·.den ax)])<=bZ:=vl gK (by simp;omega) mN
  refine(fl (by rw[hf];exact fE _) (by rw[hf];exact hb)).bind λbx ed c' er dk ⟨k1,k2⟩=>?_
  rw[hf]at k2
  have e2:ab (c'.den bx)=ab (c.den ρ)++[ls.map (·.den ax)]:=by rw[k2,dW]
  have hA:=ha.trans dk hn
  refine(C4 (nb:=nb) (rs:=rs) (c:=c') gK (λr hr a xU=>(h0 r (cR _ hr) a xU).ext hA (hT hn er) (a6 _)) k1 (by rw[k2];exact⟨fE _,hb⟩) (by rw[e2];exact mN) (by rw[e2];simp;omega)).mono λfI mQ c3 rq q7 ⟨p1,bq,c9,cv,dI,dJ,fv⟩=>⟨p1,bq,ls.map (·.den ax)::c9,?_,by simp[dI],λr hr=>?_,?_⟩
  ·rw[cv,e2];simp
  ·rcases List.mem_cons.1 hr with rfl|hr
   ·exact g2
   ·exact dJ r hr
  ·show cN sh (ls.map (·.den ax))++aU sh c9=_
   rw[fv,g3,rW,ff]
   congr 1
   refine gG λa HO=>A.jy (n:=n) (nb:=nb) ?_ hA (λ_ _=>rfl)
   obtain⟨r,hr,xU⟩:=List.mem_flatten.1 HO
   exact h0 r (cR _ hr) a xU
def aby (P:bm) (nL:aN) (sh:List aw) (X:az) (w:ai) (old:List (List Int)) (ad:Env) (n':Nat) (p:I×I):Prop:=
 p.1.aW n'/\p.2.aW n'/\(0<=p.1.den ad/\p.1.den ad<=bZ)/\∃c9,ab (p.1.den ad)=old++c9/\p.2.den ad=c9.length/\(∀row∈c9,bS sh row)/\old.length+c9.length<=1073741824/\Src P sh.length nL X c9.length (aU sh c9) w
theorem Zf {sh:List aw} (gK:k0 sh=true) {w:ai} (hb:cp n bl.length ρ bl) (hw:Mem w0 ρ m bl w) {nL:aN} {x:V} {X:az} (hx:x.ok n bl.length ρ) (bD:x.rel ρ m X) {base:I} (n3:base.aW n)
 (xW:0<=base.den ρ/\base.den ρ<=bZ) (q9:∀row∈ab (base.den ρ),bS sh row):aj S L (JL P nL sh bl x base) n ρ (aby P nL sh X w (ab (base.den ρ))):=by
 unfold JL
 split
 ·rename_i b off len cap
  split
  ·rename_i cs vv hcs AV
   obtain⟨c1,c2,c3⟩:=Ea hw hb hcs
   refine ga λhk=>?_
   simp only[cr,dY,aa,I.aM]at hk
   have je:=Dk (w:=sh.length) (k:=len) c1
   refine(C4 (nb:=bl.length) (m:=m) gK (rs:=lW sh.length len cs) (c:=base) (λrow hr a ha=>c2 a (Dl row hr a ha)) n3 xW q9 (by rw[je.1];omega)).bind λax n1 c' hn ha ⟨p1,bq,c9,cv,dI,dJ,fv⟩=>aj.pure ⟨p1,I.cz _ _,bq,c9,cv,?_,dJ,by rw[dI,je.1];omega,?_⟩
   ·rw[I.aM,dI,je.1]
   ·have bD:X= .slice (some ⟨m b,off,none⟩) len cap:=bD
    rw[je.2]at fv
    rw[bD,fv,dI,je.1]
    exact Src.ofSlice w (fw AV) _ _ _ _ (by simpa using c1) c3 (λu hu=>by
     obtain⟨a,ha,rfl⟩:=List.mem_map.1 hu
     exact A.I2 (c2 a ha))
  ·exact aj.fail
 ·rename_i b aQ o ro len cap
  split
  ·rename_i ei off code dn kind bK vv hbl AV
   refine dA λhc=>ga λir=>ga λhk2=>?_
   simp only[aK]at hc
   obtain⟨⟨⟨c1,c2⟩,c3⟩,c4⟩:=hc
   have c1:0<kind:=eb c1
   have c2:=uR c2
   have c3:=I.beq_eq c3
   have c4:=bk c4
   subst c2;subst c3;subst c4
   simp only[cr,dY,aa,I.den_add]at ir hk2
   have l7:(A.sl b sh.length o ro len cap).ok n bl.length ρ:=hx
   obtain⟨ptr,e1,e2,bt⟩:=oT (m:=m) l7
   have bD:X=(A.sl b sh.length o ro len cap).den ρ m:=bD
   rw[e1]at bD
   obtain⟨x1,⟨x2,gP,gw,gD⟩,⟨gQ,kt,ku,kv⟩,⟨k6,j2⟩,fi,gC⟩:=l7
   have iE:=hw.rws b sh o code dn kind bK hbl (by omega)
   have iD:∀row∈ab (code.den ρ),bS sh row:=λrow hr=>by
    rcases iX (dn.den ρ) 0 with h|h
    ·rw[iE.1 h]at hr;simp at hr
    ·obtain⟨_,cells,ic,fz,_,⟨_,g3⟩,_⟩:=iE.2 h
     exact g3.1 row hr
   have EH:∀row∈(((ab (code.den ρ)).drop (ro.den ρ).toNat).take (len.den ρ).toNat),bS sh row:=λrow hr=>iD row (nd (jM hr))
   have hlen:(((ab (code.den ρ)).drop (ro.den ρ).toNat).take (len.den ρ).toNat).length=(len.den ρ).toNat:=by simp;omega
   have l0:aB 22 ([code,ro,ro.add len].map (·.den ρ))=rc (((ab (code.den ρ)).drop (ro.den ρ).toNat).take (len.den ρ).toNat):=by
    simp only[cr,dY,aB,I.den_add]
    have:(ro.den ρ+len.den ρ).toNat-(ro.den ρ).toNat=(len.den ρ).toNat:=by omega
    rw[this]
   have Az:Src P sh.length nL X (((ab (code.den ρ)).drop (ro.den ρ).toNat).take (len.den ρ).toNat).length (aU sh (((ab (code.den ρ)).drop (ro.den ρ).toNat).take (len.den ρ).toNat)) w:=by
    rw[bD]
    by_cases cE:cap.den ρ<0
    ·have h0:=fi cE
     rw[e2 cE,if_pos cE,h0]
     simp only[Int.toNat_zero,tn]
     exact Src.ofNil w (fw AV) 0
    ·rw[bt (by omega),if_neg cE,hlen]
     refine Src.ofSlice w (fw AV) _ _ _ _ (by rw[jz EH,hlen]) (λj u hu=>?_) Hy
     rw[gW]
     rcases iX (dn.den ρ) 0 with h|h
     ·rw[iE.1 h]at hu;simp[aU]at hu
     ·obtain⟨_,cells,ic,fz,g1,⟨_,g3⟩,_⟩:=iE.2 h
      have:=(g3.sub (ro.den ρ).toNat (len.den ρ).toNat (by omega)).flat hu
      simp only[iW,g1,qP,o3,if_false]
      exact this
   generalize n5:(((ab (code.den ρ)).drop (ro.den ρ).toNat).take (len.den ρ).toNat)=mid at EH hlen l0 Az
   have hb1:rc mid<=bZ:=vl gK (by omega) EH
   refine(fl (by rw[l0];exact fE _) (by rw[l0];exact hb1)).bind λax n1 s e4 dF ⟨g1,g2⟩=>?_
   rw[l0]at g2
   have sn:base.den ax=base.den ρ:=I.bB dF n3
   have hE:aB 24 ([base,s].map (·.den ax))=rc (ab (base.den ρ)++mid):=by
    simp only[cr,dY,aB,sn,g2,dW]
   have hall:∀row∈ab (base.den ρ)++mid,bS sh row:=λrow hr=>(List.mem_append.1 hr).elim (q9 row) (EH row)
   have hb2:rc (ab (base.den ρ)++mid)<=bZ:=vl gK (by simp;omega) hall
   refine(fl (by rw[hE];exact fE _) (by rw[hE];exact hb2)).bind λbx ed c er dk ⟨k1,k2⟩=>aj.pure ⟨k1,gw.mono (hT e4 er),?_,mid,?_,?_,EH,by omega,Az⟩
   ·rw[k2,hE];exact⟨fE _,hb2⟩
   ·rw[k2,hE,dW]
   ·rw[I.bB (dF.trans dk e4) gw,hlen];omega
  ·exact aj.fail
 ·rename_i l
  split
  ·rename_i hu
   refine dA λAD=>?_
   have ajl:∃lo hi,sh=[.int .u8 lo hi]/\lo=0/\hi=255:=by
    unfold G6 at AD
    split at AD
    ·simp only[aK,decide_eq_true_eq]at AD
     exact⟨_,_,rfl,AD.1,AD.2⟩
    ·cases AD
   obtain⟨lo,hi,rfl,rfl,rfl⟩:=ajl
   have hl:(A.str l).ok n bl.length ρ:=hx
   have bD:X= .string (bd (U (l.den ρ))):=bD
   have aiE:=tu hl.2.2
   unfold fQ at aiE
   refine(fl (op:=0) (args:=[l]) (w5 _) (by show((U (l.den ρ)).length:Int)<=_;omega)).bind λax n1 len e4 dF ⟨g1,g2⟩=>ga λhk=>?_
   have g2:len.den ax=(U (l.den ρ)).length:=g2
   have sn:base.den ax=base.den ρ:=I.bB dF n3
   have el:l.den ax=l.den ρ:=I.bB dF hl.1
   simp only[cr,dY,aa,sn,g2]at hk
   have l0:aB 27 ([l].map (·.den ax))=rc ((U (l.den ρ)).map λb=>[(b.toNat:Int)]):=by
    simp only[cr,dY,aB,el]
   have n5:∀row∈((U (l.den ρ)).map λb=>[(b.toNat:Int)]),bS [.int .u8 0 255] row:=λrow hr=>by
    obtain⟨b,_,rfl⟩:=List.mem_map.1 hr
    have:=b.toNat_lt
    refine⟨⟨?_,?_⟩,trivial⟩
    ·simp only[aw.en];omega
    ·simp only[aw.en];omega
   have AP:((U (l.den ρ)).map λb=>[(b.toNat:Int)]).length=(U (l.den ρ)).length:=by simp
   have hX:aU [.int .u8 0 255] ((U (l.den ρ)).map λb=>[(b.toNat:Int)])=byteCells (bd (U (l.den ρ))):=by
    unfold byteCells aU bd
    simp only[avC]
    generalize U (l.den ρ)=q
    induction q with
    |nil=>rfl
    |cons y r ih=>rw[o0,cr,ih];rfl
   have Az:=Src.ofString (P:=P) w hu (bd (U (l.den ρ)))
   rw[<-hX,pc,<-bD]at Az
   generalize iP:((U (l.den ρ)).map λb=>[(b.toNat:Int)])=mid at n5 AP l0 Az
   have hb1:rc mid<=bZ:=vl gK (by omega) n5
   refine(fl (by rw[l0];exact fE _) (by rw[l0];exact hb1)).bind λbx ed s er dk ⟨h1,h2⟩=>?_
   rw[l0]at h2
   have ad7:base.den bx=base.den ρ:=(I.bB dk (n3.mono e4)).trans sn
   have hE:aB 24 ([base,s].map (·.den bx))=rc (ab (base.den ρ)++mid):=by
    simp only[cr,dY,aB,ad7,h2,dW]
   have hall:∀row∈ab (base.den ρ)++mid,bS [.int .u8 0 255] row:=λrow hr=>(List.mem_append.1 hr).elim (q9 row) (n5 row)
   have hb2:rc (ab (base.den ρ)++mid)<=bZ:=vl gK (by simp;omega) hall
   refine(fl (by rw[hE];exact fE _) (by rw[hE];exact hb2)).bind λfI mQ c rq q7 ⟨k1,k2⟩=>aj.pure ⟨k1,g1.mono (hT er rq),?_,mid,?_,?_,n5,by omega,?_⟩
   ·rw[k2,hE];exact⟨fE _,hb2⟩
   ·rw[k2,hE,dW]
   ·rw[I.bB (dk.trans q7 er) g1,g2,AP]
   ·rw[AP];exact Az
  ·exact aj.fail
 ·split
  ·rename_i vv AV
   refine ga λhk=>aj.pure ⟨n3,I.cz _ _,xW,[],by simp,by simp[I.aM],λ_ h=>by simp at h,?_,?_⟩
   ·simp only[cr,dY,aa,I.aM]at hk
    simp only[gF];omega
   ·have bD:X= .slice none 0 0:=bD
    rw[bD]
    exact Src.ofNil w (fw AV) 0
  ·exact aj.fail
 ·exact aj.fail
theorem YV (w:ai) (t nL ty e:aN) (i:TypeInfo) (ht:P.underlying t=some (.slice e)) (hi:P.info? e=some i) (g eh lK:Nat) (cur:Array az) (q3:aN) (hg:w.heap[g]?=some (.cells cur q3 (0,0))) (x:az) (k:Nat) (news:List az) (hs:Src P i.size nL x k news w)
 (hroom:eh+k<=lK) (qf:eh*i.size+news.length<=cur.size):
 (CM #[t,nL] ty #[.slice (some ⟨g,0,none⟩) eh lK,x]).run P w= .ok (.slice (some ⟨g,0,none⟩) (eh+k) lK) (w.setRow g (cur.toList.take (eh*i.size)++news++cur.toList.drop (eh*i.size+news.length)).toArray):=by
 have hst:=run_storeCells_at P g (eh*i.size) q3 news 0 cur w hg (by simpa using qf) hs.one
 simp only[ld]at hst
 rcases hs.kind with⟨vv,hk⟩|hk<;>simp[CM,ef ht,ef hk,sizeOf,typeInfo,hi,hs.len,hroom,hs.cells,Addr.add_lit,hst]
theorem FW (Z:Array az) (k:Nat):(kC Z k).size=k*Z.size:=by simp[kC]
theorem DI (w:ai) (Bz old:Nat) (e:aN) (h:Bz<=1073741824):Bz<=grownCap w Bz old e/\grownCap w Bz old e<=9223372036854775807:=by
 have hlt:=Nat.mod_lt (w.tape w.drawn (.appendCap Bz old e)) (show 0<2^63-Bz by omega)
 simp only[grownCap,avz]
 omega
theorem Yw {kd:Nat} {tm:List V} {a:Act} {w:ai} {G:dw} {K:Act->ai->Prop} {k:fA} {e:aN} {d:Option Tmp} {sh:List aw} {code len:I} {c:Int} {g:Nat}
 (fu:2<=kd) (h:R w0 n ρ m tm bl a w) (hcs:code.aW n) (vT:len.aW n) (hc1:0<=code.den ρ/\code.den ρ<=bZ) (hc:-1<=c/\c<=9223372036854775807) (qi:zk 0 0 (len.den ρ) c)
 (l4:c<0->ab (code.den ρ)=[])
 (Ev:0<=c->∃(cells:Array az) (fz:Nat×Nat),(w.heap[g]?=some (.cells cells e fz)/\tt kd fz cells.size)/\kc cells 0 sh (ab (code.den ρ))/\cells.size=c.toNat*sh.length/\w0.b.heap.size<=g/\(w0.ex g∨w0.r.heap.size<=g))
 (ya:∀(i:Nat) (p:ar),bl[i]?=some p->m i=g->aX ρ p.1=0∨c<0)
 (ae:(k (n+1) (eV tm d (.w (.one (.sl bl.length sh.length (.const 0) (.const 0) len (.var n))))) (bl++[([.rows sh (.const 0) code (.var n) kd],(e,false))])).holds S L G (cI ρ n c)) (hk:iZ S L w0 k n bl.length ρ m G K):
 K (a.put d (if c<0 then .slice none 0 0 else .slice (some ⟨g,0,none⟩) (len.den ρ).toNat c.toNat)) w:=by
 have ha:agree n ρ (cI ρ n c):=agree.cI _ _ _
 have hb1:cp (n+1) bl.length (cI ρ n c) bl:=h.b.ext ha (nQ _) (a6 _)
 have aiM:Mem w0 (cI ρ n c) m bl w:=h.ba.lJ h.b ha
 have e1:code.den (cI ρ n c)=code.den ρ:=I.bB ha hcs
 have e2:len.den (cI ρ n c)=len.den ρ:=I.bB ha vT
 have bt:(I.var n).den (cI ρ n c)=c:=by simp[I.cg,iH]
 have hA:(A.rows sh (.const 0) code (.var n) kd).ok (n+1) bl.length (cI ρ n c):=⟨⟨I.cz _ _,hcs.mono (nQ _),I.ez (r4 n)⟩,by rw[e1];exact hc1,by rw[bt];omega⟩
 have gz:=aiM.push (x:=([.rows sh (.const 0) code (.var n) kd],(e,false))) (g:=g) hb1 (λy hy=>by simp at hy;subst hy;exact hA) (λho=>by cases ho) (λei gj code' fZ lB he=>by
  cases he
  intro _
  refine⟨λh=>by rw[bt]at h;rw[e1];exact l4 h,λh=>?_⟩
  rw[bt]at h
  obtain⟨cells,fz,⟨g1,jA⟩,g2,g3,g4,g5⟩:=Ev h
  exact⟨g5.elim .inl λh=> .inr (.inr h),cells,e,fz,g1,⟨by rw[I.aM];exact cn _,by rw[e1,I.aM];exact g2⟩,λ_=>⟨rfl,I.aM _ _,jA,by rw[bt];exact g3,g4,g5⟩⟩) (λi p hi he=>by
  rcases ya i p hi he with bU|bU
  ·exact .inr (.inl (by rw[pE (h.b _ (dK hi)) ha];exact bU))
  ·refine .inr (.inr ?_)
   simp only[aX,bt]
   rw[if_pos bU])
 have cJ:dr n bl.length ρ m (n+1) (bl++[([A.rows sh (.const 0) code (.var n) kd],(e,false))]).length (cI ρ n c) (jl m bl.length g):=⟨nQ _,ha,by simp,λb hb=>j1 hb⟩
 refine hk _ _ _ _ _ G _ _ cJ (dU.refl _ _) ⟨dD.put (h.t.ext cJ.ha cJ.hn cJ.hb cJ.hm) d ?_ ?_,by rw[put_defers];exact h.d,hb1.alloc (λy hy=>by simp at hy;subst hy;exact hA),gz⟩ ae
 ·refine⟨by simp,⟨I.cz _ _,I.cz _ _,vT.mono (nQ _),I.ez (r4 n)⟩,?_⟩
  rw[I.aM,e2,bt]
  exact qi
 ·simp only[V.rel,W.den,A.den,e2,bt,I.aM,ks]
  split<;>simp
theorem PU {kd:Nat} {tm:List V} {a:Act} {w:ai} {G:dw} {K:Act->ai->Prop} {k:fA} {e:aN} {d:Option Tmp} {sh:List aw} {code len:I} {c:Int} {g:Nat}
 (fu:2<=kd) (h:R w0 n ρ m tm bl a w) (hcs:code.aW n) (vT:len.aW n) (hc1:0<=code.den ρ/\code.den ρ<=bZ) (hc:-1<=c/\c<=9223372036854775807) (qi:zk 0 0 (len.den ρ) c)
 (l4:c<0->ab (code.den ρ)=[])
 (Ev:0<=c->∃(cells:Array az) (fz:Nat×Nat),(w.heap[g]?=some (.cells cells e fz)/\tt kd fz cells.size)/\kc cells 0 sh (ab (code.den ρ))/\cells.size=c.toNat*sh.length/\w0.b.heap.size<=g/\(w0.ex g∨w0.r.heap.size<=g))
 (ya:∀(i:Nat) (p:ar),bl[i]?=some p->m i=g->aX ρ p.1=0∨c<0)
 (ae:(DH kd e d sh code len n tm bl k).holds S L G ρ) (hk:iZ S L w0 k n bl.length ρ m G K):
 K (a.put d (if c<0 then .slice none 0 0 else .slice (some ⟨g,0,none⟩) (len.den ρ).toNat c.toNat)) w:=by
 unfold DH at ae
 exact Yw fu h hcs vT hc1 hc qi l4 Ev ya (ae c (by omega) (by omega)) hk
theorem PV {tm:List V} {a:Act} {w:ai} {G:dw} {K:Act->ai->Prop} {k:fA} {e:aN} {d:Option Tmp} {sh:List aw} {code len:I} {c:Int} {g:Nat}
 (h:R w0 n ρ m tm bl a w) (hcs:code.aW n) (vT:len.aW n) (hc1:0<=code.den ρ/\code.den ρ<=bZ) (hc:-1<=c/\c<=9223372036854775807) (qi:zk 0 0 (len.den ρ) c)
 (l4:c<0->ab (code.den ρ)=[])
 (Ev:0<=c->∃cells:Array az,w.heap[g]?=some (.cells cells e (0,0))/\kc cells 0 sh (ab (code.den ρ))/\cells.size=c.toNat*sh.length/\w0.b.heap.size<=g/\(w0.ex g∨w0.r.heap.size<=g))
 (ya:∀(i:Nat) (p:ar),bl[i]?=some p->m i=g->aX ρ p.1=0∨c<0)
 (ae:(Ao e d sh code len n tm bl k).holds S L G ρ) (hk:iZ S L w0 k n bl.length ρ m G K):
 K (a.put d (if c<0 then .slice none 0 0 else .slice (some ⟨g,0,none⟩) (len.den ρ).toNat c.toNat)) w:=
 PU (kd:=2) (a6 2) h hcs vT hc1 hc qi l4 (λh0=>by
  obtain⟨cells,g1,g2⟩:=Ev h0
  exact⟨cells,(0,0),⟨g1,.E7⟩,g2⟩) ya ae hk
theorem Vb {tm:List V} {a:Act} {w:ai} {G:dw} {K:Act->ai->Prop} {k:fA} {e:aN} {d:Option Tmp} {sh:List aw} {code len:I} {rows:List (List Int)} {c:Nat} {cells:Array az}
 (h:R w0 n ρ m tm bl a w) (hcs:code.aW n) (vT:len.aW n) (hc1:0<=code.den ρ/\code.den ρ<=bZ) (mN:ab (code.den ρ)=rows) (aZ:∀row∈rows,bS sh row) (hlen:len.den ρ=rows.length)
 (cE:rows.length<=c) (Nq:c<=9223372036854775807) (pt:cells.size=c*sh.length) (aic:∃post,cells.toList=aU sh rows++post)
 (ae:(Ao e d sh code len n tm bl k).holds S L G ρ) (hk:iZ S L w0 k n bl.length ρ m G K):
 K (a.put d (.slice (some ⟨w.heap.size,0,none⟩) rows.length c)) (w.drew.alloc (.cells cells e)):=by
 have pv:R w0 n ρ m tm bl a w.drew:=⟨h.t,h.d,h.b,h.ba.grow (Kq (na w))⟩
 have hR:R w0 n ρ m tm bl a (w.drew.alloc (.cells cells e)):=⟨h.t,h.d,h.b,pv.ba.grow ((na w.drew).alloc _)⟩
 have key:=PV (c:=(c:Int)) (g:=w.heap.size) hR hcs vT hc1 ⟨by omega,by omega⟩ (by rw[hlen];exact⟨⟨by omega,by omega,by omega,by omega⟩,⟨by omega,by omega⟩,λh=>by omega,λ_=>by omega⟩) (λh=>by omega)
  (λ_=>⟨cells,heap_alloc_new w.drew _,by
    obtain⟨post,hp⟩:=aic
    rw[mN]
    exact⟨aZ,[],post,by simpa using hp,rfl⟩,by simpa using pt,h.ba.ext.size,.inr h.ba.eI⟩) (λi p hi he=>by
    by_cases jR:aX ρ p.1=0
    ·exact .inl jR
    ·have:=pv.ba.lt hi jR
     have bU:w.drew.heap.size=w.heap.size:=rfl
     omega) ae hk
 rw[if_neg (by omega),hlen]at key
 simpa using key
theorem auN {nb:Nat} {v:V} {X:az} (h:Rv v=true) (hv:v.ok n nb ρ) (hr:v.rel ρ m X):∃base,X= .slice base 0 0:=by
 unfold Rv at h
 split at h
 ·rename_i b aQ o ro len cap
  split at h
  ·rename_i l c hl hc
   simp only[aK,decide_eq_true_eq]at h
   have e1:=I.gH hl (ρ:=ρ)
   have e2:=I.gH hc (ρ:=ρ)
   have hr:X=(A.sl b aQ o ro len cap).den ρ m:=hr
   simp only[A.den,e1,e2,h.1,h.2]at hr
   exact⟨_,hr⟩
  ·cases h
 ·rename_i b off len cap
  simp only[aK]at h
  have e1:=bk h.1
  have e2:=bk h.2
  subst e1;subst e2
  exact⟨_,hr⟩
 ·exact⟨none,hr⟩
 ·cases h
theorem Mt (w:ai) (size:Nat) (base:Option Addr) (c:Nat):(Gg size 0 (.slice base 0 c)).run P w= .ok #[] w:=by
 cases base with
 |none=>exact run_firstCells_none w size 0 0 c
 |some b=>exact run_firstCells_some w size 0 b 0 c [] (by simp) (λj v h=>by simp at h)
theorem R.later {n':Nat} {ad:Env} {tm:List V} {a:Act} {w:ai} (h:R w0 n ρ m tm bl a w) (hn:n<=n') (ha:agree n ρ ad):R w0 n' ad m tm bl a w:=
 ⟨h.t.ext ha hn (a6 _) (λ_ _=>rfl),h.d,h.b.ext ha hn (a6 _),h.ba.lJ h.b ha⟩
theorem fD:ab 0=[]:=dW []
theorem R.kill {tm:List V} {a:Act} {w:ai} {b k:Nat} {sh:List aw} {off code cap:I} {t:aN×Bool} (h:R w0 n ρ m tm bl a w) (hbl:bl[b]?=some ([.rows sh off code cap k],t)):R w0 n ρ m tm (cO bl b ([.rows sh off code cap 0],t)) a w:=
 ⟨by rw[ib];exact h.t,h.d,h.b.set (λy hy=>by
  simp at hy;subst hy
  exact h.b _ (dK hbl) (.rows sh off code cap k) (by simp)),h.ba.kill hbl⟩
theorem acr {tm:List V} {a:Act} {w:ai} {G:dw} {o:Oper} {K:Act->ai->Prop} {Q:Exit->Act->ai->Prop} {k:fA} {c:Call} {s x:mx} {t t':aN} {qW:T}
 (h:R w0 n ρ m tm bl a w) (hop:o.op= .call c) (hh:c.callee= .builtin .append) (eM:c.args.toList=[s,x]) (kS:c.argTypes.toList=[t,t'])
 (bn:Lt P o.dst t t' (bM tm s) (bM tm x) n tm bl k=some qW) (ae:qW.holds S L G ρ) (hk:iZ S L w0 k n bl.length ρ m G K):o.wp P a w K Q:=by
 have a1:c.args=#[s,x]:=by rw[<-iJ (xs:=c.args),eM]
 have a2:c.argTypes=#[t,t']:=by rw[<-iJ (xs:=c.argTypes),kS]
 have hex:execOp a.eval o=(do pure (ju (<-CM #[t,t'] o.type #[a.eval s,a.eval x]))):=by
  simp[execOp,hop,resolve,hh,a1,a2,invoke,builtin]
 have tW:∀v w',(CM #[t,t'] o.type #[a.eval s,a.eval x]).run P w= .ok v w'->K (a.put o.dst v) w'->o.wp P a w K Q:=λv w' h1 h2=>by
  unfold lf
  simp only[hex,fV,h1,fW,gU]
  exact h2
 have hs:=b9 h.t s
 have hx:=b9 h.t x
 unfold Lt at bn
 split at bn
 ·cases bn
 rename_i e tV
 split at bn
 rotate_left
 ·cases bn
 rename_i i z hi hz
 obtain⟨inf,jN,mK,mO,n4⟩:=Ct hz
 rw[hi]at mK
 simp only[aG]at mK
 subst mK
 have lz:jN.cells.size=z.length:=by
  have:=(tI n4 n bl.length ρ m).2
  have:=congrArg kA this
  simpa using this.symm
 split at bn
 ·
  rename_i OL
  obtain⟨base,l6⟩:=auN OL hs.1 hs.2
  split at bn
  rotate_left
  ·cases bn
  rename_i sh _
  cases hgd:Am sh i z with
  |false=>simp[hgd]at bn
  |true=>
  simp only[hgd,cond_true,aG]at bn
  subst bn
  unfold Am at hgd
  simp only[aK]at hgd
  obtain⟨⟨⟨d1,d2⟩,d3⟩,d4⟩:=hgd
  have d2:=bk d2
  have d3:=bk d3
  have d4:=eb d4
  unfold UY at ae
  have bC:(I.const 0).den ρ=0:=I.aM _ _
  obtain⟨ad,n',p,hn,ha,⟨bo,bI,b6,c9,dz,jX,mV,pK,jY⟩,ae⟩:=(Zf (P:=P) d1 h.b h.ba hx.1 hx.2 (I.cz _ _) (by rw[bC];exact⟨cn _,by have:=nS (l:=[]) (by simp) (by simp);exact nP (fE []) this⟩) (by rw[bC,fD];simp)) G _ ae
  rw[bC,fD,jr]at dz
  rw[bC,fD]at pK
  simp only[gF,oE]at pK
  have pq:=h.later hn ha
  have iC:=hk.later (G1:=G) (⟨hn,ha,a6 _,λ_ _=>rfl⟩:dr n bl.length ρ m n' bl.length ad m) (dU.refl _ _)
  rw[<-d2]at jY
  have hnone:c9.length=0->(k n' (eV tm o.dst (bM tm s)) bl).holds S L G ad->o.wp P a w K Q:=λh0 Ej=>by
   have n8:c9=[]:=vd h0
   subst n8
   refine tW _ _ (by rw[l6];exact run_append_nothing w t t' o.type e i (fw tV) hi base 0 0 (a6 _) _ jY) ?_
   refine iC n' ad m _ bl G _ w (dr.refl _ _ _ _) (dU.refl _ _) ⟨dD.put pq.t o.dst (b9 pq.t s).1 ?_,by rw[put_defers];exact h.d,pq.b,pq.ba⟩ Ej
   rw[<-l6];exact(b9 pq.t s).2
  have hgrow:0<c9.length->(Ao e o.dst sh p.1 p.2 n' tm bl k).holds S L G ad->o.wp P a w K Q:=λh0 Ej=>by
   have D6:=DI w (0+c9.length) 0 e (by omega)
   refine tW _ _ (by rw[l6];exact run_append_grow_src w t t' o.type e i jN (fw tV) hi mO base 0 0 [] (Mt _ _ _ _) _ _ _ jY (by omega) (by omega) (growslice_fits (by omega) (by
    have:=Z8 (show 0+c9.length<=1073741824 by omega) d4
    omega))) ?_
   have key:=Vb (c:=grownCap w (0+c9.length) 0 e) (cells:=([]++aU sh c9).toArray++kC jN.cells (grownCap w (0+c9.length) 0 e-(0+c9.length))) pq bo bI b6 dz mV jX (by omega) D6.2 (by
    have:=jY.newsLen
    rw[aax,FW,lz,d3,tk,jr,this,d2,<-rU]
    congr 1;omega) ⟨(kC jN.cells (grownCap w (0+c9.length) 0 e-(0+c9.length))).toList,by simp⟩ Ej iC
   simpa using key
  split at ae
  ·rename_i hc0
   have:=I.gH hc0 (ρ:=ad)
   exact hnone (by omega) ae
  ·rename_i adk hc0 hne
   have:=I.gH hne (ρ:=ad)
   exact hgrow (by
    have:adk≠0:=λe=>hc0 e
    omega) ae
  ·simp only[T.holds,aS.den,I.aM,decide_eq_true_eq,decide_eq_false_iff_not]at ae
   by_cases h0:c9.length=0
   ·exact hnone h0 (ae.1 (by omega))
   ·exact hgrow (by omega) (ae.2 (by omega))
 ·split at bn
  rotate_left
  ·cases bn
  rename_i b aQ off ro len cap n9
  split at bn
  rotate_left
  ·cases bn
  rename_i sh gj code dn kind bK hbl
  cases hgd:(Am sh i z&&aA kind 2&&I.beq off (.const 0)&&I.beq gj (.const 0)&&I.beq ro (.const 0)&&I.beq cap dn&&aA bK.1 e)with
  |false=>rw[hgd]at bn;cases bn
  |true=>
  rw[hgd]at bn
  simp only[cond_true,aG]at bn
  subst bn
  simp only[aK]at hgd
  obtain⟨⟨⟨⟨⟨⟨hgd,k2⟩,b1⟩,b2⟩,b3⟩,b4⟩,mC⟩:=hgd
  have mC:=bk mC
  have k2:=bk k2
  have b1:=I.beq_eq b1
  have b2:=I.beq_eq b2
  have b3:=I.beq_eq b3
  have b4:=I.beq_eq b4
  subst k2;subst b1;subst b2;subst b3;subst b4
  unfold Am at hgd
  simp only[aK]at hgd
  obtain⟨⟨⟨d1,d2⟩,d3⟩,d4⟩:=hgd
  have d2:=bk d2
  have d3:=bk d3
  have d4:=eb d4
  obtain⟨yc,ae⟩:=ae
  simp only[cr,dY,aa]at yc
  rw[n9]at hs
  have sF:(A.sl b aQ (.const 0) (.const 0) len cap).ok n bl.length ρ:=hs.1
  obtain⟨ptr,e1,e2,bt⟩:=oT (m:=m) sF
  have l6:a.eval s=(A.sl b aQ (.const 0) (.const 0) len cap).den ρ m:=hs.2
  rw[e1]at l6
  obtain⟨x1,⟨x2,gP,gw,gD⟩,⟨gQ,kt,ku,kv⟩,⟨k6,j2⟩,fi,gC⟩:=sF
  rw[I.aM]at j2
  have iE:=h.ba.rws b sh (.const 0) code cap 2 bK hbl (by decide)
  have eH:(A.rows sh (.const 0) code cap 2).ok n bl.length ρ:=h.b _ (dK hbl) _ (by simp)
  obtain⟨⟨r1,r2,fo⟩,hO,bb⟩:=eH
  have iD:∀row∈ab (code.den ρ),bS sh row:=λrow hr=>by
   rcases iX (cap.den ρ) 0 with h|h
   ·rw[iE.1 h]at hr;simp at hr
   ·obtain⟨_,cells,ic,fz,_,⟨_,g3⟩,_⟩:=iE.2 h
    exact g3.1 row hr
  obtain⟨ad,n',p,hn,ha,⟨bo,bI,b6,c9,dz,jX,mV,pK,jY⟩,ae⟩:=(Zf (P:=P) d1 h.b h.ba hx.1 hx.2 r2 hO iD) G _ ae
  rw[<-d2]at jY
  generalize mN:ab (code.den ρ)=rows at*
  have Ep:=h.kill hbl
  have pq:=Ep.later hn ha
  have hb1:=ib bl b ([.rows sh (.const 0) code cap 0],bK)
  have iC:iZ S L w0 k n' (cO bl b ([.rows sh (.const 0) code cap 0],bK)).length ad m G K:=by
   rw[hb1]
   exact hk.later (⟨hn,ha,a6 _,λ_ _=>rfl⟩:dr n bl.length ρ m n' bl.length ad m) (dU.refl _ _)
  have H8:(len.add p.2).den ad=(rows++c9).length:=by
   rw[I.den_add,I.bB ha gw,jX,yc];simp
  have hall:∀row∈rows++c9,bS sh row:=λrow hr=>(List.mem_append.1 hr).elim (iD row) (mV row)
  have jS:=jY.newsLen
  have H9:(len.den ρ).toNat=rows.length:=by omega
  have gf:cap.den ad=cap.den ρ:=I.bB ha gD
  have AN:(len.add p.2).aW n':=I.sZ (gw.mono hn) bI
  have H6:(rows++c9).length=rows.length+c9.length:=dQ
  have hX:(aU sh rows).length=rows.length*i.size:=by rw[jz iD,d2]
  by_cases hroom:((rows.length+c9.length:Nat):Int)<=cap.den ρ∨(cap.den ρ<0/\c9.length=0)
  ·by_cases hc0:cap.den ρ<0
   ·
    have n8:c9.length=0:=by rcases hroom with h|h<;>omega
    have n8:c9=[]:=vd n8
    subst n8
    have Oo:rows=[]:=iE.1 hc0
    subst Oo
    have hl0:=fi hc0
    refine tW _ _ (by rw[l6,e2 hc0,if_pos hc0,hl0];exact run_append_nothing w t t' o.type e i (fw tV) hi none 0 0 (a6 _) _ jY) ?_
    have key:=PV (c:=-1) (g:=w.heap.size) pq bo AN b6 ⟨by omega,by omega⟩ (by rw[H8];exact⟨⟨by omega,by omega,by omega,by omega⟩,⟨by omega,by omega⟩,λh=>by simp,λh=>by omega⟩) (λ_=>by rw[dz];rfl) (λh=>by omega) (λ_ _ _ _=> .inr (by omega)) ae iC
    rw[if_pos (by omega)]at key
    exact key
   ·
    obtain⟨_,cells,ic,fz,g1,⟨g2,g3⟩,g4⟩:=iE.2 (by omega)
    obtain⟨g0,g5,g6,g7,g8,g9⟩:=g4 (by decide)
    subst g0
    have g6:=g6.two
    subst g6
    rw[I.aM]at g3
    obtain⟨_,pre,post,g10,g11⟩:=g3
    have gJ:pre=[]:=vd (by simpa using g11)
    subst gJ
    simp only[jr]at g10
    have hsz:cells.size=(aU sh rows).length+post.length:=by rw[<-ve,g10,dQ]
    have WC:rows.length+c9.length<=(cap.den ρ).toNat:=by rcases hroom with h|h<;>omega
    have qf:rows.length*i.size+(aU sh c9).length<=cells.size:=by
     rw[jS,g7,<-rU,d2]
     exact RU _ WC
    have gv:=YV w t t' o.type e i (fw tV) hi (m b) rows.length (cap.den ρ).toNat cells bK.1 g1 _ _ _ jY WC qf
    have ajn:a.eval s= .slice (some ⟨m b,0,none⟩) rows.length (cap.den ρ).toNat:=by
     rw[l6,bt (by omega),if_neg hc0,H9,I.aM];simp
    refine tW _ _ (by rw[ajn];exact gv) ?_
    have l3:(cells.toList.take (rows.length*i.size)++aU sh c9++cells.toList.drop (rows.length*i.size+(aU sh c9).length))=aU sh (rows++c9)++cells.toList.drop (rows.length*i.size+(aU sh c9).length):=by
     rw[oN,g10,F4 (by omega),<-hX,RD]
    rw[l3]
    have Ib:=h.ba.put (kd:=2) (cells:=cells) (fz:=(0,0)) (code':=code) (by decide) hbl (by omega) (row:=(aU sh (rows++c9)++cells.toList.drop (rows.length*i.size+(aU sh c9).length)).toArray) (λ_=>⟨λh=>by omega,λ_=>⟨g9.elim .inl λh=> .inr (.inr h),_,_,(0,0),Ge w (m b) _ _ _ _ g1,⟨g2,by
     rw[mN,I.aM]
     exact⟨iD,[],aU sh c9++cells.toList.drop (rows.length*i.size+(aU sh c9).length),by simp[oN],rfl⟩⟩,λ_=>⟨rfl,g5,.E7,by
     rw[<-g7];simp only[tk,dQ,rV,ve,oN];omega,g8,g9⟩⟩⟩)
    have ajj:cO bl b ([.rows sh (.const 0) code cap 2],bK)=bl:=by
     rw[ia]
     exact RP λj=>by
      rw[nO]
      split
      ·rename_i hj
       subst hj
       first|exact hbl.symm|(rw[if_pos (List.getElem?_eq_some_iff.1 hbl).1];exact hbl.symm)
      ·rfl
    rw[ajj]at Ib
    have xP:R w0 n ρ m tm bl a (w.setRow (m b) (aU sh (rows++c9)++cells.toList.drop (rows.length*i.size+(aU sh c9).length)).toArray):=⟨h.t,h.d,h.b,Ib⟩
    have agK:=(xP.kill hbl).later hn ha
    have key:=PV (e:=e) (d:=o.dst) (c:=cap.den ρ) (g:=m b) agK bo AN b6 ⟨by omega,by omega⟩ (by rw[H8,H6];exact⟨⟨by omega,by omega,by omega,by omega⟩,⟨by omega,by omega⟩,λh=>by omega,λh=>by omega⟩) (λh=>by omega)
     (λ_=>⟨_,by rw[<-mC];exact Ge w (m b) _ _ _ _ g1,by
       rw[dz]
       exact⟨hall,[],cells.toList.drop (rows.length*i.size+(aU sh c9).length),by simp,rfl⟩,by
       rw[<-g7];simp only[tk,dQ,rV,ve,oN];omega,g8,g9⟩) (λj q hj he=>by
       by_cases yb:j=b
       ·subst yb
        rw[ia,Z9 (List.getElem?_eq_some_iff.1 hbl).1]at hj
        simp only[aG]at hj
        subst hj
        exact .inl (by simp[aX])
       ·rw[ia,Ko (λe=>yb e.symm)]at hj
        have iO:aX ρ [A.rows sh (.const 0) code cap 2]=2:=nC (by decide) (by omega)
        have aiz:aX ρ q.1=0:=by
         rcases h.ba.inj j b q _ hj hbl he with bU|bU|bU|bU
         ·exact absurd bU yb
         ·have:=bU.2;simp only[iO]at this;omega
         ·exact bU
         ·simp only[iO]at bU;omega
        exact .inl (by rw[pE (h.b _ (dK hj)) ha];exact aiz)) ae iC
    rw[if_neg hc0,H8,H6,k9]at key
    exact key
  ·
   have H3:(if cap.den ρ<0 then 0 else(cap.den ρ).toNat)<rows.length+c9.length:=by
    split
    ·rename_i hc
     have:¬c9.length=0:=λe=>hroom (.inr ⟨hc,e⟩)
     omega
    ·omega
   have hold:(Gg i.size rows.length (.slice ptr rows.length (if cap.den ρ<0 then 0 else(cap.den ρ).toNat))).run P w.drew= .ok (aU sh rows).toArray w.drew:=by
    by_cases hc:cap.den ρ<0
    ·have Oo:rows=[]:=iE.1 hc
     subst Oo
     exact Mt _ _ _ _
    ·obtain⟨_,cells,ic,fz,g1,⟨g2,g3⟩,g4⟩:=iE.2 (by omega)
     rw[bt (by omega)]
     refine run_firstCells_some w.drew i.size rows.length _ rows.length _ (aU sh rows) hX λj v hv=>?_
     rw[gW,I.aM]
     have:=g3.flat hv
     rw[I.aM]at this
     have jA:w.drew.heap[m b]?=some (.cells cells ic fz):=g1
     simp only[iW,jA,qP,o3,if_false]
     simpa using this
   have D6:=DI w (rows.length+c9.length) (if cap.den ρ<0 then 0 else(cap.den ρ).toNat) e pK
   refine tW _ _ (by rw[l6,H9];exact run_append_grow_src w t t' o.type e i jN (fw tV) hi mO ptr rows.length _ (aU sh rows) hold _ _ _ jY H3 (by omega) (growslice_fits H3 (by
    have:=Z8 pK d4
    omega))) ?_
   have key:=Vb (e:=e) (d:=o.dst) (c:=grownCap w (rows.length+c9.length) (if cap.den ρ<0 then 0 else(cap.den ρ).toNat) e) (cells:=(aU sh rows++aU sh c9).toArray++kC jN.cells (grownCap w (rows.length+c9.length) (if cap.den ρ<0 then 0 else(cap.den ρ).toNat) e-(rows.length+c9.length))) pq bo AN b6 dz hall H8 (by rw[H6];exact D6.1) D6.2 (by
    rw[aax,FW,lz,d3,tk,dQ,hX,jS,<-rU,d2,<-rU]
    congr 1;omega) ⟨(kC jN.cells (grownCap w (rows.length+c9.length) (if cap.den ρ<0 then 0 else(cap.den ρ).toNat) e-(rows.length+c9.length))).toList,by rw[oN];simp⟩ ae iC
   rw[H6]at key
   exact key
theorem aqD {tm:List V} {a:Act} {w:ai} {G:dw} {o:Oper} {K:Act->ai->Prop} {Q:Exit->Act->ai->Prop} {k:fA} {qW:T}
 (h:R w0 n ρ m tm bl a w) (bn:QC P o n tm bl k=some qW) (ae:qW.holds S L G ρ) (hk:iZ S L w0 k n bl.length ρ m G K):o.wp P a w K Q:=by
 unfold QC at bn
 split at bn
 ·rename_i c ho
  split at bn
  ·rename_i hc
   split at bn
   ·rename_i s x t t' eM kS
    exact acr h ho hc eM kS bn ae hk
   ·cases bn
  ·cases bn
 ·cases bn
end
end Go.bg
namespace Go.bg
open M
theorem FC:∀{s1 s2:List aw} {l1 l2:List Int},l1.length=s1.length->cN (s1++s2) (l1++l2)=cN s1 l1++cN s2 l2
 |[],_,[],_,_=>rfl
 |c::s1,s2,z::l1,l2,h=>by
  simp only[u6,cN,FC (s1:=s1) (s2:=s2) (l1:=l1) (l2:=l2) (by simpa using h)]
 |[],_,_::_,_,h=>by simp at h
 |_::_,_,[],_,h=>by simp at h
theorem CY:∀{s1 s2:List aw} {l1 l2:List Int},l1.length=s1.length->(bS (s1++s2) (l1++l2)↔bS s1 l1/\bS s2 l2)
 |[],_,[],_,_=>by simp[bS]
 |c::s1,s2,z::l1,l2,h=>by
  simp only[u6,bS,CY (s1:=s1) (s2:=s2) (l1:=l1) (l2:=l2) (by simpa using h),and_assoc]
 |[],_,_::_,_,h=>by simp at h
 |_::_,_,[],_,h=>by simp at h
theorem YN {sh:List aw} {row ls:List Int} {j s:Nat} (h:bS sh row) (hl:bS ((sh.drop j).take s) ls) (hj:j+s<=sh.length):
 bS sh (row.take j++ls++row.drop (j+ls.length))/\cN sh (row.take j++ls++row.drop (j+ls.length))=(cN sh row).take j++cN ((sh.drop j).take s) ls++(cN sh row).drop (j+s):=by
 have hlen:=h.len
 have N0:ls.length=s:=by rw[hl.len];simp;omega
 have e:sh=sh.take j++((sh.drop j).take s++sh.drop (j+s)):=by
  rw[<-Gc,nc,nc]
 have tJ:row=row.take j++((row.drop j).take s++row.drop (j+s)):=by
  rw[<-Gc,nc,nc]
 have l1:(row.take j).length=(sh.take j).length:=by simp[hlen]
 have l2:((row.drop j).take s).length=((sh.drop j).take s).length:=by simp[hlen]
 have yL:ls.length=((sh.drop j).take s).length:=hl.len
 have h0:bS (sh.take j++((sh.drop j).take s++sh.drop (j+s))) (row.take j++((row.drop j).take s++row.drop (j+s))):=by rw[<-e,<-tJ];exact h
 rw[CY l1,CY l2]at h0
 have hv:cN sh row=cN (sh.take j) (row.take j)++(cN ((sh.drop j).take s) ((row.drop j).take s)++cN (sh.drop (j+s)) (row.drop (j+s))):=by
  conv=>lhs;rw[e,tJ]
  rw[FC l1,FC l2]
 have k1:(cN (sh.take j) (row.take j)).length=j:=by rw[zf h0.1];simp;omega
 have k2:(cN ((sh.drop j).take s) ((row.drop j).take s)).length=s:=by rw[zf h0.2.1];simp;omega
 rw[N0]
 refine⟨?_,?_⟩
 ·rw[ie]
  conv=>lhs;rw[e]
  rw[CY l1,CY yL]
  exact⟨h0.1,hl,h0.2.2⟩
 ·rw[ie]
  conv=>lhs;rw[e]
  have ht:(cN sh row).take j=cN (sh.take j) (row.take j):=by rw[hv];exact List.take_left' k1
  have hd:(cN sh row).drop (j+s)=cN (sh.drop (j+s)) (row.drop (j+s)):=by
   rw[hv,<-ie];exact List.drop_left' (by rw[dQ,k1,k2])
  rw[FC l1,FC yL,ht,hd,ie]
theorem MC {sh:List aw}:∀{rows:List (List Int)} {i:Nat} {row:List Int},rows[i]?=some row->aU sh rows=aU sh (rows.take i)++(cN sh row++aU sh (rows.drop (i+1)))
 |r::rs,0,row,h=>by simp at h;subst h;simp[aU]
 |r::rs,i+1,row,h=>by
  have ih:=MC (sh:=sh) (rows:=rs) (i:=i) (by simpa using h)
  simp only[aU,o0,w9,List.drop_succ_cons]at ih⊢
  rw[ih,ie]
 |[],_,_,h=>by simp at h
theorem aex {sh:List aw} {rows:List (List Int)} {i:Nat} {row ze:List Int} (h:rows[i]?=some row):aU sh (rows.set i ze)=aU sh (rows.take i)++(cN sh ze++aU sh (rows.drop (i+1))):=by
 have hlt:=(List.getElem?_eq_some_iff.1 h).1
 have:=MC (sh:=sh) (rows:=rows.set i ze) (i:=i) (row:=ze) (by simp[hlt])
 rw[this,List.take_set,List.drop_set_of_lt (by omega)]
 congr 1
 congr 1
 rw[List.set_eq_of_length_le (by simp;omega)]
theorem JB {P:bm} (g o:Nat) (t:aN) (fz:Nat×Nat) (kd:Nat):∀(vs:List az) (i:Nat) (cur:Array az) (w:ai),tt kd fz cur.size->w.heap[g]?=some (.cells cur t fz)->o+i+vs.length<=cur.size->(∀v∈vs,v.oneCell'=true)->
 (storeCells ⟨g,o,none⟩ vs i).run P w= .ok () (w.setRow g (cur.toList.take (o+i)++vs++cur.toList.drop (o+i+vs.length)).toArray)
 |[],i,cur,w,_,hg,_,_=>by
  simp only[storeCells,gT,gF,ld,nc,iJ]
  rw[setRow_self w g cur t fz hg]
  rfl
 |v::rest,i,cur,w,H0,hg,hl,h1=>by
  have hi:o+i<cur.size:=by simp at hl;omega
  have hcell:w.cell? ⟨g,o+i,none⟩=some cur[o+i]:=by simp[iW,hg,hi]
  have aie:w.frozen? ⟨g,o+i,none⟩=false:=by
   rcases H0 with⟨_,rfl⟩|⟨_,rfl⟩
   ·simp[ti,hg]
   ·simp[ti,hg];omega
  have hst:(store ((⟨g,o,none⟩:Addr).add i) v).run P w= .ok () (w.setRow g (cur.setIfInBounds (o+i) v)):=by
   rw[gW,run_store P w _ v _ (h1 v (by simp)),hcell]
   simp[aie,setCell_eq_setRow w g (o+i) cur t fz v hg]
  have ih:=JB (P:=P) g o t fz kd rest (i+1) (cur.setIfInBounds (o+i) v) (w.setRow g (cur.setIfInBounds (o+i) v)) (by simpa using H0) (Ge w g cur _ t _ hg) (by simp at hl⊢;omega) (λx hx=>h1 x (by simp[hx]))
  simp only[storeCells,fV,hst,fW,ih,setRow_setRow]
  congr 3
  have e:=list_seg_step cur.toList (o+i) v rest (by simp at hl⊢;omega)
  simpa [Array.toList_setIfInBounds,Nat.add_assoc]using e
section
variable {S:Nat->List Int->List Int->Prop} {L:V->Env->Prop} {n:Nat} {ρ:Env} {m:Nat->Nat} {bl:List ar} {gl:dO} {w0:dm} {P:bm}
theorem Xd {tm:List V} {a:Act} (h:dD n bl.length ρ m tm a.tmps) {x:mx} {l:I} (hl:od (bM tm x)=some l):∃k,a.eval x= .int k (l.den ρ)/\l.aW n:=by
 have hx:=b9 h x
 unfold od at hl
 split at hl
 ·rename_i k ax1 hv
  simp only[aG]at hl
  subst hl
  rw[hv]at hx
  exact⟨k,hx.2,hx.1.1⟩
 ·cases hl
theorem Mem.mark {w0:dm} {P:bm} {ρ:Env} {m:Nat->Nat} {bl:List ar} {w:ai} {b c:Nat} {C:List A} {code:I} {t:aN×Bool} {s e:aN} (h:Mem w0 ρ m bl w) (hbl:bl[b]?=some (C,t)) (ho:bJ C=true) (ht:t.2=false) (hlen:C.length=c)
 (hs:P.underlying s=some (.slice e)) (he:P.underlying e=some (.int .u8))
 (iD:∀row∈ab (code.den ρ),bS fY row) (hX:aU fY (ab (code.den ρ))=C.map (A.den ρ m)):
 ∃w',(convert s s (.slice (some ⟨m b,0,none⟩) c c)).run P w= .ok (.slice (some ⟨m b,0,none⟩) c c) w'/\Mem w0 ρ m (cO bl b ([.rows fY (.const 0) code (.const c) 3],t)) w':=by
 have lq:b<bl.length:=(List.getElem?_eq_some_iff.1 hbl).1
 obtain⟨bo,bI,r,hr,b6⟩:=h.et b C t hbl ho
 have hr:=hr ht
 subst hr
 rw[gT]at b6
 have hsz:(C.map (A.den ρ m)).toArray.size=c:=by simp[hlen]
 have gK:w.shape? (m b)=some (t.1,c):=by
  unfold World.shape?
  rw[b6];simp[hlen]
 have AJ:∀i:Nat,i≠m b->(w.freeze ⟨m b,c,none⟩ 1).heap[i]?=w.heap[i]?:=λi hi=>by
  unfold KF
  rw[if_neg (by decide)]
  simp only[avF]
  rw[if_neg (λe=>hi e.symm)]
 have l0:(w.freeze ⟨m b,c,none⟩ 1).heap[m b]?=some (.cells (C.map (A.den ρ m)).toArray t.1 (c,c+1)):=by
  unfold KF
  rw[if_neg (by decide)]
  simp only[avF,if_true,b6,qM]
  rfl
 have Wg:(w.freeze ⟨m b,c,none⟩ 1).heap.size=w.heap.size:=by
  unfold KF
  rw[if_neg (by decide)]
  simp
 refine⟨w.freeze ⟨m b,c,none⟩ 1,?_,?_⟩
 ·simp[convert,ef hs,ef he,markStringish,gK]
 generalize mI:w.freeze ⟨m b,c,none⟩ 1=w' at*
 have gg:w'.os=w.os/\w'.tape=w.tape/\w'.output=w.output:=by
  subst mI
  unfold KF
  rw[if_neg (by decide)]
  exact⟨rfl,rfl,rfl⟩
 have cM:∀(i:Nat) (p:ar),(cO bl b ([.rows fY (.const 0) code (.const c) 3],t))[i]?=some p->(i=b/\p=([.rows fY (.const 0) code (.const c) 3],t))∨(i≠b/\bl[i]?=some p):=λi p hi=>by
  rw[ia,nO]at hi
  split at hi
  ·rename_i eo
   subst eo
   simp only[lq,if_true,aG]at hi
   exact .inl ⟨rfl,hi.symm⟩
  ·rename_i eo;exact .inr ⟨λe=>eo e.symm,hi⟩
 have iO:aX ρ C=2:=iQ ho
 have H4:aX ρ [.rows fY (.const 0) code (.const c) 3]=3:=nC (by decide) (by rw[I.aM];omega)
 have N9:∀i:Nat,i<w0.b.heap.size->w'.heap[i]?=w.heap[i]?:=λi hi=>AJ i (by omega)
 have x7:w0.b.Extends w':=⟨gg.1.trans h.ext.os,gg.2.1.trans h.ext.tape,gg.2.2.trans h.ext.output,by rw[Wg];exact h.ext.size,
  λy hy=>c6 (by simp only[iW,N9 y.block hy]) (h.ext.cell y hy),λy hy=>c6 (by simp only[ti,N9 y.block hy]) (h.ext.frozen y hy),λi hi=>(N9 i hi).trans (h.ext.block i hi)⟩
 refine⟨x7,gg.1.trans h.gg,gg.2.1.trans h.iF,gg.2.2.trans h.gI,by rw[Wg];exact h.eI,λi hi hx=>?_,λi gZ t' hi gu=>?_,λi ei gj code' fZ lB t' hi=>?_,λi j p q hi hj he=>?_⟩
 ·rw[AJ i (λe=>by
   subst e
   rcases bI with h3|h3
   ·exact hx h3
   ·omega)]
  exact h.fM i hi hx
 ·rcases cM i _ hi with⟨rfl,cD⟩|⟨hne,hi⟩
  ·cases cD;cases gu
  ·obtain⟨g1,jA,g2⟩:=h.et i gZ t' hi gu
   exact⟨g1,jA,by rw[AJ (m i) (λe=>h.ne hbl hi (by rw[iO];exact a6 2) (by rw[iQ gu];decide) (λe=>hne e.symm) (by first|exact e|exact e.symm))];exact g2⟩
 ·rcases cM i _ hi with⟨rfl,cD⟩|⟨hne,hi⟩
  ·cases cD
   intro _
   simp only[I.aM]
   refine⟨λh0=>by omega,λ_=>⟨bI.elim .inl λh=> .inr (.inr h),_,_,_,l0,⟨cn _,iD,[],[],by simp[hX],rfl⟩,λ_=>⟨rfl,by trivial,.inr ⟨by decide,by rw[hsz]⟩,by simp[hlen,fY],bo,bI⟩⟩⟩
  ·exact(h.rws i ei gj _ fZ lB t' hi).grow λhk hc=>AJ (m i) (λe=>h.ne hbl hi (by rw[iO];exact a6 2) (by simp only[nC hk hc];exact hk) (λe=>hne e.symm) (by first|exact e|exact e.symm))
 ·have hk:∀(i:Nat) (p:ar),(cO bl b ([.rows fY (.const 0) code (.const c) 3],t))[i]?=some p->∃p',bl[i]?=some p'/\(aX ρ p'.1=aX ρ p.1∨(aX ρ p'.1=2/\aX ρ p.1=3)):=λi p hi=>by
   rcases cM i _ hi with⟨rfl,cD⟩|⟨hne,hi⟩
   ·exact⟨_,hbl,.inr ⟨iO,by rw[cD];exact H4⟩⟩
   ·exact⟨p,hi,.inl rfl⟩
  obtain⟨p',hp,ep⟩:=hk i p hi
  obtain⟨q',hq,eq⟩:=hk j q hj
  have:=h.inj i j p' q' hp hq he
  omega
theorem Us:∀(n t:Nat) (acc:Array az),∃l:List (List Int),l.length=n/\(∀r∈l,bS fY r)/\(tp n t acc).toList=acc.toList++aU fY l
 |0,_,_=>⟨[],rfl,by simp,by simp[tp,aU]⟩
 |n+1,t,acc=>by
  obtain⟨l,h1,h2,h3⟩:=Us n (t/256) (acc.push (.int .u8 (Int.ofNat (t% 256))))
  refine⟨[((t% 256:Nat):Int)]::l,by simp[h1],λr hr=>?_,?_⟩
  ·rcases List.mem_cons.1 hr with rfl|hr
   ·exact⟨⟨by simp only[aw.en];omega,by simp only[aw.en];omega⟩,trivial⟩
   ·exact h2 r hr
  ·rw[tp,h3]
   simp[aU,fY,cN,aw.val]
theorem ap3 {P:bm} (w:ai) (bX:Array aN) (t e:aN) (ht:P.underlying t=some (.slice e)) (n:Nat) (hn:n<=281474976710656):
 ∃(c d:Nat),(RW bX #[t] #[.int .i64 n]).run P w= .ok (.slice (some ⟨w.heap.size,0,none⟩) n c) (w.drew.drew.alloc (.cells (tp c d #[]) e))/\n<=c/\(n<=maxLen->c<=maxLen):=by
 have D9:RW bX #[t] #[.int .i64 n]=
  (do
    let .slice elem<-underlying t|stuck "bytealg.MakeNoZero: slice type expected"
    if(n:Int)<0||(n:Int)>2^48 then runtimePanic (.error "makeslice: len out of range")
    let cap<-choose (.appendCap (n:Int).toNat 0 elem)
    askRoom cap
    let bytes<-choose (.extern "internal/bytealg.MakeNoZero.bytes" 0)
    let a<-newRow elem (tp cap bytes #[])
    pure (.slice (some a) (n:Int).toNat cap)):=rfl
 have h1:¬(n:Int)<0:=by omega
 have h2:¬(281474976710656:Int)<(n:Int):=by omega
 exact⟨grownCap w n 0 e,_,by
  rw[D9]
  simp[ef ht,h1,h2,Question.forced,newRow,grownCap]
  rfl,by simpa using grownCap_ge w n 0 e,λhm=>by simpa using grownCap_le_maxLen w n 0 e hm⟩
theorem aeq {fn:Func} (h:Iy fn=true):fn.body.isNone=true/\(fn.name== "runtime.NumGoroutine")=false/\Ku fn=none/\Kv fn=some (RW fn.params fn.resultTypes):=by
 unfold Iy at h
 simp only[aK,beq_iff_eq]at h
 obtain⟨⟨h1,h2⟩,h3⟩:=h
 have g1:Extern.allNextRows.lookup "internal/bytealg.MakeNoZero" =none:=by kernel_rfl
 have g2:Extern.allNextRows.lookup "" =none:=by kernel_rfl
 have g3:Extern.allGenericRows.lookup "internal/bytealg.MakeNoZero" =none:=by kernel_rfl
 have g4:Extern.allTypedRows.lookup "internal/bytealg.MakeNoZero" =some RW:=by kernel_rfl
 refine⟨h2,by rw[h1];decide,?_,?_⟩
 ·unfold Ku
  simp only[h1,h3,g1,g2]
  rfl
 ·unfold Kv
  simp only[h1,g3,g4]
  rfl
theorem aqF {tm:List V} {a:Act} {w:ai} {G:dw} {o:Oper} {K:Act->ai->Prop} {Q:Exit->Act->ai->Prop} {k:fA} {qW:T}
 (h:R w0 n ρ m tm bl a w) (bn:s5 P o n tm bl k=some qW) (ae:qW.holds S L G ρ) (hk:iZ S L w0 k n bl.length ρ m G K):o.wp P a w K Q:=by
 unfold s5 at bn
 split at bn
 ·rename_i t p x ho
  have hp:=b9 h.t p
  have hx:=b9 h.t x
  split at bn
  ·rename_i b aQ bV i j u Oi tX
   rw[Oi]at hp
   rw[tX]at hx
   split at bn
   ·rename_i sh off code cap kind bK s hbl hs
    cases hc:(bw 2 kind&&aA aQ sh.length&&I.beq bV off&&aA u.cells.length s&&b7 0 s&&bw (j+s) sh.length&&k0 sh)with
    |false=>rw[hc]at bn;cases bn
    |true=>
     rw[hc]at bn
     simp only[cond_true,aG]at bn
     subst bn
     simp only[aK]at hc
     obtain⟨⟨⟨⟨⟨⟨c1,c2⟩,c3⟩,c4⟩,c5⟩,gy⟩,nk⟩:=hc
     have c1:=eb c1;have c2:=bk c2;have c3:=I.beq_eq c3;have c4:=bk c4;have c5:=pd c5;have gy:=eb gy
     subst c2;subst c3;subst c4
     have Og:a.eval p= .pointer (some ⟨m b,(bV.den ρ).toNat+(i.den ρ).toNat*sh.length+j,none⟩):=hp.2
     have cL:a.eval x=u.den ρ m:=hx.2
     have ai5:(A.ep b sh.length bV i j).ok n bl.length ρ:=hp.1
     have eH:(A.rows sh bV code cap kind).ok n bl.length ρ:=h.b _ (dK hbl) _ (by simp)
     have hcs:aj S L (bind (eZ 21 [code,i]) λ_=>bind (zQ 67 [code,i,.const sh.length]) λ_=>bind (uO ((sh.drop j).take u.cells.length) u.cells) λls=>bind (ev 42 (code::i:: .const j::ls) 0 bZ) λcode'=>pure code') n ρ λad n' code'=>code'.aW n'/\(0<=code'.den ad/\code'.den ad<=bZ)/\(0<=i.den ρ/\i.den ρ<(ab (code.den ρ)).length)/\
      ∃ls:List Int,bS ((sh.drop j).take u.cells.length) ls/\cN ((sh.drop j).take u.cells.length) ls=u.cells.map (A.den ρ m)/\
       ab (code'.den ad)=(ab (code.den ρ)).set (i.den ρ).toNat (((ab (code.den ρ)).getD (i.den ρ).toNat []).take j++ls++((ab (code.den ρ)).getD (i.den ρ).toNat []).drop (j+ls.length)):=by
      refine ga λir=>?_
      have ir:0<=i.den ρ/\i.den ρ<(ab (code.den ρ)).length:=ir
      have hlt:(i.den ρ).toNat<(ab (code.den ρ)).length:=by omega
      have cE:0<=cap.den ρ:=by
       rcases iX (cap.den ρ) 0 with fN|fN
       ·have:=(h.ba.rws b sh bV code cap kind bK hbl (by omega)).1 fN
        rw[this]at hlt;simp at hlt
       ·exact fN
      obtain⟨_,cells,ic,fz,bo,⟨bI,b6⟩,dz⟩:=(h.ba.rws b sh bV code cap kind bK hbl (by omega)).2 cE
      have vR:(ab (code.den ρ)).getD (i.den ρ).toNat []=(ab (code.den ρ))[(i.den ρ).toNat]:=by simp[af,hlt]
      have hrow:bS sh ((ab (code.den ρ)).getD (i.den ρ).toNat []):=by rw[vR];exact b6.1 _ (F8 hlt)
      refine(GU (op:=67) (ls:=[code,i,.const sh.length]) (by simp only[cr,dY,aa,I.aM,k9];exact hrow.len)).bind λbN n0 _ _ _ ⟨yr,mL⟩=>?_
      have yr:=yr.symm;have mL:=mL.symm
      subst yr;subst mL
      refine(BU (nb:=bl.length) (m:=m) (λy hy=>W.z8 hx.1 y hy)).bind λax n1 ls e4 dF ⟨g1,g2,g3⟩=>?_
      have hf:aB 42 ((code::i::I.const j::ls).map (·.den ax))=rc ((ab (code.den ρ)).set (i.den ρ).toNat (((ab (code.den ρ)).getD (i.den ρ).toNat []).take j++ls.map (·.den ax)++((ab (code.den ρ)).getD (i.den ρ).toNat []).drop (j+(ls.map (·.den ax)).length))):=by
       simp only[cr,aB,I.aM,k9,I.bB dF eH.1.2.1,I.bB dF ai5.2.1.2]
      have ai8:=YN hrow g2 gy
      have mN:∀r∈(ab (code.den ρ)).set (i.den ρ).toNat (((ab (code.den ρ)).getD (i.den ρ).toNat []).take j++ls.map (·.den ax)++((ab (code.den ρ)).getD (i.den ρ).toNat []).drop (j+(ls.map (·.den ax)).length)),bS sh r:=λr hr=>by
       rcases Gf hr with hr|hr
       ·exact b6.1 r hr
       ·subst hr;exact ai8.1
      have jB:0<sh.length:=by omega
      have hlen:(ab (code.den ρ)).length<=maxLen:=by
       have uJ:=b6
       obtain⟨_,pre,post,p1,bq⟩:=uJ
       have h4:=congrArg kA p1
       simp only[dQ,jz b6.1,ve]at h4
       obtain⟨_,_,_,h5,_⟩:=dz c1
       rw[h5]at h4
       have h6:(ab (code.den ρ)).length*sh.length<=(cap.den ρ).toNat*sh.length:=by omega
       have h7:=avG h6 jB
       have:=eH.2.2.2
       unfold maxLen;omega
      have fg:=nS (l:=(ab (code.den ρ)).set (i.den ρ).toNat (((ab (code.den ρ)).getD (i.den ρ).toNat []).take j++ls.map (·.den ax)++((ab (code.den ρ)).getD (i.den ρ).toNat []).drop (j+(ls.map (·.den ax)).length))) (by simpa using hlen) λr hr=>(mN r hr).row nk
      refine(fl (by rw[hf];exact fE _) (by rw[hf];exact fg)).bind λbx ed code' er dk ⟨k1,k2⟩=>aj.pure ?_
      rw[hf]at k2
      exact⟨k1,by rw[k2];exact⟨fE _,fg⟩,ir,ls.map (·.den ax),g2,g3,by rw[k2,dW]⟩
     obtain⟨ad,n',code',hn,ha,⟨g1,g2,g3,ls,g4,g5,g6⟩,ae⟩:=hcs G _ ae
     have hR:=h.later hn ha
     have hlt:(i.den ρ).toNat<(ab (code.den ρ)).length:=by omega
     have cE:0<=cap.den ρ:=by
      rcases iX (cap.den ρ) 0 with fN|fN
      ·have:=(h.ba.rws b sh bV code cap kind bK hbl (by omega)).1 fN
       rw[this]at hlt;simp at hlt
      ·exact fN
     obtain⟨kp,cells,ic,fz,bo,⟨bI,b6⟩,dz⟩:=(h.ba.rws b sh bV code cap kind bK hbl (by omega)).2 cE
     obtain⟨aV,r1,r2,fo,hO,bb⟩:=dz c1
     subst aV
     obtain⟨sU,pre,post,BK,Fo⟩:=b6
     have Ii:(ab (code.den ρ))[(i.den ρ).toNat]?=some ((ab (code.den ρ)).getD (i.den ρ).toNat []):=by simp[af,hlt]
     generalize axW:(ab (code.den ρ)).getD (i.den ρ).toNat []=row at g6 Ii
     have yk:=sU row (dK Ii)
     obtain⟨p1,bq⟩:=YN yk g4 gy
     have ajB:u.cells.length=(u.cells.map (A.den ρ m)).length:=by simp
     have V2:cells.toList=(pre++aU sh ((ab (code.den ρ)).take (i.den ρ).toNat))++(cN sh row++(aU sh ((ab (code.den ρ)).drop ((i.den ρ).toNat+1))++post)):=by
      rw[BK,MC Ii];simp only[ie]
     have hA:(pre++aU sh ((ab (code.den ρ)).take (i.den ρ).toNat)).length=(bV.den ρ).toNat+(i.den ρ).toNat*sh.length:=by
      rw[dQ,Fo,jz λr hr=>sU r (jM hr),mw,w8 (by omega)]
     have hB:=zf yk
     have aia:(bV.den ρ).toNat+(i.den ρ).toNat*sh.length+j+0+(u.cells.map (A.den ρ m)).length<=cells.size:=by
      have:=congrArg kA V2
      simp only[dQ,ve,hB]at this hA
      simp;omega
     have hst:=JB (P:=P) (m b) ((bV.den ρ).toNat+(i.den ρ).toNat*sh.length+j) _ fz kind (u.cells.map (A.den ρ m)) 0 cells w r2 bo aia (λv hv=>by
      obtain⟨y,hy,rfl⟩:=List.mem_map.1 hv
      exact A.I2 (W.z8 hx.1 y hy))
     simp only[ld]at hst
     have l3:cells.toList.take ((bV.den ρ).toNat+(i.den ρ).toNat*sh.length+j)++u.cells.map (A.den ρ m)++cells.toList.drop ((bV.den ρ).toNat+(i.den ρ).toNat*sh.length+j+(u.cells.map (A.den ρ m)).length)=pre++aU sh (ab (code'.den ad))++post:=by
      rw[g6,aex Ii,V2,<-hA,bq,g5]
      rw[List.take_append,mq (by omega),Nat.add_sub_cancel_left,F4 (by omega)]
      rw[List.drop_append,List.drop_of_length_le (by omega),jr]
      rw[show(pre++aU sh ((ab (code.den ρ)).take (i.den ρ).toNat)).length+j+(u.cells.map (A.den ρ m)).length-(pre++aU sh ((ab (code.den ρ)).take (i.den ρ).toNat)).length=j+u.cells.length by simp;omega]
      rw[avw (by omega)]
      simp only[ie]
     rw[l3]at hst
     have WD:∀r∈ab (code'.den ad),bS sh r:=λr hr=>by
      rw[g6]at hr
      rcases Gf hr with hr|hr
      ·exact sU r hr
      ·subst hr;exact p1
     have sC:(ab (code'.den ad)).length=(ab (code.den ρ)).length:=by rw[g6];simp
     have hsz:(pre++aU sh (ab (code'.den ad))++post).length=cells.size:=by
      have e1:=congrArg kA BK
      simp only[dQ,jz WD,jz sU,ve,sC]at e1⊢
      omega
     have d1:cap.den ad=cap.den ρ:=I.bB ha eH.1.2.2
     have d2:bV.den ad=bV.den ρ:=I.bB ha eH.1.1
     have Ib:=hR.ba.put (kd:=kind) (cells:=cells) (fz:=fz) (code':=code') c1 hbl (by rw[d1];exact cE) (row:=(pre++aU sh (ab (code'.den ad))++post).toArray) (λ_=>⟨λbU=>by rw[d1]at bU;omega,λ_=>⟨kp,_,_,fz,Ge w (m b) _ _ _ _ bo,⟨by rw[d2];exact bI,by
      rw[d2]
      exact⟨WD,pre,post,rfl,Fo⟩⟩,λ_=>⟨rfl,by rw[d2];exact r1,by simp only[tk,hsz];exact r2,by rw[d1];simp only[tk,hsz];exact fo,hO,bb⟩⟩⟩)
     unfold lf
     have gv:(RN t (.pointer (some ⟨m b,(bV.den ρ).toNat+(i.den ρ).toNat*sh.length+j,none⟩)) (u.den ρ m)).run P w= .ok () (w.setRow (m b) (pre++aU sh (ab (code'.den ad))++post).toArray):=by
      simp only[RN,kB,fV,gU,fW,storeVar,gO hs,W.Hc (m:=m) u hx.1]
      simp only[tk,j6,ne_eq,not_true_eq_false,if_false,gU,fW]
      simp only[gU,fW,hst]
     simp only[execOp,ho,fV,Og,cL,gv,fW,gU]
     refine hk n' ad m _ _ G _ _ ⟨hn,ha,by rw[ib];exact a6 _,λ_ _=>rfl⟩ (dU.refl _ _) ⟨?_,by rw[put_defers];exact h.d,hR.b.set (λy hy=>by
      simp at hy;subst hy
      exact⟨⟨eH.1.1.mono hn,g1,eH.1.2.2.mono hn⟩,g2,by rw[d1];exact eH.2.2⟩),Ib⟩ ae
     rw[ib]
     exact dD.put hR.t o.dst (by intro x hx;simp at hx) rfl
   ·cases bn
  ·cases bn
 ·rename_i s d x ho
  have hx:=b9 h.t x
  split at bn
  ·rename_i l tX
   rw[tX]at hx
   split at bn
   ·rename_i e hs hd
    split at bn
    ·rename_i he
     simp only[aG]at bn
     subst bn
     have rn:(A.str l).ok n bl.length ρ:=hx.1
     have cL:a.eval x= .string (bd (U (l.den ρ))):=hx.2
     have hcs:aj S L (bind (ev 27 [l] 0 bZ) λcode=>bind (ev 0 [l] 0 9223372036854775807) λlen=>pure (code,len)) n ρ λad n' p=>(p.1.aW n'/\p.2.aW n')/\(0<=p.1.den ad/\p.1.den ad<=bZ)/\(U (l.den ρ)).length<=9223372036854775807/\ab (p.1.den ad)=(U (l.den ρ)).map (λb=>[(b.toNat:Int)])/\p.2.den ad=(U (l.den ρ)).length:=by
      have ir:(U (l.den ρ)).length<=9223372036854775807:=by have:=tu rn.2.2;unfold fQ at this;omega
      have fg:rc ((U (l.den ρ)).map λb=>[(b.toNat:Int)])<=bZ:=nS (by simp;unfold maxLen;omega) λr hr=>by
       obtain⟨b,_,rfl⟩:=List.mem_map.1 hr
       have hp:=jw
       have:=b.toNat_lt
       exact⟨by simp,λz hz=>by simp at hz;subst hz;omega⟩
      refine(fl (op:=27) (args:=[l]) (fE _) fg).bind λax n1 code e4 dF ⟨g1,g2⟩=>?_
      have g2:code.den ax=rc ((U (l.den ρ)).map λb=>[(b.toNat:Int)]):=g2
      have py:l.den ax=l.den ρ:=I.bB dF rn.1
      refine(fl (op:=0) (args:=[l]) (lo:=0) (hi:=9223372036854775807) (w5 _) (by
       show((U (l.den ax)).length:Int)<=_
       rw[py];omega)).bind λbx ed len er dk ⟨k1,k2⟩=>aj.pure ?_
      have k2:len.den bx=((U (l.den ax)).length:Nat):=k2
      have bt:code.den bx=code.den ax:=I.bB dk g1
      refine⟨⟨g1.mono er,k1⟩,by rw[bt,g2];exact⟨fE _,fg⟩,ir,by rw[bt,g2,dW],by rw[k2,py]⟩
     obtain⟨ad,n',p,hn,ha,⟨⟨g1,jA⟩,g2,g3,g4,g5⟩,ae⟩:=hcs G (λp n=>DH 3 e o.dst fY p.1 p.2 n tm bl k) ae
     have hR:=h.later hn ha
     have gv:=Lib.run_convert_string_bytes (P:=P) w s d e (bd (U (l.den ρ))) hs (fw hd) he
     generalize cE:grownCap w (bd (U (l.den ρ))).size 0 e=c at gv
     have fa:(bd (U (l.den ρ))).size<=c:=by rw[<-cE];exact grownCap_ge w _ 0 e
     have hle:c<=9223372036854775807:=by rw[<-cE];exact grownCap_le_maxLen w _ 0 e (by rw[pc];exact g3)
     have tS:(Gh w e (bd (U (l.den ρ)))).heap[w.heap.size]?=some (.cells (Gi w e (bd (U (l.den ρ)))) e ((Gi w e (bd (U (l.den ρ)))).size,(Gi w e (bd (U (l.den ρ)))).size+1)):=Lib.bytesWorld_at_new w e _
     have ahU:(Gi w e (bd (U (l.den ρ)))).size=c:=by
      have aif:=fa
      rw[pc]at aif
      simp only[Gi,aax,Array.size_map,Array.size_replicate,cE]
      show(bd (U (l.den ρ))).size+_=_
      omega
     have x7:w.Extends (Gh w e (bd (U (l.den ρ)))):=by
      have hb:∀i:Nat,i<w.heap.size->(Gh w e (bd (U (l.den ρ)))).heap[i]?=w.heap[i]?:=λi hi=>Lib.bytesWorld_at_old w e _ i hi
      exact⟨rfl,rfl,rfl,by simp[Gh,KF,CP,RX,-KG,-aay],λy hy=>by simp only[iW,hb y.block hy],λy hy=>by simp only[ti,hb y.block hy],hb⟩
     have xP:R w0 n' ad m tm bl a (Gh w e (bd (U (l.den ρ)))):=⟨hR.t,hR.d,hR.b,hR.ba.grow x7⟩
     unfold lf
     simp only[execOp,ho,fV,cL,gv,fW,gU]
     have iC:iZ S L w0 k n' bl.length ad m G K:=hk.later ⟨hn,ha,a6 _,λ_ _=>rfl⟩ (dU.refl _ _)
     have eI:(bd (U (l.den ρ))).size=(U (l.den ρ)).length:=pc _
     have key:=PU (kd:=3) (c:=(c:Int)) (g:=w.heap.size) (by omega) xP g1 jA g2 ⟨by omega,by omega⟩ (by rw[g5];exact⟨⟨by omega,by omega,by omega,by omega⟩,⟨by omega,by omega⟩,λh=>by omega,λ_=>by omega⟩) (λh=>by omega)
      (λ_=>⟨_,_,⟨tS,.inr ⟨by decide,rfl⟩⟩,by
        rw[g4]
        refine⟨λr hr=>?_,[],cV (c-(U (l.den ρ)).length) (.int .u8 0),?_,rfl⟩
        ·obtain⟨b,_,rfl⟩:=List.mem_map.1 hr
         have:=b.toNat_lt
         exact⟨⟨by simp[aw.en],by simp only[aw.en];omega⟩,trivial⟩
        ·simp only[Gi,cE,Array.toList_append,r6,Array.toList_replicate,jr]
         congr 1
         ·show(U (l.den ρ)).map _=_
          simp only[aU,avC]
          induction U (l.den ρ)with
          |nil=>rfl
          |cons b r ih=>simp[cN,aw.val,fY,ih],by
        rw[ahU];simp[fY],h.ba.ext.size,.inr h.ba.eI⟩) (λi p hi he=>by
         by_cases jR:aX ad p.1=0
         ·exact .inl jR
         ·have:=hR.ba.lt hi jR;omega) ae iC
     rw[if_neg (by omega),g5]at key
     have key:K (a.put o.dst (.slice (some ⟨w.heap.size,0,none⟩) (U (l.den ρ)).length c)) (Gh w e (bd (U (l.den ρ)))):=by simpa using key
     rw[eI]
     exact key
    ·cases bn
   ·cases bn
  ·rename_i b len cap tX
   rw[tX]at hx
   split at bn
   ·rename_i C t e hbl hd
    split at bn
    ·rename_i he
     cases hc:(aA s d&&bJ C&& !t.2&&aA C.length len&&aA cap len&&bw len 1000000)with
     |false=>rw[hc]at bn;cases bn
     |true=>
      rw[hc]at bn
      simp only[cond_true,aG]at bn
      subst bn
      simp only[aK]at hc
      obtain⟨⟨⟨⟨⟨bT,c1⟩,c2⟩,c3⟩,c4⟩,c5⟩:=hc
      have bT:=bk bT
      have c2:t.2=false:=by simpa using c2
      have c3:=bk c3
      have c4:=bk c4
      have c5:=eb c5
      subst bT;subst c4
      have aZ:∀x∈C,A.ok n bl.length ρ x:=h.b _ (dK hbl)
      have je:=Dk (w:=1) (k:=cap) (l:=C) (by omega)
      have bC:ab ((I.const 0).den ρ)=[]:=by rw[I.aM];exact fD
      have hz:(0:Int)<=bZ:=nP (fE []) (nS (l:=[]) (by simp) (by simp))
      obtain⟨ad,n',code,hn,ha,⟨p1,bq,c9,cv,dI,dJ,fv⟩,ae⟩:=C4 (S:=S) (L:=L) (nb:=bl.length) (m:=m) (sh:=fY) (by decide) (rs:=lW 1 cap C) (c:= .const 0) (n:=n) (ρ:=ρ) (λrow hr x hx=>aZ x (Dl row hr x hx)) (I.cz _ _) (by rw[I.aM];exact⟨cn _,hz⟩) (by rw[bC];intro _ h;simp at h) (by rw[bC,je.1];simp;omega) G _ ae
      rw[bC,jr]at cv
      have hR:=h.later hn ha
      have N3:C.map (A.den ad m)=C.map (A.den ρ m):=rE aZ ha (λ_ _=>rfl)
      obtain⟨w',gv,gz⟩:=hR.ba.mark (P:=P) (s:=s) (e:=e) (code:=code) hbl c1 c2 c3 (fw hd) he (by rw[cv];exact dJ) (by rw[cv,fv,je.2,N3])
      unfold lf
      have ajI:a.eval x= .slice (some ⟨m b,0,none⟩) cap cap:=hx.2
      simp only[execOp,ho,fV,ajI,gv,fW,gU]
      have xY:b<bl.length:=(List.getElem?_eq_some_iff.1 hbl).1
      refine hk n' ad m _ _ G _ _ ⟨hn,ha,by rw[ib];exact a6 _,λ_ _=>rfl⟩ (dU.refl _ _) ⟨?_,by rw[put_defers];exact h.d,hR.b.set (λy hy=>by
       have hy:y= .rows fY (.const 0) code (.const cap) 3:=by simpa using hy
       subst hy
       exact⟨⟨I.cz _ _,p1,I.cz _ _⟩,bq,by rw[I.aM];omega⟩),gz⟩ ae
      rw[ib]
      exact dD.put hR.t o.dst ⟨xY,⟨I.cz _ _,I.cz _ _,I.cz _ _,I.cz _ _⟩,by simp only[I.aM,zk];omega⟩ (by
       show _=_
       simp[W.den,A.den,I.aM])
    ·cases bn
   ·cases bn
  ·cases bn
 ·rename_i t x y ho
  split at bn
  ·rename_i e lD kW hd aiK aiL
   cases hi:P.info? e with
   |none=>simp[hi]at bn
   |some i=>
    simp only[hi]at bn
    split at bn
    ·rename_i z hz
     cases hc:(aA i.size 1&&bw i.bytes 1024&&decide (z=0))with
     |false=>rw[hc]at bn;cases bn
     |true=>
      rw[hc]at bn
      simp only[cond_true,aG]at bn
      subst bn
      simp only[aK,decide_eq_true_eq]at hc
      have c1:=bk hc.1.1
      have c2:=eb hc.1.2
      have c3:=hc.2
      subst c3
      obtain⟨akE,hx,eM⟩:=Xd h.t aiK
      obtain⟨akF,hy,yq⟩:=Xd h.t aiL
      obtain⟨NV,ae⟩:=ae
      have NV:0<=lD.den ρ/\lD.den ρ<=kW.den ρ/\kW.den ρ<=1073741824:=NV
      obtain⟨bo,bI,b6⟩:=NV
      have kp:0<=kW.den ρ:=by omega
      have hrow:∀r∈cV (lD.den ρ).toNat [(0:Int)],bS fY r:=λr hr=>by
       rw[aaz hr]
       exact⟨⟨by simp[aw.en],by simp[aw.en]⟩,trivial⟩
      have fg:rc (cV (lD.den ρ).toNat [(0:Int)])<=bZ:=vl (sh:=fY) (by decide) (by simp;omega) hrow
      have hf:aB 26 ([lD,I.const 0].map (·.den ρ))=rc (cV (lD.den ρ).toNat [(0:Int)]):=by
       simp only[cr,dY,aB,I.aM]
      obtain⟨ad,n',code,hn,ha,⟨g1,g2⟩,ae⟩:=fl (S:=S) (L:=L) (n:=n) (op:=26) (args:=[lD,.const 0]) (lo:=0) (hi:=bZ) (by rw[hf];exact fE _) (by rw[hf];exact fg) G _ ae
      rw[hf]at g2
      have hR:=h.later hn ha
      have d1:lD.den ad=lD.den ρ:=I.bB ha eM
      have gv:=run_make (P:=P) w t e i (.int .u8 0) (fw hd) hi hz akE akF (lD.den ρ) (kW.den ρ) bo bI (by
       have h0:(i.bytes:Int)<=1024:=by omega
       have h2:(i.bytes:Int)*kW.den ρ<=1024*1073741824:=Int.mul_le_mul h0 b6 kp (by decide)
       omega) (by omega)
      have Wq:(madeCells (r3 .u8 0).cells ((kW.den ρ).toNat*i.size)).toList=cV (kW.den ρ).toNat (.int .u8 0):=by
       rw[c1,Nat.mul_one]
       refine RP λj=>?_
       simp only[madeCells,Value.cells,r6,RO]
       rw[mu,List.getElem?_replicate]
       by_cases hj:j<(kW.den ρ).toNat
       ·rw[if_pos hj,aat hj]
        simp[Nat.mod_one]
       ·rw[if_neg hj,RQ (by simp;omega)];rfl
      have hsz:(madeCells (r3 .u8 0).cells ((kW.den ρ).toNat*i.size)).size=(kW.den ρ).toNat:=by
       have:=congrArg kA Wq
       simpa using this
      have tS:(w.alloc (.cells (madeCells (r3 .u8 0).cells ((kW.den ρ).toNat*i.size)) e)).heap[w.heap.size]?=some (.cells (madeCells (r3 .u8 0).cells ((kW.den ρ).toNat*i.size)) e (0,0)):=by simp[CP,-KG]
      have x7:w.Extends (w.alloc (.cells (madeCells (r3 .u8 0).cells ((kW.den ρ).toNat*i.size)) e)):=by
       have hb:∀j:Nat,j<w.heap.size->(w.alloc (.cells (madeCells (r3 .u8 0).cells ((kW.den ρ).toNat*i.size)) e)).heap[j]?=w.heap[j]?:=λj hj=>by
        simp only[CP]
        rw[avH hj,F2 hj]
       exact⟨rfl,rfl,rfl,by simp[CP,-KG],λy hy=>by simp only[iW,hb y.block hy],λy hy=>by simp only[ti,hb y.block hy],hb⟩
      generalize mI:w.alloc (.cells (madeCells (r3 .u8 0).cells ((kW.den ρ).toNat*i.size)) e)=W at*
      have xP:R w0 n' ad m tm bl a W:=⟨hR.t,hR.d,hR.b,hR.ba.grow x7⟩
      unfold lf
      simp only[execOp,ho,fV,hx,hy,gv,fW,gU]
      have iC:iZ S L w0 k n' bl.length ad m G K:=hk.later ⟨hn,ha,a6 _,λ_ _=>rfl⟩ (dU.refl _ _)
      have key:=PU (kd:=2) (c:=kW.den ρ) (g:=w.heap.size) (a6 _) xP g1 (eM.mono hn) (by rw[g2];exact⟨fE _,fg⟩) ⟨by omega,by omega⟩ (by rw[d1];exact⟨⟨by omega,by omega,by omega,by omega⟩,⟨by omega,by omega⟩,λh=>by omega,λ_=>by omega⟩) (λh=>by omega)
       (λ_=>⟨_,_,⟨tS,.inl ⟨rfl,rfl⟩⟩,by
         rw[g2,dW]
         refine⟨hrow,[],cV ((kW.den ρ).toNat-(lD.den ρ).toNat) (.int .u8 0),?_,rfl⟩
         rw[Wq,jr]
         have e1:aU fY (cV (lD.den ρ).toNat [(0:Int)])=cV (lD.den ρ).toNat (.int .u8 0):=by
          generalize (lD.den ρ).toNat=q
          induction q with
          |zero=>rfl
          |succ q ih=>
           rw[tq,tq]
           simp only[aU,o0]at ih⊢
           rw[ih];rfl
         rw[e1,List.replicate_append_replicate]
         congr 1;omega,by rw[hsz];simp[fY],h.ba.ext.size,.inr h.ba.eI⟩) (λj p hj he=>by
         by_cases jR:aX ad p.1=0
         ·exact .inl jR
         ·have:=hR.ba.lt hj jR;omega) ae iC
      rw[if_neg (by omega),d1]at key
      have key:K (a.put o.dst (.slice (some ⟨w.heap.size,0,none⟩) (lD.den ρ).toNat (kW.den ρ).toNat)) W:=key
      exact key
    ·cases bn
  ·cases bn
 ·rename_i c ho
  split at bn
  ·rename_i f hc
   split at bn
   ·rename_i fn x hf nu
    split at bn
    ·rename_i y t hx kl
     split at bn
     ·rename_i e hd
      split at bn
      ·rename_i he
       cases hm:Iy fn with
       |false=>rw[hm]at bn;cases bn
       |true=>
        rw[hm]at bn
        simp only[cond_true,aG]at bn
        subst bn
        obtain⟨iG,ey,IT,Bq⟩:=aeq hm
        have eM:=b9 h.t x
        rw[hx]at eM
        have yq:y.l.aW n:=eM.1.1
        obtain⟨NU,ae⟩:=ae
        have NU:0<=y.l.den ρ/\y.l.den ρ<=1073741824:=NU
        obtain⟨bo,bI⟩:=NU
        obtain⟨N,hN⟩:∃N:Nat,y.l.den ρ=N:=⟨(y.l.den ρ).toNat,by omega⟩
        have cL:a.eval x= .int .i64 (N:Int):=by rw[<-hN];exact eM.2
        have ajc:fn.resultTypes=#[t]:=KC (by rw[kl])
        obtain⟨lk,xC,gv,hle,rp⟩:=ap3 (P:=P) w fn.params t e (fw hd) N (by omega)
        have rp:=rp (by unfold maxLen;omega)
        unfold maxLen at rp
        obtain⟨l,l1,l2,yL⟩:=Us lk xC #[]
        have qe:(execOp a.eval o).run P w= .ok (.value (.slice (some ⟨w.heap.size,0,none⟩) N lk)) (w.drew.drew.alloc (.cells (tp lk xC #[]) e)):=by
         rw[Qh hc o ho,run_callFunc_extern hf ey iG IT Bq]
         have:c.args.map a.eval=#[.int .i64 (N:Int)]:=KC (by rw[r6,nu];simp[cL])
         rw[this,ajc,gv]
         rfl
        have AX:∀r∈l.take N,bS fY r:=λr hr=>l2 r (jM hr)
        have lz:(l.take N).length=N:=by rw[mw,l1];omega
        have WW:rc (l.take N)<=bZ:=vl (sh:=fY) (by decide) (by rw[lz];omega) AX
        have ae:=ae (rc (l.take N)) (fE _) WW
        have dF:agree n ρ (cI ρ n (rc (l.take N))):=agree.cI _ _ _
        have aE:y.l.den (cI ρ n (rc (l.take N)))=N:=by rw[I.bB dF yq,hN]
        have L3:(I.var n).den (cI ρ n (rc (l.take N)))=rc (l.take N):=by simp[I.cg,iH]
        have ae:=ae (by
         show y.l.den (cI ρ n (rc (l.take N)))=((ab ((I.var n).den (cI ρ n (rc (l.take N))))).length:Int)
         rw[aE,L3,dW,lz])
        have ae:=ae (lk:Int) (by omega) (by omega)
        have ae:=ae (by
         have dk:agree (n+1) (cI ρ n (rc (l.take N))) (cI (cI ρ n (rc (l.take N))) (n+1) (lk:Int)):=agree.cI _ _ _
         show y.l.den (cI (cI ρ n (rc (l.take N))) (n+1) (lk:Int))<=(I.var (n+1)).den (cI (cI ρ n (rc (l.take N))) (n+1) (lk:Int))
         rw[I.bB dk (yq.mono (nQ _)),aE]
         simp only[I.cg,iH]
         omega)
        have hR:=h.later (nQ n) dF
        have tS:(w.drew.drew.alloc (.cells (tp lk xC #[]) e)).heap[w.heap.size]?=some (.cells (tp lk xC #[]) e (0,0)):=by simp[CP,RX,-KG,-aay]
        have x7:w.Extends (w.drew.drew.alloc (.cells (tp lk xC #[]) e)):=by
         have hb:∀j:Nat,j<w.heap.size->(w.drew.drew.alloc (.cells (tp lk xC #[]) e)).heap[j]?=w.heap[j]?:=λj hj=>by
          simp only[CP,RX]
          rw[avH hj,F2 hj]
         exact⟨rfl,rfl,rfl,by simp[CP,RX,-KG,-aay],λy hy=>by simp only[iW,hb y.block hy],λy hy=>by simp only[ti,hb y.block hy],hb⟩
        generalize mI:w.drew.drew.alloc (.cells (tp lk xC #[]) e)=W at*
        have xP:R w0 (n+1) (cI ρ n (rc (l.take N))) m tm bl a W:=⟨hR.t,hR.d,hR.b,hR.ba.grow x7⟩
        unfold lf
        simp only[qe]
        have iC:iZ S L w0 k (n+1) bl.length (cI ρ n (rc (l.take N))) m G K:=hk.later ⟨nQ n,dF,a6 _,λ_ _=>rfl⟩ (dU.refl _ _)
        have key:=Yw (kd:=2) (c:=(lk:Int)) (g:=w.heap.size) (code:= .var n) (len:=y.l) (e:=e) (d:=o.dst) (sh:=fY) (a6 _) xP (I.ez (r4 n)) (yq.mono (nQ _)) (by rw[L3];exact⟨fE _,WW⟩) ⟨by omega,by omega⟩ (by rw[aE];exact⟨⟨by omega,by omega,by omega,by omega⟩,⟨by omega,by omega⟩,λh=>by omega,λ_=>by omega⟩) (λh=>by omega)
         (λ_=>⟨_,_,⟨tS,.inl ⟨rfl,rfl⟩⟩,by
           rw[L3,dW]
           refine⟨AX,[],aU fY (l.drop N),?_,rfl⟩
           rw[yL]
           show aU fY l=aU fY (l.take N)++aU fY (l.drop N)
           rw[<-oN,nc],by
           have e1:=congrArg kA yL
           simp only[dQ,jz l2,l1]at e1
           simpa [fY]using e1,h.ba.ext.size,.inr h.ba.eI⟩) (λj p hj he=>by
           by_cases jR:aX (cI ρ n (rc (l.take N))) p.1=0
           ·exact .inl jR
           ·have:=hR.ba.lt hj jR;omega) ae iC
        rw[if_neg (by omega),aE]at key
        have key:K (a.put o.dst (.slice (some ⟨w.heap.size,0,none⟩) N lk)) W:=by simpa using key
        exact key
      ·cases bn
     ·cases bn
    ·cases bn
   ·cases bn
  ·cases bn
 ·cases bn
end
end Go.bg
namespace Go.bg
open M
theorem apB {α:Type} (f:Nat->α) (s k:Nat):(cA ((k+1)*s)).map (λi=>f (i% s))=(cA s).map (λi=>f (i% s))++(cA (k*s)).map (λi=>f (i% s)):=by
 rw[r5,Nat.add_comm (k*s) s,List.range_add,ff,j5]
 congr 1
 refine gG λi _=>?_
 simp only[F0,Nat.add_mod_left]
theorem Z0 (Z:Array az):∀k:Nat,(kC Z k).toList=(cV k Z.toList).flatten
 |0=>by simp[kC]
 |k+1=>by
  have ih:=Z0 Z k
  simp only[kC,r6,RO]at ih⊢
  rw[apB (λi=>Z[i]!) Z.size k,ih,tq,rW]
  congr 1
  refine List.ext_getElem (by simp) λi h1 h2=>?_
  simp only[j6,List.length_range]at h1
  simp[avy h1,h1]
theorem US (sh:List aw) (row:List Int):∀k:Nat,aU sh (cV k row)=(cV k (cN sh row)).flatten
 |0=>rfl
 |k+1=>by
  have ih:=US sh row k
  rw[tq,tq,rW,<-ih];rfl
section
variable {S:Nat->List Int->List Int->Prop} {L:V->Env->Prop} {n:Nat} {ρ:Env} {m:Nat->Nat} {bl:List ar} {gl:dO} {w0:dm} {P:bm}
theorem Mem.rewrite {w:ai} {b:Nat} {sh:List aw} {off code cap code':I} {kind:Nat} {bK:aN×Bool} (h:Mem w0 ρ m bl w) (hbl:bl[b]?=some ([.rows sh off code cap kind],bK)) (hk:2<=kind) (cE:0<=cap.den ρ)
 (mN:∀r∈ab (code'.den ρ),bS sh r) (hlen:(ab (code'.den ρ)).length=(ab (code.den ρ)).length):
 ∃(cells:Array az) (post:List az) (fz:Nat×Nat),w.heap[m b]?=some (.cells cells bK.1 fz)/\tt kind fz cells.size/\off.den ρ=0/\(∀r∈ab (code.den ρ),bS sh r)/\cells.toList=aU sh (ab (code.den ρ))++post/\cells.size=(cap.den ρ).toNat*sh.length/\
  Mem w0 ρ m (cO bl b ([.rows sh off code' cap kind],bK)) (w.setRow (m b) (aU sh (ab (code'.den ρ))++post).toArray):=by
 obtain⟨kp,cells,ic,fz,bo,⟨bI,b6⟩,dz⟩:=(h.rws b sh off code cap kind bK hbl (by omega)).2 cE
 obtain⟨aV,r1,r2,fo,hO,bb⟩:=dz hk
 subst aV
 obtain⟨sU,pre,post,BK,Fo⟩:=b6
 rw[r1]at Fo
 have gJ:pre=[]:=vd (by simpa using Fo)
 subst gJ
 rw[jr]at BK
 have hsz:(aU sh (ab (code'.den ρ))++post).length=cells.size:=by
  have e1:=congrArg kA BK
  simp only[dQ,jz mN,jz sU,ve,hlen]at e1⊢
  omega
 refine⟨cells,post,fz,bo,r2,r1,sU,BK,fo,?_⟩
 exact h.put (kd:=kind) (cells:=cells) (fz:=fz) (code':=code') hk hbl cE (row:=(aU sh (ab (code'.den ρ))++post).toArray) (λ_=>⟨λbU=>by omega,λ_=>⟨kp,_,_,fz,Ge w (m b) _ _ _ _ bo,⟨by rw[r1];exact cn _,by
  rw[r1]
  exact⟨mN,[],post,by simp,rfl⟩⟩,λ_=>⟨rfl,r1,by simp only[tk,hsz];exact r2,by simp only[tk,hsz];exact fo,hO,bb⟩⟩⟩)
theorem XK {sh:List aw} {rows mid:List (List Int)} {post:List az} {cells:List az} {a:Nat} (hr:∀r∈rows,bS sh r) (hm:∀r∈mid,bS sh r) (hc:cells=aU sh rows++post) (ha:a+mid.length<=rows.length):
 cells.take (a*sh.length)++aU sh mid++cells.drop (a*sh.length+(aU sh mid).length)=aU sh (rows.take a++mid++rows.drop (a+mid.length))++post:=by
 have h1:aU sh rows=aU sh (rows.take a)++aU sh (rows.drop a):=by rw[<-oN,nc]
 have h2:aU sh rows=aU sh (rows.take (a+mid.length))++aU sh (rows.drop (a+mid.length)):=by rw[<-oN,nc]
 have l1:(aU sh (rows.take a)).length=a*sh.length:=by rw[jz λr h=>hr r (jM h),mw,w8 (by omega)]
 have l2:(aU sh (rows.take (a+mid.length))).length=a*sh.length+(aU sh mid).length:=by rw[jz λr h=>hr r (jM h),jz hm,mw,w8 (by omega),rU]
 have e1:cells.take (a*sh.length)=aU sh (rows.take a):=by
  rw[hc,h1,ie,F4 (by omega),mq (by omega)]
 have e2:cells.drop (a*sh.length+(aU sh mid).length)=aU sh (rows.drop (a+mid.length))++post:=by
  rw[hc,h2,ie,<-l2,CD]
 rw[e1,e2,oN,oN]
 simp only[ie]
theorem IV {sh:List aw} {rows mid:List (List Int)} {a k:Nat} (hr:∀r∈rows,bS sh r) (hm:∀r∈mid,bS sh r):∀r∈rows.take a++mid++rows.drop k,bS sh r:=λr h=>by
 rcases List.mem_append.1 h with h|h
 ·rcases List.mem_append.1 h with h|h
  ·exact hr r (jM h)
  ·exact hm r h
 ·exact hr r (nd h)
theorem Pp {rows mid:List (List Int)} {a:Nat} (ha:a+mid.length<=rows.length):(rows.take a++mid++rows.drop (a+mid.length)).length=rows.length:=by
 simp only[dQ,mw,rV];omega
theorem Jz {w:ai} {b:Nat} {sh:List aw} {off code cap:I} {kind:Nat} {bK:aN×Bool} (h:Mem w0 ρ m bl w) (hbl:bl[b]?=some ([.rows sh off code cap kind],bK)) (hk:2<=kind) (cE:0<=cap.den ρ) (ra:cap.den ρ<=9223372036854775807) (jB:0<sh.length):(ab (code.den ρ)).length<=maxLen/\∀r∈ab (code.den ρ),bS sh r:=by
 obtain⟨kp,cells,ic,fz,bo,⟨bI,b6⟩,dz⟩:=(h.rws b sh off code cap kind bK hbl (by omega)).2 cE
 obtain⟨_,_,_,h5,_⟩:=dz hk
 obtain⟨sU,pre,post,p1,bq⟩:=b6
 refine⟨?_,sU⟩
 have h4:=congrArg kA p1
 simp only[dQ,jz sU,ve]at h4
 rw[h5]at h4
 have h6:(ab (code.den ρ)).length*sh.length<=(cap.den ρ).toNat*sh.length:=by omega
 have h7:=avG h6 jB
 unfold maxLen;omega
theorem Y6 {sh:List aw} (h:k0 sh=true):0<sh.length:=by
 unfold k0 at h
 simp only[aK]at h
 exact pd h.1.2
theorem apV {w:ai} {b:Nat} {sh:List aw} {off code cap:I} {kind:Nat} {bK:aN×Bool} (h:Mem w0 ρ m bl w) (hbl:bl[b]?=some ([.rows sh off code cap kind],bK)) (hk:2<=kind) (ra:cap.den ρ<=9223372036854775807) (jB:0<sh.length):(ab (code.den ρ)).length<=maxLen/\∀r∈ab (code.den ρ),bS sh r:=by
 rcases iX (cap.den ρ) 0 with hc|hc
 ·rw[(h.rws b sh off code cap kind bK hbl (by omega)).1 hc]
  exact⟨Nat.zero_le _,λr hr=>by simp at hr⟩
 ·exact Jz h hbl hk hc ra jB
theorem Mem.apD {w:ai} {b:Nat} {sh:List aw} {off code cap code':I} {kind:Nat} {bK:aN×Bool} (h:Mem w0 ρ m bl w) (hbl:bl[b]?=some ([.rows sh off code cap kind],bK)) (he:ab (code'.den ρ)=ab (code.den ρ)):Mem w0 ρ m (cO bl b ([.rows sh off code' cap kind],bK)) w:=by
 rw[ia]
 have hlt:=(List.getElem?_eq_some_iff.1 hbl).1
 have hg:∀(i:Nat) (p:ar),(bl.set b ([.rows sh off code' cap kind],bK))[i]?=some p->(i=b/\p=([.rows sh off code' cap kind],bK))∨(i≠b/\bl[i]?=some p):=λi p hi=>by
  rw[nO]at hi
  by_cases hH:b=i
  ·subst hH
   rw[if_pos rfl,if_pos hlt]at hi
   exact .inl ⟨rfl,(gE hi).symm⟩
  ·rw[if_neg hH]at hi
   exact .inr ⟨λe=>hH e.symm,hi⟩
 have fu:∀(i:Nat) (p:ar),(bl.set b ([.rows sh off code' cap kind],bK))[i]?=some p->∃q:ar,bl[i]?=some q/\aX ρ p.1=aX ρ q.1:=λi p hi=>by
  rcases hg i p hi with⟨rfl,rfl⟩|⟨_,h2⟩
  ·exact⟨_,hbl,rfl⟩
  ·exact⟨_,h2,rfl⟩
 refine⟨h.ext,h.gg,h.iF,h.gI,h.eI,h.fM,λi cs t hi ho=>?_,λi ei gj fL fZ lB t hi=>?_,λi j p q hi hj hm=>?_⟩
 ·rcases hg i _ hi with⟨_,h2⟩|⟨_,h2⟩
  ·cases h2;exact absurd ho (by simp[bJ])
  ·exact h.et i cs t h2 ho
 ·rcases hg i _ hi with⟨rfl,h2⟩|⟨_,h2⟩
  ·cases h2
   have:=h.rws _ sh off code cap kind bK hbl
   unfold o6 at this⊢
   rw[he];exact this
  ·exact h.rws i _ _ _ _ _ t h2
 ·obtain⟨p',hp,ep⟩:=fu i p hi
  obtain⟨q',hq,eq⟩:=fu j q hj
  rw[ep,eq]
  exact h.inj i j p' q' hp hq hm
theorem aqG {tm:List V} {a:Act} {w:ai} {G:dw} {o:Oper} {K:Act->ai->Prop} {Q:Exit->Act->ai->Prop} {k:fA} {qW:T}
 (h:R w0 n ρ m tm bl a w) (bn:QD P o n tm bl k=some qW) (ae:qW.holds S L G ρ) (hk:iZ S L w0 k n bl.length ρ m G K):o.wp P a w K Q:=by
 unfold QD at bn
 split at bn
 rotate_left
 ·cases bn
 rename_i c ho
 split at bn
 ·rename_i hh
  split at bn
  rotate_left
  ·cases bn
  rename_i x t eM kS
  have hx:=b9 h.t x
  split at bn
  rotate_left
  ·cases bn
  rename_i b aQ bV ro len cap e hv he
  rw[hv]at hx
  split at bn
  rotate_left
  ·cases bn
  rename_i sh off code dn kind bK z hbl hz
  cases hc:(bw 2 kind&&I.beq bV off&&aA aQ sh.length&&k0 sh&&aA z.length sh.length)with
  |false=>rw[hc]at bn;cases bn
  |true=>
   rw[hc]at bn
   simp only[cond_true,aG]at bn
   subst bn
   simp only[aK]at hc
   obtain⟨⟨⟨⟨c1,c2⟩,c3⟩,c4⟩,c5⟩:=hc
   have c1:=eb c1;have c2:=I.beq_eq c2;have c3:=bk c3;have c5:=bk c5
   subst c2;subst c3
   obtain⟨inf,jN,hi,mO,n4⟩:=Ct hz
   have a1:c.args=#[x]:=by rw[<-iJ (xs:=c.args),eM]
   have a2:c.argTypes=#[t]:=by rw[<-iJ (xs:=c.argTypes),kS]
   have l7:(A.sl b sh.length bV ro len cap).ok n bl.length ρ:=hx.1
   obtain⟨ptr,e1,e2,bt⟩:=oT (m:=m) l7
   have cL:a.eval x=(A.sl b sh.length bV ro len cap).den ρ m:=hx.2
   rw[e1]at cL
   obtain⟨x1,⟨x2,gP,gw,gD⟩,⟨gQ,kt,ku,kv⟩,⟨k6,j2⟩,fi,gC⟩:=l7
   have eH:(A.rows sh bV code dn kind).ok n bl.length ρ:=h.b _ (dK hbl) _ (by simp)
   have jB:=Y6 c4
   have hcs:aj S L (bind (eZ 65 [code,ro,len]) λ_=>bind (uO sh z) λls=>bind (ev 61 (code::ro::len::ls) 0 bZ) λcode'=>pure code') n ρ λad n' code'=>code'.aW n'/\(0<=code'.den ad/\code'.den ad<=bZ)/\(0<=ro.den ρ/\0<len.den ρ/\ro.den ρ+len.den ρ<=(ab (code.den ρ)).length)/\0<=dn.den ρ/\
    ∃row:List Int,bS sh row/\cN sh row=jN.cells.toList/\ab (code'.den ad)=(ab (code.den ρ)).take (ro.den ρ).toNat++cV (len.den ρ).toNat row++(ab (code.den ρ)).drop ((ro.den ρ).toNat+(len.den ρ).toNat):=by
    refine ga λir=>?_
    have ir:0<=ro.den ρ/\0<len.den ρ/\ro.den ρ+len.den ρ<=(ab (code.den ρ)).length:=ir
    have hzs:=tI n4 n bl.length ρ m
    refine(BU (nb:=bl.length) (m:=m) hzs.1).bind λax n1 ls e4 dF ⟨g1,g2,g3⟩=>?_
    rw[hzs.2]at g3
    have cE:0<=dn.den ρ:=by
     rcases iX (dn.den ρ) 0 with fN|fN
     ·have:=(h.ba.rws b sh bV code dn kind bK hbl (by omega)).1 fN
      rw[this]at ir;simp at ir;omega
     ·exact fN
    obtain⟨rp,iD⟩:=Jz h.ba hbl c1 cE eH.2.2.2 jB
    have hf:aB 61 ((code::ro::len::ls).map (·.den ax))=rc ((ab (code.den ρ)).take (ro.den ρ).toNat++cV (len.den ρ).toNat (ls.map (·.den ax))++(ab (code.den ρ)).drop ((ro.den ρ).toNat+(len.den ρ).toNat)):=by
     simp only[cr,aB,I.bB dF eH.1.2.1,I.bB dF gP,I.bB dF gw]
    have aZ:∀r∈(ab (code.den ρ)).take (ro.den ρ).toNat++cV (len.den ρ).toNat (ls.map (·.den ax))++(ab (code.den ρ)).drop ((ro.den ρ).toNat+(len.den ρ).toNat),bS sh r:=IV iD λr hr=>by rw[aaz hr];exact g2
    have fg:=nS (l:=(ab (code.den ρ)).take (ro.den ρ).toNat++cV (len.den ρ).toNat (ls.map (·.den ax))++(ab (code.den ρ)).drop ((ro.den ρ).toNat+(len.den ρ).toNat)) (by simp only[dQ,mw,rV,zC];omega) λr hr=>(aZ r hr).row c4
    refine(fl (by rw[hf];exact fE _) (by rw[hf];exact fg)).bind λbx ed code' er dk ⟨k1,k2⟩=>aj.pure ?_
    rw[hf]at k2
    exact⟨k1,by rw[k2];exact⟨fE _,fg⟩,ir,cE,ls.map (·.den ax),g2,g3,by rw[k2,dW]⟩
   obtain⟨ad,n',code',hn,ha,⟨g1,g2,g3,cE,row,g4,g5,g6⟩,ae⟩:=hcs G _ ae
   have hR:=h.later hn ha
   have d1:code.den ad=code.den ρ:=I.bB ha eH.1.2.1
   have d2:dn.den ad=dn.den ρ:=I.bB ha eH.1.2.2
   have yi:(cV (len.den ρ).toNat row).length=(len.den ρ).toNat:=zC
   have n5:∀r∈cV (len.den ρ).toNat row,bS sh r:=λr hr=>by rw[aaz hr];exact g4
   have hle:(ro.den ρ).toNat+(cV (len.den ρ).toNat row).length<=(ab (code.den ρ)).length:=by rw[yi];omega
   have mN:∀r∈ab (code.den ρ),bS sh r:=(Jz h.ba hbl c1 cE eH.2.2.2 jB).2
   obtain⟨cells,post,fz,p1,bq,cv,dI,dJ,fv,lF⟩:=hR.ba.rewrite (code':=code') hbl c1 (by rw[d2];exact cE) (by rw[g6];exact IV mN n5) (by
    rw[g6,d1]
    have:=Pp hle
    rw[yi]at this;exact this)
   rw[d1]at dI dJ
   have cv:bV.den ρ=0:=by rw[<-I.bB ha x2];exact cv
   have D5:0<=cap.den ρ:=by
    rcases iX (cap.den ρ) 0 with fN|fN
    ·have:=fi fN;omega
    ·exact fN
   have bD:a.eval x= .slice (some ⟨m b,(ro.den ρ).toNat*sh.length,none⟩) (len.den ρ).toNat (cap.den ρ).toNat:=by
    rw[cL,bt D5,if_neg (by omega),cv];simp
   have lz:(kC jN.cells (len.den ρ).toNat).toList=aU sh (cV (len.den ρ).toNat row):=by rw[Z0,US,g5]
   have ajL:(kC jN.cells (len.den ρ).toNat).toList.length=(len.den ρ).toNat*sh.length:=by rw[lz,jz n5,yi]
   have Ns:=congrArg kA dJ
   simp only[dQ,ve,jz dI]at Ns
   have qf:(ro.den ρ).toNat*sh.length+0+(kC jN.cells (len.den ρ).toNat).toList.length<=cells.size:=by
    rw[ajL]
    have:((ro.den ρ).toNat+(len.den ρ).toNat)*sh.length<=(ab (code.den ρ)).length*sh.length:=RU _ (by omega)
    rw[rU]at this
    omega
   have hst:=JB (P:=P) (m b) ((ro.den ρ).toNat*sh.length) bK.1 fz kind (kC jN.cells (len.den ρ).toNat).toList 0 cells w bq p1 qf (by rw[lz];exact Hy)
   rw[ld,lz,XK dI n5 dJ hle]at hst
   rw[yi]at hst
   rw[<-g6]at hst
   obtain⟨q,hq⟩:∃q,(len.den ρ).toNat=q+1:=⟨(len.den ρ).toNat-1,by omega⟩
   have AX:∀w:ai,(zeroValue e).run P w= .ok jN w:=λw=>by simp[zeroValue,typeInfo,hi,mO]
   have gv:(aaE #[t] o.type #[.slice (some ⟨m b,(ro.den ρ).toNat*sh.length,none⟩) (q+1) (cap.den ρ).toNat]).run P w= .ok (.tuple #[]) (w.setRow (m b) (aU sh (ab (code'.den ad))++post).toArray):=by
    rw[hq]at hst lz
    have Ow:(storeCells ⟨m b,(ro.den ρ).toNat*sh.length,none⟩ (kC jN.cells (q+1)).toList 0).run P w= .ok () (w.setRow (m b) (aU sh (ab (code'.den ad))++post).toArray):=by rw[lz];exact hst
    simp[aaE,ef (fw he),AX,Ow]
   rw[hq]at bD
   unfold lf
   have hex:execOp a.eval o=(do pure (ju (<-aaE #[t] o.type #[a.eval x]))):=by
    simp[execOp,ho,resolve,hh,a1,a2,invoke,builtin]
   simp only[hex,bD,fV,gv,fW,gU]
   refine hk n' ad m _ _ G _ _ ⟨hn,ha,by rw[ib];exact a6 _,λ_ _=>rfl⟩ (dU.refl _ _) ⟨?_,by rw[put_defers];exact h.d,hR.b.set (λy hy=>by
    simp at hy;subst hy
    exact⟨⟨eH.1.1.mono hn,g1,eH.1.2.2.mono hn⟩,g2,by rw[d2];exact eH.2.2⟩),lF⟩ ae
   rw[ib]
   exact dD.put hR.t o.dst (by intro x hx;simp at hx) rfl
 ·rename_i hh
  split at bn
  rotate_left
  ·cases bn
  rename_i x y t t' eM kS
  have hx:=b9 h.t x
  have hy:=b9 h.t y
  split at bn
  rotate_left
  ·rename_i b aQ bV ro len cap e hv jC he
   rw[hv]at hx
   rw[jC]at hy
   split at bn
   rotate_left
   ·cases bn
   rename_i s hs
   simp only[aG]at bn
   subst bn
   have a1:c.args=#[x,y]:=by rw[<-iJ (xs:=c.args),eM]
   have a2:c.argTypes=#[t,t']:=by rw[<-iJ (xs:=c.argTypes),kS]
   have l7:(A.sl b aQ bV ro len cap).ok n bl.length ρ:=hx.1
   obtain⟨ptr,e1,e2,bt⟩:=oT (m:=m) l7
   have cL:a.eval x=(A.sl b aQ bV ro len cap).den ρ m:=hx.2
   rw[e1]at cL
   have rv:a.eval y= .slice none 0 0:=hy.2
   obtain⟨CR,R8,KV,bD⟩:∃A B C,a.eval x= .slice A B C:=⟨_,_,_,cL⟩
   have gv:(xc #[t,t'] o.type #[.slice CR R8 KV,.slice none 0 0]).run P w= .ok (goInt 0) w:=by
    cases CR<;>simp[xc,ef (fw he),RR,gO hs,Gg,storeCells]
   unfold lf
   have hex:execOp a.eval o=(do pure (ju (<-xc #[t,t'] o.type #[a.eval x,a.eval y]))):=by
    simp[execOp,ho,resolve,hh,a1,a2,invoke,builtin]
   simp only[hex,bD,rv,fV,gv,fW,gU]
   exact hk n ρ m _ _ G _ _ (dr.refl _ _ _ _) (dU.refl _ _) ⟨dD.put (v:= .w (.one (.int .i64 ⟨.const 0,0,0⟩))) h.t o.dst ⟨I.cz _ _,by simp[I.aM],by simp[I.aM]⟩ rfl,by rw[put_defers];exact h.d,h.b,h.ba⟩ ae
  ·cases bn
  rename_i b aQ bV ro len cap b2 QG o2 fh iv z1 e hv jC he
  rw[hv]at hx
  rw[jC]at hy
  split at bn
  rotate_left
  ·cases bn
  rename_i sh off code dn kind bK Qr PA fL tF uy G4 s hbl ps hs
  cases hc:(bw 2 kind&&b7 0 uy&&I.beq bV off&&I.beq o2 PA&&mc sh Qr&&aA aQ sh.length&&aA QG sh.length&&aA s sh.length&&k0 sh)with
  |false=>rw[hc]at bn;cases bn
  |true=>
   rw[hc]at bn
   simp only[cond_true,aG]at bn
   subst bn
   simp only[aK]at hc
   obtain⟨⟨⟨⟨⟨⟨⟨⟨c1,c2⟩,c3⟩,c4⟩,c5⟩,gy⟩,nk⟩,mF⟩,p8⟩:=hc
   have c1:=eb c1;have c2:0<uy:=eb c2;have c3:=I.beq_eq c3;have c4:=I.beq_eq c4;have c5:=uR c5;have gy:=bk gy;have nk:=bk nk;have mF:=bk mF
   subst c3;subst c4;subst c5;subst gy;subst nk;subst mF
   have a1:c.args=#[x,y]:=by rw[<-iJ (xs:=c.args),eM]
   have a2:c.argTypes=#[t,t']:=by rw[<-iJ (xs:=c.argTypes),kS]
   have l7:(A.sl b sh.length bV ro len cap).ok n bl.length ρ:=hx.1
   have WV:(A.sl b2 sh.length o2 fh iv z1).ok n bl.length ρ:=hy.1
   obtain⟨ptr,e1,e2,bt⟩:=oT (m:=m) l7
   obtain⟨apq,f1,f2,f3⟩:=oT (m:=m) WV
   have cL:a.eval x=(A.sl b sh.length bV ro len cap).den ρ m:=hx.2
   have rv:a.eval y=(A.sl b2 sh.length o2 fh iv z1).den ρ m:=hy.2
   rw[e1]at cL
   rw[f1]at rv
   obtain⟨x1,⟨x2,gP,gw,gD⟩,⟨gQ,kt,ku,kv⟩,⟨k6,j2⟩,fi,gC⟩:=l7
   obtain⟨jn,⟨qz,zq,Cd,Ce⟩,⟨Cf,Cg,Ch,Ci⟩,⟨Ca,Cc⟩,zp,Cb⟩:=WV
   have eH:(A.rows sh bV code dn kind).ok n bl.length ρ:=h.b _ (dK hbl) _ (by simp)
   have agw:(A.rows sh o2 fL tF uy).ok n bl.length ρ:=h.b _ (dK ps) _ (by simp)
   have jB:=Y6 p8
   have hcs:aj S L (bind (eZ 80 [code,ro,len]) λ_=>bind (eZ 22 [fL,fh,fh.add iv]) λ_=>bind (ev 62 [iv,len] 0 9223372036854775807) λq=>bind (ev 22 [fL,fh,fh.add q] 0 bZ) λsrc=>bind (ev 63 [code,ro,src] 0 bZ) λcode'=>pure (q,code')) n ρ λad n' p=>(p.1.aW n'/\p.2.aW n')/\(0<=p.2.den ad/\p.2.den ad<=bZ)/\(0<=ro.den ρ/\0<=len.den ρ/\ro.den ρ+len.den ρ<=(ab (code.den ρ)).length)/\
    p.1.den ad=min (iv.den ρ) (len.den ρ)/\(0<=fh.den ρ/\fh.den ρ+iv.den ρ<=(ab (fL.den ρ)).length)/\ab (p.2.den ad)=(ab (code.den ρ)).take (ro.den ρ).toNat++((ab (fL.den ρ)).drop (fh.den ρ).toNat).take (min (iv.den ρ) (len.den ρ)).toNat++(ab (code.den ρ)).drop ((ro.den ρ).toNat+(((ab (fL.den ρ)).drop (fh.den ρ).toNat).take (min (iv.den ρ) (len.den ρ)).toNat).length)/\∀r∈ab (fL.den ρ),bS sh r:=by
    refine ga λir=>ga λhk2=>?_
    have ir:0<=ro.den ρ/\0<=len.den ρ/\ro.den ρ+len.den ρ<=(ab (code.den ρ)).length:=ir
    have hk2:0<=fh.den ρ/\fh.den ρ<=(fh.add iv).den ρ/\(fh.add iv).den ρ<=(ab (fL.den ρ)).length:=hk2
    rw[I.den_add]at hk2
    obtain⟨rp,iD⟩:=apV h.ba hbl c1 eH.2.2.2 jB
    have EC:∀r∈ab (fL.den ρ),bS sh r:=by
     rcases iX (tF.den ρ) 0 with fN|fN
     ·have:=(h.ba.rws b2 sh o2 fL tF uy G4 ps (by omega)).1 fN
      rw[this];intro _ h;simp at h
     ·obtain⟨_,_,_,_,_,⟨_,b6⟩,_⟩:=(h.ba.rws b2 sh o2 fL tF uy G4 ps (by omega)).2 fN
      exact b6.1
    have AO:aB 62 ([iv,len].map (·.den ρ))=min (iv.den ρ) (len.den ρ):=rfl
    refine(fl (by rw[AO];omega) (by rw[AO];omega)).bind λax n1 q e4 dF ⟨bo,bI⟩=>?_
    rw[AO]at bI
    have b1:fL.den ax=fL.den ρ:=I.bB dF agw.1.2.1
    have qY:fh.den ax=fh.den ρ:=I.bB dF zq
    have hf:aB 22 ([fL,fh,fh.add q].map (·.den ax))=rc (((ab (fL.den ρ)).drop (fh.den ρ).toNat).take (min (iv.den ρ) (len.den ρ)).toNat):=by
     simp only[cr,dY,aB,I.den_add,b1,qY,bI]
     congr 2;omega
    have fg:rc (((ab (fL.den ρ)).drop (fh.den ρ).toNat).take (min (iv.den ρ) (len.den ρ)).toNat)<=bZ:=nS (by
     simp only[mw,rV]
     have:(ab (code.den ρ)).length<=maxLen:=rp
     omega) λr hr=>(EC r (nd (jM hr))).row p8
    refine(fl (by rw[hf];exact fE _) (by rw[hf];exact fg)).bind λbx ed src er dk ⟨s1,s2⟩=>?_
    rw[hf]at s2
    have VN:=dF.trans dk e4
    have Nx:aB 63 ([code,ro,src].map (·.den bx))=rc ((ab (code.den ρ)).take (ro.den ρ).toNat++((ab (fL.den ρ)).drop (fh.den ρ).toNat).take (min (iv.den ρ) (len.den ρ)).toNat++(ab (code.den ρ)).drop ((ro.den ρ).toNat+(((ab (fL.den ρ)).drop (fh.den ρ).toNat).take (min (iv.den ρ) (len.den ρ)).toNat).length)):=by
     simp only[cr,dY,aB,I.bB VN eH.1.2.1,I.bB VN gP,s2,dW]
    have n5:∀r∈((ab (fL.den ρ)).drop (fh.den ρ).toNat).take (min (iv.den ρ) (len.den ρ)).toNat,bS sh r:=λr hr=>EC r (nd (jM hr))
    have VU:rc ((ab (code.den ρ)).take (ro.den ρ).toNat++((ab (fL.den ρ)).drop (fh.den ρ).toNat).take (min (iv.den ρ) (len.den ρ)).toNat++(ab (code.den ρ)).drop ((ro.den ρ).toNat+(((ab (fL.den ρ)).drop (fh.den ρ).toNat).take (min (iv.den ρ) (len.den ρ)).toNat).length))<=bZ:=nS (by
     rw[Pp (by simp only[mw,rV];omega)];exact rp) λr hr=>(IV iD n5 r hr).row p8
    refine(fl (by rw[Nx];exact fE _) (by rw[Nx];exact VU)).bind λfI mQ code' rq q7 ⟨k1,k2⟩=>aj.pure ?_
    rw[Nx]at k2
    refine⟨⟨bo.mono (hT er rq),k1⟩,by rw[k2];exact⟨fE _,VU⟩,ir,?_,⟨hk2.1,hk2.2.2⟩,by rw[k2,dW],EC⟩
    rw[I.bB (dk.trans q7 er) bo,bI]
   obtain⟨ad,n',p,hn,ha,⟨⟨g1,jA⟩,g2,g3,g4,g5,g6,EC⟩,ae⟩:=hcs G (λp n=>k n (eV tm o.dst (.w (.one (.int .i64 ⟨p.1,0,9223372036854775807⟩)))) (cO bl b ([.rows sh bV p.2 dn kind],bK))) ae
   have hR:=h.later hn ha
   have d1:code.den ad=code.den ρ:=I.bB ha eH.1.2.1
   have d2:dn.den ad=dn.den ρ:=I.bB ha eH.1.2.2
   rcases iX 0 (len.den ρ)with Oe|Oe
   rotate_left
   ·have hl0:len.den ρ=0:=by omega
    have vW:p.1.den ad=0:=by rw[g4];omega
    have iP:min (iv.den ρ) (len.den ρ)=0:=by omega
    have Ij:ab (p.2.den ad)=ab (code.den ad):=by
     rw[g6,iP,d1];simp
    obtain⟨CR,R8,KV,bD⟩:∃A B C,a.eval x= .slice A B C/\B=0:=⟨_,_,_,cL,by rw[hl0];rfl⟩
    obtain⟨bD,rfl⟩:=bD
    obtain⟨KQ,R9,Tc,hY⟩:∃A B C,a.eval y= .slice A B C:=⟨_,_,_,rv⟩
    have HZ:(Gg sh.length 0 (.slice KQ R9 Tc)).run P w= .ok #[] w:=by
     cases KQ<;>simp[Gg,loadCells,loadCellsFrom]
    have gv:(xc #[t,t'] o.type #[.slice CR 0 KV,.slice KQ R9 Tc]).run P w= .ok (goInt 0) w:=by
     cases CR<;>simp[xc,ef (fw he),RR,gO hs,HZ,storeCells]
    unfold lf
    have hex:execOp a.eval o=(do pure (ju (<-xc #[t,t'] o.type #[a.eval x,a.eval y]))):=by
     simp[execOp,ho,resolve,hh,a1,a2,invoke,builtin]
    simp only[hex,bD,hY,fV,gv,fW,gU]
    refine hk n' ad m _ _ G _ _ ⟨hn,ha,by rw[ib];exact a6 _,λ_ _=>rfl⟩ (dU.refl _ _) ⟨?_,by rw[put_defers];exact h.d,hR.b.set (λy hy=>by
     simp at hy;subst hy
     exact⟨⟨eH.1.1.mono hn,jA,eH.1.2.2.mono hn⟩,g2,by rw[d2];exact eH.2.2⟩),hR.ba.apD hbl Ij⟩ ae
    rw[ib]
    refine dD.put hR.t o.dst ⟨g1,by show(0:Int)<=p.1.den ad;omega,by show p.1.den ad<=9223372036854775807;omega⟩ ?_
    show goInt 0=r3 .i64 (p.1.den ad)
    rw[vW];rfl
   have cE:0<=dn.den ρ:=by
    rcases iX (dn.den ρ) 0 with fN|fN
    ·have:=(h.ba.rws b sh bV code dn kind bK hbl (by omega)).1 fN
     rw[this]at g3;simp at g3;omega
    ·exact fN
   generalize hq:(min (iv.den ρ) (len.den ρ)).toNat=q at*
   have n5:∀r∈((ab (fL.den ρ)).drop (fh.den ρ).toNat).take q,bS sh r:=λr hr=>EC r (nd (jM hr))
   have AP:(((ab (fL.den ρ)).drop (fh.den ρ).toNat).take q).length=q:=by simp only[mw,rV];omega
   have hle:(ro.den ρ).toNat+(((ab (fL.den ρ)).drop (fh.den ρ).toNat).take q).length<=(ab (code.den ρ)).length:=by rw[AP];omega
   have mN:∀r∈ab (code.den ρ),bS sh r:=(Jz h.ba hbl c1 cE eH.2.2.2 jB).2
   obtain⟨cells,post,fz,p1,bq,cv,dI,dJ,fv,lF⟩:=hR.ba.rewrite (code':=p.2) hbl c1 (by rw[d2];exact cE) (by rw[g6];exact IV mN n5) (by rw[g6,d1];exact Pp hle)
   rw[d1]at dI dJ
   have cv:bV.den ρ=0:=by rw[<-I.bB ha x2];exact cv
   have D5:0<=cap.den ρ:=by
    rcases iX (cap.den ρ) 0 with fN|fN
    ·have:=fi fN;omega
    ·exact fN
   have bD:a.eval x= .slice (some ⟨m b,(ro.den ρ).toNat*sh.length,none⟩) (len.den ρ).toNat (cap.den ρ).toNat:=by
    rw[cL,bt D5,if_neg (by omega),cv];simp
   have hX:(aU sh (((ab (fL.den ρ)).drop (fh.den ρ).toNat).take q)).length=q*sh.length:=by rw[jz n5,AP]
   have Ns:=congrArg kA dJ
   simp only[dQ,ve,jz dI]at Ns
   have qf:(ro.den ρ).toNat*sh.length+0+(aU sh (((ab (fL.den ρ)).drop (fh.den ρ).toNat).take q)).length<=cells.size:=by
    rw[hX]
    have:((ro.den ρ).toNat+q)*sh.length<=(ab (code.den ρ)).length*sh.length:=RU _ (by omega)
    rw[rU]at this
    omega
   have hst:=JB (P:=P) (m b) ((ro.den ρ).toNat*sh.length) bK.1 fz kind (aU sh (((ab (fL.den ρ)).drop (fh.den ρ).toNat).take q)) 0 cells w bq p1 qf Hy
   rw[ld,XK dI n5 dJ hle]at hst
   rw[<-g6]at hst
   have aja:Nat.min (iv.den ρ).toNat (len.den ρ).toNat=q:=by show min _ _=q;omega
   have HZ:(Gg sh.length q (a.eval y)).run P w= .ok (aU sh (((ab (fL.den ρ)).drop (fh.den ρ).toNat).take q)).toArray w:=by
    rcases iX (z1.den ρ) 0 with fN|fN
    ·have h0:=zp fN
     have vW:q=0:=by omega
     rw[rv,f2 fN,vW,tn]
     have:=run_firstCells_none (P:=P) w sh.length 0 (iv.den ρ).toNat (if z1.den ρ<0 then 0 else(z1.den ρ).toNat)
     simpa [aU]using this
    ·rw[rv,f3 fN]
     have tN:0<=tF.den ρ∨q=0:=by
      rcases iX (tF.den ρ) 0 with ra|ra
      ·have:=(h.ba.rws b2 sh o2 fL tF uy G4 ps (by omega)).1 ra
       rw[this]at g5;simp at g5;right;omega
      ·exact .inl ra
     refine run_firstCells_some w sh.length q _ _ _ _ hX λj v hj=>?_
     rcases tN with tN|tN
     ·obtain⟨_,awl,ic,awu,bo,⟨bI,b6⟩,_⟩:=(h.ba.rws b2 sh o2 fL tF uy G4 ps (by omega)).2 tN
      have:=(b6.sub (fh.den ρ).toNat q (by omega)).flat hj
      rw[gW]
      simp only[iW,bo,qP,o3,if_false]
      exact this
     ·rw[tN,tn]at hj;simp[aU]at hj
   obtain⟨ak0,awk,hY⟩:∃B C,a.eval y= .slice apq B C:=⟨_,_,rv⟩
   have Eu:ak0=(iv.den ρ).toNat:=by rw[rv]at hY;injection hY with _ h2 _;exact h2.symm
   subst Eu
   have gv:(xc #[t,t'] o.type #[.slice (some ⟨m b,(ro.den ρ).toNat*sh.length,none⟩) (len.den ρ).toNat (cap.den ρ).toNat,a.eval y]).run P w= .ok (goInt q) (w.setRow (m b) (aU sh (ab (p.2.den ad))++post).toArray):=by
    rw[hY]at HZ⊢
    simp[xc,ef (fw he),RR,gO hs,aja,HZ,hst]
   unfold lf
   have hex:execOp a.eval o=(do pure (ju (<-xc #[t,t'] o.type #[a.eval x,a.eval y]))):=by
    simp[execOp,ho,resolve,hh,a1,a2,invoke,builtin]
   simp only[hex,bD,fV,gv,fW,gU]
   refine hk n' ad m _ _ G _ _ ⟨hn,ha,by rw[ib];exact a6 _,λ_ _=>rfl⟩ (dU.refl _ _) ⟨?_,by rw[put_defers];exact h.d,hR.b.set (λy hy=>by
    simp at hy;subst hy
    exact⟨⟨eH.1.1.mono hn,jA,eH.1.2.2.mono hn⟩,g2,by rw[d2];exact eH.2.2⟩),lF⟩ ae
   rw[ib]
   refine dD.put hR.t o.dst ⟨g1,by show(0:Int)<=p.1.den ad;rw[g4];omega,by show p.1.den ad<=9223372036854775807;rw[g4];omega⟩ ?_
   show goInt q=r3 .i64 (p.1.den ad)
   have ln:((q:Nat):Int)=p.1.den ad:=by rw[g4,<-hq];omega
   rw[<-ln];rfl
 ·cases bn
end
end Go.bg
namespace Go.bg
open M
section
variable {S:Nat->List Int->List Int->Prop} {L:V->Env->Prop} {w0:dm} {P:bm} {gl:dO} {cal:eg} {inl:iy}
theorem cond_holds {c:Bool} {t:T} {G:dw} {ρ:Env} (h:(cond c t .stuck).holds S L G ρ):c=true/\t.holds S L G ρ:=by
 cases c with
 |true=>exact⟨rfl,h⟩
 |false=>exact h.elim
theorem aqC {n:Nat} {ρ:Env} {m:Nat->Nat} {tm:List V} {bl:List ar} {a:Act} {w:ai} {G:dw} {o:Oper} {K:Act->ai->Prop} {Q:Exit->Act->ai->Prop} {k:fA}
 (cx:fk S P gl w0 cal) (hg:eK gl w0) (jf:lU S L w0 P inl) (h:R w0 n ρ m tm bl a w) (ae:(QB P gl cal inl o n tm bl k).holds S L G ρ) (hk:iZ S L w0 k n bl.length ρ m G K):o.wp P a w K Q:=by
 unfold QB at ae
 split at ae
 ·rename_i t ho
  cases hz:k7 P t with
  |none=>simp[hz,T.holds]at ae
  |some cs=>
   simp only[hz]at ae
   unfold k7 at hz
   cases hi:P.info? t with
   |none=>simp[hi]at hz
   |some i=>
    cases mO:i.zero with
    |none=>simp[hi,mO]at hz
    |some z=>
     simp only[hi,mO]at hz
     have hc:=tI hz n bl.length ρ m
     obtain⟨jT,ae⟩:=cond_holds ae
     have hw:=hk n ρ _ _ _ G _ _ (dr.alloc n ρ m bl (cs,(t,false)) w.heap.size) (dU.refl _ _) (h.alloc (t:=t) hc.1 o.dst jT) ae
     unfold lf
     simp only[execOp,ho,avD,fV,zeroValue,typeInfo,run_program,fW,hi,mO,gU,newVar,newRow,run_newObj]
     have e:(cs.map (A.den ρ m)).toArray=z.cells:=by rw[hc.2]
     rw[e]at hw
     exact hw
 ·rename_i t x ho
  have hx:=b9 h.t x
  split at ae
  ·rename_i u hu
   rw[hu]at hx
   have cL:a.eval x=u.den ρ m:=hx.2
   obtain⟨jT,ae⟩:=cond_holds ae
   have hw:=hk n ρ _ _ _ G _ _ (dr.alloc n ρ m bl (u.cells,(t,false)) w.heap.size) (dU.refl _ _) (h.alloc (t:=t) (W.z8 hx.1) o.dst jT) ae
   unfold lf
   simp only[execOp,ho,Instr.box,fV,fW,gU,newVar,newRow,run_newObj,cL]
   rw[<-W.Hc u hx.1]at hw
   exact hw
  ·exact ae.elim
 ·rename_i t len parts ho
  split at ae
  ·rename_i cs e n3
   obtain⟨g1,g2⟩:=acU (m:=m) (vals:=parts.map λ(i,x)=>(i,a.eval x)) n3 (by
    rw[r6]
    generalize parts.toList=bX
    induction bX with
    |nil=>exact trivial
    |cons p r ih=>exact⟨⟨rfl,b9 h.t p.2⟩,ih⟩)
   obtain⟨jT,ae⟩:=cond_holds ae
   have hR:=R.row (t:=e) (cs:=cs) (ex:=[]) (open_:=false) h g1 (λ_=>rfl) jT o.dst (v:= .w (.one (.slc bl.length 0 len len))) (x:= .slice (some ⟨w.heap.size,0,none⟩) len len) (by simp[V.ok,W.ok,A.ok]) (by
    show KD (some ⟨w.heap.size,0,none⟩) _ _=_
    simp[W.den,A.den,ks])
   have hw:=hk n ρ _ _ _ G _ _ (dr.alloc n ρ m bl (cs,(e,false)) w.heap.size) (dU.refl _ _) hR ae
   rw[gT]at hw
   unfold lf
   simp only[execOp,ho,fV,g2,fW,gU]
   exact hw
  ·exact ae.elim
 ·rename_i t p x ho
  have hp:=b9 h.t p
  have hx:=b9 h.t x
  split at ae
  ·rename_i b off u Oi tX
   rw[Oi]at hp
   rw[tX]at hx
   have Og:a.eval p= .pointer (some ⟨m b,off,none⟩):=hp.2
   have cL:a.eval x=u.den ρ m:=hx.2
   split at ae
   ·rename_i cs bK s hbl hs
    cases hc:(aA u.cells.length s&&bw (off+s) cs.length&&b7 0 s&&bJ cs&&bJ (cs.take off++u.cells++cs.drop (off+s)))with
    |false=>rw[hc]at ae;exact ae.elim
    |true=>
     simp only[hc,cond_true]at ae
     simp only[aK]at hc
     obtain⟨⟨hc,n7⟩,lv⟩:=hc
     have e1:=bk hc.1.1
     have e2:=eb hc.1.2
     have bt:=pd hc.2
     subst e1
     obtain⟨w',gv,tU⟩:=h.ba.store h.b (W.z8 hx.1) hbl e2 bt n7 lv t hs (u.den ρ m) (W.Hc u hx.1)
     have aZ:∀a∈cs.take off++u.cells++cs.drop (off+u.cells.length),A.ok n bl.length ρ a:=λa ha=>by
      have hcs:=h.b _ (dK hbl)
      rcases List.mem_append.1 ha with ha|ha
      ·rcases List.mem_append.1 ha with ha|ha
       ·exact hcs a (jM ha)
       ·exact W.z8 hx.1 a ha
      ·exact hcs a (nd ha)
     unfold lf
     simp only[execOp,ho,fV,Og,cL,gv,fW,gU]
     refine hk n ρ m _ _ G _ w' ⟨a6 _,agree.refl _ _,by rw[ib];exact a6 _,λ_ _=>rfl⟩ (dU.refl _ _) ⟨?_,by rw[put_defers];exact h.d,h.b.set aZ,tU⟩ ae
     rw[ib]
     exact dD.put h.t o.dst (by intro x hx;simp at hx) rfl
   ·exact ae.elim
  ·exact ae.elim
 ·rename_i c ho
  split at ae
  ·rename_i f hc
   split at ae
   ·exact Jn cx hg h ae hk
   ·have nu:∀v∈c.args.toList.map (bM tm),V.ok n bl.length ρ v:=λv hv=>by
     obtain⟨x,_,rfl⟩:=List.mem_map.1 hv
     exact(b9 h.t x).1
    have hr:=jf f n _ bl _ G ρ m w _ (λe mZ=>match e with
     | .returned v=>K (a.put o.dst v) mZ
     | .panicked chain=>Q (.panic chain) a mZ
     | .outgrown=>LetsOut Q) h.b h.ba nu (GD (xs:=c.args.toList) h.t) ae (by
     intro n' v aR dx ad m' w' val h1 h2 h3 h4 h5 h6 h7
     exact hk n' ad m' _ aR dx _ w' h1 h2 ⟨dD.put (h.t.ext h1.ha h1.hn h1.hb h1.hm) o.dst h3 h4,by rw[put_defers];exact h.d,h5,h6⟩ h7)
    have ha:(c.args.toList.map a.eval).toArray=c.args.map a.eval:=by rw[<-r6]
    rw[ha]at hr
    unfold lf
    rw[Qh hc o ho,hr.1]
    refine hr.2.mono λe mZ he=>?_
    cases e<;>exact he
  ·rename_i x hc
   split at ae
   ·exact Jn cx hg h ae hk
   split at ae
   ·rename_i f gY ahV
    have hx:=b9 h.t (.tmp x)
    obtain⟨hx1,cL⟩:(∀y∈gY,A.ok n bl.length ρ y)/\a.eval (.tmp x)= .func (.func f) #[] (gY.map (A.den ρ m)).toArray:=adC ahV hx.1 hx.2
    have nu:∀v∈c.args.toList.map (bM tm)++gY.map (λy=>V.w (.one y)),V.ok n bl.length ρ v:=λv hv=>by
     rcases List.mem_append.1 hv with hv|hv
     ·obtain⟨x,_,rfl⟩:=List.mem_map.1 hv
      exact(b9 h.t x).1
     ·obtain⟨y,hy,rfl⟩:=List.mem_map.1 hv
      exact hx1 y hy
    have hrel:ec ρ m (c.args.toList.map (bM tm)++gY.map λy=>V.w (.one y)) (c.args.toList.map a.eval++gY.map (A.den ρ m)):=by
     generalize c.args.toList=l
     induction l with
     |nil=>
      simp only[dY,jr]
      generalize gY=q
      induction q with
      |nil=>trivial
      |cons y r ih=>exact⟨rfl,ih⟩
     |cons x r ih=>exact⟨(b9 h.t x).2,ih⟩
    have hr:=jf f n _ bl _ G ρ m w _ (λe mZ=>match e with
     | .returned v=>K (a.put o.dst v) mZ
     | .panicked chain=>Q (.panic chain) a mZ
     | .outgrown=>LetsOut Q) h.b h.ba nu hrel ae (by
     intro n' v aR dx ad m' w' val h1 h2 h3 h4 h5 h6 h7
     exact hk n' ad m' _ aR dx _ w' h1 h2 ⟨dD.put (h.t.ext h1.ha h1.hn h1.hb h1.hm) o.dst h3 h4,by rw[put_defers];exact h.d,h5,h6⟩ h7)
    have hex:execOp a.eval o=callFunc f (c.args.toList.map a.eval++gY.map (A.den ρ m)).toArray:=by
     have e:(c.args.toList.map a.eval++gY.map (A.den ρ m)).toArray=#[]++c.args.map a.eval++(gY.map (A.den ρ m)).toArray:=by
      apply KC
      simp
     rw[e]
     simp only[execOp,ho,resolve,hc,cL,Deferred.ofValue,pure_bind,invoke]
    unfold lf
    rw[hex,hr.1]
    refine hr.2.mono λe mZ he=>?_
    cases e<;>exact he
   ·exact ae.elim
  ·rename_i hc
   split at ae
   ·rename_i s x t t' eM kS
    exact acq h ho hc eM kS ae hk
   ·exact ae.elim
  ·exact Jn cx hg h ae hk
 ·exact Jn cx hg h ae hk
theorem Zg {n:Nat} {ρ:Env} {m:Nat->Nat} {tm:List V} {bl:List ar} {a:Act} {w:ai} {G:dw} {o:Oper} {K:Act->ai->Prop} {Q:Exit->Act->ai->Prop} {k:fA}
 (cx:fk S P gl w0 cal) (hg:eK gl w0) (jf:lU S L w0 P inl) (h:R w0 n ρ m tm bl a w) (ae:(JM P gl cal inl o n tm bl k).holds S L G ρ) (hk:iZ S L w0 k n bl.length ρ m G K):o.wp P a w K Q:=by
 unfold JM at ae
 split at ae
 ·rename_i t ht
  exact aqD h ht ae hk
 ·split at ae
  ·rename_i t ht
   exact aqF h ht ae hk
  ·split at ae
   ·rename_i t ht
    exact aqG h ht ae hk
   ·exact aqC cx hg jf h ae hk
theorem TU {ρ:Env}:∀{b:aS} {v:Bool} {r:I×Option Int×Option Int},b.den ρ=v->p7 b v=some r->(∀c,r.2.1=some c->c<=r.1.den ρ)/\(∀c,r.2.2=some c->r.1.den ρ<=c)
 | .le p q,true,r,hb,h| .le p q,false,r,hb,h| .lt p q,true,r,hb,h| .lt p q,false,r,hb,h=>by
  simp only[aS.den,decide_eq_true_eq,decide_eq_false_iff_not]at hb
  simp only[p7]at h
  split at h
  ·rename_i c h1 h2
   have e:=I.gH h1 (ρ:=ρ)
   simp only[aG]at h
   subst h
   constructor<;>intro c' hc<;>simp only[aG,reduceCtorEq]at hc<;>subst hc<;>simp only<;>omega
  ·rename_i c h1 h2
   have e:=I.gH h2 (ρ:=ρ)
   simp only[aG]at h
   subst h
   constructor<;>intro c' hc<;>simp only[aG,reduceCtorEq]at hc<;>subst hc<;>simp only<;>omega
  ·cases h
 | .not b,v,r,hb,h=>by
  simp only[p7]at h
  refine TU (b:=b) (v:= !v) ?_ h
  simp only[aS.den]at hb
  rw[<-hb,Bool.not_not]
 | .lit _,_,_,_,h=>by simp[p7]at h
 | .eq _ _,_,_,_,h=>by simp[p7]at h
 | .and _ _,_,_,_,h=>by simp[p7]at h
 | .iff _ _,_,_,_,h=>by simp[p7]at h
theorem adL {n nb:Nat} {ρ:Env} {m:Nat->Nat} {b:aS} {v:Bool} (hb:b.den ρ=v) (u:V) (hu:u.ok n nb ρ):(Hj b v (p7 b v) u).ok n nb ρ/\∀x,u.rel ρ m x->(Hj b v (p7 b v) u).rel ρ m x:=by
 unfold Hj
 split
 ·rename_i e
  cases hc:aS.beq e b with
  |false=>simp only[cond_false];exact⟨hu,λ_ h=>h⟩
  |true=>
   have:=aS.beq_eq hc
   subst this
   simp only[cond_true]
   refine⟨trivial,λx hx=>?_⟩
   simp only[V.rel,W.den,A.den,aS.den]at hx⊢
   rw[hx,hb]
 ·rename_i k y
  cases hr:p7 b v with
  |none=>exact⟨hu,λ_ h=>h⟩
  |some r=>
   obtain⟨l,lo,hi⟩:=r
   simp only
   cases hc:I.beq y.l l with
   |false=>simp only[cond_false];exact⟨hu,λ_ h=>h⟩
   |true=>
    have:=I.beq_eq hc
    have hs:=TU hb hr
    have hy:y.ok n ρ:=hu
    simp only[cond_true]
    have b1:Bs y.lo lo<=y.l.den ρ:=by
     unfold Bs
     cases lo with
     |none=>exact hy.2.1
     |some c=>
      simp only
      have:=hs.1 c rfl
      have:=hy.2.1
      cases decide (y.lo<=c)with
      |true=>simp only[cond_true];rw[‹y.l=l›];assumption
      |false=>simp only[cond_false];assumption
    have b2:y.l.den ρ<=E5 y.hi hi:=by
     unfold E5
     cases hi with
     |none=>exact hy.2.2
     |some c=>
      simp only
      have:=hs.2 c rfl
      have:=hy.2.2
      cases decide (c<=y.hi)with
      |true=>simp only[cond_true];rw[‹y.l=l›];assumption
      |false=>simp only[cond_false];assumption
    cases hd:decide (Bs y.lo lo=E5 y.hi hi)with
    |true=>
     simp only[cond_true]
     have hd:=of_decide_eq_true hd
     refine⟨bj.lX _ _ _,λx h=>?_⟩
     have h:x= .int k (y.l.den ρ):=h
     rw[h]
     simp only[V.rel,W.den,A.den,bj.const,I.aM]
     congr 1;omega
    |false=>simp only[cond_false];exact⟨⟨hy.1,b1,b2⟩,λx h=>h⟩
 ·exact⟨hu,λ_ h=>h⟩
theorem B1 {n nb:Nat} {ρ:Env} {m:Nat->Nat} {b:aS} {v:Bool} (hb:b.den ρ=v) {tm:List V} {xs:Array az} (h:dD n nb ρ m tm xs):dD n nb ρ m (pP b v tm) xs:=by
 refine⟨by simp[pP,h.1],λi u hu=>?_⟩
 simp only[pP,mu,Option.map_eq_some_iff]at hu
 obtain⟨u0,h0,rfl⟩:=hu
 obtain⟨h1,x,h2,h3⟩:=h.2 i u0 h0
 have:=adL (m:=m) hb u0 h1
 exact⟨this.1,x,h2,this.2 x h3⟩
theorem DJ {n nb:Nat} {ρ:Env} {m:Nat->Nat} {tm:List V} {a:Act} {G:dw} {ops:Array Oper} {o:Oper} {yes no:List V->T} (ht:dD n nb ρ m tm a.tmps) (h:(xI ops tm o yes no).holds S L G ρ):
 ∃bR,dD n nb ρ m bR a.tmps/\((tl o (yielded ops a.tmps)=true/\(yes bR).holds S L G ρ)∨(tl o (yielded ops a.tmps)=false/\(no bR).holds S L G ρ)):=by
 unfold xI at h
 unfold tl
 cases hgd:o.guard with
 |none=>simp only[hgd]at h;exact⟨tm,ht,.inl ⟨rfl,h⟩⟩
 |some MI=>
  obtain⟨g,want⟩:=MI
  simp only[hgd]at h⊢
  unfold yielded
  cases hd:(ops[g]?).bind (·.dst)with
  |none=>simp[hd,T.holds]at h
  |some d=>
   simp only[hd]at h
   simp only[Option.bind_some]
   cases Oy:tm[d]? with
   |none=>simp[Oy,T.holds]at h
   |some v=>
    obtain⟨_,x,hx,hr⟩:=ht.2 d v Oy
    simp only[Oy]at h
    revert hr h
    cases v with
    |any=>intro hr h;exact h.elim
    |mT _ _ _=>intro hr h;exact h.elim
    |nm _ _=>intro hr h;exact h.elim
    |fq l=>
     cases l with
     |nil=>
      intro hr h
      have hr:x= .tuple #[]:=hr
      subst hr
      simp only[hx]
      exact⟨tm,ht,.inr ⟨by simp,h⟩⟩
     |cons _ _=>intro hr h;exact h.elim
    |w y=>
     cases y with
     |agg l=>intro hr h;exact h.elim
     |one c=>
      cases c with
      |bool b=>
       intro hr h
       have hr:x= .bool (b.den ρ):=hr
       subst hr
       simp only[hx]
       have key:∀b:aS,(T.mE b (cond want (yes (pP b true tm)) (no (pP b true tm))) (cond want (no (pP b false tm)) (yes (pP b false tm)))).holds S L G ρ->∃bR,dD n nb ρ m bR a.tmps/\(((some (b.den ρ)==some want)=true/\(yes bR).holds S L G ρ)∨((some (b.den ρ)==some want)=false/\(no bR).holds S L G ρ)):=λb hb=>by
        simp only[T.holds]at hb
        cases hq:b.den ρ with
        |true=>
         have:=hb.1 hq
         cases want with
         |true=>exact⟨_,B1 hq ht,.inl ⟨by simp,this⟩⟩
         |false=>exact⟨_,B1 hq ht,.inr ⟨by simp,this⟩⟩
        |false=>
         have:=hb.2 hq
         cases want with
         |true=>exact⟨_,B1 hq ht,.inr ⟨by simp,this⟩⟩
         |false=>exact⟨_,B1 hq ht,.inl ⟨by simp,this⟩⟩
       cases b with
       |lit v=>
        simp only[aS.den]
        cases hv:(v==want)with
        |true=>simp only[hv,cond_true]at h;exact⟨tm,ht,.inl ⟨by simpa using hv,h⟩⟩
        |false=>simp only[hv,cond_false]at h;exact⟨tm,ht,.inr ⟨by simpa using hv,h⟩⟩
       |eq _ _=>exact key _ h
       |lt _ _=>exact key _ h
       |le _ _=>exact key _ h
       |not _=>exact key _ h
       |and _ _=>exact key _ h
       |iff _ _=>exact key _ h
      |_=>intro hr h;exact h.elim
theorem R.skip {n:Nat} {ρ:Env} {m:Nat->Nat} {tm:List V} {bl:List ar} {a:Act} {w:ai} (h:R w0 n ρ m tm bl a w) (d:Option Tmp):R w0 n ρ m (eV tm d (.fq [])) bl (a.put d undef) w:=
 ⟨dD.put h.t d (by intro x hx;simp at hx) rfl,by rw[put_defers];exact h.d,h.b,h.ba⟩
theorem I6 {ops:Array Oper} {Q:Exit->Act->ai->Prop} (cx:fk S P gl w0 cal) (hg:eK gl w0) (jf:lU S L w0 P inl):∀(l:List Oper) {n:Nat} {ρ:Env} {m:Nat->Nat} {tm:List V} {bl:List ar} {a:Act} {w:ai} {G:dw} {k:fA},
 R w0 n ρ m tm bl a w->(BC P gl cal inl ops l n tm bl k).holds S L G ρ->iZ S L w0 k n bl.length ρ m G (Q .normal)->wpList P ops Q l a w
 |[],n,ρ,m,tm,bl,a,w,G,k,h,ae,hk=>hk n ρ m tm bl G a w (dr.refl _ _ _ _) (dU.refl _ _) h ae
 |o::r,n,ρ,m,tm,bl,a,w,G,k,h,ae,hk=>by
  unfold BC at ae
  unfold wpList
  obtain⟨bR,km,hgd⟩:=DJ h.t ae
  have h:R w0 n ρ m bR bl a w:=⟨km,h.d,h.b,h.ba⟩
  rcases hgd with⟨hw,ae⟩|⟨hw,ae⟩
  ·rw[if_pos hw]
   refine .inl (Zg cx hg jf h ae λn' ad m' bR aR dx dc w' h1 h2 h3 h4=>?_)
   exact I6 cx hg jf r h3 h4 (hk.later h1 h2)
  ·rw[if_neg (by simp[hw])]
   exact I6 cx hg jf r (h.skip o.dst) ae hk
theorem allT_holds {g:Nat->T} {L:V->Env->Prop} {G:dw} {ρ:Env}:∀{l:List Nat},(Lo g l).holds S L G ρ->∀i∈l,(g i).holds S L G ρ
 |[],ae,_,hi=>by cases hi
 |[j],ae,i,hi=>by simp at hi;subst hi;exact ae
 |j::OW::r,ae,i,hi=>by
  rcases List.mem_cons.1 hi with rfl|hi
  ·exact ae.1
  ·exact allT_holds (l:=OW::r) ae.2 i hi
theorem HW {ops:Array Oper} {bl:List ar} {m:Nat->Nat} {n0:Nat} {bN:Env} (cx:fk S P gl w0 cal) (hg:eK gl w0) (nv:cp n0 bl.length bN bl) (hex:∃w,Mem w0 bN m bl w) {F:Act->Prop} {G:dw}:∀(l:List Oper) {n:Nat} {ρ:Env} {tm:List V} {a:Act} {k:Nat->List V->T},
 n0<=n->agree n0 bN ρ->dD n bl.length ρ m tm a.tmps->a.defers=w0.ds->(AG P gl cal ops l n tm bl k).holds S L G ρ->
 (∀n' ad bR dc,n<=n'->agree n ρ ad->dD n' bl.length ad m bR dc.tmps->dc.defers=w0.ds->(k n' bR).holds S L G ad->F dc)->xg P ops (λw=>Mem w0 bN m bl w) F l a
 |[],n,ρ,tm,a,k,hn,ha,ht,hd,ae,hk=>hk n ρ tm a (a6 _) (agree.refl _ _) ht hd ae
 |o::r,n,ρ,tm,a,k,hn,ha,ht,hd,ae,hk=>by
  unfold AG at ae
  unfold xg
  obtain⟨s9,qj⟩:=hex
  cases dG:e9 o with
  |true=>
   simp only[dG,cond_true]at ae⊢
   exact HW cx hg nv ⟨s9,qj⟩ r hn ha ht hd ae hk
  |false=>
   simp only[dG,cond_false]at ae⊢
   obtain⟨bR,ht,hgd⟩:=DJ ht ae
   rcases hgd with⟨hw,ae⟩|⟨hw,ae⟩
   ·have hb:cp n bl.length ρ bl:=nv.ext ha hn (a6 _)
    obtain⟨ad,n',v,sD,jd,⟨hv,val,hr,hq⟩,AK⟩:=PX (L:=L) cx hb hg ⟨s9,qj.lJ nv ha⟩ ht o G _ ae
    refine⟨val,.inl ⟨hw,λw ajG=>hq w (ajG.lJ nv ha)⟩,?_⟩
    exact HW cx hg nv ⟨s9,qj⟩ r (hT hn sD) (ha.trans jd hn) (dD.put (ht.ext jd sD (a6 _) (λ_ _=>rfl)) o.dst hv hr) (by rw[put_defers];exact hd) AK
     λBy qS Zy Tx h1 h2 h3 h4 h5=>hk By qS Zy Tx (hT sD h1) (jd.trans h2 sD) h3 h4 h5
   ·exact⟨undef,.inr ⟨hw,rfl⟩,HW cx hg nv ⟨s9,qj⟩ r hn ha (dD.put (v:= .fq []) ht o.dst (by intro x hx;simp at hx) rfl) (by rw[put_defers];exact hd) ae hk⟩
def Cu (P:bm) (ops:Array Oper) (j:Nat):Obj:=
 match ops[j]? with
 |some o=>match o.op with
  | .alloc t=>match P.info? t with
   |some i=>match i.zero with
    |some z=> .cells z.cells t
    |none=>default
   |none=>default
  |_=>default
 |none=>default
theorem auQ {l:List Oper} {h j:Nat} {o:Oper} (hz:Kk P (l.take h)=true) (hj:j<h) (ho:l.toArray[j]?=some o) (dG:e9 o=true) (b:Act) (w:ai):
 (execOp b.eval o).run P w= .ok (.value (.pointer (some ⟨w.heap.size,0,none⟩))) (w.alloc (Cu P l.toArray j)):=by
 have gu:l[j]?=some o:=by simpa using ho
 have hm:o∈l.take h:=dK (i:=j) (by rw[m9,if_pos hj];exact gu)
 have h1:=List.all_eq_true.1 hz o hm
 simp only[dG,CB,Bool.false_or]at h1
 unfold Cu
 simp only[ho]
 cases hop:o.op with
 |alloc t=>
  simp only[hop]at h1
  obtain⟨cs,hcs⟩:=Option.isSome_iff_exists.1 h1
  obtain⟨i,z,hi,mO,_⟩:=Ct hcs
  simp only[execOp,hop,avD,fV,zeroValue,typeInfo,run_program,fW,hi,mO,gU,newVar,newRow,run_newObj]
  rfl
 |_=>simp[hop]at h1
theorem Lp {ops:Array Oper} {h:Nat} {an b:Act} {eY:Nat->Nat} {aQ:Nat} {w:ai} {n:Nat} {ρ:Env} {G:dw} {k:fA} {K:Act->ai->Prop} (tQ:Fin ops h an b eY) (l3:vk ops h (λ_=>True) (Cu P ops) eY aQ w) (hsz:w0.b.heap.size<=aQ) (WM:w0.r.heap.size<=aQ):
 ∀(l:List Oper) (i:Nat) {m:Nat->Nat} {tm:List V} {bl:List ar} {c:Act},(∀j,j<l.length->ops[i+j]?=l[j]?)->i+l.length=h->R w0 n ρ m tm bl c w->
  (∀(bA:Nat) (p:ar),bl[bA]?=some p->aX ρ p.1≠0->m bA<aQ∨∃j,j<i/\o8 ops j=true/\m bA=eY j)->c.tmps.size=an.tmps.size->
  (∀t:Nat,((∃j o,j<i/\ops[j]?=some o/\e9 o=true/\o.dst=some t)->c.tmps[t]?=b.tmps[t]?)/\((∀j o,j<i->ops[j]?=some o->e9 o=true->o.dst≠some t)->c.tmps[t]?=an.tmps[t]?))->
  (C3 P l n tm bl k).holds S L G ρ->iZ S L w0 k n bl.length ρ m G K->an.defers=w0.ds->K b w
 |[],i,m,tm,bl,c,hl,hi,hR,hm,hcs,hc,ae,hk,hd=>by
  simp only[gF,ld]at hi
  subst hi
  have iB:c=b:=abV (by rw[hR.d,tQ.d,hd]) λt=>by
   by_cases ht:∃j o,j<i/\ops[j]?=some o/\e9 o=true/\o.dst=some t
   ·exact(hc t).1 ht
   ·have hno:∀j o,j<i->ops[j]?=some o->e9 o=true->o.dst≠some t:=λj o h1 h2 h3 h4=>ht ⟨j,o,h1,h2,h3,h4⟩
    rw[(hc t).2 hno,tQ.no t hno]
  subst iB
  exact hk n ρ m tm bl G c w (dr.refl _ _ _ _) (dU.refl _ _) hR ae
 |o::r,i,m,tm,bl,c,hl,hi,hR,hm,hcs,hc,ae,hk,hd=>by
  have ho:ops[i]?=some o:=by have:=hl 0 (by simp);simpa using this
  have hr:∀j,j<r.length->ops[i+1+j]?=r[j]?:=λj hj=>by
   have:=hl (j+1) (by simp;omega)
   rw[show i+1+j=i+(j+1) by omega,this];simp
  have mK:i+1+r.length=h:=by simp at hi;omega
  unfold C3 at ae
  cases dG:e9 o with
  |false=>
   simp only[dG,cond_false]at ae
   refine Lp tQ l3 hsz WM r (i+1) hr mK hR (λbA p lu hp=>(hm bA p lu hp).imp id λ⟨j,h1,h2⟩=>⟨j,by omega,h2⟩) hcs (λt=>⟨λ⟨j,bV,h1,h2,h3,h4⟩=>?_,λhno=>(hc t).2 λj bV h1=>hno j bV (by omega)⟩) ae hk hd
   by_cases jQ:j=i
   ·subst jQ
    have:bV=o:=gE (h2.symm.trans ho)
    subst this
    rw[dG]at h3;cases h3
   ·exact(hc t).1 ⟨j,bV,by omega,h2,h3,h4⟩
  |true=>
   simp only[dG,cond_true]at ae
   cases hop:o.op with
   |alloc ty=>
    simp only[hop]at ae
    cases hz:k7 P ty with
    |none=>simp[hz,T.holds]at ae
    |some cs=>
     simp only[hz]at ae
     obtain⟨jT,ae⟩:=cond_holds ae
     obtain⟨inf,z,ain,mO,hh⟩:=Ct hz
     have Nt:=tI hh n bl.length ρ m
     have hH:o8 ops i=true:=by simp[o8,ho,dG]
     have NM:i<h:=by simp at hi;omega
     obtain⟨g1,g2⟩:=l3.1 i NM trivial hH
     have ajM:Cu P ops i= .cells (cs.map (A.den ρ m)).toArray ty (0,0):=by
      unfold Cu
      simp only[ho,hop,ain,mO,Nt.2]
     rw[ajM]at g2
     have hne:∀(bA:Nat) (p:ar),bl[bA]?=some p->aX ρ p.1≠0->m bA≠eY i:=λbA p lu hp e=>by
      rcases hm bA p lu hp with h1|⟨j,h1,h2,h3⟩
      ·omega
      ·have:=l3.2 j i (by omega) NM trivial trivial h2 hH (h3.symm.trans e)
       omega
     have gz:=hR.ba.push (x:=(cs,(ty,false))) hR.b Nt.1 (λ_=>⟨by omega,.inr (by omega),[],λ_=>rfl,by rw[gT];exact g2⟩) (λsh off code cap kind e=>by simp only at e;subst e;cases jT) λi p hi he=> .inr (.inl (aau λhk=>hne i p hi hk he))
     have cJ:=dr.alloc n ρ m bl (cs,(ty,false)) (eY i)
     have pq:R w0 n ρ (jl m bl.length (eY i)) (eV tm o.dst (.w (.one (.ptr bl.length 0)))) (bl++[(cs,(ty,false))]) (c.put o.dst (.pointer (some ⟨eY i,0,none⟩))) w:=
      ⟨dD.put (hR.t.ext cJ.ha cJ.hn cJ.hb cJ.hm) o.dst (by simp[V.ok,W.ok,A.ok]) (by simp[V.rel,W.den,A.den,ks]),by rw[put_defers];exact hR.d,hR.b.alloc Nt.1,gz⟩
     refine Lp tQ l3 hsz WM r (i+1) hr mK pq (λbA p lu hp=>?_) ((yR _ _ _).trans hcs) (λt=>⟨λ⟨j,bV,h1,h2,h3,h4⟩=>?_,λhno=>?_⟩) ae (hk.later cJ (dU.refl _ _)) hd
     ·by_cases iO:bA<bl.length
      ·rw[j1 iO]
       rw[rZ iO]at lu
       exact(hm bA p lu hp).imp id λ⟨j,h1,h2⟩=>⟨j,by omega,h2⟩
      ·have:bA=bl.length:=by have:=(List.getElem?_eq_some_iff.1 lu).1;simp at this;omega
       subst this
       rw[ks]
       exact .inr ⟨i,by omega,hH,rfl⟩
     ·by_cases ht:o.dst=some t
      ·rw[ht]
       simp only[Act.put]
       rcases Nat.lt_or_ge t c.tmps.size with h5|h5
       ·have n3:t<b.tmps.size:=by rw[tQ.aQ,<-hcs];exact h5
        rw[tQ.al t i o NM ho dG ht n3]
        simp[h5]
       ·rw[FX (by simpa using h5),FX (by rw[tQ.aQ,<-hcs];exact h5)]
      ·rw[sT ht]
       by_cases jQ:j=i
       ·subst jQ
        have:bV=o:=gE (h2.symm.trans ho)
        subst this
        exact absurd h4 ht
       ·exact(hc t).1 ⟨j,bV,by omega,h2,h3,h4⟩
     ·have ht:o.dst≠some t:=hno i o (by omega) ho dG
      rw[sT ht]
      exact(hc t).2 λj bV h1=>hno j bV (by omega)
   |_=>simp[hop,T.holds]at ae
end
end Go.bg
namespace Go.bg
open M
theorem adF {a b:az} (h:L0 a b=true):a=b:=by
 unfold L0 at h
 split at h
 ·rfl
 ·rfl
 ·rename_i f a b nq dc b5
  simp only[aK]at h
  obtain⟨⟨⟨⟨h1,h2⟩,h3⟩,h4⟩,h5⟩:=h
  rw[bk h1,vb (bk h2),vb (bk h3),vb (bk h4),vb (bk h5)]
 ·cases h
theorem A.beq_eq {a b:A} (h:A.beq a b=true):a=b:=by
 cases a<;>cases b<;>simp only[A.beq]at h<;>(try(cases h;done))
 case int.int k x aP y=>
  simp only[aK,decide_eq_true_eq,beq_iff_eq]at h
  obtain⟨⟨⟨h1,h2⟩,h3⟩,h4⟩:=h
  cases x;cases y
  simp only at h2 h3 h4
  rw[h1,I.beq_eq h2,h3,h4]
 case bool.bool x y=>
  rw[aS.beq_eq h]
 case con.con=>rw[adF h]
 case ptr.ptr=>simp only[aK]at h;rw[bk h.1,bk h.2]
 case gptr.gptr=>simp only[aK]at h;rw[bk h.1,bk h.2]
 case slc.slc=>
  simp only[aK]at h
  rw[bk h.1.1.1,bk h.1.1.2,bk h.1.2,bk h.2]
 case str.str=>rw[I.beq_eq h]
 case rows.rows=>
  simp only[aK]at h
  rw[uR h.1.1.1.1,I.beq_eq h.1.1.1.2,I.beq_eq h.1.1.2,I.beq_eq h.1.2,bk h.2]
 case sl.sl=>
  simp only[aK]at h
  rw[bk h.1.1.1.1.1,bk h.1.1.1.1.2,I.beq_eq h.1.1.1.2,I.beq_eq h.1.1.2,I.beq_eq h.1.2,I.beq_eq h.2]
 case ep.ep=>
  simp only[aK]at h
  rw[bk h.1.1.1.1,bk h.1.1.1.2,I.beq_eq h.1.1.2,I.beq_eq h.1.2,bk h.2]
theorem zU:∀{a b:List A},nj a b=true->a=b
 |[],[],_=>rfl
 |x::r,y::s,h=>by
  simp only[nj,aK]at h
  rw[A.beq_eq h.1,zU h.2]
 |[],_::_,h=>by simp[nj]at h
 |_::_,[],h=>by simp[nj]at h
theorem V.beq_eq {a b:V} (h:V.beq a b=true):a=b:=by
 cases a with
 |any=>cases b<;>simp[V.beq]at h
 |fq l=>cases l<;>cases b<;>simp[V.beq]at h;rename_i bp;cases bp<;>simp[V.beq]at h;rfl
 |w x=>
  cases b with
  |w y=>cases x<;>cases y<;>simp[V.beq]at h;rw[A.beq_eq h];rw[zU h]
  |_=>cases x<;>simp[V.beq]at h
 |mT _ _ _=>simp[V.beq]at h
 |nm f l=>
  cases b with
  |nm nq bp=>
   simp only[V.beq,aK]at h
   rw[bk h.1,zU h.2]
  |_=>simp[V.beq]at h
theorem B3:∀(zs:List Int) (n:Nat) (ρ:Env) (j:Nat),j<zs.length->bu ρ n zs (n+j)=zs.getD j 0
 |[],_,_,_,h=>by simp at h
 |z::zs,n,ρ,0,_=>by
  show bu (cI ρ n z) (n+1) zs (n+0)=z
  rw[agree.bu zs (n+1) _ (n+0) (by omega)]
  exact iH ρ n z
 |z::zs,n,ρ,j+1,h=>by
  show bu (cI ρ n z) (n+1) zs (n+(j+1))=_
  rw[show n+(j+1)=n+1+j by omega,B3 zs (n+1) _ j (by simpa using h)]
  rfl
def xr (n nb:Nat) (ρ:Env) (m:Nat->Nat):List V->List az->Prop
 |[],[]=>True
 |v::r,x::s=>v.ok n nb ρ/\v.rel ρ m x/\xr n nb ρ m r s
 |_,_=>False
theorem Tk {n nb:Nat} {ρ:Env} {m:Nat->Nat}:∀{tm:List V} {xs:List az},dD n nb ρ m tm xs.toArray->xr n nb ρ m tm xs
 |[],[],_=>trivial
 |v::r,x::s,h=>by
  have h0:=h.2 0 v rfl
  obtain⟨h1,y,h2,h3⟩:=h0
  simp at h2;subst h2
  refine⟨h1,h3,Tk (tm:=r) (xs:=s) ⟨by simpa using h.1,λi u hu=>?_⟩⟩
  have:=h.2 (i+1) u (by simpa using hu)
  simpa using this
 |[],_::_,h=>by have:=h.1;simp at this
 |_::_,[],h=>by have:=h.1;simp at this
theorem GI {n nb:Nat} {ρ:Env} {m:Nat->Nat}:∀{tm:List V} {xs:List az},xr n nb ρ m tm xs->dD n nb ρ m tm xs.toArray
 |[],[],_=>⟨rfl,λi v h=>by simp at h⟩
 |v::r,x::s,h=>by
  have ih:=GI h.2.2
  refine⟨by simpa using ih.1,λi u hu=>?_⟩
  cases i with
  |zero=>simp at hu;subst hu;exact⟨h.1,x,by simp,h.2.1⟩
  |succ i=>have:=ih.2 i u (by simpa using hu);simpa using this
 |[],_::_,h=>h.elim
 |_::_,[],h=>h.elim
theorem rz:∀{b b5:List (Int×Int)} {l bp:List Int},aO b l->aO b5 bp->aO (b++b5) (l++bp)
 |[],_,[],_,_,h=>h
 |_::_,_,_::_,_,h,h'=>⟨h.1,h.2.1,rz h.2.2 h'⟩
 |[],_,_::_,_,h,_=>h.elim
 |_::_,_,[],_,h,_=>h.elim
theorem agree.symm {n:Nat} {ρ ad:Env} (h:agree n ρ ad):agree n ad ρ:=λi hi=>(h i hi).symm
theorem V.back {n nb:Nat} {bN ad bx:Env} {m0 m':Nat->Nat} {v:V} {x:az} (h0:v.ok n nb bN) (ha:agree n bN ad) (h2:agree n bN bx) (hm:∀b,b<nb->m' b=m0 b) (hr:v.rel ad m' x):v.ok n nb bx/\v.rel bx m0 x:=by
 have aiV:v.ok n nb ad:=h0.ext ha (a6 _) (a6 _)
 exact⟨h0.ext h2 (a6 _) (a6 _),hr.ext aiV (ha.symm.trans h2 (a6 _)) λb hb=>(hm b hb).symm⟩
section
variable {eN:List Nat} {ints:List (Nat×Int×Int)}
theorem AS:∀{tm:List V} {i s:Nat} {t:List V} {l:List I} {b:List (Int×Int)},hs eN ints i s tm=some (t,l,b)->l.length=b.length/\t.length=tm.length
 |[],i,s,t,l,b,h=>by simp[hs]at h;obtain⟨rfl,rfl,rfl⟩:=h;exact⟨rfl,rfl⟩
 |v::r,i,s,t,l,b,h=>by
  unfold hs at h
  cases hk:eN.any (aA i)with
  |true=>
   simp only[hk,cond_true]at h
   cases hr:hs eN ints (i+1) s r with
   |none=>simp[hr]at h
   |some q=>
    obtain⟨t',bp,b5⟩:=q
    simp only[hr,aG,cj]at h
    obtain⟨rfl,rfl,rfl⟩:=h
    have:=AS hr
    simp[this]
  |false=>
   simp only[hk,cond_false]at h
   cases hf:vz i ints with
   |none=>
    simp only[hf]at h
    cases hr:hs eN ints (i+1) s r with
    |none=>simp[hr]at h
    |some q=>
     obtain⟨t',bp,b5⟩:=q
     simp only[hr,aG,cj]at h
     obtain⟨rfl,rfl,rfl⟩:=h
     have:=AS hr
     simp[this]
   |some q=>
    obtain⟨lo,hi⟩:=q
    simp only[hf]at h
    split at h
    ·rename_i k x
     cases hc:(decide (lo<=x.lo)&&decide (x.hi<=hi))with
     |false=>simp[hc]at h
     |true=>
      simp only[hc,cond_true]at h
      cases hr:hs eN ints (i+1) (s+1) r with
      |none=>simp[hr]at h
      |some q=>
       obtain⟨t',bp,b5⟩:=q
       simp only[hr,aG,cj]at h
       obtain⟨rfl,rfl,rfl⟩:=h
       have:=AS hr
       simp[this]
    ·cases hr:hs eN ints (i+1) (s+1) r with
     |none=>simp[hr]at h
     |some q=>
      obtain⟨t',bp,b5⟩:=q
      simp only[hr,aG,cj]at h
      obtain⟨rfl,rfl,rfl⟩:=h
      have:=AS hr
      simp[this]
    ·cases h
theorem EF {n nb N:Nat} {bN ad bx:Env} {m0 m':Nat->Nat} {n' jh:Nat} (ha:agree n bN ad) (h2:agree n bN bx) (hm:∀b,b<nb->m' b=m0 b) (nw:n<=N):
 ∀{tm bR:List V} {xs:List az} {i s:Nat} {t t':List V} {l bp:List I} {b b5:List (Int×Int)},
 (∀v∈tm,V.ok n nb bN v)->xr n' jh ad m' bR xs->hs eN ints i s tm=some (t,l,b)->hs eN ints i s bR=some (t',bp,b5)->kM t t'=true->
 (∀j,j<bp.length->bx (s+j)=(bp.getD j (.const 0)).den ad)->s+bp.length<=N->xr N nb bx m0 t xs/\aO b (bp.map (·.den ad))/\bp.length=l.length
 |[],[],[],i,s,t,t',l,bp,b,b5,h0,hr,e1,e2,hf,hv,hN=>by
  simp[hs]at e1 e2
  obtain⟨rfl,rfl,rfl⟩:=e1
  obtain⟨rfl,rfl,rfl⟩:=e2
  exact⟨trivial,trivial,rfl⟩
 |v::r,v'::r',x::xs,i,s,t,t',l,bp,b,b5,h0,hr,e1,e2,hf,hv,hN=>by
  obtain⟨aZ,hrel,yj⟩:=hr
  have xJ:∀v∈r,V.ok n nb bN v:=λu hu=>h0 u (cR _ hu)
  unfold hs at e1 e2
  cases hk:eN.any (aA i)with
  |true=>
   simp only[hk,cond_true]at e1 e2
   cases eT:hs eN ints (i+1) s r with
   |none=>simp[eT]at e1
   |some bo=>
    obtain⟨t1,l1,b1⟩:=bo
    cases gh:hs eN ints (i+1) s r' with
    |none=>simp[gh]at e2
    |some bI=>
     obtain⟨t2,l2,b2⟩:=bI
     simp only[eT,aG,cj]at e1
     simp only[gh,aG,cj]at e2
     obtain⟨rfl,rfl,rfl⟩:=e1
     obtain⟨rfl,rfl,rfl⟩:=e2
     have hv0:=h0 v (by simp)
     have key:kM t1 t2=true/\(v= .any∨v=v'):=by
      unfold kM at hf
      split at hf
      ·rename_i heq _;cases heq
      ·rename_i h1 h2;cases h1;cases h2;exact⟨hf,.inl rfl⟩
      ·rename_i h1 h2;cases h1;cases h2
       simp only[aK]at hf
       exact⟨hf.2,.inr (V.beq_eq hf.1)⟩
      ·cases hf
     obtain⟨p1,bq,cv⟩:=EF ha h2 hm nw xJ yj eT gh key.1 hv hN
     refine⟨⟨?_,?_,p1⟩,bq,cv⟩
     ·exact hv0.ext h2 nw (a6 _)
     ·rcases key.2 with rfl|rfl
      ·trivial
      ·exact(V.back hv0 ha h2 hm hrel).2
  |false=>
   simp only[hk,cond_false]at e1 e2
   cases hE:vz i ints with
   |none=>
    simp only[hE]at e1 e2
    cases eT:hs eN ints (i+1) s r with
    |none=>simp[eT]at e1
    |some bo=>
     obtain⟨t1,l1,b1⟩:=bo
     cases gh:hs eN ints (i+1) s r' with
     |none=>simp[gh]at e2
     |some bI=>
      obtain⟨t2,l2,b2⟩:=bI
      simp only[eT,aG,cj]at e1
      simp only[gh,aG,cj]at e2
      obtain⟨rfl,rfl,rfl⟩:=e1
      obtain⟨rfl,rfl,rfl⟩:=e2
      obtain⟨p1,bq,cv⟩:=EF ha h2 hm nw xJ yj eT gh (by simpa [kM]using hf) hv hN
      exact⟨⟨trivial,trivial,p1⟩,bq,cv⟩
   |some q=>
    obtain⟨lo,hi⟩:=q
    simp only[hE]at e1 e2
    split at e1
    ·rename_i k y
     split at e2
     ·rename_i aP jm
      cases hc1:(decide (lo<=y.lo)&&decide (y.hi<=hi))with
      |false=>simp[hc1]at e1
      |true=>
       cases hc2:(decide (lo<=jm.lo)&&decide (jm.hi<=hi))with
       |false=>simp[hc2]at e2
       |true=>
        simp only[hc1,cond_true]at e1
        simp only[hc2,cond_true]at e2
        cases eT:hs eN ints (i+1) (s+1) r with
        |none=>simp[eT]at e1
        |some bo=>
         obtain⟨t1,l1,b1⟩:=bo
         cases gh:hs eN ints (i+1) (s+1) r' with
         |none=>simp[gh]at e2
         |some bI=>
          obtain⟨t2,l2,b2⟩:=bI
          simp only[eT,aG,cj]at e1
          simp only[gh,aG,cj]at e2
          obtain⟨rfl,rfl,rfl⟩:=e1
          obtain⟨rfl,rfl,rfl⟩:=e2
          simp only[kM,aK]at hf
          have lu:=V.beq_eq hf.1
          simp only[V.w.injEq,W.one.injEq,A.int.injEq]at lu
          simp only[aK,decide_eq_true_eq]at hc2
          obtain⟨p1,bq,cv⟩:=EF ha h2 hm nw xJ yj eT gh hf.2 (λj hj=>by
           have:=hv (j+1) (by simpa using hj)
           rw[show s+1+j=s+(j+1) by omega];simpa using this) (by simp at hN;omega)
          have hv0:=hv 0 (by simp)
          simp only[ld,qK]at hv0
          have hb:=aZ.2
          simp only[V.rel,W.den,A.den]at hrel
          refine⟨⟨⟨I.ez (by simp at hN;omega),?_,?_⟩,?_,p1⟩,⟨?_,?_,bq⟩,by simp[cv]⟩
          ·simp only[I.cg,hv0];omega
          ·simp only[I.cg,hv0];omega
          ·simp only[V.rel,W.den,A.den,I.cg,hv0,lu.1];exact hrel
          ·simp only;omega
          ·simp only;omega
     ·cases eT:hs eN ints (i+1) (s+1) r' with
      |none=>simp[eT]at e2
      |some bI=>
       obtain⟨t2,l2,b2⟩:=bI
       simp only[eT,aG,cj]at e2
       obtain⟨rfl,rfl,rfl⟩:=e2
       cases hc1:(decide (lo<=y.lo)&&decide (y.hi<=hi))with
       |false=>simp[hc1]at e1
       |true=>
        simp only[hc1,cond_true]at e1
        cases gh:hs eN ints (i+1) (s+1) r with
        |none=>simp[gh]at e1
        |some bo=>
         obtain⟨t1,l1,b1⟩:=bo
         simp only[gh,aG,cj]at e1
         obtain⟨rfl,rfl,rfl⟩:=e1
         simp[kM,V.beq,A.beq]at hf
     ·cases e2
    ·rename_i y
     split at e2
     ·rename_i aP jm
      cases eT:hs eN ints (i+1) (s+1) r with
      |none=>simp[eT]at e1
      |some bo=>
       obtain⟨t1,l1,b1⟩:=bo
       simp only[eT,aG,cj]at e1
       obtain⟨rfl,rfl,rfl⟩:=e1
       cases hc2:(decide (lo<=jm.lo)&&decide (jm.hi<=hi))with
       |false=>simp[hc2]at e2
       |true=>
        simp only[hc2,cond_true]at e2
        cases gh:hs eN ints (i+1) (s+1) r' with
        |none=>simp[gh]at e2
        |some bI=>
         obtain⟨t2,l2,b2⟩:=bI
         simp only[gh,aG,cj]at e2
         obtain⟨rfl,rfl,rfl⟩:=e2
         simp[kM,V.beq,A.beq]at hf
     ·rename_i jm
      cases eT:hs eN ints (i+1) (s+1) r with
      |none=>simp[eT]at e1
      |some bo=>
       obtain⟨t1,l1,b1⟩:=bo
       cases gh:hs eN ints (i+1) (s+1) r' with
       |none=>simp[gh]at e2
       |some bI=>
        obtain⟨t2,l2,b2⟩:=bI
        simp only[eT,aG,cj]at e1
        simp only[gh,aG,cj]at e2
        obtain⟨rfl,rfl,rfl⟩:=e1
        obtain⟨rfl,rfl,rfl⟩:=e2
        simp only[kM,aK]at hf
        obtain⟨p1,bq,cv⟩:=EF ha h2 hm nw xJ yj eT gh hf.2 (λj hj=>by
         have:=hv (j+1) (by simpa using hj)
         rw[show s+1+j=s+(j+1) by omega];simpa using this) (by simp at hN;omega)
        have hv0:=hv 0 (by simp)
        simp only[ld,qK]at hv0
        have hb:0<=jm.den ad/\jm.den ad<=ch:=aZ.2
        have hrel:x= .string (bd (U (jm.den ad))):=hrel
        refine⟨⟨⟨I.ez (by simp at hN;omega),?_⟩,?_,p1⟩,⟨hb.1,hb.2,bq⟩,by simp[cv]⟩
        ·simp only[I.cg,hv0];exact hb
        ·simp only[V.rel,W.den,A.den,I.cg,hv0];exact hrel
     ·cases e2
    ·cases e1
 |[],_::_,_,i,s,t,t',l,bp,b,b5,h0,hr,e1,e2,hf,hv,hN=>by
  simp[hs]at e1
  obtain⟨rfl,_,_⟩:=e1
  have:=(AS e2).2
  cases t' with
  |nil=>simp at this
  |cons _ _=>simp[kM]at hf
 |_::_,[],_,i,s,t,t',l,bp,b,b5,h0,hr,e1,e2,hf,hv,hN=>by
  simp[hs]at e2
  obtain⟨rfl,_,_⟩:=e2
  have:=(AS e1).2
  cases t with
  |nil=>simp at this
  |cons y z=>cases y<;>simp[kM]at hf
 |_::_,_::_,[],i,s,t,t',l,bp,b,b5,h0,hr,e1,e2,hf,hv,hN=>hr.elim
 |[],[],_::_,i,s,t,t',l,bp,b,b5,h0,hr,e1,e2,hf,hv,hN=>hr.elim
end
def CV (n nb:Nat) (ρ:Env) (m:Nat->Nat):List A->List az->Prop
 |[],[]=>True
 |a::r,x::s=>A.ok n nb ρ a/\x=a.den ρ m/\CV n nb ρ m r s
 |_,_=>False
theorem Th {n nb:Nat} {ρ:Env} {m:Nat->Nat}:∀{l:List A},(∀a∈l,A.ok n nb ρ a)->CV n nb ρ m l (l.map (A.den ρ m))
 |[],_=>trivial
 |a::r,h=>⟨h a (by simp),rfl,Th λx hx=>h x (cR _ hx)⟩
theorem Ti {n nb:Nat} {ρ:Env} {m:Nat->Nat}:∀{l:List A} {xs:List az},CV n nb ρ m l xs->(∀a∈l,A.ok n nb ρ a)/\xs=l.map (A.den ρ m)
 |[],[],_=>⟨by simp,rfl⟩
 |a::r,x::s,h=>by
  have ih:=Ti h.2.2
  exact⟨λy hy=>by rcases List.mem_cons.1 hy with rfl|hy;exact h.1;exact ih.1 y hy,by rw[h.2.1,ih.2];rfl⟩
 |[],_::_,h=>h.elim
 |_::_,[],h=>h.elim
theorem A.back {n nb:Nat} {bN ad bx:Env} {m0 m':Nat->Nat} {v:A} (h0:v.ok n nb bN) (ha:agree n bN ad) (h2:agree n bN bx) (hm:∀b,b<nb->m' b=m0 b):v.den ad m'=v.den bx m0:=by
 rw[A.jy h0 ha hm,A.jy (m':=m0) h0 h2 (λ_ _=>rfl)]
section
variable {ints:List (Nat×Int×Int)}
theorem AA:∀{cs:List A} {i s:Nat} {t:List A} {l:List I} {b:List (Int×Int)},ha ints i s cs=some (t,l,b)->l.length=b.length/\t.length=cs.length
 |[],i,s,t,l,b,h=>by simp[ha]at h;obtain⟨rfl,rfl,rfl⟩:=h;exact⟨rfl,rfl⟩
 |v::r,i,s,t,l,b,h=>by
  unfold ha at h
  cases hf:vz i ints with
  |none=>
   simp only[hf]at h
   cases hr:ha ints (i+1) s r with
   |none=>simp[hr]at h
   |some q=>
    obtain⟨t',bp,b5⟩:=q
    simp only[hr,aG,cj]at h
    obtain⟨rfl,rfl,rfl⟩:=h
    have:=AA hr
    simp[this]
  |some q=>
   obtain⟨lo,hi⟩:=q
   simp only[hf]at h
   cases hc:iL lo hi s v with
   |none=>simp[hc]at h
   |some p=>
    obtain⟨a,x,en⟩:=p
    simp only[hc]at h
    cases hr:ha ints (i+1) (s+1) r with
    |none=>simp[hr]at h
    |some q=>
     obtain⟨t',bp,b5⟩:=q
     simp only[hr,aG,cj]at h
     obtain⟨rfl,rfl,rfl⟩:=h
     have:=AA hr
     simp[this]
theorem adr {n nb N:Nat} {bN ad bx:Env} {m0 m':Nat->Nat} {n' jh:Nat} {lo hi:Int} {s:Nat} {v v' a dc:A} {x fF:I} {en acH:Int×Int} (fm:agree n bN ad) (h2:agree n bN bx) (nw:n<=N)
 (h0:v.ok n nb bN) (h':v'.ok n' jh ad) (e1:iL lo hi s v=some (a,x,en)) (e2:iL lo hi s v'=some (dc,fF,acH)) (hf:a=dc) (hv:bx s=fF.den ad) (hN:s<N):
 a.ok N nb bx/\a.den bx m0=v'.den ad m'/\en.1<=fF.den ad/\fF.den ad<=en.2:=by
 subst hf
 have n9:(I.var s).den bx=fF.den ad:=by rw[I.cg,hv]
 cases v with
 |int k y=>
  simp only[iL]at e1
  cases hc1:(decide (lo<=y.lo)&&decide (y.hi<=hi))with
  |false=>simp[hc1]at e1
  |true=>
   simp only[hc1,cond_true,aG,cj]at e1
   obtain⟨rfl,rfl,rfl⟩:=e1
   cases v' with
   |int aP jm=>
    simp only[iL]at e2
    cases hc2:(decide (lo<=jm.lo)&&decide (jm.hi<=hi))with
    |false=>simp[hc2]at e2
    |true=>
     simp only[hc2,cond_true,aG,cj,A.int.injEq]at e2
     obtain⟨⟨rfl,_⟩,rfl,rfl⟩:=e2
     simp only[aK,decide_eq_true_eq]at hc2
     have h':jm.ok n' ad:=h'
     have hb:=h'.2
     refine⟨⟨I.ez hN,by simp only[n9];omega,by simp only[n9];omega⟩,by simp only[A.den,n9],by simp only;omega,by simp only;omega⟩
   |str _=>simp[iL]at e2
   |rows _ _ _ _ _=>simp[iL]at e2
   |_=>simp[iL]at e2
 |str y=>
  simp only[iL,aG,cj]at e1
  obtain⟨rfl,rfl,rfl⟩:=e1
  cases v' with
  |str jm=>
   simp only[iL,aG,cj]at e2
   obtain⟨_,rfl,rfl⟩:=e2
   have hb:0<=jm.den ad/\jm.den ad<=ch:=h'.2
   exact⟨⟨I.ez hN,by rw[n9];exact hb⟩,by simp only[A.den,n9],hb.1,hb.2⟩
  |int aP jm=>
   simp only[iL]at e2
   cases hc2:(decide (lo<=jm.lo)&&decide (jm.hi<=hi))<;>simp[hc2]at e2
  |rows _ _ _ _ _=>simp[iL]at e2
  |_=>simp[iL]at e2
 |rows sh off code cap k=>
  simp only[iL,aG,cj]at e1
  obtain⟨rfl,rfl,rfl⟩:=e1
  cases v' with
  |rows ei gj code' fZ aP=>
   simp only[iL,aG,cj,A.rows.injEq]at e2
   obtain⟨_,rfl,rfl⟩:=e2
   obtain⟨⟨s1,s2,fR⟩,_,b3⟩:=h0
   obtain⟨_,b2,_⟩:=h'
   refine⟨⟨⟨s1.mono nw,I.ez hN,fR.mono nw⟩,by rw[n9];exact b2,by rw[I.bB h2 fR];exact b3⟩,by simp only[A.den,n9],b2.1,b2.2⟩
  |int aP jm=>
   simp only[iL]at e2
   cases hc2:(decide (lo<=jm.lo)&&decide (jm.hi<=hi))<;>simp[hc2]at e2
  |str _=>simp[iL]at e2
  |_=>simp[iL]at e2
 |_=>simp[iL]at e1
theorem Ni {n nb N:Nat} {bN ad bx:Env} {m0 m':Nat->Nat} {n' jh:Nat} (fm:agree n bN ad) (h2:agree n bN bx) (hm:∀b,b<nb->m' b=m0 b) (nw:n<=N):
 ∀{cs gZ:List A} {xs:List az} {i s:Nat} {t t':List A} {l bp:List I} {b b5:List (Int×Int)},
 (∀v∈cs,A.ok n nb bN v)->CV n' jh ad m' gZ xs->ha ints i s cs=some (t,l,b)->ha ints i s gZ=some (t',bp,b5)->nj t t'=true->
 (∀j,j<bp.length->bx (s+j)=(bp.getD j (.const 0)).den ad)->s+bp.length<=N->CV N nb bx m0 t xs/\aO b (bp.map (·.den ad))/\bp.length=l.length
 |[],[],[],i,s,t,t',l,bp,b,b5,h0,hr,e1,e2,hf,hv,hN=>by
  simp[ha]at e1 e2
  obtain⟨rfl,rfl,rfl⟩:=e1
  obtain⟨rfl,rfl,rfl⟩:=e2
  exact⟨trivial,trivial,rfl⟩
 |v::r,v'::r',x::xs,i,s,t,t',l,bp,b,b5,h0,hr,e1,e2,hf,hv,hN=>by
  obtain⟨aZ,hrel,yj⟩:=hr
  have xJ:∀v∈r,A.ok n nb bN v:=λu hu=>h0 u (cR _ hu)
  unfold ha at e1 e2
  cases hE:vz i ints with
  |none=>
   simp only[hE]at e1 e2
   cases eT:ha ints (i+1) s r with
   |none=>simp[eT]at e1
   |some bo=>
    obtain⟨t1,l1,b1⟩:=bo
    cases gh:ha ints (i+1) s r' with
    |none=>simp[gh]at e2
    |some bI=>
     obtain⟨t2,l2,b2⟩:=bI
     simp only[eT,aG,cj]at e1
     simp only[gh,aG,cj]at e2
     obtain⟨rfl,rfl,rfl⟩:=e1
     obtain⟨rfl,rfl,rfl⟩:=e2
     simp only[nj,aK]at hf
     have yn:=A.beq_eq hf.1
     subst yn
     have hv0:=h0 v (by simp)
     obtain⟨p1,bq,cv⟩:=Ni fm h2 hm nw xJ yj eT gh hf.2 hv hN
     exact⟨⟨hv0.ext h2 nw (a6 _),by rw[hrel,A.back hv0 fm h2 hm],p1⟩,bq,cv⟩
  |some q=>
   obtain⟨lo,hi⟩:=q
   simp only[hE]at e1 e2
   cases hc1:iL lo hi s v with
   |none=>simp[hc1]at e1
   |some p1=>
    obtain⟨a1,x1,d1⟩:=p1
    cases hc2:iL lo hi s v' with
    |none=>simp[hc2]at e2
    |some bq=>
     obtain⟨a2,x2,d2⟩:=bq
     simp only[hc1]at e1
     simp only[hc2]at e2
     cases eT:ha ints (i+1) (s+1) r with
     |none=>simp[eT]at e1
     |some bo=>
      obtain⟨t1,l1,b1⟩:=bo
      cases gh:ha ints (i+1) (s+1) r' with
      |none=>simp[gh]at e2
      |some bI=>
       obtain⟨t2,l2,b2⟩:=bI
       simp only[eT,aG,cj]at e1
       simp only[gh,aG,cj]at e2
       obtain⟨rfl,rfl,rfl⟩:=e1
       obtain⟨rfl,rfl,rfl⟩:=e2
       simp only[nj,aK]at hf
       obtain⟨p1,bq,cv⟩:=Ni fm h2 hm nw xJ yj eT gh hf.2 (λj hj=>by
        have:=hv (j+1) (by simpa using hj)
        rw[show s+1+j=s+(j+1) by omega];simpa using this) (by simp at hN;omega)
       have hv0:=hv 0 (by simp)
       simp only[ld,qK]at hv0
       obtain⟨c1,c2,c3,c4⟩:=adr (m0:=m0) (m':=m') fm h2 nw (h0 v (by simp)) aZ hc1 hc2 (A.beq_eq hf.1) hv0 (by simp at hN;omega)
       exact⟨⟨c1,by rw[hrel,c2],p1⟩,⟨c3,c4,bq⟩,by simp[cv]⟩
 |[],_::_,_,i,s,t,t',l,bp,b,b5,h0,hr,e1,e2,hf,hv,hN=>by
  simp[ha]at e1
  obtain⟨rfl,_,_⟩:=e1
  have:=(AA e2).2
  cases t' with
  |nil=>simp at this
  |cons _ _=>simp[nj]at hf
 |_::_,[],_,i,s,t,t',l,bp,b,b5,h0,hr,e1,e2,hf,hv,hN=>by
  simp[ha]at e2
  obtain⟨rfl,_,_⟩:=e2
  have:=(AA e1).2
  cases t with
  |nil=>simp at this
  |cons y z=>simp[nj]at hf
 |_::_,_::_,[],i,s,t,t',l,bp,b,b5,h0,hr,e1,e2,hf,hv,hN=>hr.elim
 |[],[],_::_,i,s,t,t',l,bp,b,b5,h0,hr,e1,e2,hf,hv,hN=>hr.elim
end
section
variable {cells:List (Nat×Nat×Int×Int)}
theorem D0:∀{bl:List ar} {i s:Nat} {t:List ar} {l:List I} {b:List (Int×Int)},hb cells i s bl=some (t,l,b)->l.length=b.length/\t.length=bl.length
 |[],i,s,t,l,b,h=>by simp[hb]at h;obtain⟨rfl,rfl,rfl⟩:=h;exact⟨rfl,rfl⟩
 |(cs,ty)::r,i,s,t,l,b,h=>by
  unfold hb at h
  cases hc:ha (cellsOf i cells) 0 s cs with
  |none=>simp[hc]at h
  |some q=>
   obtain⟨c,l1,b1⟩:=q
   simp only[hc]at h
   cases hr:hb cells (i+1) (s+l1.length) r with
   |none=>simp[hr]at h
   |some q=>
    obtain⟨t',bp,b5⟩:=q
    simp only[hr,aG,cj]at h
    obtain⟨rfl,rfl,rfl⟩:=h
    have h1:=AA hc
    have h2:=D0 hr
    simp[h1,h2]
theorem U4 {l bp:List I} {j:Nat} (h:j<l.length) (d:I):(l++bp).getD j d=l.getD j d:=by
 simp[af,rZ h]
theorem U5 {l bp:List I} {j:Nat} (d:I):(l++bp).getD (l.length+j) d=bp.getD j d:=by
 simp only[af];rw[zu (by omega)];simp
theorem VT {n nb N:Nat} {bN ad bx:Env} {m0 m':Nat->Nat} {n' jh:Nat} (fm:agree n bN ad) (h2:agree n bN bx) (hm:∀b,b<nb->m' b=m0 b) (nw:n<=N):
 ∀{bl aR:List ar} {i s:Nat} {t t':List ar} {l bp:List I} {b b5:List (Int×Int)},
 cp n nb bN bl->cp n' jh ad aR->hb cells i s bl=some (t,l,b)->hb cells i s aR=some (t',bp,b5)->kL t t'=true->
 (∀j,j<bp.length->bx (s+j)=(bp.getD j (.const 0)).den ad)->s+bp.length<=N->
 cp N nb bx t/\aO b (bp.map (·.den ad))/\bp.length=l.length/\∀(j:Nat) (c:List A) (ty:aN×Bool),t[j]?=some (c,ty)->∃c':List A,aR[j]?=some (c',ty)/\c.map (A.den bx m0)=c'.map (A.den ad m')
 |[],[],i,s,t,t',l,bp,b,b5,h0,hr,e1,e2,hf,hv,hN=>by
  simp[hb]at e1 e2
  obtain⟨rfl,rfl,rfl⟩:=e1
  obtain⟨rfl,rfl,rfl⟩:=e2
  exact⟨λp hp=>by simp at hp,trivial,rfl,λj c ty h=>by simp at h⟩
 |(cs,ty)::r,(gZ,arn)::r',i,s,t,t',l,bp,b,b5,h0,hr,e1,e2,hf,hv,hN=>by
  unfold hb at e1 e2
  cases hc1:ha (cellsOf i cells) 0 s cs with
  |none=>simp[hc1]at e1
  |some bo=>
   obtain⟨c1,l1,b1⟩:=bo
   cases hc2:ha (cellsOf i cells) 0 s gZ with
   |none=>simp[hc2]at e2
   |some bI=>
    obtain⟨c2,l2,b2⟩:=bI
    simp only[hc1]at e1
    simp only[hc2]at e2
    cases eT:hb cells (i+1) (s+l1.length) r with
    |none=>simp[eT]at e1
    |some bo=>
     obtain⟨t1,O2,zS⟩:=bo
     cases gh:hb cells (i+1) (s+l2.length) r' with
     |none=>simp[gh]at e2
     |some bI=>
      obtain⟨t2,O3,qY⟩:=bI
      simp only[eT,aG,cj]at e1
      simp only[gh,aG,cj]at e2
      obtain⟨rfl,rfl,rfl⟩:=e1
      obtain⟨rfl,rfl,rfl⟩:=e2
      simp only[kL,aK]at hf
      have EK:ty=arn:=Prod.ext (bk hf.1.1.2) (by simpa using hf.1.2)
      subst EK
      have MY:s+l2.length+O3.length<=N:=by simp at hN;omega
      obtain⟨p1,bq,cv⟩:=Ni fm h2 hm nw (λv hv=>h0 (cs,ty) (by simp) v hv) (Th (m:=m') λv hv=>hr (gZ,ty) (by simp) v hv) hc1 hc2 hf.1.1.1 (λj hj=>by
       have:=hv j (by simp;omega)
       rwa [U4 hj]at this) (by omega)
      rw[<-cv]at eT
      obtain⟨bo,bI,b6,dz⟩:=VT fm h2 hm nw (λp hp=>h0 p (cR _ hp)) (λp hp=>hr p (cR _ hp)) eT gh hf.2 (λj hj=>by
       have:=hv (l2.length+j) (by simp;omega)
       rw[U5]at this
       rw[<-this];congr 1;omega) MY
      have hp:=Ti p1
      refine⟨λp Of a VR=>?_,by rw[ff];exact rz bq bI,by simp[cv,b6],λj c aro hj=>?_⟩
      ·rcases List.mem_cons.1 Of with rfl|Of
       ·exact hp.1 a VR
       ·exact bo p Of a VR
      ·cases j with
       |zero=>simp at hj;obtain⟨rfl,rfl⟩:=hj;exact⟨gZ,rfl,hp.2.symm⟩
       |succ j=>simp at hj;obtain⟨c',h1,h2⟩:=dz j c aro hj;exact⟨c',by simpa using h1,h2⟩
 |[],_::_,i,s,t,t',l,bp,b,b5,h0,hr,e1,e2,hf,hv,hN=>by
  simp[hb]at e1
  obtain⟨rfl,_,_⟩:=e1
  have:=(D0 e2).2
  cases t' with
  |nil=>simp at this
  |cons _ _=>simp[kL]at hf
 |_::_,[],i,s,t,t',l,bp,b,b5,h0,hr,e1,e2,hf,hv,hN=>by
  simp[hb]at e2
  obtain⟨rfl,_,_⟩:=e2
  have:=(D0 e1).2
  cases t with
  |nil=>simp at this
  |cons y z=>simp[kL]at hf
def B0 (p q:List A):Prop:=∃sh off code code' cap k,p=[.rows sh off code cap k]/\q=[.rows sh off code' cap k]
theorem B0.refl {p:List A} (h:bJ p=false):B0 p p:=by
 unfold bJ at h
 split at h
 ·exact⟨_,_,_,_,_,_,rfl,rfl⟩
 ·cases h
theorem adq {lo hi:Int} {s:Nat} {v a:A} {x:I} {en:Int×Int} (h:iL lo hi s v=some (a,x,en)):bJ [a]=bJ [v]/\(bJ [a]=false->B0 [a] [v]):=by
 unfold iL at h
 split at h
 ·rename_i k x
  cases hc:(decide (lo<=x.lo)&&decide (x.hi<=hi))with
  |false=>simp[hc]at h
  |true=>
   simp only[hc,cond_true,aG,cj]at h
   obtain⟨rfl,_,_⟩:=h
   exact⟨rfl,λh=>by cases h⟩
 ·simp only[aG,cj]at h
  obtain⟨rfl,_,_⟩:=h
  exact⟨rfl,λh=>by cases h⟩
 ·simp only[aG,cj]at h
  obtain⟨rfl,_,_⟩:=h
  exact⟨rfl,λ_=>⟨_,_,_,_,_,_,rfl,rfl⟩⟩
 ·cases h
theorem OU (a b:A) (l:List A):bJ (a::b::l)=true:=by cases a<;>rfl
theorem ahD {ints:List (Nat×Int×Int)} {i s:Nat} {cs:List A} {l:List I} {b:List (Int×Int)} {t:List A} (h:ha ints i s cs=some (t,l,b)):(bJ t=bJ cs)/\(bJ t=false->B0 t cs):=by
 have hl:=(AA h).2
 match cs,t,hl with
 |[],[],_=>exact⟨rfl,λh=>by cases h⟩
 |a::b::r,dc::b5::r',_=>exact⟨by rw[OU,OU],λh=>by rw[OU]at h;cases h⟩
 |[v],[a],_=>
  unfold ha at h
  cases hf:vz i ints with
  |none=>
   simp[hf,ha]at h
   obtain⟨rfl,_,_⟩:=h
   exact⟨rfl,λh=>B0.refl h⟩
  |some q=>
   obtain⟨lo,hi⟩:=q
   simp only[hf]at h
   cases hc:iL lo hi s v with
   |none=>simp[hc]at h
   |some p=>
    obtain⟨dc,x,en⟩:=p
    simp[hc,ha]at h
    obtain⟨rfl,_,_⟩:=h
    exact adq hc
theorem Nl:∀{bl:List ar} {i s:Nat} {t:List ar} {l:List I} {b:List (Int×Int)},hb cells i s bl=some (t,l,b)->∀(k:Nat) (p:ar),t[k]?=some p->∃q:ar,bl[k]?=some q/\bJ p.1=bJ q.1/\p.2=q.2/\(bJ p.1=false->B0 p.1 q.1)
 |[],i,s,t,l,b,h=>by simp[hb]at h;obtain⟨rfl,rfl,rfl⟩:=h;intro k p hp;simp at hp
 |(cs,ty)::r,i,s,t,l,b,h=>by
  unfold hb at h
  cases hc1:ha (cellsOf i cells) 0 s cs with
  |none=>simp[hc1]at h
  |some bo=>
   obtain⟨c1,l1,b1⟩:=bo
   simp only[hc1]at h
   cases eT:hb cells (i+1) (s+l1.length) r with
   |none=>simp[eT]at h
   |some bo=>
    obtain⟨t1,O2,zS⟩:=bo
    simp only[eT,aG,cj]at h
    obtain⟨rfl,rfl,rfl⟩:=h
    intro k p hp
    cases k with
    |zero=>
     simp only[qO,aG]at hp
     subst hp
     have:=ahD hc1
     exact⟨(cs,ty),rfl,this.1,rfl,this.2⟩
    |succ k=>obtain⟨q,h1,h2⟩:=Nl eT k p (by simpa using hp);exact⟨q,by simpa using h1,h2⟩
theorem UH:∀{a b:List ar},kL a b=true->∀(k:Nat) (p:ar),a[k]?=some p->b[k]?=some p
 |[],[],_,k,p,h=>by simp at h
 |(c,t)::r,(c',t')::s,hf,k,p,h=>by
  simp only[kL,aK]at hf
  have EK:t=t':=Prod.ext (bk hf.1.1.2) (by simpa using hf.1.2)
  have hc:=zU hf.1.1.1
  subst EK;subst hc
  cases k with
  |zero=>simpa using h
  |succ k=>have:=UH hf.2 k p (by simpa using h);simpa using this
 |[],_::_,h,_,_,_=>by simp[kL]at h
 |_::_,[],h,_,_,_=>by simp[kL]at h
end
end Go.bg
namespace Go.bg
variable {P:bm} {rd:Option Nat}
def o4 (rd:Option Nat):Fence:={zD with round:=rd}
def oA (Q:Exit->Act->ai->Prop):Exit->Act->ai->Prop
 | .normal,a,w=>Q .normal a w
 |_,_,_=>False
theorem oA.imp {Q:Exit->Act->ai->Prop}:∀(e:Exit) (a:Act) (w:ai),calm (oA Q) e a w->Q e a w:=λe a w h=>by
 cases e<;>first|exact h|exact(h:False).elim
theorem oA.let {Q:Exit->Act->ai->Prop}:¬LetsOut (oA Q):=λ⟨a,w,h⟩=>h
theorem oA.ak5 {Q:Exit->Act->ai->Prop}:¬LetsOut (calm (oA Q)):=λ⟨a,w,h⟩=>h
def rF (o:Oper):Bool:=match o.op with| .defer _=>false|_=>true
def ko:Code->Bool
 | .region _ ops _=>ops.toList.all rF
 | .seq a b=>ko a&&ko b
 | .cond _ a b=>ko a&&ko b
 | .block _ c=>ko c
 | .loop c=>ko c
 |_=>true
theorem amr {o:Oper} (h:rF o=true):∀c,o.op≠ .defer c:=λc e=>by simp[rF,e]at h
theorem adg {n:Nat} {f:cy} {args:Array az} {w:ai} {R:Ending->ai->Prop} (h:iY P f args w R):CallsIn (o4 rd) n P f args w R:=callsIn_wide.2 h
theorem apR {n:Nat} {row:String} {args:Array az} {w:ai} {R:az->ai->Prop} (h:Rows P row args w R):RowsIn (o4 rd) n P row args w R:=
 λc cs _=>let⟨v,w',r,s⟩:=h c cs;⟨v,w',r,stepsIn_wide.2 s⟩
theorem X6 {o:Oper} {a:Act} {w:ai} {K:Act->ai->Prop} {Q:Exit->Act->ai->Prop} (hd:rd=none∨rF o=true) (h:o.wp P a w K Q):o.wpIn (o4 rd) 0 P a w K Q:=by
 refine⟨λ_ _=>trivial,?_⟩
 have e:o.semAt (o4 rd).round a.eval=execOp a.eval o:=by
  rcases hd with h|h
  ·subst h;rfl
  ·exact o.semAt_eq _ _ (amr h)
 rw[e]
 unfold lf at h
 generalize (execOp a.eval o).run P w=r at*
 cases r with
 |ok n w'=>
  cases n<;>simp only[Oper.upon,avO]at h⊢
  case value u=>exact h
  case skip=>exact h
  case defer d=>exact h
  case enter f args=>exact⟨λhs=>by simp[o4,zD]at hs,adg h⟩
  case row row args=>exact⟨λhs=>by simp[o4,zD]at hs,apR h⟩
 |halt x w'=>
  cases x<;>simp only[Oper.upon,avO]at h⊢
  case panic u=>exact h
variable {ops:Array Oper} {Q:Exit->Act->ai->Prop}
theorem Q7 (cJ:¬LetsOut Q):∀{l:List Oper} {a:Act} {w:ai},(rd=none∨l.all rF=true)->wpList P ops Q l a w->wpListIn (o4 rd) 0 P ops Q l a w
 |[],_,_,_,h=>h
 |o::r,a,w,hd,h=>by
  have h1:rd=none∨rF o=true:=hd.imp id λh=>by simp only[Kn,aK]at h;exact h.1
  have h2:rd=none∨r.all rF=true:=hd.imp id λh=>by simp only[Kn,aK]at h;exact h.2
  unfold wpList at h
  unfold wpListIn
  split
  ·rename_i hw
   rw[if_pos hw]at h
   rcases h with h|h
   ·exact avP (λa w h=>Q7 cJ h2 h) (X6 h1 h)
   ·exact absurd h.2 cJ
  ·rename_i hw
   rw[if_neg hw]at h
   exact⟨λ_ _=>trivial,Q7 cJ h2 h⟩
theorem J1 {md:Region.Mode} (hd:rd=none∨ops.toList.all rF=true) (cJ:¬LetsOut Q):∀{f:Nat} {listed:Array Bool} {a:Act} {w:ai},wpAny P md ops Q f listed a w->wpAnyIn (o4 rd) 0 P md ops Q f listed a w
 |0,_,_,_,h=>h
 |f+1,listed,a,w,h=>by
  refine⟨h.1,λi hi=>?_⟩
  have h2:=h.2 i hi
  unfold wpOp at h2
  unfold wpOpIn
  cases ho:ops[i]? with
  |none=>simp only[ho]at h2⊢;exact J1 hd cJ h2
  |some o=>
   simp only[ho]at h2⊢
   have h1:rd=none∨rF o=true:=hd.imp id λh=>List.all_eq_true.1 h o (by simpa using Array.mem_of_getElem? ho)
   split
   ·rename_i hw
    rw[if_pos hw]at h2
    rcases h2 with h2|h2
    ·exact avP (λa w h=>J1 hd cJ h) (X6 h1 h2)
    ·exact absurd h2.2 cJ
   ·rename_i hw
    rw[if_neg hw]at h2
    exact⟨λ_ _=>trivial,J1 hd cJ h2⟩
theorem apE {id:Nat} {a:Act} {w:ai} (hd:rd=none∨ops.toList.all rF=true) (h:wpList P ops (oA Q) ops.toList a w):(avQ id ops false).wpIn (o4 rd) 0 P Q a w:=
 wpIn_mono (wpIn_region_list (Q7 oA.let hd h)) λe a w h=>oA.imp e a w (by cases e<;>first|exact h|exact(h:False).elim)
theorem YA {id:Nat} {a:Act} {w:ai} (hm:P.follows .mixedOrders=true) (hd:rd=none∨ops.toList.all rF=true)
 (h:wpAny P .any ops (calm (oA Q)) ops.size (th ops.size false) a {w with drawn:=w.drawn+1}):(avQ id ops true).wpIn (o4 rd) 0 P Q a w:=
 wpIn_mono (wpIn_region_any hm (J1 hd oA.ak5 h)) oA.imp
end Go.bg
namespace Go.bg
open M
section
variable {S:Nat->List Int->List Int->Prop} {L:V->Env->Prop} {w0:dm} {P:bm} {gl:dO} {cal:eg} {rd:Option Nat}
def zH (S:Nat->List Int->List Int->Prop) (L:V->Env->Prop) (w0:dm) (k:p2) (n nb:Nat) (ρ:Env) (m:Nat->Nat) (G:dw) (Q:Exit->Act->ai->Prop):Prop:=
 ∀x n' ad m' bR aR dx dc w',dr n nb ρ m n' (kA aR) ad m'->dU n G dx->R w0 n' ad m' bR aR dc w'->(k x n' bR aR).holds S L dx ad->Q x.to dc w'
theorem zH.later {k:p2} {n nb n1 wA:Nat} {ρ ax:Env} {m iG:Nat->Nat} {G G1:dw} {Q:Exit->Act->ai->Prop} (h:zH S L w0 k n nb ρ m G Q) (hl:dr n nb ρ m n1 wA ax iG) (hA:dU n G G1):zH S L w0 k n1 wA ax iG G1 Q:=
 λx n' ad m' bR aR dx dc w' h1 h2 h3 h4=>h x n' ad m' bR aR dx dc w' (hl.trans h1) (hA.trans h2 hl.hn) h3 h4
def KU (rd:Option Nat) (S:Nat->List Int->List Int->Prop) (L:V->Env->Prop) (w0:dm) (P:bm) (c:Code) (e:Nat->List V->List ar->p2->T):Prop:=(rd=none∨ko c=true)->
 ∀n tm bl k G ρ m a w Q,R w0 n ρ m tm bl a w->(e n tm bl k).holds S L G ρ->zH S L w0 k n bl.length ρ m G Q->c.wpIn (o4 rd) 0 P Q a w
theorem YJ {c:Code} {e:Nat->List V->List ar->p2->T} (hd:rd=none∨ko c=true) (he:KU rd S L w0 P c e) {Q:Exit->Act->ai->Prop}:∀(r:Nat) {n:Nat} {ρ:Env} {m:Nat->Nat} {tm:List V} {bl:List ar} {a:Act} {w:ai} {G:dw} {k:p2},
 R w0 n ρ m tm bl a w->(P7 e r n tm bl k).holds S L G ρ->zH S L w0 k n bl.length ρ m G Q->Code.roundsIn (o4 rd) 0 P c Q r a w
 |0,_,_,_,_,_,_,_,_,_,_,ae,_=>ae.elim
 |r+1,n,ρ,m,tm,bl,a,w,G,k,h,ae,hk=>by
  rw[roundsIn_succ]
  refine he hd n tm bl _ G ρ m a w _ h ae λx n' ad m' bR aR dx dc w' h1 h2 h3 h4=>?_
  cases x with
  |normal=>exact YJ hd he r h3 h4 (hk.later h1 h2)
  |exit id=>exact hk (.exit id) n' ad m' bR aR dx dc w' h1 h2 h3 h4
  |ret=>exact hk .ret n' ad m' bR aR dx dc w' h1 h2 h3 h4
theorem aa6 {n nb:Nat} {ρ:Env} {m:Nat->Nat} {tm:List V} {xs:Array az} (h:dD n nb ρ m tm xs):xr n nb ρ m tm xs.toList:=Tk (by simpa using h)
theorem Wa {li:dC} {n:Nat} {bN ad:Env} {m0 m':Nat->Nat} {tm bR j0 uU:List V} {bl aR dS mD:List ar} {l1 l2 v1 v2 ext:List I} {b1 b2 zS qY:List (Int×Int)} {n':Nat} {a:Act} {w:ai}
 (hlen:bl.length<=aR.length)
 (ha:agree n bN ad) (hm:∀b,b<bl.length->m' b=m0 b) (ht:∀v∈tm,V.ok n bl.length bN v) (nv:cp n bl.length bN bl)
 (h:R w0 n' ad m' bR aR a w) (e1:hs li.eN li.ints 0 (n+1) tm=some (j0,l1,b1)) (e2:hb li.cells 0 (n+1+l1.length) bl=some (dS,l2,b2))
 (bt:hs li.eN li.ints 0 (n+1) bR=some (uU,v1,zS)) (eS:hb li.cells 0 (n+1+v1.length) (aR.take bl.length)=some (mD,v2,qY))
 (f1:kM j0 uU=true) (f2:kL dS mD=true):
 v1.length+v2.length=l1.length+l2.length/\aO (b1++b2) ((v1++v2).map (·.den ad))/\R w0 (n+1+l1.length+l2.length+ext.length) (bu bN (n+1) ((v1++v2++ext).map (·.den ad))) m0 j0 dS a w/\dS.length=bl.length/\∀(i:Nat) (p:ar),dS[i]?=some p->i<bl.length/\∃p':ar,aR[i]?=some p'/\aX (bu bN (n+1) ((v1++v2++ext).map (·.den ad))) p.1=aX ad p'.1:=by
 have Nj:agree n bN (bu bN (n+1) ((v1++v2++ext).map (·.den ad))):=(agree.bu _ (n+1) bN).mono (by omega)
 have vR:∀j,j<(v1++v2).length->bu bN (n+1) ((v1++v2++ext).map (·.den ad)) (n+1+j)=((v1++v2).getD j (.const 0)).den ad:=λj hj=>by
  rw[B3 _ _ _ j (by simp at hj⊢;omega)]
  have oO:j<(v1++v2++ext).length:=by simp at hj⊢;omega
  have e:(v1++v2++ext)[j]=(v1++v2)[j]:=List.getElem_append_left hj
  simp only[af,mu,jt hj,jt oO,qM,qN,e]
 have axL:v1.length+v2.length=(v1++v2).length:=by simp
 obtain⟨p1,bq,cv⟩:=EF (N:=n+1+v1.length+v2.length+ext.length) ha Nj hm (by omega) ht (aa6 h.t) e1 bt f1 (λj hj=>by
  rw[vR j (by simp;omega),U4 hj]) (by omega)
 rw[<-cv]at e2
 have D3:cp n' aR.length ad (aR.take bl.length):=λp hp=>h.b p (jM hp)
 obtain⟨bo,bI,b6,dz⟩:=VT (N:=n+1+v1.length+v2.length+ext.length) ha Nj hm (by omega) nv D3 e2 eS f2 (λj hj=>by
  rw[show n+1+v1.length+j=n+1+(v1.length+j) by omega,vR (v1.length+j) (by simp;omega),U5]) (by omega)
 have hbl:dS.length=bl.length:=(D0 e2).2
 refine⟨by omega,by rw[ff];exact rz bq bI,?_⟩
 rw[<-cv,<-b6]
 have tL:∀(i:Nat) (p:ar),dS[i]?=some p->i<bl.length/\∃p':ar,aR[i]?=some p'/\bJ p.1=bJ p'.1/\p.2=p'.2/\(bJ p.1=false->∃sh off code code' cap k,p.1=[.rows sh off code cap k]/\p'.1=[.rows sh off code' cap k]/\off.aW n/\cap.aW n):=λi p hi=>by
  have hH:i<bl.length:=by rw[<-hbl];exact(List.getElem?_eq_some_iff.1 hi).1
  obtain⟨p',h1,h2,DN,h3⟩:=Nl eS i p (UH f2 i p hi)
  rw[m9,if_pos hH]at h1
  obtain⟨p0,g1,_,_,g3⟩:=Nl e2 i p hi
  refine⟨hH,p',h1,h2,DN,λho=>?_⟩
  obtain⟨sh,off,code,code',cap,k,s1,s2⟩:=h3 ho
  obtain⟨ei,gj,c1,c2,fZ,aP,fR,nF⟩:=g3 ho
  rw[s1]at fR
  cases fR
  have aZ:A.ok n bl.length bN (.rows sh off c2 cap k):=nv _ (dK g1) _ (by rw[nF];simp)
  exact⟨sh,off,code,code',cap,k,s1,s2,aZ.1.1,aZ.1.2.2⟩
 have Nk:agree n ad (bu bN (n+1) ((v1++v2++ext).map (·.den ad))):=ha.sym.trans Nj (a6 _)
 have hk2:∀(p p':ar),bJ p.1=bJ p'.1->(bJ p.1=false->∃sh off code code' cap k,p.1=[.rows sh off code cap k]/\p'.1=[.rows sh off code' cap k]/\off.aW n/\cap.aW n)->aX (bu bN (n+1) ((v1++v2++ext).map (·.den ad))) p.1=aX ad p'.1:=λp p' h1 h2=>by
  cases ho:bJ p.1 with
  |true=>rw[iQ ho,iQ (h1▸ho)]
  |false=>
   obtain⟨sh,off,code,code',cap,k,s1,s2,fR,nF⟩:=h2 ho
   rw[s1,s2]
   simp only[aX]
   rw[I.bB Nk nF]
 refine⟨?_,hbl,λi p hi=>by
  obtain⟨g1,p',g2,g3,_,g4⟩:=tL i p hi
  exact⟨g1,p',g2,hk2 p p' g3 g4⟩⟩
 refine⟨?_,h.d,by rw[hbl];exact bo,⟨h.ba.ext,h.ba.gg,h.ba.iF,h.ba.gI,h.ba.eI,h.ba.fM,λi cs t hi ho=>?_,λi sh off code cap kind t hi=>?_,λi j p q hi hj he=>?_⟩⟩
 ·rw[hbl]
  have:=GI p1
  simpa using this
 ·obtain⟨c',h1,h2⟩:=dz i cs t hi
  obtain⟨hH,p',k1,k2,_⟩:=tL i _ hi
  rw[m9,if_pos hH,k1]at h1
  have h1:=gE h1
  subst h1
  obtain⟨g1,jA,r,hr,g2⟩:=h.ba.et i c' t k1 (k2▸ho)
  rw[<-hm i hH]
  exact⟨g1,jA,r,hr,by rw[h2];exact g2⟩
 ·obtain⟨hH,p',k1,_,k2,k3⟩:=tL i _ hi
  obtain⟨ei,gj,c1,c2,fZ,aP,s1,s2,fR,nF⟩:=k3 rfl
  cases s1
  obtain⟨C,t'⟩:=p'
  simp only at s2 k2
  subst s2;subst k2
  obtain⟨c',h1,h2⟩:=dz i _ t hi
  rw[m9,if_pos hH,k1]at h1
  cases h1
  simp only[cr,dY,A.den,hS,ayF,and_true,true_and]at h2
  rw[<-hm i hH]
  have hR:=h.ba.rws i sh off c2 cap kind t k1
  unfold o6 at hR⊢
  rw[I.bB Nk fR,I.bB Nk nF,h2]
  exact hR
 ·obtain⟨hH,p',k1,k2,_,k3⟩:=tL i p hi
  obtain⟨yb,q',l1,l2,_,yL⟩:=tL j q hj
  rw[hk2 p p' k2 k3,hk2 q q' l2 yL]
  rw[<-hm i hH,<-hm j yb]at he
  exact h.ba.inj i j p' q' k1 l1 he
theorem dD.set {n nb:Nat} {ρ:Env} {m:Nat->Nat} {tm:List V} {xs:Array az} {s:Nat} {v:V} (h:dD n nb ρ m tm xs) (hv:v.ok n nb ρ) (hr:∀x,xs[s]?=some x->v.rel ρ m x):dD n nb ρ m (pN tm s v) xs:=by
 rw[Qq]
 refine⟨by simp[h.1],λi u hu=>?_⟩
 rw[nO]at hu
 split at hu
 ·rename_i ajm
  subst ajm
  split at hu
  ·rename_i hlt
   cases hu
   rw[h.1]at hlt
   exact⟨hv,_,F2 hlt,hr _ (F2 hlt)⟩
  ·cases hu
 ·exact h.2 i u hu
def zG (tmps:Array az):List Nat->List Int->Prop
 |[],[]=>True
 |s::r,z::zs=>(0<=z/\z<=1)/\(∀x,tmps[s]?=some x->x= .bool (decide (z=1)))/\zG tmps r zs
 |_,_=>False
def xe (w0:dm) (w:ai) (tmps:Array az) (F:Nat->Prop):List (Nat×List aw×aN)->List Int->Prop
 |[],[]=>True
 |(s,sh,e)::r,code::len::cap::zs=>∃g:Nat,(∀x,tmps[s]?=some x->x=if cap<0 then .slice none 0 0 else .slice (some ⟨g,0,none⟩) len.toNat cap.toNat)/\zk 0 0 len cap/\(0<=code/\code<=bZ)/\(cap<0->ab code=[])/\
    (0<=cap->∃cells:Array az,w.heap[g]?=some (.cells cells e (0,0))/\kc cells 0 sh (ab code)/\cells.size=cap.toNat*sh.length/\w0.b.heap.size<=g/\(w0.ex g∨w0.r.heap.size<=g))/\
    (0<=cap->F g)/\xe w0 w tmps (λjb=>F jb/\(0<=cap->jb≠g)) r zs
 |_,_=>False
theorem LC {nb:Nat} {tm:List V} {m:Nat->Nat} {tmps:Array az}:∀{l:List Nat} {n:Nat} {ρ:Env},dD n nb ρ m tm tmps->aj S L (Db tm l) n ρ λad n' ls=>(∀x∈ls,I.aW n' x)/\ls.length=l.length/\zG tmps l (ls.map (·.den ad))
 |[],n,ρ,ht=>aj.pure ⟨λ_ h=>by simp at h,rfl,trivial⟩
 |s::r,n,ρ,ht=>by
  unfold Db
  split
  ·rename_i e hs
   obtain⟨h1,x,h2,h3⟩:=ht.2 s _ hs
   have h3:x= .bool (e.den ρ):=h3
   have key:aj S L (match e with| .lit v=>pure (I.const (cond v 1 0))|e=>yu e) n ρ λad n' l=>l.aW n'/\(0<=l.den ad/\l.den ad<=1)/\e.den ρ=decide (l.den ad=1):=by
    cases e with
    |lit v=>cases v<;>exact aj.pure ⟨I.cz _ _,by simp only[I.aM];decide,by simp only[I.aM,aS.den];rfl⟩
    |_=>exact Iw
   refine key.bind λax n1 l hn ha ⟨g1,g2,g3⟩=>(LC (l:=r) (ht.ext ha hn (a6 _) (λ_ _=>rfl))).bind λbx ed ls er dk ⟨k1,k2,k3⟩=>aj.pure ⟨λy hy=>?_,by simp[k2],?_⟩
   ·rcases List.mem_cons.1 hy with rfl|hy
    ·exact g1.mono er
    ·exact k1 y hy
   ·have e1:=I.bB dk g1
    simp only[cr,zG,e1]
    refine⟨g2,λy hy=>?_,k3⟩
    rw[h2]at hy
    cases hy
    rw[h3,g3]
  ·exact aj.fail
theorem DB {nb:Nat} {m:Nat->Nat} {tmps:Array az}:∀{l:List (Nat×Int×Int)} {tm:List V} {n:Nat} {ρ:Env},dD n nb ρ m tm tmps->aj S L (xG l tm) n ρ λad n' bR=>dD n' nb ad m bR tmps
 |[],tm,n,ρ,ht=>aj.pure ht
 |(s,lo,hi)::r,tm,n,ρ,ht=>by
  unfold xG
  split
  ·rename_i k x hs
   cases hc:(decide (lo<=x.lo)&&decide (x.hi<=hi))with
   |true=>simp only[cond_true];exact DB ht
   |false=>
    simp only[cond_false]
    refine ga λhk=>?_
    simp only[cr,dY,aa,I.aM]at hk
    obtain⟨h1,y,h2,h3⟩:=ht.2 s _ hs
    have h1:x.ok n ρ:=h1
    exact DB (ht.set (v:= .w (.one (.int k ⟨x.l,lo,hi⟩))) ⟨h1.1,hk.1,hk.2⟩ λz hz=>by
     rw[h2]at hz;cases hz;exact h3)
  ·exact DB ht
theorem GL {n lo:Nat} {ρ:Env} {m:Nat->Nat} {tm:List V} {bl:List ar} {a:Act} {w:ai} (h:R w0 n ρ m tm bl a w):∀{l:List (Nat×List aw×aN)} {used:List Nat} {ls:List I} {u:List Nat},sc lo l tm bl used=some (ls,u)->
 (∀x∈ls,I.aW n x)/\ls.length=(xu l).length/\(∀b∈used,b∈u)/\(∀b∈u,b∈used∨lo<=b)/\∀F:Nat->Prop,(∀(b:Nat) (p:ar),b∈u->b∉used->bl[b]?=some p->aX ρ p.1=2->bJ p.1=false->F (m b))->xe w0 w a.tmps F l (ls.map (·.den ρ))
 |[],used,ls,u,he=>by
  simp only[sc,aG,cj]at he
  obtain⟨rfl,rfl⟩:=he
  exact⟨λ_ h=>by simp at h,rfl,λ_ h=>h,λ_ h=> .inl h,λ_ _=>trivial⟩
 |(s,sh,e)::r,used,ls,u,he=>by
  unfold sc at he
  split at he
  ·rename_i hs
   split at he
   ·rename_i l1 oB hr
    simp only[aG,cj]at he
    obtain⟨rfl,rfl⟩:=he
    obtain⟨g1,g2,g3,g4,g5⟩:=GL h hr
    refine⟨λx hx=>?_,by simp[xu]at g2⊢;omega,g3,g4,λF hF=>⟨0,λx hx=>?_,?_,?_,?_,?_,?_,?_⟩⟩
    ·simp only[lR]at hx
     rcases hx with rfl|rfl|rfl|hx
     ·exact I.cz _ _
     ·exact I.cz _ _
     ·exact I.cz _ _
     ·exact g1 x hx
    ·obtain⟨_,y,h2,h3⟩:=h.t.2 s _ hs
     rw[h2]at hx;cases hx
     have ln:(I.const (-1)).den ρ<0:=by rw[I.aM];decide
     simp only[ln,if_true]
     exact h3
    ·simp only[I.aM];exact⟨⟨by omega,by omega,by omega,by omega⟩,⟨by omega,by omega⟩,λ_=>rfl,λh=>by omega⟩
    ·simp only[I.aM];exact⟨cn _,nP (fE []) (nS (l:=[]) (by simp) (by simp))⟩
    ·intro _;simp only[I.aM];exact fD
    ·simp only[I.aM];intro h;omega
    ·simp only[I.aM];intro h;omega
    ·refine g5 _ λb p hb hu hbl hk ho=>⟨hF b p hb hu hbl hk ho,?_⟩
     simp only[I.aM];intro h;omega
   ·cases he
  ·rename_i b aQ o ro len cap hs
   split at he
   ·rename_i ei off code dn kind t hbl
    cases hc:(mc sh ei&&aA kind 2&&I.beq o (.const 0)&&I.beq off (.const 0)&&I.beq ro (.const 0)&&I.beq cap dn&&aA t.1 e&&aA aQ sh.length&&bw lo b&& !(used.any (aA b)))with
    |false=>rw[hc]at he;cases he
    |true=>
     rw[hc]at he
     simp only[cond_true]at he
     split at he
     ·rename_i l1 oB hr
      simp only[aG,cj]at he
      obtain⟨rfl,rfl⟩:=he
      simp only[aK]at hc
      obtain⟨⟨⟨⟨⟨⟨⟨⟨⟨c1,c2⟩,c3⟩,c4⟩,c5⟩,gy⟩,nk⟩,mF⟩,p8⟩,xz⟩:=hc
      have c1:=uR c1;have c2:=bk c2;have c3:=I.beq_eq c3;have c4:=I.beq_eq c4;have c5:=I.beq_eq c5;have gy:=I.beq_eq gy
      have nk:=bk nk;have mF:=bk mF;have p8:=eb p8
      have aiT:b∉used:=λhb=>by
       have:used.any (aA b)=true:=List.any_eq_true.2 ⟨b,hb,wZ b⟩
       rw[this]at xz;cases xz
      subst c1;subst c2;subst c3;subst c4;subst c5;subst gy;subst nk;subst mF
      obtain⟨g1,g2,g3,g4,g5⟩:=GL h hr
      obtain⟨aZ,y,h2,h3⟩:=h.t.2 s _ hs
      have aZ:(A.sl b sh.length (.const 0) (.const 0) len cap).ok n bl.length ρ:=aZ
      obtain⟨x1,⟨x2,gP,gw,gD⟩,gQ⟩:=aZ
      simp only[I.aM]at gQ
      have eH:(A.rows sh (.const 0) code cap 2).ok n bl.length ρ:=h.b _ (dK hbl) _ (by simp)
      obtain⟨⟨r1,r2,fo⟩,hO,bb⟩:=eH
      have iE:=h.ba.rws b sh (.const 0) code cap 2 t hbl (by decide)
      refine⟨λx hx=>?_,by simp[xu]at g2⊢;omega,λb5 hW=>g3 b5 (cR _ hW),λb5 hW=>?_,λF hF=>⟨m b,λx hx=>?_,gQ,hO,iE.1,λh0=>?_,λh0=>?_,?_⟩⟩
      ·simp only[lR]at hx
       rcases hx with rfl|rfl|rfl|hx
       ·exact r2
       ·exact gw
       ·exact gD
       ·exact g1 x hx
      ·rcases g4 b5 hW with h5|h5
       ·rcases List.mem_cons.1 h5 with rfl|h5
        ·exact .inr p8
        ·exact .inl h5
       ·exact .inr h5
      ·have OE:y=x:=gE (h2.symm.trans hx)
       subst OE
       have h3:y=(A.sl b sh.length (.const 0) (.const 0) len cap).den ρ m:=h3
       rw[h3]
       simp only[A.den,I.aM]
       split<;>simp
      ·obtain⟨_,cells,ic,fz,k1,⟨k2,k3⟩,k4⟩:=iE.2 h0
       obtain⟨jD,pD,sI,Iz,akh,aki⟩:=k4 (by decide)
       subst jD
       have sI:=sI.two
       subst sI
       rw[I.aM]at k3
       exact⟨cells,k1,k3,Iz,akh,aki⟩
      ·exact hF b _ (g3 b (by simp)) aiT hbl (nC (by decide) h0) rfl
      ·refine g5 _ λb5 p hW hu VW hk ho=>⟨hF b5 p hW (λh=>hu (cR _ h)) VW hk ho,λh0=>?_⟩
       have iO:aX ρ [A.rows sh (.const 0) code cap 2]=2:=nC (by decide) h0
       exact h.ba.ne VW hbl (by rw[hk];exact a6 2) (by simp only[iO];decide) λe=>hu (by simp[e])
     ·cases he
   ·cases he
  ·cases he
theorem I8 {c:List A} (h:bJ c=false):∃sh off code cap k,c=[.rows sh off code cap k]:=by
 unfold bJ at h
 split at h
 ·exact⟨_,_,_,_,_,rfl⟩
 ·cases h
theorem O0 {n:Nat} {ρ:Env} {m:Nat->Nat} {tm:List V} {a:Act} {w:ai}:∀{us:List Nat} {bl:List ar},R w0 n ρ m tm bl a w->R w0 n ρ m tm (kT us bl) a w/\(kT us bl).length=bl.length/\∀(i:Nat) (p:ar),(kT us bl)[i]?=some p->(bl[i]?=some p/\(i∈us->bJ p.1=true∨aX ρ p.1=0))∨aX ρ p.1=0
 |[],bl,h=>⟨h,rfl,λi p hp=> .inl ⟨hp,λh=>by simp at h⟩⟩
 |b::r,bl,h=>by
  unfold kT
  split
  ·rename_i sh off code cap k t hbl
   obtain⟨g1,g2,g3⟩:=O0 (us:=r) (h.kill hbl)
   refine⟨g1,by rw[g2,ib],λi p hp=>?_⟩
   rcases g3 i p hp with⟨g4,g5⟩|g4
   ·by_cases hH:i=b
    ·subst hH
     rw[ia,Z9 (List.getElem?_eq_some_iff.1 hbl).1]at g4
     cases g4
     exact .inr (by simp[aX])
    ·rw[ia,Ko (λe=>hH e.symm)]at g4
     exact .inl ⟨g4,λhi=>g5 (by simpa [hH]using hi)⟩
   ·exact .inr g4
  ·rename_i hno
   obtain⟨g1,g2,g3⟩:=O0 (us:=r) h
   refine⟨g1,g2,λi p hp=>?_⟩
   rcases g3 i p hp with⟨g4,g5⟩|g4
   ·refine .inl ⟨g4,λhi=>?_⟩
    rcases List.mem_cons.1 hi with rfl|hi
    ·cases ho:bJ p.1 with
     |true=>exact .inl rfl
     |false=>
      exfalso
      obtain⟨c,t⟩:=p
      obtain⟨sh,off,code,cap,k,rfl⟩:=I8 ho
      exact hno _ _ _ _ _ _ g4
    ·exact g5 hi
   ·exact .inr g4
theorem V8 {N:Nat} {bx:Env} {m:Nat->Nat} {bl:List ar} {a:Act} {w:ai}:∀{l:List Nat} {zs:List Int} {v:Nat} {tm:List V},R w0 N bx m tm bl a w->zG a.tmps l zs->(∀j,j<zs.length->bx (v+j)=zs.getD j 0)->v+zs.length<=N->R w0 N bx m (rh l v tm) bl a w
 |[],[],v,tm,h,_,_,_=>h
 |s::r,z::zs,v,tm,h,hb,hv,hN=>by
  unfold rh
  have h0:=hv 0 (by simp)
  simp only[ld,qK]at h0
  simp only[dv]at hN
  refine V8 (l:=r) (zs:=zs) ⟨dD.set h.t ?_ λx hx=>?_,h.d,h.b,h.ba⟩ hb.2.2 (λj hj=>by
   have:=hv (j+1) (by simpa using hj)
   rw[show v+1+j=v+(j+1) by omega];simpa using this) (by omega)
  ·exact⟨I.ez (by omega),I.cz _ _⟩
  ·rw[hb.2.1 x hx]
   simp[V.rel,W.den,A.den,aS.den,I.cg,I.aM,h0]
 |[],_::_,_,_,_,h,_,_=>h.elim
 |_::_,[],_,_,_,h,_,_=>h.elim
theorem V7 {N:Nat} {bx:Env} {a:Act} {w:ai}:∀{l:List (Nat×List aw×aN)} {zs:List Int} {v:Nat} {tm:List V} {bl:List ar} {m:Nat->Nat} {F:Nat->Prop},R w0 N bx m tm bl a w->xe w0 w a.tmps F l zs->(∀g,F g->∀(i:Nat) (p:ar),bl[i]?=some p->m i=g->aX bx p.1=0)->
 (∀j,j<zs.length->bx (v+j)=zs.getD j 0)->v+zs.length<=N->∃ey,(∀b,b<bl.length->ey b=m b)/\bl.length<=(pw l v tm bl).2.length/\R w0 N bx ey (pw l v tm bl).1 (pw l v tm bl).2 a w
 |[],[],v,tm,bl,m,F,h,_,_,_,_=>⟨m,λ_ _=>rfl,a6 _,h⟩
 |(s,sh,e)::r,code::len::cap::zs,v,tm,bl,m,F,h,hf,hF,hv,hN=>by
  obtain⟨g,f1,f2,f3,f4,f5,f6,f7⟩:=hf
  have v0:=hv 0 (by simp)
  have v1:=hv 1 (by simp)
  have v2:=hv 2 (by simp)
  simp only[qK,Cz,ld]at v0 v1 v2
  simp only[dv]at hN
  have hc:(-1:Int)<=cap/\cap<=9223372036854775807:=⟨f2.2.1.1,by have:=f2.2.1.2;omega⟩
  have hA:(A.rows sh (.const 0) (.var v) (.var (v+2)) 2).ok N bl.length bx:=⟨⟨I.cz _ _,I.ez (by omega),I.ez (by omega)⟩,by rw[I.cg,v0];exact f3,by rw[I.cg,v2];exact hc⟩
  have gz:=h.ba.push (x:=([.rows sh (.const 0) (.var v) (.var (v+2)) 2],(e,false))) (g:=g) h.b (λy hy=>by simp at hy;subst hy;exact hA) (λho=>by cases ho) (λei gj code' fZ lB he=>by
   cases he
   intro _
   simp only[I.cg,v0,v2,I.aM]
   refine⟨f4,λh0=>?_⟩
   obtain⟨cells,k1,k2,k3,k4,pD⟩:=f5 h0
   exact⟨pD.elim .inl λh=> .inr (.inr h),cells,e,(0,0),k1,⟨cn _,k2⟩,λ_=>⟨rfl,by trivial,.E7,k3,k4,pD⟩⟩) (λi p hi he=>by
   rcases iX cap 0 with h0|h0
   ·refine .inr (.inr ?_)
    simp only[aX,I.cg,v2]
    rw[if_pos h0]
   ·exact .inr (.inl (hF g (f6 h0) i p hi he)))
  have cJ:=dr.alloc N bx m bl ([A.rows sh (.const 0) (.var v) (.var (v+2)) 2],(e,false)) g
  have hR:R w0 N bx (jl m bl.length g) (pN tm s (.w (.one (.sl bl.length sh.length (.const 0) (.const 0) (.var (v+1)) (.var (v+2)))))) (bl++[([.rows sh (.const 0) (.var v) (.var (v+2)) 2],(e,false))]) a w:=by
   refine⟨dD.set (h.t.ext cJ.ha cJ.hn cJ.hb cJ.hm) ?_ λx hx=>?_,h.d,h.b.alloc (λy hy=>by simp at hy;subst hy;exact hA),gz⟩
   ·refine⟨by simp,⟨I.cz _ _,I.cz _ _,I.ez (by omega),I.ez (by omega)⟩,?_⟩
    simp only[I.aM,I.cg,v1,v2];exact f2
   ·rw[f1 x hx]
    simp only[V.rel,W.den,A.den,I.aM,I.cg,v1,v2,ks]
    split<;>simp
  obtain⟨ey,bo,bI,b6⟩:=V7 (l:=r) (zs:=zs) (v:=v+3) hR f7 (λjb sB i p hi he=>by
   rw[F3]at hi
   split at hi
   ·rename_i dZ
    rw[j1 dZ]at he
    exact hF jb sB.1 i p hi he
   ·have dZ:=(List.getElem?_eq_some_iff.1 hi).1
    have:i=bl.length:=by simp at dZ;omega
    subst this
    simp only[Nat.sub_self,qO,aG]at hi
    subst hi
    rw[ks]at he
    rcases iX cap 0 with h0|h0
    ·simp only[aX,I.cg,v2]
     rw[if_pos h0]
    ·exact absurd he.symm (sB.2 h0)) (λj hj=>by
   have:=hv (j+3) (by simp only[dv];omega)
   rw[show v+3+j=v+(j+3) by omega];simpa using this) (by omega)
  simp only[dQ,dv,gF]at bo bI
  exact⟨ey,λb hb=>by rw[bo b (by omega)];exact j1 hb,by unfold pw;omega,by unfold pw;exact b6⟩
 |[],_::_,_,_,_,_,_,_,h,_,_,_=>h.elim
 |_::_,[],_,_,_,_,_,_,h,_,_,_=>h.elim
 |_::_,[_],_,_,_,_,_,_,h,_,_,_=>h.elim
 |_::_,[_,_],_,_,_,_,_,_,h,_,_,_=>h.elim
theorem W9 {tmps:Array az}:∀{l:List Nat} {zs:List Int},zG tmps l zs->aO (G2 l) zs
 |[],[],_=>trivial
 |s::r,z::zs,h=>⟨h.1.1,h.1.2,W9 h.2.2⟩
 |[],_::_,h=>h.elim
 |_::_,[],h=>h.elim
theorem W7 {w:ai} {tmps:Array az}:∀{l:List (Nat×List aw×aN)} {zs:List Int} {F:Nat->Prop},xe w0 w tmps F l zs->aO (xu l) zs
 |[],[],_,_=>trivial
 |(s,sh,e)::r,code::len::cap::zs,F,⟨g,f1,f2,f3,f4,f5,f6,f7⟩=>⟨f3.1,f3.2,f2.1.2.2.1,f2.1.2.2.2,f2.2.1.1,by have:=f2.2.1.2;omega,W7 f7⟩
 |[],_::_,_,h=>h.elim
 |_::_,[],_,h=>h.elim
 |_::_,[_],_,h=>h.elim
 |_::_,[_,_],_,h=>h.elim
theorem Mem.Qe {n:Nat} {ρ:Env} {m:Nat->Nat} {bl:List ar} {w:ai} {b c:Nat} {C:List A} {sh:List aw} {code:I} {t:aN×Bool} (h:Mem w0 ρ m bl w) (hbl:bl[b]?=some (C,t)) (ho:bJ C=true) (ht:t.2=false)
 (iD:∀row∈ab (code.den ρ),bS sh row) (hX:aU sh (ab (code.den ρ))=C.map (A.den ρ m)) (hlen:C.length=c*sh.length):Mem w0 ρ m (cO bl b ([.rows sh (.const 0) code (.const c) 2],t)) w:=by
 have lq:b<bl.length:=(List.getElem?_eq_some_iff.1 hbl).1
 obtain⟨bo,bI,r,hr,b6⟩:=h.et b C t hbl ho
 have hr:=hr ht
 subst hr
 rw[gT]at b6
 have cM:∀(i:Nat) (p:ar),(cO bl b ([.rows sh (.const 0) code (.const c) 2],t))[i]?=some p->(i=b/\p=([.rows sh (.const 0) code (.const c) 2],t))∨(i≠b/\bl[i]?=some p):=λi p hi=>by
  rw[ia,nO]at hi
  split at hi
  ·rename_i eo
   subst eo
   simp only[lq,if_true,aG]at hi
   exact .inl ⟨rfl,hi.symm⟩
  ·rename_i eo;exact .inr ⟨λe=>eo e.symm,hi⟩
 have hk2:aX ρ [.rows sh (.const 0) code (.const c) 2]=2:=nC (by decide) (by rw[I.aM];omega)
 refine⟨h.ext,h.gg,h.iF,h.gI,h.eI,h.fM,λi gZ t' hi gu=>?_,λi ei gj code' fZ lB t' hi=>?_,λi j p q hi hj he=>?_⟩
 ·rcases cM i _ hi with⟨rfl,cD⟩|⟨hne,hi⟩
  ·cases cD;cases gu
  ·exact h.et i gZ t' hi gu
 ·rcases cM i _ hi with⟨rfl,cD⟩|⟨hne,hi⟩
  ·cases cD
   intro _
   simp only[I.aM]
   refine⟨λh0=>by omega,λ_=>⟨bI.elim .inl λh=> .inr (.inr h),_,_,_,b6,⟨cn _,iD,[],[],by simp[hX],rfl⟩,λ_=>⟨rfl,by trivial,.E7,by simp[hlen],bo,bI⟩⟩⟩
  ·exact h.rws i ei gj _ fZ lB t' hi
 ·have hk:∀(i:Nat) (p:ar),(cO bl b ([.rows sh (.const 0) code (.const c) 2],t))[i]?=some p->∃p',bl[i]?=some p'/\aX ρ p'.1=aX ρ p.1:=λi p hi=>by
   rcases cM i _ hi with⟨rfl,cD⟩|⟨hne,hi⟩
   ·exact⟨_,hbl,by rw[cD];simp only[hk2,iQ ho]⟩
   ·exact⟨p,hi,rfl⟩
  obtain⟨p',hp,ep⟩:=hk i p hi
  obtain⟨q',hq,eq⟩:=hk j q hj
  rw[<-ep,<-eq]
  exact h.inj i j p' q' hp hq he
theorem Qf {m:Nat->Nat} {tm:List V} {a:Act} {w:ai}:∀{l:List (Nat×List aw×Nat)} {bl:List ar} {n:Nat} {ρ:Env},R w0 n ρ m tm bl a w->aj S L (FD l bl) n ρ λad n' aR=>R w0 n' ad m tm aR a w/\aR.length=bl.length
 |[],bl,n,ρ,h=>aj.pure ⟨h,rfl⟩
 |(b,sh,c)::r,bl,n,ρ,h=>by
  unfold FD
  split
  ·rename_i C t hbl
   cases ho:bJ C with
   |false=>simp only[cond_false];exact Qf h
   |true=>
    simp only[cond_true]
    refine dA λhc=>?_
    simp only[aK]at hc
    obtain⟨⟨⟨c1,c2⟩,c3⟩,c4⟩:=hc
    have c1:t.2=false:=by simpa using c1
    have c2:=bk c2
    have c4:=eb c4
    have aZ:∀x∈C,A.ok n bl.length ρ x:=h.b _ (dK hbl)
    have je:=Dk (w:=sh.length) (k:=c) c2
    have bC:ab ((I.const 0).den ρ)=[]:=by rw[I.aM];exact fD
    have hz:(0:Int)<=bZ:=nP (fE []) (nS (l:=[]) (by simp) (by simp))
    refine(C4 (nb:=bl.length) (m:=m) c3 (rs:=lW sh.length c C) (c:= .const 0) (λrow hr x hx=>aZ x (Dl row hr x hx)) (I.cz _ _) (by rw[I.aM];exact⟨cn _,hz⟩) (by rw[bC];intro _ h;simp at h) (by rw[bC,je.1];simp;omega)).bind λax n1 code e4 dF ⟨p1,bq,c9,cv,dI,dJ,fv⟩=>?_
    rw[bC,jr]at cv
    have h1:=h.later e4 dF
    have N3:C.map (A.den ax m)=C.map (A.den ρ m):=rE aZ dF (λ_ _=>rfl)
    have gz:=h1.ba.Qe (n:=n1) (c:=c) (sh:=sh) (code:=code) hbl ho c1 (by rw[cv];exact dJ) (by rw[cv,fv,je.2,N3]) c2
    have hb1:cp n1 (cO bl b ([.rows sh (.const 0) code (.const c) 2],t)).length ax (cO bl b ([.rows sh (.const 0) code (.const c) 2],t)):=h1.b.set (λy hy=>by
     have hy:y= .rows sh (.const 0) code (.const c) 2:=by simpa using hy
     subst hy
     exact⟨⟨I.cz _ _,p1,I.cz _ _⟩,bq,by rw[I.aM];omega⟩)
    have hR:R w0 n1 ax m tm (cO bl b ([.rows sh (.const 0) code (.const c) 2],t)) a w:=⟨by rw[ib];exact h1.t,h1.d,hb1,gz⟩
    exact(Qf (l:=r) hR).mono λbx ed kf _ _ ⟨g1,g2⟩=>⟨g1,by rw[g2,ib]⟩
  ·exact aj.fail
theorem natsM_holds {G:dw} {zE:Unit->Nat->T}:∀{k n:Nat} {ρ:Env} {offs:List Int},(IY k n zE).holds S L G ρ->offs.length=k->(∀z∈offs,0<=z)->(zE () (n+k)).holds S L G (bu ρ n offs)
 |0,n,ρ,[],h,_,_=>h
 |k+1,n,ρ,z::zs,h,hl,h0=>by
  have h1:(IY k (n+1) zE).holds S L G (cI ρ n z):=h z (h0 z (by simp))
  have:=natsM_holds (offs:=zs) h1 (by simpa using hl) λy hy=>h0 y (cR _ hy)
  rw[show n+(k+1)=n+1+k by omega];exact this
 |0,_,_,_::_,_,hl,_=>by simp at hl
 |_+1,_,_,[],_,hl,_=>by simp at hl
def o7 (w0:dm) (w:ai) (tmps:Array az) (F:Nat->Prop):List (Nat×List aw)->List Nat->List Int->List Int->Prop
 |[],[],[],[]=>True
 |(s,sh)::r,g::gs,o::os,code::len::cap::zs=>(∀x,tmps[s]?=some x->x=if cap<0 then .slice none 0 0 else .slice (some ⟨g,o.toNat,none⟩) len.toNat cap.toNat)/\zk o 0 len cap/\(0<=code/\code<=bZ)/\(cap<0->ab code=[])/\
    (0<=cap->(w0.ex g∨w0.ro g∨w0.r.heap.size<=g)/\∃(cells:Array az) (t:aN) (fz:Nat×Nat),w.heap[g]?=some (.cells cells t fz)/\kc cells o.toNat sh (ab code))/\
    (0<=cap->F g)/\o7 w0 w tmps F r gs os zs
 |_,_,_,_=>False
theorem o7.len {w:ai} {tmps:Array az} {F:Nat->Prop}:∀{l:List (Nat×List aw)} {gs:List Nat} {os zs:List Int},o7 w0 w tmps F l gs os zs->os.length=l.length/\∀z∈os,0<=z
 |[],[],[],[],_=>⟨rfl,λ_ h=>by simp at h⟩
 |(s,sh)::r,g::gs,o::os,code::len::cap::zs,h=>by
  obtain⟨_,h2,_,_,_,_,h7⟩:=h
  obtain⟨i1,i2⟩:=o7.len h7
  exact⟨by simp[i1],λz hz=>by
   rcases List.mem_cons.1 hz with rfl|hz
   ·exact h2.1.1
   ·exact i2 z hz⟩
 |_::_,[],_,_,h=>h.elim
 |_::_,_::_,[],_,h=>h.elim
 |_::_,_::_,_::_,[],h=>h.elim
 |_::_,_::_,_::_,[_],h=>h.elim
 |_::_,_::_,_::_,[_,_],h=>h.elim
 |[],_::_,_,_,h=>h.elim
 |[],[],_::_,_,h=>h.elim
 |[],[],[],_::_,h=>h.elim
theorem Xa {w:ai} {tmps:Array az} {F:Nat->Prop}:∀{l:List (Nat×List aw)} {gs:List Nat} {os zs:List Int},o7 w0 w tmps F l gs os zs->aO (y7 l) zs
 |[],[],[],[],_=>trivial
 |(s,sh)::r,g::gs,o::os,code::len::cap::zs,⟨f1,f2,f3,f4,f5,f6,f7⟩=>⟨f3.1,f3.2,f2.1.2.2.1,f2.1.2.2.2,f2.2.1.1,by have:=f2.2.1.2;omega,Xa f7⟩
 |_::_,[],_,_,h=>h.elim
 |_::_,_::_,[],_,h=>h.elim
 |_::_,_::_,_::_,[],h=>h.elim
 |_::_,_::_,_::_,[_],h=>h.elim
 |_::_,_::_,_::_,[_,_],h=>h.elim
 |[],_::_,_,_,h=>h.elim
 |[],[],_::_,_,h=>h.elim
 |[],[],[],_::_,h=>h.elim
theorem Jp {n:Nat} {ρ:Env} {m:Nat->Nat} {tm:List V} {bl:List ar} {a:Act} {w:ai} (h:R w0 n ρ m tm bl a w):∀{l:List (Nat×List aw)} {ls:List I},y8 l tm bl=some ls->
 (∀x∈ls,I.aW n x)/\ls.length=(y7 l).length/\∃gs os,o7 w0 w a.tmps (λg=>∃(i:Nat) (p:ar),bl[i]?=some p/\m i=g/\aX ρ p.1=1) l gs os (ls.map (·.den ρ))
 |[],ls,he=>by
  simp only[y8,aG]at he
  subst he
  exact⟨λ_ h=>by simp at h,rfl,[],[],trivial⟩
 |(s,sh)::r,ls,he=>by
  unfold y8 at he
  split at he
  ·rename_i hs
   split at he
   ·rename_i l1 hr
    simp only[aG]at he
    subst he
    obtain⟨g1,g2,gs,os,g3⟩:=Jp h hr
    refine⟨λx hx=>?_,by simp[y7]at g2⊢;omega,0::gs,0::os,λx hx=>?_,?_,?_,?_,?_,?_,g3⟩
    ·simp only[lR]at hx
     rcases hx with rfl|rfl|rfl|hx
     ·exact I.cz _ _
     ·exact I.cz _ _
     ·exact I.cz _ _
     ·exact g1 x hx
    ·obtain⟨_,y,h2,h3⟩:=h.t.2 s _ hs
     rw[h2]at hx;cases hx
     have ln:(I.const (-1)).den ρ<0:=by rw[I.aM];decide
     simp only[ln,if_true]
     exact h3
    ·simp only[I.aM];exact⟨⟨by omega,by omega,by omega,by omega⟩,⟨by omega,by omega⟩,λ_=>rfl,λh=>by omega⟩
    ·simp only[I.aM];exact⟨cn _,nP (fE []) (nS (l:=[]) (by simp) (by simp))⟩
    ·intro _;simp only[I.aM];exact fD
    ·simp only[I.aM];intro h;omega
    ·simp only[I.aM];intro h;omega
   ·cases he
  ·rename_i b aQ o ro len cap hs
   split at he
   ·rename_i ei off code dn kind t hbl
    cases hc:(mc sh ei&&aA kind 1&&I.beq o off&&I.beq ro (.const 0)&&I.beq cap dn&&aA aQ sh.length)with
    |false=>rw[hc]at he;cases he
    |true=>
     rw[hc]at he
     simp only[cond_true]at he
     split at he
     ·rename_i l1 hr
      simp only[aG]at he
      subst he
      simp only[aK]at hc
      obtain⟨⟨⟨⟨⟨c1,c2⟩,c3⟩,c4⟩,c5⟩,gy⟩:=hc
      have c1:=uR c1;have c2:=bk c2;have c3:=I.beq_eq c3;have c4:=I.beq_eq c4;have c5:=I.beq_eq c5;have gy:=bk gy
      subst c1;subst c2;subst c3;subst c4;subst c5;subst gy
      obtain⟨g1,g2,gs,os,g3⟩:=Jp h hr
      obtain⟨aZ,y,h2,h3⟩:=h.t.2 s _ hs
      have aZ:(A.sl b sh.length o (.const 0) len cap).ok n bl.length ρ:=aZ
      obtain⟨x1,⟨x2,gP,gw,gD⟩,gQ⟩:=aZ
      simp only[I.aM]at gQ
      have eH:(A.rows sh o code cap 1).ok n bl.length ρ:=h.b _ (dK hbl) _ (by simp)
      obtain⟨⟨r1,r2,fo⟩,hO,bb⟩:=eH
      have iE:=h.ba.rws b sh o code cap 1 t hbl (by decide)
      refine⟨λx hx=>?_,by simp[y7]at g2⊢;omega,m b::gs,o.den ρ::os,λx hx=>?_,gQ,hO,iE.1,λh0=>?_,λh0=>?_,g3⟩
      ·simp only[lR]at hx
       rcases hx with rfl|rfl|rfl|hx
       ·exact r2
       ·exact gw
       ·exact gD
       ·exact g1 x hx
      ·have OE:y=x:=gE (h2.symm.trans hx)
       subst OE
       have h3:y=(A.sl b sh.length o (.const 0) len cap).den ρ m:=h3
       rw[h3]
       simp only[A.den,I.aM]
       split<;>simp
      ·obtain⟨kp,cells,ic,fz,k1,⟨k2,k3⟩,k4⟩:=iE.2 h0
       exact⟨kp,cells,ic,fz,k1,k3⟩
      ·exact⟨b,_,hbl,rfl,nC (by decide) h0⟩
     ·cases he
   ·cases he
  ·cases he
theorem o7.mono {w:ai} {tmps:Array az} {F vh:Nat->Prop} (hF:∀g,F g->vh g):∀{l:List (Nat×List aw)} {gs:List Nat} {os zs:List Int},o7 w0 w tmps F l gs os zs->o7 w0 w tmps vh l gs os zs
 |[],[],[],[],_=>trivial
 |(s,sh)::r,g::gs,o::os,code::len::cap::zs,⟨f1,f2,f3,f4,f5,f6,f7⟩=>⟨f1,f2,f3,f4,f5,λh=>hF g (f6 h),o7.mono hF f7⟩
 |_::_,[],_,_,h=>h.elim
 |_::_,_::_,[],_,h=>h.elim
 |_::_,_::_,_::_,[],h=>h.elim
 |_::_,_::_,_::_,[_],h=>h.elim
 |_::_,_::_,_::_,[_,_],h=>h.elim
 |[],_::_,_,_,h=>h.elim
 |[],[],_::_,_,h=>h.elim
 |[],[],[],_::_,h=>h.elim
theorem Lk {lo:Nat} {tm:List V} {bl:List ar}:∀{l:List (Nat×List aw×aN)} {used:List Nat} {ls:List I} {u:List Nat},sc lo l tm bl used=some (ls,u)->∀b∈u,b∈used∨∃sh off code cap t,bl[b]?=some ([.rows sh off code cap 2],t)
 |[],used,ls,u,he=>by
  simp only[sc,aG,cj]at he
  obtain⟨rfl,rfl⟩:=he
  exactλb hb=> .inl hb
 |(s,sh,e)::r,used,ls,u,he=>by
  unfold sc at he
  split at he
  ·split at he
   ·rename_i l1 oB hr
    simp only[aG,cj]at he
    obtain⟨rfl,rfl⟩:=he
    exact Lk hr
   ·cases he
  ·rename_i b aQ o ro len cap hs
   split at he
   ·rename_i ei off code dn kind t hbl
    cases hc:(mc sh ei&&aA kind 2&&I.beq o (.const 0)&&I.beq off (.const 0)&&I.beq ro (.const 0)&&I.beq cap dn&&aA t.1 e&&aA aQ sh.length&&bw lo b&& !(used.any (aA b)))with
    |false=>rw[hc]at he;cases he
    |true=>
     rw[hc]at he
     simp only[cond_true]at he
     split at he
     ·rename_i l1 oB hr
      simp only[aG,cj]at he
      obtain⟨rfl,rfl⟩:=he
      simp only[aK]at hc
      obtain⟨⟨⟨⟨⟨⟨⟨⟨⟨c1,c2⟩,c3⟩,c4⟩,c5⟩,gy⟩,nk⟩,mF⟩,p8⟩,xz⟩:=hc
      have c2:=bk c2
      subst c2
      intro b5 hW
      rcases Lk hr b5 hW with h5|h5
      ·rcases List.mem_cons.1 h5 with rfl|h5
       ·exact .inr ⟨_,_,_,_,_,hbl⟩
       ·exact .inl h5
      ·exact .inr h5
     ·cases he
   ·cases he
  ·cases he
theorem OZ {i:Nat} {p:ar}:∀{us:List Nat} {bl:List ar},bl[i]?=some p->i∉us->(kT us bl)[i]?=some p
 |[],bl,h,_=>h
 |b::r,bl,h,hi=>by
  unfold kT
  split
  ·refine OZ ?_ λh=>hi (cR _ h)
   rw[ia,Ko (λe=>hi (by simp[e]))];exact h
  ·exact OZ h λh=>hi (cR _ h)
theorem V9 {N:Nat} {bx:Env} {a:Act} {w:ai} {F:Nat->Prop}:∀{l:List (Nat×List aw)} {gs:List Nat} {os zs:List Int} {v u:Nat} {tm:List V} {bl:List ar} {m:Nat->Nat},R w0 N bx m tm bl a w->o7 w0 w a.tmps F l gs os zs->(∀g,F g->∀(i:Nat) (p:ar),bl[i]?=some p->m i=g->aX bx p.1<=1)->
 (∀j,j<zs.length->bx (v+j)=zs.getD j 0)->(∀j,j<os.length->bx (u+j)=os.getD j 0)->v+zs.length<=N->u+os.length<=N->
 ∃ey,(∀b,b<bl.length->ey b=m b)/\bl.length<=(headD l v u tm bl).2.length/\R w0 N bx ey (headD l v u tm bl).1 (headD l v u tm bl).2 a w/\∀(i:Nat) (p:ar),(headD l v u tm bl).2[i]?=some p->(i<bl.length/\bl[i]?=some p)∨(aX bx p.1≠0->F (ey i))
 |[],[],[],[],v,u,tm,bl,m,h,_,_,_,_,_,_=>⟨m,λ_ _=>rfl,a6 _,h,λi p hp=> .inl ⟨(List.getElem?_eq_some_iff.1 hp).1,hp⟩⟩
 |(s,sh)::r,g::gs,o::os,code::len::cap::zs,v,u,tm,bl,m,h,hf,hF,hv,hu,hN,MY=>by
  obtain⟨f1,f2,f3,f4,f5,f6,f7⟩:=hf
  have v0:=hv 0 (by simp)
  have v1:=hv 1 (by simp)
  have v2:=hv 2 (by simp)
  have u0:=hu 0 (by simp)
  simp only[qK,Cz,ld]at v0 v1 v2 u0
  simp only[dv]at hN MY
  have hc:(-1:Int)<=cap/\cap<=9223372036854775807:=⟨f2.2.1.1,by have:=f2.2.1.2;omega⟩
  have hA:(A.rows sh (.var u) (.var v) (.var (v+2)) 1).ok N bl.length bx:=⟨⟨I.ez (by omega),I.ez (by omega),I.ez (by omega)⟩,by rw[I.cg,v0];exact f3,by rw[I.cg,v2];exact hc⟩
  have Wn:aX bx [A.rows sh (.var u) (.var v) (.var (v+2)) 1]<=1:=by
   simp only[aX]
   split<;>omega
  have gz:=h.ba.push (x:=([.rows sh (.var u) (.var v) (.var (v+2)) 1],(0,false))) (g:=g) h.b (λy hy=>by simp at hy;subst hy;exact hA) (λho=>by cases ho) (λei gj code' fZ lB he=>by
   cases he
   intro _
   simp only[I.cg,v0,v2,u0]
   refine⟨f4,λh0=>?_⟩
   obtain⟨jD,cells,t,fz,k1,k2⟩:=f5 h0
   exact⟨jD,cells,t,fz,k1,⟨f2.1.1,k2⟩,λbU=>by omega⟩) (λi p hi he=>by
   rcases iX cap 0 with h0|h0
   ·refine .inr (.inr ?_)
    simp only[aX,I.cg,v2]
    rw[if_pos h0]
   ·exact .inl ⟨hF g (f6 h0) i p hi he,Wn⟩)
  have cJ:=dr.alloc N bx m bl ([A.rows sh (.var u) (.var v) (.var (v+2)) 1],(0,false)) g
  have hR:R w0 N bx (jl m bl.length g) (pN tm s (.w (.one (.sl bl.length sh.length (.var u) (.const 0) (.var (v+1)) (.var (v+2)))))) (bl++[([.rows sh (.var u) (.var v) (.var (v+2)) 1],(0,false))]) a w:=by
   refine⟨dD.set (h.t.ext cJ.ha cJ.hn cJ.hb cJ.hm) ?_ λx hx=>?_,h.d,h.b.alloc (λy hy=>by simp at hy;subst hy;exact hA),gz⟩
   ·refine⟨by simp,⟨I.ez (by omega),I.cz _ _,I.ez (by omega),I.ez (by omega)⟩,?_⟩
    simp only[I.aM,I.cg,v1,v2,u0];exact f2
   ·rw[f1 x hx]
    simp only[V.rel,W.den,A.den,I.aM,I.cg,v1,v2,u0,ks]
    split<;>simp
  obtain⟨ey,bo,bI,b6,dz⟩:=V9 (F:=F) (l:=r) (gs:=gs) (os:=os) (zs:=zs) (v:=v+3) (u:=u+1) hR f7 (λjb sB i p hi he=>by
   rw[F3]at hi
   split at hi
   ·rename_i dZ
    rw[j1 dZ]at he
    exact hF jb sB i p hi he
   ·have dZ:=(List.getElem?_eq_some_iff.1 hi).1
    have:i=bl.length:=by simp at dZ;omega
    subst this
    simp only[Nat.sub_self,qO,aG]at hi
    subst hi
    exact Wn) (λj hj=>by
   have:=hv (j+3) (by simp only[dv];omega)
   rw[show v+3+j=v+(j+3) by omega];simpa using this) (λj hj=>by
   have:=hu (j+1) (by simp only[dv];omega)
   rw[show u+1+j=u+(j+1) by omega];simpa using this) (by omega) (by omega)
  simp only[dQ,dv,gF]at bo bI
  refine⟨ey,λb hb=>by rw[bo b (by omega)];exact j1 hb,by unfold headD;omega,by unfold headD;exact b6,λi p hp=>?_⟩
  unfold headD at hp
  rcases dz i p hp with⟨jX,mV⟩|jX
  ·simp only[dQ,dv,gF]at jX
   rw[F3]at mV
   split at mV
   ·rename_i dZ;exact .inl ⟨dZ,mV⟩
   ·rename_i dZ
    have hi:i=bl.length:=by omega
    subst hi
    simp only[Nat.sub_self,qO,aG]at mV
    subst mV
    refine .inr λh0=>?_
    rw[bo bl.length (by omega),ks]
    refine f6 ?_
    rcases iX cap 0 with h1|h1
    ·refine absurd ?_ h0
     simp only[aX,I.cg,v2]
     rw[if_pos h1]
    ·exact h1
  ·exact .inr jX
 |_::_,[],_,_,_,_,_,_,_,_,h,_,_,_,_,_=>h.elim
 |_::_,_::_,[],_,_,_,_,_,_,_,h,_,_,_,_,_=>h.elim
 |_::_,_::_,_::_,[],_,_,_,_,_,_,h,_,_,_,_,_=>h.elim
 |_::_,_::_,_::_,[_],_,_,_,_,_,_,h,_,_,_,_,_=>h.elim
 |_::_,_::_,_::_,[_,_],_,_,_,_,_,_,h,_,_,_,_,_=>h.elim
 |[],_::_,_,_,_,_,_,_,_,_,h,_,_,_,_,_=>h.elim
 |[],[],_::_,_,_,_,_,_,_,_,h,_,_,_,_,_=>h.elim
 |[],[],[],_::_,_,_,_,_,_,_,h,_,_,_,_,_=>h.elim
theorem Wb {li:dC} {n:Nat} {bN ad:Env} {m0 m':Nat->Nat} {tm bR j0 uU:List V} {bl aR dS mD:List ar} {l1 l2 v1 v2 lb la iR:List I} {b1 b2 zS qY:List (Int×Int)} {n':Nat} {a:Act} {w:ai} {NA ND NN:Nat} {gs:List Nat} {os:List Int}
 (hlen:bl.length<=aR.length)
 (ha:agree n bN ad) (hm:∀b,b<bl.length->m' b=m0 b) (ht:∀v∈tm,V.ok n bl.length bN v) (nv:cp n bl.length bN bl)
 (h:R w0 n' ad m' bR aR a w) (e1:hs li.eN li.ints 0 (n+1) tm=some (j0,l1,b1)) (e2:hb li.cells 0 (n+1+l1.length) bl=some (dS,l2,b2))
 (bt:hs li.eN li.ints 0 (n+1) bR=some (uU,v1,zS)) (eS:hb li.cells 0 (n+1+v1.length) (aR.take bl.length)=some (mD,v2,qY))
 (f1:kM j0 uU=true) (f2:kL dS mD=true) (vN:zG a.tmps li.oJ (lb.map (·.den ad))) (HO:xe w0 w a.tmps (λg=>(∀(i:Nat) (p:ar),i<bl.length->aR[i]?=some p->m' i=g->aX ad p.1=0)/\¬∃(i:Nat) (p:ar),aR[i]?=some p/\m' i=g/\aX ad p.1=1) li.nV (la.map (·.den ad)))
 (AR:o7 w0 w a.tmps (λg=>∃(i:Nat) (p:ar),aR[i]?=some p/\m' i=g/\aX ad p.1=1) li.kr gs os (iR.map (·.den ad)))
 (Vw:NA=n+1+l1.length+l2.length+lb.length) (Vx:ND=n+1+l1.length+l2.length+(lb++la).length) (Vy:NN=n+1+l1.length+l2.length+(lb++la++iR).length):
 aO (b1++b2++(G2 li.oJ++xu li.nV++y7 li.kr)) ((v1++v2++(lb++la++iR)).map (·.den ad))/\∃ey,(∀b,b<bl.length->ey b=m0 b)/\bl.length<=(pw li.nV NA (headD li.kr ND NN (rh li.oJ (n+1+l1.length+l2.length) j0) dS).1 (headD li.kr ND NN (rh li.oJ (n+1+l1.length+l2.length) j0) dS).2).2.length/\
  R w0 (NN+li.kr.length) (bu (bu bN (n+1) ((v1++v2++(lb++la++iR)).map (·.den ad))) NN os) ey (pw li.nV NA (headD li.kr ND NN (rh li.oJ (n+1+l1.length+l2.length) j0) dS).1 (headD li.kr ND NN (rh li.oJ (n+1+l1.length+l2.length) j0) dS).2).1 (pw li.nV NA (headD li.kr ND NN (rh li.oJ (n+1+l1.length+l2.length) j0) dS).1 (headD li.kr ND NN (rh li.oJ (n+1+l1.length+l2.length) j0) dS).2).2 a w:=by
 obtain⟨ajB,i1,i2,i3,i4⟩:=Wa (ext:=lb++la++iR) hlen ha hm ht nv h e1 e2 bt eS f1 f2
 obtain⟨aiY,axS⟩:=AR.len
 subst Vw;subst Vx;subst Vy
 have vR:∀j,j<(lb++la++iR).length->bu bN (n+1) ((v1++v2++(lb++la++iR)).map (·.den ad)) (n+1+l1.length+l2.length+j)=((lb++la++iR).map (·.den ad)).getD j 0:=λj hj=>by
  rw[show n+1+l1.length+l2.length+j=n+1+(v1.length+v2.length+j) by omega,B3 _ _ _ _ (by simp at hj⊢;omega)]
  rw[ff (l₁:=v1++v2),tg,zu (by simp),tg]
  congr 2
  simp
 generalize WX:bu bN (n+1) ((v1++v2++(lb++la++iR)).map (·.den ad))=bx at*
 have q7:agree (n+1+l1.length+l2.length+(lb++la++iR).length) bx (bu bx (n+1+l1.length+l2.length+(lb++la++iR).length) os):=agree.bu os _ bx
 have ajP:=i2.later (CA _ li.kr.length) q7
 have NB:∀j,j<(lb++la++iR).length->bu bx (n+1+l1.length+l2.length+(lb++la++iR).length) os (n+1+l1.length+l2.length+j)=((lb++la++iR).map (·.den ad)).getD j 0:=λj hj=>by
  rw[<-vR j hj]
  exact(q7 _ (by omega))
 have H4:∀(i:Nat) (p:ar),dS[i]?=some p->aX (bu bx (n+1+l1.length+l2.length+(lb++la++iR).length) os) p.1=aX bx p.1:=λi p hi=>pE (i2.b p (dK hi)) q7
 generalize ajO:bu bx (n+1+l1.length+l2.length+(lb++la++iR).length) os=fI at*
 have hB:=V8 (v:=n+1+l1.length+l2.length) ajP vN (λj hj=>by
  simp only[j6]at hj
  rw[NB j (by simp;omega),ie,ff,tg,rZ (by simpa using hj),tg]) (by simp;omega)
 obtain⟨iG,p1,bq,cv,dI⟩:=V9 (v:=n+1+l1.length+l2.length+(lb++la).length) (u:=n+1+l1.length+l2.length+(lb++la++iR).length) hB AR (λg hg i p hi he=>by
  obtain⟨g1,p',g2,g3⟩:=i4 i p hi
  rw[H4 i p hi,g3]
  obtain⟨j,q,bo,bI,b6⟩:=hg
  rcases h.ba.inj i j p' q g2 bo (by rw[bI,<-he,hm i g1])with bU|bU|bU|bU
  ·subst bU
   rw[g2]at bo;cases bo
   omega
  ·exact bU.1
  ·omega
  ·omega) (λj hj=>by
  simp only[j6]at hj
  rw[show n+1+l1.length+l2.length+(lb++la).length+j=n+1+l1.length+l2.length+((lb++la).length+j) by omega,NB _ (by simp at hj⊢;omega),ff (l₁:=lb++la),tg,zu (by simp),tg]
  congr 2
  simp) (λj hj=>by rw[<-ajO,B3 _ _ _ _ hj]) (by simp only[j6,dQ];omega) (by rw[aiY];exact a6 _)
 obtain⟨ey,bo,bI,b6⟩:=V7 (v:=n+1+l1.length+l2.length+lb.length) cv HO (λg hg i p hi he=>by
  rcases dI i p hi with⟨g0,g1⟩|g1
  ·obtain⟨jA,p',g2,g3⟩:=i4 i p g1
   rw[H4 i p g1,g3]
   exact hg.1 i p' jA g2 (by rw[hm i jA,<-p1 i g0];exact he)
  ·by_cases h0:aX fI p.1=0
   ·exact h0
   ·have:=g1 h0
    rw[he]at this
    exact absurd this hg.2) (λj hj=>by
  simp only[j6]at hj
  rw[show n+1+l1.length+l2.length+lb.length+j=n+1+l1.length+l2.length+(lb.length+j) by omega,NB _ (by simp;omega),ie,ff,tg,zu (by simp),ff,rZ (by simp;omega),tg]
  congr 2
  simp) (by simp;omega)
 refine⟨?_,ey,λb hb=>by rw[bo b (by rw[i3]at bq;omega),p1 b (by rw[i3];exact hb)],by rw[i3]at bq;omega,b6⟩
 rw[ff,ff (l₁:=lb++la),ff (l₁:=lb)]
 exact rz i1 (rz (rz (W9 vN) (W7 HO)) (Xa AR))
theorem LB {a b c:Nat} (h:a=c) (h':b=c):b=a:=h'.trans h.symm
theorem aly {li:dC} {c:Code} {e:Nat->List V->List ar->p2->T} (hd:rd=none∨ko c=true) (he:KU rd S L w0 P c e) {Q:Exit->Act->ai->Prop} {n:Nat} {ρ:Env} {m:Nat->Nat} {tm:List V} {bl:List ar} {a:Act} {w:ai} {G:dw} {k:p2}
 (h:R w0 n ρ m tm bl a w) (ae:(Ph li e n tm bl k).holds S L G ρ) (hk:zH S L w0 k n bl.length ρ m G Q):(Code.loop c).wpIn (o4 rd) 0 P Q a w:=by
 unfold Ph at ae
 obtain⟨aaL,XZ,TT,Wu,VS,⟨hz1,hz2⟩,ae⟩:=Qf (S:=S) (L:=L) h G _ ae
 have hk:=hk.later (⟨Wu,VS,by rw[hz2];exact a6 _,λ_ _=>rfl⟩:dr n bl.length ρ m XZ TT.length aaL m) (dU.refl _ G)
 clear h
 have h:=hz1
 clear hz1 hz2 Wu VS
 revert h hk ae
 generalize XZ=n
 generalize aaL=ρ
 generalize TT=bl
 intro ae hk h
 obtain⟨bN,n0,tm,mL,ha0,AT,ae⟩:=DB (S:=S) (L:=L) h.t G _ ae
 have DM:=h.later mL ha0
 have h:R w0 n0 bN m tm bl a w:=⟨AT,DM.d,DM.b,DM.ba⟩
 have hk:=hk.later (⟨mL,ha0,a6 _,λ_ _=>rfl⟩:dr n bl.length ρ m n0 bl.length bN m) (dU.refl _ G)
 obtain⟨ax,n1,lb,e4,dF,⟨s1,s2,fR⟩,ae⟩:=LC (S:=S) (L:=L) h.t G _ ae
 have h1:=h.later e4 dF
 have hk:=hk.later (⟨e4,dF,a6 _,λ_ _=>rfl⟩:dr n0 bl.length bN m n1 bl.length ax m) (dU.refl _ G)
 split at ae
 rotate_left
 ·exact ae.elim
 rename_i j0 l1 b1 la us iR e1 Uw ad1
 obtain⟨a1,a2,_,_,a5⟩:=GL h1 Uw
 obtain⟨k1,k2,k3⟩:=O0 (us:=us) h1
 obtain⟨r1,r2,gs,os,fo⟩:=Jp h1 ad1
 cases e2:hb li.cells 0 (n1+1+l1.length) (kT us bl)with
 |none=>rw[e2]at ae;exact ae.elim
 |some bI=>
  obtain⟨dS,l2,b2⟩:=bI
  rw[e2]at ae
  simp only at ae
  cases hf:(kM j0 j0&&kL dS dS)with
  |false=>rw[hf]at ae;exact ae.elim
  |true=>
   rw[hf]at ae
   simp only[CB,cond_false,T.holds]at ae
   simp only[aK]at hf
   obtain⟨fx,gV,MT,hB⟩:=ae
   have Il:∀v∈tm,V.ok n1 (kT us bl).length ax v:=λv hv=>by
    obtain⟨i,hi⟩:=List.getElem?_of_mem hv
    exact(k1.t.2 i v hi).1
   have Dr:hb li.cells 0 (n1+1+l1.length) ((kT us bl).take (kT us bl).length)=some (dS,l2,b2):=by rw[RD];exact e2
   have ahE:xe w0 w a.tmps (λg=>(∀(i:Nat) (p:ar),i<(kT us bl).length->(kT us bl)[i]?=some p->m i=g->aX ax p.1=0)/\¬∃(i:Nat) (p:ar),(kT us bl)[i]?=some p/\m i=g/\aX ax p.1=1) li.nV (la.map (·.den ax)):=by
    refine a5 _ λb p hb _ hbl iO jT=>?_
    have key:∀(i:Nat) (q:ar),(kT us bl)[i]?=some q->m i=m b->aX ax q.1=0:=λi q hi he=>by
     rcases k3 i q hi with⟨g1,g2⟩|g1
     ·by_cases hH:i=b
      ·subst hH
       rw[hbl]at g1;cases g1
       rcases g2 hb with g2|g2
       ·rw[jT]at g2;cases g2
       ·exact g2
      ·rcases h1.ba.inj i b q p g1 hbl he with g3|g3|g3|g3
       ·exact absurd g3 hH
       ·omega
       ·exact g3
       ·omega
     ·exact g1
    exact⟨λi q _ hi he=>key i q hi he,λ⟨i,q,hi,he,hk⟩=>by have:=key i q hi he;omega⟩
   have AR:o7 w0 w a.tmps (λg=>∃(i:Nat) (p:ar),(kT us bl)[i]?=some p/\m i=g/\aX ax p.1=1) li.kr gs os (iR.map (·.den ax)):=by
    refine fo.mono λg ⟨i,p,hi,he,hk⟩=>⟨i,p,OZ hi λhu=>?_,he,hk⟩
    rcases Lk Uw i hu with bU|⟨sh,off,code,cap,t,bU⟩
    ·simp at bU
    ·rw[hi]at bU
     cases bU
     simp only[aX]at hk
     split at hk<;>omega
   obtain⟨i1,ey,i2,i3,i4⟩:=Wb (a6 _) (agree.refl n1 ax) (λ_ _=>rfl) Il k1.b k1 e1 e2 e1 Dr hf.1 hf.2 fR ahE AR rfl rfl rfl
   generalize Vy:n1+1+l1.length+l2.length+(lb++la++iR).length=NN at*
   generalize Vx:n1+1+l1.length+l2.length+(lb++la).length=ND at*
   generalize Vw:n1+1+l1.length+l2.length+lb.length=NA at*
   generalize ahY:headD li.kr ND NN (rh li.oJ (n1+1+l1.length+l2.length) j0) dS=d at*
   refine wpIn_loop_ghost (λN dc w'=>∃zs os ey,aO (b1++b2++(G2 li.oJ++xu li.nV++y7 li.kr)) zs/\fx zs/\gV zs=N/\(os.length=li.kr.length/\∀z∈os,0<=z)/\(∀b,b<(kT us bl).length->ey b=m b)/\
    R w0 (NN+li.kr.length) (bu (bu ax (n1+1) zs) NN os) ey (pw li.nV NA d.1 d.2).1 (pw li.nV NA d.1 d.2).2 dc w') (gV ((l1++l2++(lb++la++iR)).map (·.den ax))) ⟨_,os,ey,i1,MT,rfl,AR.len,i2,i4⟩ ?_
   rintro N a1 w1 ⟨zs,PH,ey,hz1,hz2,rfl,⟨ry,oc⟩,ajK,gL⟩
   have tM:=natsM_holds (kG hB hz1 hz2) ry oc
   refine he hd _ _ _ _ _ _ _ a1 w1 _ gL tM λx n' ad m' bR aR dx dc w' h1 h2 h3 h4=>?_
   have xT:agree n1 ax (bu ax (n1+1) zs):=(agree.bu _ (n1+1) ax).mono (by omega)
   have ahG:agree n1 ax (bu (bu ax (n1+1) zs) NN PH):=xT.trans (agree.bu PH NN _) (by omega)
   have MV:dr n1 bl.length ax m (NN+li.kr.length) (pw li.nV NA d.1 d.2).2.length (bu (bu ax (n1+1) zs) NN PH) ey:=⟨by omega,ahG,by rw[k2]at i3;exact i3,λb hb=>ajK b (by rw[k2];exact hb)⟩
   have vL:dU n1 G (G.set n1 λvs=>fx vs/\gV vs<gV zs):=λl hl=>by
    unfold dw.set
    cases hb:aA l n1 with
    |true=>have:=bk hb;omega
    |false=>rfl
   have cJ:=MV.trans h1
   have MS:dx n1=λvs=>fx vs/\gV vs<gV zs:=by
    rw[h2 n1 (by omega)]
    unfold dw.set
    have:aA n1 n1=true:=wZ n1
    rw[this];rfl
   cases x with
   |exit id=>exact hk (.exit id) n' ad m' bR aR dx dc w' cJ (vL.trans h2 (by omega)) h3 h4
   |ret=>exact hk .ret n' ad m' bR aR dx dc w' cJ (vL.trans h2 (by omega)) h3 h4
   |normal=>
    simp only at h4
    obtain⟨R4,uF,bR,Wr,VO,ajq,h4⟩:=DB (S:=S) (L:=L) h3.t dx _ h4
    have As:=h3.later Wr VO
    have h3:R w0 uF R4 m' bR aR dc w':=⟨ajq,As.d,As.b,As.ba⟩
    have cJ:=cJ.trans (⟨Wr,VO,a6 _,λ_ _=>rfl⟩:dr n' aR.length ad m' uF aR.length R4 m')
    obtain⟨qS,By,Xo,er,dk,⟨t1,t2,t3⟩,h4⟩:=LC (S:=S) (L:=L) h3.t dx _ h4
    have h3:=h3.later er dk
    split at h4
    rotate_left
    ·exact h4.elim
    rename_i uU v1 zS O5 jG XB bt ad0 ad2
    obtain⟨c1,c2,_,c4,c5⟩:=GL h3 ad0
    obtain⟨d1,d2,axx,X7,d3⟩:=Jp h3 ad2
    cases eS:hb li.cells 0 (n1+1+v1.length) (aR.take bl.length)with
    |none=>rw[eS]at h4;exact h4.elim
    |some dz=>
     obtain⟨mD,v2,qY⟩:=dz
     rw[eS]at h4
     simp only at h4
     cases hE:(kM j0 uU&&kL dS mD)with
     |false=>rw[hE]at h4;exact h4.elim
     |true=>
      rw[hE]at h4
      simp only[cond_true,T.holds,MS]at h4
      simp only[aK]at hE
      have MW:=cJ.trans (⟨er,dk,a6 _,λ_ _=>rfl⟩:dr uF aR.length R4 m' By aR.length qS m')
      have ahF:xe w0 w' dc.tmps (λg=>(∀(i:Nat) (p:ar),i<(kT us bl).length->aR[i]?=some p->m' i=g->aX qS p.1=0)/\¬∃(i:Nat) (p:ar),aR[i]?=some p/\m' i=g/\aX qS p.1=1) li.nV (O5.map (·.den qS)):=by
       refine c5 _ λb p hb _ hbl iO jT=>⟨λi q dZ hi he=>?_,λ⟨i,q,hi,he,hk⟩=>?_⟩
       ·have xY:bl.length<=b:=by
         rcases c4 b hb with h|h
         ·simp at h
         ·exact h
        rw[k2]at dZ
        rcases h3.ba.inj i b q p hi hbl he with g3|g3|g3|g3
        ·omega
        ·omega
        ·exact g3
        ·omega
       ·rcases h3.ba.inj i b q p hi hbl he with g3|g3|g3|g3
        ·subst g3
         rw[hi]at hbl;cases hbl
         omega
        ·omega
        ·omega
        ·omega
      obtain⟨dV,IT,nz,og,oR⟩:=Wb (NA:=NA) (ND:=ND) (NN:=NN) (by rw[k2];exact MW.hb) MW.ha (λb hb=>MW.hm b (by rw[k2]at hb;exact hb)) Il k1.b h3 e1 e2 bt (by rw[k2];exact eS) hE.1 hE.2 t3 ahF d3 (by have:=t2;have:=LB s2 t2;omega) (by have:=LB s2 t2;simp only[dQ]at*;omega) (by have:=LB s2 t2;simp only[dQ]at*;omega)
      rw[ahY]at oR
      exact⟨_,h4.2,_,X7,IT,dV,h4.1,rfl,d3.len,nz,oR⟩
theorem toL {ops:Array Oper}:ops.toList.toArray=ops:=iJ
theorem MD (N:Nat):∀(i:Nat) (bl:List ar),(gb N i bl).length=bl.length
 |_,[]=>rfl
 |i,_::r=>by simp[gb,MD N (i+1) r]
theorem Al (N:Nat):∀(i:Nat) (bl:List ar) (k:Nat) (p:ar),(gb N i bl)[k]?=some p->p=eC∨(i+k<N/\(bJ p.1||sH p.1)=true/\bl[k]?=some p)
 |_,[],k,p,h=>by simp[gb]at h
 |i,q::r,0,p,h=>by
  simp only[gb,qO,aG]at h
  cases hc:(b7 i N&&(bJ q.1||sH q.1))with
  |false=>rw[hc]at h;exact .inl h.symm
  |true=>
   rw[hc]at h
   simp only[cond_true]at h
   subst h
   simp only[aK]at hc
   exact .inr ⟨by simpa using pd hc.1,hc.2,rfl⟩
 |i,q::r,k+1,p,h=>by
  rcases Al N (i+1) r k p (by simpa [gb]using h)with h1|⟨h1,h2,h3⟩
  ·exact .inl h1
  ·exact .inr ⟨by omega,h2,by simpa using h3⟩
theorem Yu:∀{a b:List ar},preB a b=true->∀(k:Nat) (p:ar),a[k]?=some p->b[k]?=some p
 |[],_,_,_,_,h=>by simp at h
 |(c,t)::r,(c',t')::s,hf,k,p,h=>by
  simp only[preB,aK]at hf
  obtain⟨⟨⟨h1,h2⟩,h3⟩,h4⟩:=hf
  cases k with
  |zero=>
   have e1:=zU h1;have e2:=bk h2;have bt:t.2=t'.2:=by simpa using h3
   have:t=t':=Prod.ext e2 bt
   subst e1;subst this
   simpa using h
  |succ k=>have:=Yu h4 k p (by simpa using h);simpa using this
 |_::_,[],h,_,_,_=>by simp[preB]at h
theorem aj4 {c:List A} (h:sH c=true):∃sh off code cap,c=[.rows sh off code cap 1]:=by
 unfold sH at h
 split at h
 ·rename_i sh off code cap k
  have:=bk h
  subst this
  exact⟨sh,off,code,cap,rfl⟩
 ·cases h
def Jy (ρ bx:Env) (c:List A):Prop:=∀sh off code cap k,c=[.rows sh off code cap k]->off.den bx=off.den ρ/\code.den bx=code.den ρ/\cap.den bx=cap.den ρ
theorem Xk {ρ bx:Env} {c:List A} (h:(bJ c||sH c)=true) (hr:Jy ρ bx c):aX bx c=aX ρ c:=by
 rcases qL _ _▸h with h|h
 ·rw[iQ h,iQ h]
 ·obtain⟨sh,off,code,cap,rfl⟩:=aj4 h
  simp only[aX,(hr sh off code cap 1 rfl).2.2]
theorem Mem.sub {ρ bx:Env} {m ey:Nat->Nat} {bl kf:List ar} {w:ai} (h:Mem w0 ρ m bl w) (hs:∀(i:Nat) (p:ar),kf[i]?=some p->p=eC∨(bl[i]?=some p/\(bJ p.1||sH p.1)=true/\ey i=m i/\p.1.map (A.den bx ey)=p.1.map (A.den ρ m)/\Jy ρ bx p.1)):Mem w0 bx ey kf w:=by
 have jR:aX bx eC.1=0:=by simp[eC,aX]
 refine⟨h.ext,h.gg,h.iF,h.gI,h.eI,h.fM,λi cs t hi ho=>?_,λi sh off code cap kind t hi=>?_,λi j p q hi hj he=>?_⟩
 ·rcases hs i _ hi with h1|⟨h1,_,h3,h4,_⟩
  ·cases h1;simp[bJ]at ho
  ·rw[h3,h4];exact h.et i cs t h1 ho
 ·rcases hs i _ hi with h1|⟨h1,h2,h3,_,h5⟩
  ·cases h1;intro hk;exact absurd rfl hk
  ·obtain⟨e1,e2,bt⟩:=h5 sh off code cap kind rfl
   have:=h.rws i sh off code cap kind t h1
   unfold o6 at this⊢
   rw[e1,e2,bt,h3];exact this
 ·rcases hs i _ hi with h1|⟨h1,h2,h3,_,h5⟩
  ·subst h1;exact .inr (.inr (.inl jR))
  ·rcases hs j _ hj with g1|⟨g1,g2,g3,_,g5⟩
   ·subst g1;exact .inr (.inr (.inr jR))
   ·rw[Xk h2 h5,Xk g2 g5]
    exact h.inj i j p q h1 g1 (by rw[<-h3,<-g3];exact he)
theorem cp.gb {n nb:Nat} {ρ:Env} {bl:List ar} (h:cp n nb ρ bl) (N:Nat):cp n nb ρ (Go.bg.gb N 0 bl):=λp hp=>by
 obtain⟨i,hi⟩:=List.mem_iff_getElem?.1 hp
 rcases Al N 0 bl i p hi with h1|⟨_,_,h3⟩
 ·subst h1
  intro a ha
  simp only[eC,List.mem_singleton]at ha
  subst ha
  exact⟨⟨I.cz _ _,I.cz _ _,I.cz _ _⟩,⟨by simp[I.aM],by rw[I.aM];exact nP (fE []) (nS (by simp) (λ_ h=>by cases h))⟩,by simp[I.aM]⟩
 ·exact h p (dK h3)
theorem YR {n nb:Nat} {ρ ad:Env} {c:List A} (aZ:∀a∈c,A.ok n nb ρ a) (ha:agree n ρ ad) (back:Bool):cond back (Jy ad ρ c) (Jy ρ ad c):=by
 have key:∀sh off code cap k,c=[.rows sh off code cap k]->off.den ad=off.den ρ/\code.den ad=code.den ρ/\cap.den ad=cap.den ρ:=λsh off code cap k hc=>by
  have:=aZ _ (by rw[hc];exact List.mem_singleton.2 rfl)
  obtain⟨⟨h1,h2,h3⟩,_⟩:=this
  exact⟨I.bB ha h1,I.bB ha h2,I.bB ha h3⟩
 cases back with
 |true=>exactλsh off code cap k hc=>by obtain⟨h1,h2,h3⟩:=key sh off code cap k hc;exact⟨h1.symm,h2.symm,h3.symm⟩
 |false=>exact key
theorem ah4 {N:Nat} {tm:List V} {bl:List ar} {o:Oper} {a:Act} {w:ai} {v:az} (ho:HY N tm bl o=true) (h:zL P o a w v):(execOp a.eval o).run P w= .ok (.value v) w:=by
 rcases h with h|⟨f,args,h,_⟩
 ·exact h
 ·exfalso
  have key:∀s:Sem az,(do pure (ju (<-s)):Sem Next).run P w= .ok (.enter f args) w->False:=λs hs=>by
   simp only[fV]at hs
   cases hx:s.run P w with
   |ok u w'=>rw[hx]at hs;simp at hs
   |halt x w'=>rw[hx]at hs;simp at hs
  unfold HY at ho
  split at ho
  ·rename_i op t x y u hop;exact key (eqGuard op t x y (a.eval x) (a.eval y) >>= λ_=>binOp op t (a.eval x) (a.eval y)) (by simpa [execOp,hop]using h)
  ·rename_i t x i hop;exact key (Instr.indexAt t (a.eval x) (a.eval i)) (by simpa [execOp,hop]using h)
  ·rename_i t x lo hi dy hop;exact key (oY t (a.eval x) (lo.map a.eval) (hi.map a.eval) (dy.map a.eval)) (by simpa [execOp,hop]using h)
  ·rename_i t p hop;exact key (mv t (a.eval p)) (by simpa [execOp,hop]using h)
  ·cases ho
theorem ah5 {ops:Array Oper} {N:Nat} {tm:List V} {bl:List ar} {o:Oper} {a:Act} {w:ai} {v:az} (ho:HX N tm bl o=true) (h:zL P o a w v):(execOp a.eval o).run P w= .ok (.value v) w:=by
 rcases h with h|⟨f,args,h,_⟩
 ·exact h
 ·exfalso
  have key:∀s:Sem az,(do pure (ju (<-s)):Sem Next).run P w= .ok (.enter f args) w->False:=λs hs=>by
   simp only[fV]at hs
   cases hx:s.run P w with
   |ok u w'=>rw[hx]at hs;simp at hs
   |halt x w'=>rw[hx]at hs;simp at hs
  unfold HX at ho
  split at ho
  ·rename_i x hop;simp[execOp,hop]at h
  ·rename_i x hop;simp[execOp,hop]at h
  ·rename_i x i hop;exact key (Instr.extract (a.eval x) i) (by simpa [execOp,hop]using h)
  ·rename_i s x i hop;exact key (Instr.fieldAt s (a.eval x) i) (by simpa [execOp,hop]using h)
  ·rename_i t p hop;exact key (mv t (a.eval p)) (by simpa [execOp,hop]using h)
  ·rename_i t x lo hi dy hop;exact key (oY t (a.eval x) (lo.map a.eval) (hi.map a.eval) (dy.map a.eval)) (by simpa [execOp,hop]using h)
  ·cases ho
theorem acn {ops:Array Oper} {Q:Exit->Act->ai->Prop} {inl:iy} (cx:fk S P gl w0 cal) (hg:eK gl w0) (jf:lU S L w0 P inl) (xO:∀c a w,¬Q (.panic c) a w)
 {N n0:Nat} {kJ:List ar} {bN:Env} {m0:Nat->Nat} (hN:N<=kJ.length) (nv:cp n0 kJ.length bN kJ):∀(f:Nat) {listed:Array Bool} {n:Nat} {ρ:Env} {m:Nat->Nat} {tm:List V} {bl:List ar} {a:Act} {w:ai} {G:dw} {k:fA},
 R w0 n ρ m tm bl a w->dr n0 kJ.length bN m0 n bl.length ρ m->(∀(k:Nat) (p:ar),(gb N 0 kJ)[k]?=some p->(gb N 0 bl)[k]?=some p)->(tC P gl cal inl ops N (gb N 0 kJ) f listed n tm bl k).holds S L G ρ->iZ S L w0 k n bl.length ρ m G (Q .normal)->wpAnyH P .any ops Q (λw=>Mem w0 bN m0 (gb N 0 kJ) w) f listed a w:=by
 have down:∀{n:Nat} {ρ:Env} {m:Nat->Nat} {bl:List ar} {w:ai},dr n0 kJ.length bN m0 n bl.length ρ m->(∀(k:Nat) (p:ar),(gb N 0 kJ)[k]?=some p->(gb N 0 bl)[k]?=some p)->Mem w0 ρ m bl w->Mem w0 bN m0 (gb N 0 kJ) w:=λhl hp hm=>by
  refine hm.sub λi p hi=>?_
  rcases Al N 0 kJ i p hi with h1|⟨h1,h2,h3⟩
  ·exact .inl h1
  ·refine .inr ?_
   rcases Al N 0 _ i p (hp i p hi)with g1|⟨_,_,g3⟩
   ·subst g1;simp[eC,bJ,sH]at h2
   ·exact⟨g3,h2,(hl.hm i (by omega)).symm,(rE (nv p (dK h3)) hl.ha hl.hm).symm,YR (nv p (dK h3)) hl.ha true⟩
 have up:∀{n:Nat} {ρ:Env} {m:Nat->Nat} {bl:List ar} {w:ai},dr n0 kJ.length bN m0 n bl.length ρ m->(∀(k:Nat) (p:ar),(gb N 0 kJ)[k]?=some p->(gb N 0 bl)[k]?=some p)->Mem w0 bN m0 (gb N 0 kJ) w->Mem w0 ρ m (gb N 0 bl) w:=λ{n ρ m bl w} hl hp hm=>by
  refine hm.sub λi p hi=>?_
  rcases Al N 0 bl i p hi with h1|⟨h1,h2,h3⟩
  ·exact .inl h1
  ·refine .inr ?_
   have hlt:i<(gb N 0 kJ).length:=by rw[MD];omega
   have hq:=hp i _ (jt hlt)
   rw[hi]at hq
   have hq:p=(gb N 0 kJ)[i]:=gE hq
   have h0:(gb N 0 kJ)[i]?=some p:=by rw[jt hlt,hq]
   rcases Al N 0 kJ i p h0 with g1|⟨_,_,g3⟩
   ·subst g1;simp[eC,bJ,sH]at h2
   ·exact⟨h0,h2,hl.hm i (by omega),rE (nv p (dK g3)) hl.ha hl.hm,YR (nv p (dK g3)) hl.ha false⟩
 intro f
 induction f with
 |zero=>
  intro listed n ρ m tm bl a w G k h hl hp ae hk
  unfold tC at ae
  unfold wpAnyH
  split at ae
  ·rename_i hr
   exact⟨hr,hk n ρ m tm bl G a w (dr.refl _ _ _ _) (dU.refl _ _) h ae⟩
  ·exact ae.elim
 |succ f ih=>
  intro listed n ρ m tm bl a w G k h hl hp ae hk
  unfold tC at ae
  split at ae
  ·rename_i hr
   exact⟨λ_=>hk n ρ m tm bl G a w (dr.refl _ _ _ _) (dU.refl _ _) h ae,λi hi=>by rw[hr]at hi;cases hi⟩
  ·rename_i l hl0
   split at ae
   ·rename_i i hi
    unfold Wc at hi
    cases n6:Kp ops with
    |false=>rw[n6]at hi;cases hi
    |true=>
    rw[n6,cond_true]at hi
    have cD:=RE hi
    have rl:=CC hi
    simp only[aK]at cD
    cases ho:ops[i]? with
    |none=>simp only[ho]at ae;exact ae.elim
    |some o=>
     simp only[ho]at ae
     have hX:HX N tm bl o=true∨HY N tm bl o=true:=by
      have:=cD.1;simp only[ho,qL,aK]at this;exact this.imp id And.right
     obtain⟨bR,km,hgd⟩:=DJ h.t ae
     have h:R w0 n ρ m bR bl a w:=⟨km,h.d,h.b,h.ba⟩
     have cw:=down hl hp h.ba
     rcases hgd with⟨hw,ae⟩|⟨hw,ae⟩
     ·have hlen:(gb N 0 bl).length=bl.length:=MD N 0 bl
      obtain⟨ad,n',v,sD,jd,⟨hv,val,hr,hq⟩,AK⟩:=PX (L:=L) (bl:=gb N 0 bl) cx (by rw[hlen];exact h.b.gb N) hg ⟨w,up hl hp cw⟩ (by rw[hlen];exact km) o G _ ae
      rw[hlen]at hv
      have hy:YieldsIf P ops (λw=>Mem w0 bN m0 (gb N 0 kJ) w) o val a:= .inl ⟨hw,λw' ru=>hX.elim (λhf=>ah5 (ops:=ops) hf (hq w' (up hl hp ru))) (λhf=>ah4 hf (hq w' (up hl hp ru)))⟩
      refine wpAnyH_take ho n6 cD.2 (by simpa using rl) (λc a w hp=>absurd hp (xO _ _ _)) hy cw ?_
      have hlt:dr n bl.length ρ m n' bl.length ad m:=⟨sD,jd,a6 _,λ_ _=>rfl⟩
      exact ih ⟨dD.put (km.ext jd sD (a6 _) (λ_ _=>rfl)) o.dst hv hr,by rw[put_defers];exact h.d,h.b.ext jd sD (a6 _),h.ba.lJ h.b jd⟩ (hl.trans hlt) hp AK (hk.later hlt (dU.refl _ _))
     ·refine wpAnyH_take ho n6 cD.2 (by simpa using rl) (λc a w hp=>absurd hp (xO _ _ _)) (.inr ⟨hw,rfl⟩) cw ?_
      exact ih (h.skip o.dst) hl hp ae hk
   split at ae
   ·rename_i i hi
    unfold X1 at hi
    cases n6:Kp ops with
    |false=>rw[n6]at hi;cases hi
    |true=>
    rw[n6,cond_true]at hi
    have cD:=RE hi
    have rl:=CC hi
    simp only[aK]at cD
    cases ho:ops[i]? with
    |none=>simp only[ho]at ae;exact ae.elim
    |some o=>
     simp only[ho]at ae
     obtain⟨bR,km,hgd⟩:=DJ h.t ae
     have h:R w0 n ρ m bR bl a w:=⟨km,h.d,h.b,h.ba⟩
     have cw:=down hl hp h.ba
     rcases hgd with⟨_,ae⟩|⟨hw,ae⟩
     ·exact ae.elim
     ·refine wpAnyH_take ho n6 cD.2 (by simpa using rl) (λc a w hp=>absurd hp (xO _ _ _)) (.inr ⟨hw,rfl⟩) cw ?_
      exact ih (h.skip o.dst) hl hp ae hk
   unfold wpAnyH
   refine⟨λhr=>absurd hr hl0,λi hi=>?_⟩
   have cD:=allT_holds ae i hi
   unfold wpOp
   cases ho:ops[i]? with
   |none=>simp only[ho]at cD;exact cD.elim
   |some o=>
    simp only[ho]at cD⊢
    obtain⟨bR,km,hgd⟩:=DJ h.t cD
    have h:R w0 n ρ m bR bl a w:=⟨km,h.d,h.b,h.ba⟩
    rcases hgd with⟨hw,NH⟩|⟨hw,NH⟩
    ·rw[if_pos hw]
     refine .inl (Zg cx hg jf h NH λn' ad m' bR aR dx dc w' h1 h2 h3 h4=>?_)
     cases hf:preB (gb N 0 kJ) (gb N 0 aR)with
     |false=>rw[hf]at h4;exact h4.elim
     |true=>
      rw[hf,cond_true]at h4
      have sC:=hl.trans h1
      have hf:=Yu hf
      exact⟨down sC hf h3.ba,ih h3 sC hf h4 (hk.later h1 h2)⟩
    ·rw[if_neg (by simp[hw])]
     exact⟨down hl hp h.ba,ih (h.skip o.dst) hl hp NH hk⟩
theorem Aa {inl:iy} {li:Nat->Option dC} {rounds:Nat} (hm:P.follows .mixedOrders=true) (cx:fk S P gl w0 cal) (hg:eK gl w0) (jf:lU S L w0 P inl):∀(c:Code),KU rd S L w0 P c (kK P gl cal inl li rounds c):=by
 intro c
 induction c with
 |skip=>intro hd n tm bl k G ρ m a w Q h ae hk;exact wpIn_skip (hk .normal n ρ m tm bl G a w (dr.refl _ _ _ _) (dU.refl _ _) h ae)
 |exit id=>intro hd n tm bl k G ρ m a w Q h ae hk;exact wpIn_exit (hk (.exit id) n ρ m tm bl G a w (dr.refl _ _ _ _) (dU.refl _ _) h ae)
 |ret=>intro hd n tm bl k G ρ m a w Q h ae hk;exact wpIn_ret (hk .ret n ρ m tm bl G a w (dr.refl _ _ _ _) (dU.refl _ _) h ae)
 |region id ops draw=>
  intro hd n tm bl k G ρ m a w Q h ae hk
  have MZ:iZ S L w0 (k .normal) n bl.length ρ m G (oA Q .normal):=λn' ad m' bR aR dx dc w' h1 h2 h3 h4=>hk .normal n' ad m' bR aR dx dc w' h1 h2 h3 h4
  cases draw with
  |false=>
   simp only[kK,cond_false]at ae
   refine apE hd ?_
   exact I6 cx hg jf ops.toList h ae MZ
  |true=>
   simp only[kK,cond_true]at ae
   cases ht:(B2 ops (Eb P cal ops)&&Kk P (ops.toList.take (Eb P cal ops)))with
   |false=>
    simp only[ht,cond_false]at ae
    cases hsz:bw (ops.toList.filter λo=> !Pj o).length 12 with
    |false=>simp only[hsz,cond_false]at ae;exact ae.elim
    |true=>
     simp only[hsz,cond_true]at ae
     have pv:R w0 n ρ m tm bl a w.drew:=⟨h.t,h.d,h.b,h.ba.grow (Kq (na w))⟩
     refine YA hm hd (wpAny_of_held (S:=λw=>Mem w0 ρ m (gb (Ec ops tm bl) 0 bl) w) _ _ _ _ ?_)
     exact acn cx hg jf (λc a w h=>h) (N:=Ec ops tm bl) (by unfold Ec;cases Pm ops<;>cases ops.toList.any OV<;>simp<;>exact Nat.min_le_left _ _) h.b ops.size pv (dr.refl _ _ _ _) (λ_ _ h=>h) ae MZ
   |true=>
    simp only[ht,cond_true]at ae
    simp only[aK]at ht
    have hle:Eb P cal ops<=ops.toList.length:=by
     have h1:=ht.1
     simp only[B2,aK]at h1
     simpa using eb h1.1.1.2
    generalize Eb P cal ops=hl0 at*
    have pv:R w0 n ρ m tm bl a w.drew:=⟨h.t,h.d,h.b,h.ba.grow (Kq (na w))⟩
    have key:=aty (P:=P) (Q:=oA Q) (a:=a) (w:=w) (l:=ops.toList) (C:=λw'=>Mem w0 ρ m bl w') hl0 (Cu P ops) hm (by rw[toL];exact ht.1) (λw' ru=>pv.ba.grow ru) (λj o hj ho dG b w'=>by
     have:=auQ (l:=ops.toList) (P:=P) ht.2 hj ho dG b w'
     rw[toL]at this;exact this) (by
     rw[toL]
     refine HW cx hg h.b ⟨_,h.ba⟩ _ (a6 _) (agree.refl _ _) h.t h.d ae λn' ad bR an h1 h2 h3 h4 h5 eY b w' tQ qc Ex=>?_
     have hl:dr n bl.length ρ m n' bl.length ad m:=⟨h1,h2,a6 _,λ_ _=>rfl⟩
     have agH:=(pv.ba.grow qc).lJ h.b h2
     refine Lp (S:=S) (L:=L) (w0:=w0) (P:=P) (K:=λb w'=>wpList P ops (calm (oA Q)) (ops.toList.drop hl0) b w') tQ Ex pv.ba.ext.size pv.ba.eI (ops.toList.take hl0) 0 (λj hj=>?_) (by simp;exact w8 (by simpa using hle)) ⟨h3,h4,h.b.ext h2 h1 (a6 _),agH⟩ (λbA p lu hp=> .inl ?_) rfl (λt=>⟨λ⟨j,o,hj,_⟩=>by omega,λ_=>rfl⟩) h5 (λBy qS ax3 Zy awi KZ Tx mZ k1 k2 k3 k4=>I6 cx hg jf _ k3 k4 ((MZ.later hl (dU.refl _ _)).later k1 k2)) h4
     ·have hj':j<hl0:=by simp at hj;omega
      rw[m9,if_pos hj'];simp
     ·rw[pE (h.b _ (dK lu)) h2]at hp
      exact pv.ba.lt lu hp)
    rw[toL]at key
    exact YA hm hd key
 |seq x y ajU Is=>
  intro hd n tm bl k G ρ m a w Q h ae hk
  have x3:rd=none∨ko x=true:=hd.imp id λh=>by simp only[ko,aK]at h;exact h.1
  have x4:rd=none∨ko y=true:=hd.imp id λh=>by simp only[ko,aK]at h;exact h.2
  refine wpIn_seq (ajU x3 n tm bl _ G ρ m a w _ h ae λx n' ad m' bR aR dx dc w' h1 h2 h3 h4=>?_)
  cases x with
  |normal=>exact Is x4 n' bR aR k dx ad m' dc w' Q h3 h4 (hk.later h1 h2)
  |exit id=>exact hk (.exit id) n' ad m' bR aR dx dc w' h1 h2 h3 h4
  |ret=>exact hk .ret n' ad m' bR aR dx dc w' h1 h2 h3 h4
 |cond x y z Is W6=>
  intro hd n tm bl k G ρ m a w Q h ae hk
  simp only[kK]at ae
  have hx:=b9 h.t x
  split at ae
  ·rename_i b hb
   rw[hb]at hx
   have cL:a.eval x= .bool (b.den ρ):=hx.2
   have x3:rd=none∨ko y=true:=hd.imp id λh=>by simp only[ko,aK]at h;exact h.1
   have x4:rd=none∨ko z=true:=hd.imp id λh=>by simp only[ko,aK]at h;exact h.2
   refine wpIn_cond cL ?_
   split at ae
   ·rename_i v
    cases v with
    |true=>simp only[cond_true]at ae;exact Is x3 n tm bl k G ρ m a w Q h ae hk
    |false=>simp only[cond_false]at ae;exact W6 x4 n tm bl k G ρ m a w Q h ae hk
   ·simp only[T.holds]at ae
    cases hd:aS.den ρ b with
    |true=>exact Is x3 n _ bl k G ρ m a w Q ⟨B1 hd h.t,h.d,h.b,h.ba⟩ (ae.1 (by simpa using hd)) hk
    |false=>exact W6 x4 n _ bl k G ρ m a w Q ⟨B1 hd h.t,h.d,h.b,h.ba⟩ (ae.2 (by simpa using hd)) hk
  ·exact ae.elim
 |block id x ih=>
  intro hd n tm bl k G ρ m a w Q h ae hk
  refine wpIn_block (ih hd n tm bl _ G ρ m a w _ h ae λx n' ad m' bR aR dx dc w' h1 h2 h3 h4=>?_)
  cases x with
  |normal=>exact hk .normal n' ad m' bR aR dx dc w' h1 h2 h3 h4
  |ret=>exact hk .ret n' ad m' bR aR dx dc w' h1 h2 h3 h4
  |exit v7=>
   simp only at h4
   simp only[X.to,Exit.inBlock]
   cases hb:aA v7 id with
   |true=>
    simp only[hb,cond_true]at h4
    rw[if_pos (bk hb)]
    exact hk .normal n' ad m' bR aR dx dc w' h1 h2 h3 h4
   |false=>
    simp only[hb,cond_false]at h4
    rw[if_neg (λe=>by subst e;rw[show aA v7 v7=true from wZ v7]at hb;cases hb)]
    exact hk (.exit v7) n' ad m' bR aR dx dc w' h1 h2 h3 h4
 |loop x ih=>
  intro hd n tm bl k G ρ m a w Q h ae hk
  simp only[kK]at ae
  split at ae
  ·exact aly (c:=x) hd ih h ae hk
  ·exact wpIn_loop_rounds rounds (YJ (c:=x) hd ih rounds h ae hk)
 |_=>intro hd n tm bl k G ρ m a w Q h ae hk;exact ae.elim
def y9 (a:Act):ResultVar->Sem az
 | .tmp t=>zv (a.tmps.getD t undef)
 | .cell x t=>do loadVar t (<-asAddr (a.tmps.getD x undef))
theorem apI {n:Nat} {ρ:Env} {m:Nat->Nat} {bl:List ar} {tm:List V} {a:Act} {w:ai} {r:ResultVar} {u:W} (hg:eK gl w0) (h:R w0 n ρ m tm bl a w) (hr:FA P gl bl tm r=some u):
 u.ok n bl.length ρ/\(y9 a r).run P w= .ok (u.den ρ m) w:=by
 cases r with
 |tmp t=>
  simp only[FA]at hr
  cases ht:tm[t]? with
  |none=>simp[ht]at hr
  |some v=>
   obtain⟨h1,x,h2,h3⟩:=h.t.2 t v ht
   simp only[ht]at hr
   cases v with
   |w arq=>
    simp only[aG]at hr
    subst hr
    refine⟨h1,?_⟩
    have:a.tmps.getD t undef=arq.den ρ m:=by simp[h2];exact h3
    simp only[y9,this];rfl
   |_=>simp at hr
 |cell x t=>
  simp only[FA]at hr
  cases ht:tm[x]? with
  |none=>simp[ht]at hr
  |some v=>
   obtain⟨h1,y,h2,h3⟩:=h.t.2 x v ht
   simp only[ht]at hr
   cases v with
   |fq l=>simp at hr
   |any=>simp at hr
   |mT _ _ _=>simp at hr
   |nm _ _=>simp at hr
   |w q=>
    cases q with
    |agg l=>simp at hr
    |one p=>
     simp only at hr
     have hy:a.tmps.getD x undef=p.den ρ m:=by simp[h2];exact h3
     cases hc:z6 bl gl p with
     |none=>simp[hc]at hr
     |some cs=>
      obtain⟨g,o,hp,aZ,hcell⟩:=LU h.ba h.b hg hc
      simp only[y9,hy,hp]
      cases lZ:hL P t with
      |none=>simp[hc,lZ]at hr
      |some b=>
       cases b with
       |true=>
        cases hs:eA P t with
        |none=>simp[hc,lZ,hs]at hr
        |some k=>
         simp only[hc,lZ,hs]at hr
         cases hk:bw k cs.length with
         |false=>simp[hk]at hr
         |true=>
          simp only[hk,cond_true,aG]at hr
          subst hr
          have hk:=eb hk
          refine⟨λa h=>aZ a (jM h),?_⟩
          have hl:=run_loadCells_list (P:=P) w ⟨g,o,none⟩ ((cs.take k).map (A.den ρ m)) λj v hj=>by
           rw[gW]
           rw[mu]at hj
           cases hq:(cs.take k)[j]? with
           |none=>simp[hq]at hj
           |some a=>
            simp only[hq,qM,aG]at hj
            subst hj
            refine hcell j a ?_
            rw[m9]at hq
            split at hq
            ·exact hq
            ·cases hq
          simp only[j6,mw,w8 hk]at hl
          simp[asAddr,loadVar,ow lZ,gO hs,hl,W.den]
       |false=>
        cases cs with
        |nil=>simp[hc,lZ]at hr
        |cons z r=>
         simp only[hc,lZ,aG]at hr
         subst hr
         refine⟨aZ z (by simp),?_⟩
         have:=hcell 0 z rfl
         simp only[ld]at this
         simp[asAddr,loadVar,ow lZ,this,W.den]
theorem YE {n:Nat} {ρ:Env} {m:Nat->Nat} {bl:List ar} {tm:List V} {a:Act} {w:ai} (hg:eK gl w0) (h:R w0 n ρ m tm bl a w):∀{rs:List ResultVar} {l:List W},za P gl bl tm rs=some l->
 (∀u∈l,W.ok n bl.length ρ u)/\(rs.mapM (m:=Sem) (y9 a)).run P w= .ok (l.map (W.den ρ m)) w
 |[],l,hr=>by simp[za]at hr;subst hr;exact⟨by simp,by simp⟩
 |r::s,l,hr=>by
  simp only[za]at hr
  cases h1:FA P gl bl tm r with
  |none=>simp[h1]at hr
  |some u=>
   cases h2:za P gl bl tm s with
   |none=>simp[h1,h2]at hr
   |some bp=>
    simp only[h1,h2,aG]at hr
    subst hr
    have e1:=apI hg h h1
    have e2:=YE hg h h2
    refine⟨λx hx=>by rcases List.mem_cons.1 hx with rfl|hx;exact e1.1;exact e2.1 x hx,?_⟩
    rw[List.mapM_cons,fV]
    simp only[e1.2,e2.2,fW,fV,gU,cr]
theorem P1 {fn:Func} {n:Nat} {ρ:Env} {m:Nat->Nat} {bl:List ar} {tm:List V} {a:Act} {w:ai} {k:RK} {G:dw} (hg:eK gl w0) (h:R w0 n ρ m tm bl a w) (ae:(Fy P gl fn n tm bl k).holds S L G ρ):
 ∃v val,V.ok n bl.length ρ v/\v.rel ρ m val/\(results fn a.tmps).run P w= .ok val w/\(k n v bl).holds S L G ρ:=by
 unfold Fy at ae
 cases hr:za P gl bl tm fn.results.toList with
 |none=>
  simp only[hr]at ae
  cases ho:PE tm fn.results.toList with
  |none=>simp[ho,T.holds]at ae
  |some v=>
   simp only[ho]at ae
   obtain⟨t,e,hv⟩:∃t,fn.results.toList=[.tmp t]/\tm[t]?=some v:=by
    unfold PE at ho
    split at ho
    ·rename_i t he
     refine⟨t,he,?_⟩
     split at ho<;>first|(cases ho;assumption)|cases ho
    ·cases ho
   obtain⟨h1,x,h2,h3⟩:=h.t.2 t v hv
   refine⟨v,x,h1,h3,?_,ae⟩
   have tJ:fn.results=#[.tmp t]:=by rw[<-iJ (xs:=fn.results),e]
   have ex:a.tmps.getD t undef=x:=by simp[h2]
   have e:results fn a.tmps=(do let vs<-fn.results.mapM (y9 a);zv (if h:vs.size=1 then vs[0]else .tuple vs)):=by
    unfold results
    congr 1
   rw[e,tJ,au1]
   simp[fV,Sem.run_map,fW,y9,h2]
 |some l=>
  obtain⟨h1,h2⟩:=YE hg h hr
  have gv:(results fn a.tmps).run P w= .ok (if h:(l.map (W.den ρ m)).toArray.size=1 then(l.map (W.den ρ m)).toArray[0]else .tuple (l.map (W.den ρ m)).toArray) w:=by
   have e:results fn a.tmps=(do let vs<-fn.results.mapM (y9 a);zv (if h:vs.size=1 then vs[0]else .tuple vs)):=by
    unfold results
    congr 1
   rw[e,au1]
   simp only[fV,Sem.run_map,fW,h2,gU]
  simp only[hr]at ae
  split at ae
  ·rename_i u heq
   have heq:=gE heq
   subst heq
   exact⟨.w u,_,h1 u (by simp),rfl,by rw[gv];simp,ae⟩
  ·rename_i bp hne heq
   have heq:=gE heq
   subst heq
   refine⟨.fq l,_,h1,rfl,?_,ae⟩
   rw[gv,dif_neg]
   intro hs
   simp at hs
   match l,hs,hne with
   |[u],_,hne=>exact hne u rfl
  ·rename_i heq;cases heq
theorem K8 {ρ:Env} {m:Nat->Nat}:∀{vs:List V} {xs:List az},ec ρ m vs xs->vs.length=xs.length
 |[],[],_=>rfl
 |_::_,_::_,h=>by simp[K8 h.2]
 |[],_::_,h=>h.elim
 |_::_,[],h=>h.elim
theorem K6 {n nb:Nat} {ρ:Env} {m:Nat->Nat} (k:Nat):∀{vs:List V} {xs:List az},(∀v∈vs,V.ok n nb ρ v)->ec ρ m vs xs->xr n nb ρ m (vs++BQ k) (xs++cV k undef)
 |[],[],_,_=>by
  simp only[jr]
  induction k with
  |zero=>trivial
  |succ k ih=>exact⟨by intro x hx;simp at hx,rfl,ih⟩
 |v::r,x::s,h,hr=>⟨h v (by simp),hr.1,K6 k (λu hu=>h u (cR _ hu)) hr.2⟩
 |[],_::_,_,h=>h.elim
 |_::_,[],_,h=>h.elim
theorem TV (mJ:w0.ds=[]) {li:cy->Nat->Option dC} {rounds:Nat} {inl:iy} (hm:P.follows .mixedOrders=true) (cx:fk S P gl w0 cal) (hg:eK gl w0) (ih:lU S L w0 P inl):lU S L w0 P (G0 P gl cal inl li rounds):=by
 intro f n vs bl k G ρ m w xs R' hb kk oQ hrel ae hk
 unfold G0 at ae
 cases hf:P.funcs[f]? with
 |none=>simp[hf,T.holds]at ae
 |some fn=>
  cases tM:fn.body with
  |none=>simp[hf,tM,T.holds]at ae
  |some c=>
   simp only[hf,tM]at ae
   cases hc:(!(fn.name== "runtime.NumGoroutine")&&bw vs.length fn.ntmps)with
   |false=>simp[hc,T.holds]at ae
   |true=>
    simp only[hc,cond_true]at ae
    simp only[aK,Bool.not_eq_true']at hc
    have hlen:=K8 hrel
    refine⟨?_,calls_of_wp hf tM ?_⟩
    ·have h1:¬fn.name= "runtime.NumGoroutine" :=by have:=hc.1;simpa using this
     simp[callFunc,hf,tM,h1]
    ·have hR:R w0 n ρ m (vs++BQ (fn.ntmps-vs.length)) bl {tmps:=xs.toArray++th (fn.ntmps-xs.toArray.size) undef,defers:=[]} w:=by
      refine⟨?_,mJ.symm,hb,kk⟩
      have:=GI (K6 (fn.ntmps-vs.length) oQ hrel)
      have e:(xs++cV (fn.ntmps-vs.length) undef).toArray=xs.toArray++th (fn.ntmps-xs.toArray.size) undef:=by
       simp[hlen]
      rw[e]at this
      exact this
     refine wpIn_wide.1 (Aa (rd:=none) hm cx hg ih c (.inl rfl) n _ bl _ G ρ m _ w _ hR ae λx n' ad m' bR aR dx dc w' h1 h2 h3 h4=>?_)
     cases x with
     |exit id=>exact h4.elim
     |normal=>
      obtain⟨v,val,p1,bq,cv,dI⟩:=P1 hg h3 h4
      exact⟨h3.d.trans mJ,val,cv,hk n' v aR dx ad m' w' val h1 h2 p1 bq h3.b h3.ba dI⟩
     |ret=>
      obtain⟨v,val,p1,bq,cv,dI⟩:=P1 hg h3 h4
      exact⟨h3.d.trans mJ,val,cv,hk n' v aR dx ad m' w' val h1 h2 p1 bq h3.b h3.ba dI⟩
theorem T6 (mJ:w0.ds=[]) {li:cy->Nat->Option dC} {rounds:Nat} (hm:P.follows .mixedOrders=true) (cx:fk S P gl w0 cal) (hg:eK gl w0):∀d,lU S L w0 P (G9 P gl cal li rounds d)
 |0=>λf n vs bl k G ρ m w xs R' _ _ _ _ ae _=>ae.elim
 |d+1=>TV mJ hm cx hg (T6 mJ hm cx hg d)
def oF (S:Nat->List Int->List Int->Prop) (L:V->Env->Prop) (w0:dm) (P:bm) (bc:jO):Prop:=
 ∀f g,bc f=some g->∀n vs bl k G ρ m w xs R',cp n (kA bl) ρ bl->Mem w0 ρ m bl w->(∀v∈vs,V.ok n bl.length ρ v)->ec ρ m vs xs->(g n vs bl k).holds S L G ρ->tw S L w0 k n bl.length ρ m G R'->
  (callFunc f xs.toArray).run P w= .ok (.enter f xs.toArray) w/\iY P f xs.toArray w R'
theorem anS {bc:jO} {inl:iy} (iB:oF S L w0 P bc) (h:lU S L w0 P inl):lU S L w0 P (PG bc inl):=by
 intro f n vs bl k G ρ m w xs R' h1 h2 h3 h4 h5 h6
 unfold PG at h5
 cases hf:bc f with
 |none=>rw[hf]at h5;exact h f n vs bl k G ρ m w xs R' h1 h2 h3 h4 h5 h6
 |some g=>rw[hf]at h5;exact iB f g hf n vs bl k G ρ m w xs R' h1 h2 h3 h4 h5 h6
theorem Di (mJ:w0.ds=[]) {bc:jO} {li:cy->Nat->Option dC} {rounds:Nat} (hm:P.follows .mixedOrders=true) (cx:fk S P gl w0 cal) (hg:eK gl w0) (iB:oF S L w0 P bc):∀d,lU S L w0 P (vr bc P gl cal li rounds d)
 |0=>λf n vs bl k G ρ m w xs R' _ _ _ _ ae _=>ae.elim
 |d+1=>TV mJ hm cx hg (anS iB (Di mJ hm cx hg iB d))
theorem Mem.extends {b w w':ai} {ρ:Env} {m:Nat->Nat} {bl:List ar} (h:Mem ⟨b,w,λ_=>False,λ_=>False,[]⟩ ρ m bl w'):w.Extends w':=by
 have lr:∀i:Nat,i<w.heap.size->w'.heap[i]?=w.heap[i]?:=λi hi=>h.fM i hi id
 exact⟨h.gg,h.iF,h.gI,h.eI,λa ha=>by simp only[iW,lr a.block ha],λa ha=>by simp only[ti,lr a.block ha],lr⟩
theorem T7 {b w:ai} {li:cy->Nat->Option dC} {rounds d:Nat} (hm:P.follows .mixedOrders=true) (cx:fk S P gl ⟨b,w,λ_=>False,λ_=>False,[]⟩ cal) (hg:eK gl ⟨b,w,λ_=>False,λ_=>False,[]⟩) (f:cy) (n:Nat) (vs:List V) (ρ:Env) (xs:List az) (he:b.Extends w)
 (oQ:∀v∈vs,V.ok n 0 ρ v) (hrel:ec ρ (λ_=>0) vs xs) (ae:(G9 P gl cal li rounds d f n vs [] λn' v _=> .leaf v).holds S (λv ad=>L v ad) (λ_ _=>False) ρ):
 iY P f xs.toArray w λe w'=>∃v ad m val nb,e= .returned val/\v.rel ad m val/\(∃n',V.ok n' nb ad v)/\L v ad/\w.Extends w':=by
 have kk:Mem ⟨b,w,λ_=>False,λ_=>False,[]⟩ ρ (λ_=>0) [] w:=⟨he,rfl,rfl,rfl,a6 _,λ_ _ _=>rfl,λi cs t h=>by simp at h,λi sh off code cap kind t h=>by simp at h,λi j p q h=>by simp at h⟩
 refine(T6 rfl (L:=L) (li:=li) (rounds:=rounds) hm cx hg d f n vs [] (λn' v _=> .leaf v) (λ_ _=>False) ρ (λ_=>0) w xs _ (λp hp=>by simp at hp) kk oQ hrel ae ?_).2
 intro n' v aR dx ad m' w' val h1 h2 h3 h4 h5 h6 h7
 exact⟨v,ad,m',val,_,rfl,h4,⟨n',h3⟩,h7,h6.extends⟩
end
end Go.bg
namespace Go.bg
open M
def aw.sym (s:Nat):aw->A
 |int k lo hi=> .int k ⟨.var s,lo,hi⟩
 |str=> .str (.var s)
 |bool=> .bool (.eq (.var s) (.const 1))
inductive D where
 |str
 |int (k:cS) (lo hi:Int)
 |bool
 |agg (k:cS) (n:Nat) (lo hi:Int)
 |mix (l:List aw)
 |jZ (l:List UInt8)
 |pC (k:cS) (c:Int)
def c7 (lo hi:Int):Nat->List (Int×Int)
 |0=>[]
 |n+1=>(lo,hi)::c7 lo hi n
noncomputable def D.bds:D->List (Int×Int)
 |str=>[(0,ch)]
 |int _ lo hi=>[(lo,hi)]
 |bool=>[(0,1)]
 |agg _ n lo hi=>c7 lo hi n
 |mix l=>l.map aw.en
 |jZ _=>[]
 |pC .. =>[]
def D.num:D->Nat
 |str=>1
 |int .. =>1
 |bool=>1
 |agg _ n _ _=>n
 |mix l=>l.length
 |jZ _=>0
 |pC .. =>0
def D.val:D->List Int->az
 |str,zs=> .string (bd (U (zs.getD 0 0)))
 |int k _ _,zs=> .int k (zs.getD 0 0)
 |bool,zs=> .bool (decide (zs.getD 0 0=1))
 |agg k n _ _,zs=> .agg ((zs.take n).map (.int k)).toArray
 |mix l,zs=> .agg (oD aw.val l zs).toArray
 |jZ l,_=> .string (bd (qk l))
 |pC k c,_=> .int k c
def BP (k:cS) (lo hi:Int):Nat->Nat->List A
 |_,0=>[]
 |s,n+1=> .int k ⟨.var s,lo,hi⟩::BP k lo hi (s+1) n
def Bx:Nat->List aw->List A
 |_,[]=>[]
 |s,c::r=>c.sym s::Bx (s+1) r
def D.sym (s:Nat):D->W
 |str=> .one (.str (.var s))
 |int k lo hi=> .one (.int k ⟨.var s,lo,hi⟩)
 |bool=> .one (.bool (.eq (.var s) (.const 1)))
 |agg k n lo hi=> .agg (BP k lo hi s n)
 |mix l=> .agg (Bx s l)
 |jZ l=> .one (.str (.const (dP (qk l))))
 |pC k c=> .one (.int k (bj.const c))
noncomputable def de:List D->List (Int×Int)
 |[]=>[]
 |d::r=>d.bds++de r
def lM:List D->List Int->List az
 |[],_=>[]
 |d::r,zs=>d.val zs::lM r (zs.drop d.num)
def rN:Nat->List D->List W
 |_,[]=>[]
 |s,d::r=>d.sym s::rN (s+d.num) r
theorem gi:∀{b:List (Int×Int)} {l:List Int},aO b l->l.length=b.length
 |[],[],_=>rfl
 |_::_,_::_,h=>by simp[gi h.2.2]
 |[],_::_,h=>h.elim
 |_::_,[],h=>h.elim
theorem YC (lo hi:Int):∀n,(c7 lo hi n).length=n
 |0=>rfl
 |n+1=>by simp[c7,YC lo hi n]
theorem D.C8 (d:D):d.bds.length=d.num:=by cases d<;>simp[D.bds,D.num,YC]
theorem It:∀{b b5:List (Int×Int)} {l:List Int},aO (b++b5) l->aO b (l.take b.length)/\aO b5 (l.drop b.length)
 |[],_,_,h=>⟨trivial,h⟩
 |_::_,_,_::_,h=>by
  have ih:=It h.2.2
  exact⟨⟨h.1,h.2.1,ih.1⟩,ih.2⟩
 |_::_,_,[],h=>h.elim
def fX (ρ:Env) (s:Nat) (zs:List Int):Prop:=∀j,j<zs.length->ρ (s+j)=zs.getD j 0
theorem fX.bu (ρ:Env) (s:Nat) (zs:List Int):fX (bu ρ s zs) s zs:=λj hj=>B3 zs s ρ j hj
theorem fX.tail {ρ:Env} {s:Nat} {z:Int} {zs:List Int} (h:fX ρ s (z::zs)):ρ s=z/\fX ρ (s+1) zs:=by
 refine⟨by simpa using h 0 (by simp),λj hj=>?_⟩
 have:=h (j+1) (by simpa using hj)
 rw[show s+1+j=s+(j+1) by omega,this];simp
theorem fX.drop {ρ:Env} {s:Nat} {zs:List Int} (h:fX ρ s zs) (k:Nat):fX ρ (s+k) (zs.drop k):=λj hj=>by
 have:=h (k+j) (by simp at hj;omega)
 rw[show s+k+j=s+(k+j) by omega,this]
 simp[af]
theorem YB {ρ:Env} {m:Nat->Nat} {N nb:Nat} {k:cS} {lo hi:Int}:∀(n s:Nat) (zs:List Int),aO (c7 lo hi n) (zs.take n)->fX ρ s zs->s+n<=N->
 (∀a∈BP k lo hi s n,A.ok N nb ρ a)/\(BP k lo hi s n).map (A.den ρ m)=(zs.take n).map (.int k)
 |0,s,zs,_,_,_=>by simp[BP]
 |n+1,s,[],h,_,_=>by simp[c7,aO]at h
 |n+1,s,z::zs,h,ha,hN=>by
  have ht:=ha.tail
  simp only[c7,w9,aO]at h
  obtain⟨h1,h2⟩:=YB (m:=m) (nb:=nb) (k:=k) (N:=N) n (s+1) zs h.2.2 ht.2 (by omega)
  refine⟨λa hm=>?_,by simp only[BP,cr,A.den,I.cg,ht.1,h2,w9]⟩
  rcases List.mem_cons.1 hm with rfl|hm
  ·exact⟨I.ez (by omega),by simp only[I.cg,ht.1];exact h.1,by simp only[I.cg,ht.1];exact h.2.1⟩
  ·exact h1 a hm
theorem aw.FK {ρ:Env} {m:Nat->Nat} {N nb:Nat} (c:aw) {s:Nat} {z:Int} (h0:c.en.1<=z) (h1:z<=c.en.2) (hz:ρ s=z) (hN:s<N):(c.sym s).ok N nb ρ/\(c.sym s).den ρ m=c.val z:=by
 cases c with
 |int k lo hi=>exact⟨⟨I.ez hN,by simp only[I.cg,hz];exact h0,by simp only[I.cg,hz];exact h1⟩,by simp[aw.sym,aw.val,A.den,I.cg,hz]⟩
 |str=>exact⟨⟨I.ez hN,by rw[I.cg,hz];exact h0,by rw[I.cg,hz];exact h1⟩,by simp[aw.sym,aw.val,A.den,I.cg,hz]⟩
 |bool=>exact⟨⟨I.ez hN,I.cz _ _⟩,by simp[aw.sym,aw.val,A.den,aS.den,I.cg,I.aM,hz]⟩
theorem XO {ρ:Env} {m:Nat->Nat} {N nb:Nat}:∀(l:List aw) (s:Nat) (zs:List Int),aO (l.map aw.en) (zs.take l.length)->fX ρ s zs->s+l.length<=N->
 (∀a∈Bx s l,A.ok N nb ρ a)/\(Bx s l).map (A.den ρ m)=oD aw.val l zs
 |[],s,zs,_,_,_=>by simp[Bx]
 |_::_,s,[],h,_,_=>by simp[aO]at h
 |c::r,s,z::zs,h,ha,hN=>by
  have ht:=ha.tail
  simp only[cr,dv,w9,aO]at h
  obtain⟨h1,h2⟩:=XO (m:=m) (nb:=nb) (N:=N) r (s+1) zs h.2.2 ht.2 (by simp at hN;omega)
  have hc:=c.FK (m:=m) (nb:=nb) (N:=N) h.1 h.2.1 ht.1 (by simp at hN;omega)
  refine⟨λa hm=>?_,by simp only[Bx,cr,hc.2,h2,Ks]⟩
  rcases List.mem_cons.1 hm with rfl|hm
  ·exact hc.1
  ·exact h1 a hm
theorem D.FK {ρ:Env} {m:Nat->Nat} {N nb:Nat} (d:D) {s:Nat} {zs:List Int} (h:aO d.bds (zs.take d.num)) (ha:fX ρ s zs) (hN:s+d.num<=N):(d.sym s).ok N nb ρ/\(d.sym s).den ρ m=d.val zs:=by
 cases d with
 |str=>
  cases zs with
  |nil=>simp[D.bds,aO]at h
  |cons z r=>
   have ht:=ha.tail
   simp only[D.bds,D.num,w9,aO]at h
   simp only[D.num]at hN
   exact⟨⟨I.ez (by omega),by rw[I.cg,ht.1];exact h.1,by rw[I.cg,ht.1];exact h.2.1⟩,by simp[D.sym,W.den,A.den,D.val,I.cg,ht.1]⟩
 |int k lo hi=>
  cases zs with
  |nil=>simp[D.bds,aO]at h
  |cons z r=>
   have ht:=ha.tail
   simp only[D.bds,D.num,w9,aO]at h
   simp only[D.num]at hN
   exact⟨⟨I.ez (by omega),by simp only[I.cg,ht.1];exact h.1,by simp only[I.cg,ht.1];exact h.2.1⟩,by simp[D.sym,W.den,A.den,D.val,I.cg,ht.1]⟩
 |bool=>
  cases zs with
  |nil=>simp[D.bds,aO]at h
  |cons z r=>
   have ht:=ha.tail
   simp only[D.num]at hN
   exact⟨⟨I.ez (by omega),I.cz _ _⟩,by simp[D.sym,W.den,A.den,D.val,aS.den,I.cg,I.aM,ht.1]⟩
 |agg k n lo hi=>
  have:=YB (m:=m) (nb:=nb) (k:=k) n s zs h ha hN
  exact⟨this.1,by simp only[D.sym,W.den,D.val,this.2]⟩
 |mix l=>
  have:=XO (m:=m) (nb:=nb) l s zs h ha hN
  exact⟨this.1,by simp only[D.sym,W.den,D.val,this.2]⟩
 |jZ l=>exact⟨⟨I.cz _ _,by rw[I.aM];exact akl l⟩,by simp[D.sym,W.den,A.den,D.val,I.aM,fS]⟩
 |pC k c=>exact⟨bj.lX _ _ c,by simp[D.sym,W.den,A.den,D.val,bj.const,I.aM]⟩
theorem JO {ρ:Env} {m:Nat->Nat} {N nb:Nat}:∀(ds:List D) {s:Nat} {zs:List Int},aO (de ds) zs->fX ρ s zs->s+(de ds).length<=N->(∀u∈rN s ds,W.ok N nb ρ u)/\(rN s ds).map (W.den ρ m)=lM ds zs
 |[],s,zs,_,_,_=>by simp[rN,lM]
 |d::r,s,zs,h,ha,hN=>by
  have hs:=It h
  rw[D.C8]at hs
  simp only[de,dQ,D.C8]at hN
  have h1:=d.FK (m:=m) (nb:=nb) hs.1 ha (N:=N) (by omega)
  have h2:=JO (m:=m) (nb:=nb) (N:=N) r hs.2 (ha.drop d.num) (by omega)
  exact⟨λu hu=>by rcases List.mem_cons.1 hu with rfl|hu;exact h1.1;exact h2.1 u hu,by simp[rN,lM,h1.2,h2.2]⟩
def BS (ds:List D) (s:Nat):V:=match rN s ds with|[u]=> .w u|l=> .fq l
def e6 (ds:List D) (zs:List Int):az:=match lM ds zs with|[x]=>x|l=> .tuple l.toArray
def n2 (lo hi:Int) (x:bj):Bool:=decide (lo<=x.lo)&&decide (x.hi<=hi)
def kN (k:cS) (lo hi:Int):List A->Option (List I)
 |[]=>some []
 | .int aP x::r=>cond (decide (k=aP)&&n2 lo hi x) (match kN k lo hi r with|some l=>some (x.l::l)|none=>none) none
 |_::_=>none
def aw.fit:aw->A->Option I
 |int k lo hi,.int aP x=>cond (decide (k=aP)&&n2 lo hi x) (some x.l) none
 |str,.str l=>some l
 |bool,.bool (.lit b)=>some (.const (cond b 1 0))
 |_,_=>none
def oM:List aw->List A->Option (List I)
 |[],[]=>some []
 |c::r,a::s=>match c.fit a,oM r s with|some x,some l=>some (x::l)|_,_=>none
 |_,_=>none
def xH:D->V->Option (List I)
 | .int k lo hi,.w (.one (.int aP x))=>cond (decide (k=aP)&&n2 lo hi x) (some [x.l]) none
 | .agg k n lo hi,.w (.agg l)=>cond (aA l.length n) (kN k lo hi l) none
 | .mix l,.w (.agg s)=>oM l s
 | .str,.w (.one (.str l))=>some [l]
 | .bool,.w (.one (.bool (.lit b)))=>some [.const (cond b 1 0)]
 | .jZ l,.w (.one (.str x))=>match x.dp with|some c=>cond (decide (c=dP (qk l))) (some []) none|none=>none
 | .pC k c,.w (.one (.int aP x))=>match x.l.dp with|some d=>cond (decide (k=aP)&&decide (d=c)) (some []) none|none=>none
 |_,_=>none
def pk:List D->List V->Option (List I)
 |[],[]=>some []
 |d::r,v::s=>match xH d v,pk r s with|some a,some b=>some (a++b)|_,_=>none
 |_,_=>none
theorem DA {n:Nat} {ρ:Env} {lo hi:Int} {x:bj} (h:n2 lo hi x=true) (hx:x.ok n ρ):lo<=x.l.den ρ/\x.l.den ρ<=hi:=by
 simp only[n2,aK,decide_eq_true_eq]at h
 have:=hx.2;omega
theorem Mx {n nb:Nat} {ρ:Env} {m:Nat->Nat} {k:cS} {lo hi:Int}:∀{l:List A} {r:List I},kN k lo hi l=some r->(∀a∈l,A.ok n nb ρ a)->r.length=l.length/\aO (c7 lo hi l.length) (r.map (·.den ρ))/\l.map (A.den ρ m)=(r.map (·.den ρ)).map (.int k)
 |[],r,h,_=>by simp[kN]at h;subst h;exact⟨rfl,trivial,rfl⟩
 | .int aP x::s,r,h,aZ=>by
  simp only[kN]at h
  cases hc:(decide (k=aP)&&n2 lo hi x)with
  |false=>simp[hc]at h
  |true=>
   simp only[hc,cond_true]at h
   simp only[aK,decide_eq_true_eq]at hc
   cases hr:kN k lo hi s with
   |none=>simp[hr]at h
   |some r'=>
    simp only[hr,aG]at h
    subst h
    obtain⟨h1,h2,h3⟩:=Mx (m:=m) hr λa ha=>aZ a (cR _ ha)
    have hx:x.ok n ρ:=aZ (.int aP x) (by simp)
    have hf:=DA hc.2 hx
    exact⟨by simp[h1],⟨hf.1,hf.2,h2⟩,by simp only[cr,h3,A.den,hc.1]⟩
 | .bool _::_,_,h,_=>by simp[kN]at h
 | .ptr .. ::_,_,h,_=>by simp[kN]at h
 | .lG .. ::_,_,h,_=>by simp[kN]at h
 | .gptr .. ::_,_,h,_=>by simp[kN]at h
 | .slc .. ::_,_,h,_=>by simp[kN]at h
 | .con _::_,_,h,_=>by simp[kN]at h
 | .str _::_,_,h,_=>by simp[kN]at h
theorem aw.aes {n nb:Nat} {ρ:Env} {m:Nat->Nat} {c:aw} {a:A} {l:I} (h:c.fit a=some l) (aZ:a.ok n nb ρ):(c.en.1<=l.den ρ/\l.den ρ<=c.en.2)/\a.den ρ m=c.val (l.den ρ):=by
 unfold aw.fit at h
 split at h
 ·rename_i k lo hi aP x
  cases hc:(decide (k=aP)&&n2 lo hi x)with
  |false=>simp[hc]at h
  |true=>
   simp only[hc,cond_true,aG]at h
   subst h
   simp only[aK,decide_eq_true_eq]at hc
   exact⟨DA hc.2 aZ,by simp only[A.den,aw.val,hc.1]⟩
 ·simp only[aG]at h;subst h
  exact⟨aZ.2,rfl⟩
 ·rename_i b
  simp only[aG]at h;subst h
  cases b<;>simp[aw.en,aw.val,A.den,aS.den,I.aM]
 ·cases h
theorem UR {n nb:Nat} {ρ:Env} {m:Nat->Nat}:∀{d:List aw} {l:List A} {r:List I},oM d l=some r->(∀a∈l,A.ok n nb ρ a)->r.length=d.length/\aO (d.map aw.en) (r.map (·.den ρ))/\l.map (A.den ρ m)=oD aw.val d (r.map (·.den ρ))
 |[],[],r,h,_=>by simp[oM]at h;subst h;exact⟨rfl,trivial,rfl⟩
 |c::d,a::s,r,h,aZ=>by
  simp only[oM]at h
  cases hx:c.fit a with
  |none=>simp[hx]at h
  |some x=>
   cases hr:oM d s with
   |none=>simp[hx,hr]at h
   |some r'=>
    simp only[hx,hr,aG]at h
    subst h
    obtain⟨h1,h2,h3⟩:=UR (m:=m) hr λa ha=>aZ a (cR _ ha)
    have hf:=aw.aes (m:=m) hx (aZ a (by simp))
    exact⟨by simp[h1],⟨hf.1.1,hf.1.2,h2⟩,by simp only[cr,h3,hf.2,Ks]⟩
 |[],_::_,_,h,_=>by simp[oM]at h
 |_::_,[],_,h,_=>by simp[oM]at h
theorem Zl {n:Nat} {ρ:Env} {l:List UInt8} {x:I} {c:Int} (hc:x.dp=some c) (h:c=dP (qk l)):U (x.den ρ)=qk l:=by rw[I.gH hc,h,fS]
theorem UO {n nb:Nat} {ρ:Env} {m:Nat->Nat} {d:D} {v:V} {r:List I} {x:az} (h:xH d v=some r) (aZ:v.ok n nb ρ) (hx:v.rel ρ m x):r.length=d.num/\aO d.bds (r.map (·.den ρ))/\∀zs,d.val ((r.map (·.den ρ))++zs)=x:=by
 unfold xH at h
 split at h
 ·rename_i k lo hi aP y
  cases hc:(decide (k=aP)&&n2 lo hi y)with
  |false=>simp[hc]at h
  |true=>
   simp only[hc,cond_true,aG]at h
   subst h
   simp only[aK,decide_eq_true_eq]at hc
   have hf:=DA hc.2 aZ
   simp only[V.rel,W.den,A.den]at hx
   exact⟨rfl,⟨hf.1,hf.2,trivial⟩,λzs=>by simp[D.val,hx,hc.1]⟩
 ·rename_i k n' lo hi l
  cases hc:aA l.length n' with
  |false=>simp[hc]at h
  |true=>
   simp only[hc,cond_true]at h
   have hl:=bk hc
   subst hl
   obtain⟨h1,h2,h3⟩:=Mx (m:=m) h aZ
   simp only[V.rel,W.den]at hx
   exact⟨h1,h2,λzs=>by rw[hx,h3];simp only[D.val];rw[F4 (by simp[h1]),mq (by simp[h1])]⟩
 ·rename_i l s
  obtain⟨h1,h2,h3⟩:=UR (m:=m) h aZ
  simp only[V.rel,W.den]at hx
  refine⟨h1,h2,λzs=>?_⟩
  rw[hx,h3]
  simp only[D.val]
  congr 2
  have key:∀(a:List aw) (b c:List Int),b.length=a.length->oD aw.val a (b++c)=oD aw.val a b:=by
   intro a
   induction a with
   |nil=>intro b c _;simp
   |cons p a ih=>
    intro b c hb
    cases b with
    |nil=>simp at hb
    |cons z b=>simp[ih b c (by simpa using hb)]
  exact key _ _ _ (by simp[h1])
 ·rename_i l
  simp only[aG]at h;subst h
  simp only[V.rel,W.den,A.den]at hx
  exact⟨rfl,⟨aZ.2.1,aZ.2.2,trivial⟩,λzs=>by rw[hx];rfl⟩
 ·rename_i b
  simp only[aG]at h;subst h
  simp only[V.rel,W.den,A.den,aS.den]at hx
  cases b<;>exact⟨rfl,by simp[D.bds,aO,I.aM],λzs=>by rw[hx];simp[D.val,I.aM]⟩
 ·rename_i l y
  cases hc:y.dp with
  |none=>simp[hc]at h
  |some c=>
   simp only[hc]at h
   cases hd:decide (c=dP (qk l))with
   |false=>simp[hd]at h
   |true=>
    simp only[hd,cond_true,aG]at h
    subst h
    have hd:c=dP (qk l):=by simpa using hd
    refine⟨rfl,trivial,λzs=>?_⟩
    have hx:x= .string (bd (U (y.den ρ))):=hx
    rw[hx,Zl (n:=n) hc hd];rfl
 ·rename_i k c aP y
  cases hc:y.l.dp with
  |none=>simp[hc]at h
  |some d=>
   simp only[hc]at h
   cases hd:(decide (k=aP)&&decide (d=c))with
   |false=>simp[hd]at h
   |true=>
    simp only[hd,cond_true,aG]at h
    subst h
    simp only[aK,decide_eq_true_eq]at hd
    refine⟨rfl,trivial,λzs=>?_⟩
    have hx:x= .int aP (y.l.den ρ):=hx
    rw[hx,I.gH hc,<-hd.1,hd.2];rfl
 ·cases h
theorem MA {n nb:Nat} {ρ:Env} {m:Nat->Nat}:∀{ds:List D} {vs:List V} {r:List I} {xs:List az},pk ds vs=some r->(∀v∈vs,V.ok n nb ρ v)->ec ρ m vs xs->aO (de ds) (r.map (·.den ρ))/\lM ds (r.map (·.den ρ))=xs
 |[],[],r,[],h,_,_=>by simp[pk]at h;subst h;exact⟨trivial,rfl⟩
 |d::ds,v::vs,r,x::xs,h,aZ,hr=>by
  simp only[pk]at h
  cases h1:xH d v with
  |none=>simp[h1]at h
  |some a=>
   cases h2:pk ds vs with
   |none=>simp[h1,h2]at h
   |some b=>
    simp only[h1,h2,aG]at h
    subst h
    obtain⟨p1,bq,cv⟩:=UO (m:=m) h1 (aZ v (by simp)) hr.1
    obtain⟨bo,bI⟩:=MA h2 (λu hu=>aZ u (cR _ hu)) hr.2
    refine⟨by rw[ff];exact rz bq bo,?_⟩
    rw[ff]
    simp only[lM,cv]
    rw[show d.num=(a.map (·.den ρ)).length by simp[p1],CD,bI]
 |[],_::_,_,_,h,_,_=>by simp[pk]at h
 |_::_,[],_,_,h,_,_=>by simp[pk]at h
 |[],[],_,_::_,_,_,hr=>hr.elim
 |_::_,_::_,_,[],_,_,hr=>hr.elim
structure bz where
 f:cy
 id:Nat
 args:List D
 res:List D
def bz.eB (P:bm) (wb:ai) (c:bz) (spec:List Int->List Int->Prop):Prop:=
 (∀args w,(callFunc c.f args).run P w= .ok (.enter c.f args) w)/\
 ∀zs,aO (de c.args) zs->∃rs,aO (de c.res) rs/\spec zs rs/\∀w,wb.Extends w->iY P c.f (lM c.args zs).toArray w λe w'=>e= .returned (e6 c.res rs)/\w.Extends w'
noncomputable def My (d:D) (v:V):M (List I):=
 match d,v with
 | .bool,.w (.one (.bool e))=>bind (yu e) λl=>pure [l]
 | .mix l,.w (.agg s)=>uO l s
 | .int k lo hi,.w (.one (.int aP x))=>cond (decide (k=aP)) (cond (n2 lo hi x) (pure [x.l]) (bind (eZ 39 [x.l,.const lo,.const hi]) λ_=>pure [x.l])) fail
 |d,v=>match xH d v with|some r=>pure r|none=>fail
noncomputable def Hx:List D->List V->M (List I)
 |[],[]=>pure []
 |d::r,v::s=>bind (My d v) λa=>bind (Hx r s) λb=>pure (a++b)
 |_,_=>fail
noncomputable def bz.M (c:bz):List ar->List V->M V:=λ_ vs n k=>
 match pk c.args vs with
 |some l=> .call c.id l n (de c.res) (k (BS c.res n) (n+(de c.res).length))
 |none=>Hx c.args vs n λl n=> .call c.id l n (de c.res) (k (BS c.res n) (n+(de c.res).length))
section
variable {S:Nat->List Int->List Int->Prop} {L:V->Env->Prop}
theorem Mw {k:cS} {lo hi:Int} {n nb:Nat} {ρ:Env}:∀{l:List A} {r:List I},kN k lo hi l=some r->(∀a∈l,A.ok n nb ρ a)->∀x∈r,I.aW n x
 |[],r,h,_=>by simp[kN]at h;subst h;intro x hx;simp at hx
 |a::s,r,h,aZ=>by
  cases a with
  |int aP x=>
   simp only[kN]at h
   cases hc:(decide (k=aP)&&n2 lo hi x)with
   |false=>simp[hc]at h
   |true=>
    cases hr:kN k lo hi s with
    |none=>simp[hc,hr]at h
    |some r'=>
     simp only[hc,hr,cond_true,aG]at h
     subst h
     intro y hy
     rcases List.mem_cons.1 hy with hy|hy
     ·rw[hy]
      have h0:A.ok n nb ρ (.int aP x):=aZ _ (List.mem_cons_self ..)
      have h0:x.ok n ρ:=h0
      exact h0.1
     ·exact Mw hr (λa ha=>aZ a (cR _ ha)) y hy
  |_=>simp[kN]at h
theorem UQ {n nb:Nat} {ρ:Env}:∀{d:List aw} {l:List A} {r:List I},oM d l=some r->(∀a∈l,A.ok n nb ρ a)->∀x∈r,I.aW n x
 |[],[],r,h,_=>by simp[oM]at h;subst h;intro x hx;simp at hx
 |c::d,a::s,r,h,aZ=>by
  simp only[oM]at h
  cases hx:c.fit a with
  |none=>simp[hx]at h
  |some x=>
   cases hr:oM d s with
   |none=>simp[hx,hr]at h
   |some r'=>
    simp only[hx,hr,aG]at h
    subst h
    intro y hy
    rcases List.mem_cons.1 hy with hy|hy
    ·subst hy
     have h0:=aZ a (by simp)
     unfold aw.fit at hx
     split at hx
     ·rename_i k lo hi aP z
      cases hc:(decide (k=aP)&&n2 lo hi z)with
      |false=>simp[hc]at hx
      |true=>
       simp only[hc,cond_true,aG]at hx
       subst hx
       have h0:z.ok n ρ:=h0
       exact h0.1
     ·simp only[aG]at hx;subst hx
      exact h0.1
     ·simp only[aG]at hx;subst hx
      exact I.cz _ _
     ·cases hx
    ·exact UQ hr (λa ha=>aZ a (cR _ ha)) y hy
 |[],_::_,_,h,_=>by simp[oM]at h
 |_::_,[],_,h,_=>by simp[oM]at h
theorem aew {n nb:Nat} {ρ:Env} {d:D} {v:V} {r:List I} (h:xH d v=some r) (aZ:v.ok n nb ρ):∀x∈r,I.aW n x:=by
 unfold xH at h
 split at h
 ·rename_i k lo hi aP y
  cases hc:(decide (k=aP)&&n2 lo hi y)with
  |false=>simp[hc]at h
  |true=>
   simp only[hc,cond_true,aG]at h
   subst h
   have h0:y.ok n ρ:=aZ
   intro x hx
   simp at hx;subst hx
   exact h0.1
 ·rename_i k n' lo hi l
  cases hc:aA l.length n' with
  |false=>simp[hc]at h
  |true=>
   simp only[hc,cond_true]at h
   exact Mw h aZ
 ·exact UQ h aZ
 ·simp only[aG]at h;subst h
  intro x hx
  simp at hx;subst hx
  exact aZ.1
 ·simp only[aG]at h;subst h
  intro x hx
  simp at hx;subst hx
  exact I.cz _ _
 ·rename_i l y
  cases hc:y.dp with
  |none=>simp[hc]at h
  |some c=>
   simp only[hc]at h
   cases hd:decide (c=dP (qk l))with
   |false=>simp[hd]at h
   |true=>
    simp only[hd,cond_true,aG]at h
    subst h
    intro x hx;simp at hx
 ·rename_i k c aP y
  cases hc:y.l.dp with
  |none=>simp[hc]at h
  |some d=>
   simp only[hc]at h
   cases hd:(decide (k=aP)&&decide (d=c))with
   |false=>simp[hd]at h
   |true=>
    simp only[hd,cond_true,aG]at h
    subst h
    intro x hx;simp at hx
 ·cases h
theorem bS.OS:∀{sh:List aw} {zs:List Int},bS sh zs->aO (sh.map aw.en) zs/\oD aw.val sh zs=cN sh zs
 |[],[],_=>⟨trivial,rfl⟩
 |c::sh,z::zs,h=>⟨⟨h.1.1,h.1.2,(bS.OS h.2).1⟩,by simp[cN,(bS.OS h.2).2]⟩
 |[],_::_,h=>h.elim
 |_::_,[],h=>h.elim
theorem Z1 {f:aw->Int->az}:∀(a:List aw) (b c:List Int),b.length=a.length->oD f a (b++c)=oD f a b
 |[],b,c,_=>by simp
 |_::a,[],c,h=>by simp at h
 |_::a,z::b,c,h=>by simp[Z1 a b c (by simpa using h)]
theorem aeu {d:D} {v:V} {X:az} {n nb:Nat} {ρ:Env} {m:Nat->Nat} (hv:v.ok n nb ρ) (bD:v.rel ρ m X):aj S L (My d v) n ρ λad n' ls=>(∀x∈ls,I.aW n' x)/\ls.length=d.num/\aO d.bds (ls.map (·.den ad))/\∀zs,d.val ((ls.map (·.den ad))++zs)=X:=by
 unfold My
 split
 ·rename_i e
  have bD:X= .bool (e.den ρ):=bD
  exact Iw.bind λax n1 l hn ha ⟨g1,g2,g3⟩=>aj.pure ⟨λx hx=>by simp at hx;subst hx;exact g1,rfl,⟨g2.1,g2.2,trivial⟩,λzs=>by rw[bD,g3];rfl⟩
 ·rename_i l s
  have bD:X= .agg (s.map (A.den ρ m)).toArray:=bD
  refine(BU (nb:=nb) (m:=m) hv).mono λax n1 ls hn ha ⟨g1,g2,g3⟩=>?_
  have h1:=bS.OS g2
  have h2:=g2.len
  refine⟨g1,by simpa [D.num]using h2,h1.1,λzs=>?_⟩
  rw[bD,<-g3,<-h1.2]
  simp only[D.val]
  rw[Z1 _ _ _ (by simpa using h2)]
 ·rename_i k lo hi aP x
  have bD:X= .int aP (x.l.den ρ):=bD
  have hv:x.ok n ρ:=hv
  refine dA λhk=>?_
  have hk:=of_decide_eq_true hk
  subst hk
  cases hf:n2 lo hi x with
  |true=>
   have:=DA hf hv
   exact aj.pure ⟨λy hy=>by simp at hy;subst hy;exact hv.1,rfl,⟨this.1,this.2,trivial⟩,λzs=>by rw[bD];rfl⟩
  |false=>
   refine ga λhc=>aj.pure ?_
   simp only[cr,dY,aa,I.aM]at hc
   exact⟨λy hy=>by simp at hy;subst hy;exact hv.1,rfl,⟨hc.1,hc.2,trivial⟩,λzs=>by rw[bD];rfl⟩
 ·split
  ·rename_i hf
   obtain⟨p1,bq,cv⟩:=UO (m:=m) hf hv bD
   exact aj.pure ⟨aew hf hv,p1,bq,cv⟩
  ·exact aj.fail
theorem ec.ext {n nb:Nat} {ρ ad:Env} {m m':Nat->Nat}:∀{vs:List V} {xs:List az},ec ρ m vs xs->(∀v∈vs,V.ok n nb ρ v)->agree n ρ ad->(∀b,b<nb->m' b=m b)->ec ad m' vs xs
 |[],[],_,_,_,_=>trivial
 |v::vs,x::xs,h,aZ,ha,hm=>⟨V.rel.ext h.1 (aZ v (by simp)) ha hm,ec.ext h.2 (λu hu=>aZ u (cR _ hu)) ha hm⟩
 |[],_::_,h,_,_,_=>h.elim
 |_::_,[],h,_,_,_=>h.elim
theorem UP {nb:Nat} {m:Nat->Nat}:∀{ds:List D} {vs:List V} {xs:List az} {n:Nat} {ρ:Env},(∀v∈vs,V.ok n nb ρ v)->ec ρ m vs xs->aj S L (Hx ds vs) n ρ λad n' ls=>(∀x∈ls,I.aW n' x)/\aO (de ds) (ls.map (·.den ad))/\lM ds (ls.map (·.den ad))=xs
 |[],[],[],n,ρ,_,_=>aj.pure ⟨λ_ h=>by simp at h,trivial,rfl⟩
 |d::ds,v::vs,x::xs,n,ρ,aZ,hr=>by
  unfold Hx
  refine(aeu (nb:=nb) (aZ v (by simp)) hr.1).bind λax n1 a e4 dF ⟨p0,p1,bq,cv⟩=>(UP (ds:=ds) (vs:=vs) (λu hu=>(aZ u (cR _ hu)).ext dF e4 (a6 _)) (ec.ext hr.2 (λu hu=>aZ u (cR _ hu)) dF (λ_ _=>rfl))).bind λbx ed b er dk ⟨kp,bo,bI⟩=>aj.pure ⟨λy hy=>?_,?_,?_⟩
  ·rcases List.mem_append.1 hy with hy|hy
   ·exact(p0 y hy).mono er
   ·exact kp y hy
  ·have e:a.map (·.den bx)=a.map (·.den ax):=gG λy hy=>I.bB dk (p0 y hy)
   rw[ff,e];exact rz bq bo
  ·have e:a.map (·.den bx)=a.map (·.den ax):=gG λy hy=>I.bB dk (p0 y hy)
   rw[ff,e]
   simp only[lM,cv]
   rw[show d.num=(a.map (·.den ax)).length by simp[p1],CD,bI]
 |[],_::_,_,_,_,_,_=>aj.fail
 |_::_,[],_,_,_,_,_=>aj.fail
 |[],[],_::_,_,_,_,hr=>hr.elim
 |_::_,_::_,[],_,_,_,hr=>hr.elim
end
section
variable {S:Nat->List Int->List Int->Prop} {P:bm} {gl:dO} {w0:dm}
theorem LK {L:V->Env->Prop} {id:Nat} {l:List I} {n:Nat} {bds:List (Int×Int)} {r:T} {G:dw} {ρ:Env} (h:(T.call id l n bds r).holds S L G ρ) {rs:List Int} (hi:aO bds rs) (hs:S id (l.map (·.den ρ)) rs):r.holds S L G (bu ρ n rs):=
 kG h hi hs
theorem P3 {ρ:Env} {m:Nat->Nat} {N nb:Nat} {ds:List D} {s:Nat} {zs:List Int} (h:aO (de ds) zs) (ha:fX ρ s zs) (hN:s+(de ds).length<=N):(BS ds s).ok N nb ρ/\(BS ds s).rel ρ m (e6 ds zs):=by
 have hs:=JO (m:=m) (nb:=nb) ds h ha hN
 unfold BS e6
 rw[<-hs.2]
 split
 ·rename_i u heq
  rw[heq]at hs
  rw[heq]
  exact⟨hs.1 u (by simp),rfl⟩
 ·rename_i l hne
  refine⟨hs.1,?_⟩
  split
  ·rename_i x heq
   have:∃u,rN s ds=[u]:=by
    cases hl:rN s ds with
    |nil=>rw[hl]at heq;simp at heq
    |cons u r=>
     cases r with
     |nil=>exact⟨u,rfl⟩
     |cons _ _=>rw[hl]at heq;simp at heq
   obtain⟨u,hu⟩:=this
   exact absurd hu (hne u)
  ·rfl
def bz.cP (P:bm) (wb:ai) (c:bz) (spec:List Int->List Int->Prop):Prop:=
 ∀zs,aO (de c.args) zs->∃rs,aO (de c.res) rs/\spec zs rs/\∀w,wb.Extends w->xi P c.f (lM c.args zs).toArray w (e6 c.res rs)
theorem bz.eB.f {wb:ai} {c:bz} {spec:List Int->List Int->Prop} (h:c.eB P wb spec):c.cP P wb spec:=λzs hz=>by
 obtain⟨rs,h1,h2,h3⟩:=h.2 zs hz
 exact⟨rs,h1,h2,λw hw=> .inr ⟨h.1 _ _,h3 w hw⟩⟩
theorem bz.snd {c:bz} {spec:List Int->List Int->Prop} (hc:c.cP P w0.b spec) (cw:∀zs rs,spec zs rs->S c.id zs rs) (L:V->Env->Prop) (n:Nat) (ρ:Env) (m:Nat->Nat) (bl:List ar) (vs:List V) (xs:List az)
 (oQ:∀v∈vs,V.ok n bl.length ρ v) (hr:ec ρ m vs xs):aj S L (c.M bl vs) n ρ λad n' v=>v.ok n' bl.length ad/\∃val,v.rel ad m val/\∀w,Mem w0 ρ m bl w->xi P c.f xs.toArray w val:=by
 intro G k hk
 unfold bz.M at hk
 cases hl:pk c.args vs with
 |none=>
  simp only[hl]at hk
  obtain⟨ax,n1,l,e4,dF,⟨_,h1,h2⟩,hk⟩:=UP (S:=S) (L:=L) (nb:=bl.length) oQ hr G _ hk
  obtain⟨rs,r1,r2,fo⟩:=hc _ h1
  have ae:=LK hk r1 (cw _ _ r2)
  have hlen:=gi r1
  have kl:=P3 (m:=m) (nb:=bl.length) (N:=n1+(de c.res).length) r1 (fX.bu ax n1 rs) (a6 _)
  refine⟨_,_,_,hT e4 (CA _ _),dF.trans (agree.bu rs n1 ax) e4,⟨kl.1,_,kl.2,λw hw=>?_⟩,ae⟩
  rw[h2]at fo
  exact fo w hw.ext
 |some l=>
  simp only[hl]at hk
  obtain⟨h1,h2⟩:=MA hl oQ hr
  obtain⟨rs,r1,r2,fo⟩:=hc _ h1
  have ae:=LK hk r1 (cw _ _ r2)
  have hlen:=gi r1
  have kl:=P3 (m:=m) (nb:=bl.length) (N:=n+(de c.res).length) r1 (fX.bu ρ n rs) (a6 _)
  refine⟨_,_,_,CA _ _,agree.bu rs n ρ,⟨kl.1,_,kl.2,λw hw=>?_⟩,ae⟩
  rw[h2]at fo
  exact fo w hw.ext
def amg:List ar->List V->M V:=λ_ vs=>
 match vs with
 |[.w (.one (.int .u64 x)),.w (.one (.int .u64 y))]=>
  cond (decide (0<=x.lo)&&decide (x.hi<18446744073709551616)&&decide (0<=y.lo)&&decide (y.hi<18446744073709551616)) (bind (mulM x y) λp=>bind (sk p 18446744073709551616) λq=>
   pure (.fq [.one (.int .u64 q),.one (.int .u64 ⟨p.l.sub (q.l.smul 18446744073709551616),0,18446744073709551615⟩)])) fail
 |_=>fail
def ab4:List ar->List V->M V:=λ_ vs=>
 match vs with
 |[.w (.one (.int .u64 x)),.w (.one (.int .u64 y)),.w (.one (.int .u64 c))]=>
  cond (decide (0<=x.lo)&&decide (0<=y.lo)&&decide (0<=c.lo)&&decide (c.hi<=1)) (bind (sk ⟨(x.l.add y.l).add c.l,x.lo+y.lo+c.lo,x.hi+y.hi+c.hi⟩ 18446744073709551616) λq=>
   pure (.fq [.one (.int .u64 ⟨((x.l.add y.l).add c.l).sub (q.l.smul 18446744073709551616),0,18446744073709551615⟩),.one (.int .u64 q)])) fail
 |_=>fail
def aqN:List ar->List V->M V:=λ_ vs=>
 match vs with
 |[.w (.one (.int .u64 x)),.w (.one (.int .u64 y)),.w (.one (.int .u64 c))]=>
  cond (decide (0<=x.lo)&&decide (x.hi<18446744073709551616)&&decide (0<=y.lo)&&decide (y.hi<18446744073709551616)&&decide (0<=c.lo)&&decide (c.hi<=1)) (bind (sk ⟨(x.l.sub y.l).sub c.l,x.lo-y.hi-c.hi,x.hi-y.lo-c.lo⟩ 18446744073709551616) λq=>
   pure (.fq [.one (.int .u64 ⟨((x.l.sub y.l).sub c.l).sub (q.l.smul 18446744073709551616),0,18446744073709551615⟩),.one (.int .u64 ⟨q.l.smul (-1),0,1⟩)])) fail
 |_=>fail
def Tn (P:bm) (f:cy):Prop:=∀x y:Int,0<=x->x<18446744073709551616->0<=y->y<18446744073709551616->∀w,xi P f #[.int .u64 x,.int .u64 y] w (.tuple #[.int .u64 (x*y/18446744073709551616),.int .u64 (x*y% 18446744073709551616)])
def R7 (P:bm) (f:cy):Prop:=∀x y c:Int,0<=x->0<=y->0<=c->c<=1->∀w,xi P f #[.int .u64 x,.int .u64 y,.int .u64 c] w (.tuple #[.int .u64 ((x+y+c)% 18446744073709551616),.int .u64 ((x+y+c)/18446744073709551616)])
variable {L:V->Env->Prop} {n:Nat} {ρ:Env} {m:Nat->Nat} {bl:List ar} {vs:List V} {xs:List az}
end
end Go.bg
