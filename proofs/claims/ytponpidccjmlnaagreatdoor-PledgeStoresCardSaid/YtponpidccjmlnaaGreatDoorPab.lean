/- The evaluator's soundness: operations and regions. -/
import Derived.Test.YtponpidccjmlnaaGreatDoorPaa
import Derived.Laws.Append
import Derived.Deep.AppendSrc
import Derived.Deep.Upon
import Derived.Laws.MakeOwn
import Derived.Lib.MakeNoZero
import Derived.Laws.Externs
import Derived.KernelRfl
import Derived.Lib.ConvBytes
import Derived.ArgAppend
import Derived.OrdersIn
import Derived.TacticsIn
import Derived.LoopNIn
import Derived.Sort.LoopGhostIn
open Array renaming toArray_toList->jF,toList_map->s7,replicate->uG,eq_empty_of_size_eq_zero->wy,length_toList->wz,getElem?_eq_none->Hz,getElem?_eq_getElem->HF,getElem?_toList->HO,ext'->L1,toList_range->Tj,size_append->acW,mapM_eq_mapM_toList->azN,range->aAj,getElem?_modify->aAr,getElem?_push_lt->aAt
open Bool renaming and_eq_true->aS,false_eq_true->qb,not_true->Ec
open Classical renaming byContradiction->acT
open Eq renaming trans->cj
open Function renaming comp->HD
open Go renaming World->ar,Value->aF,TypeId->aX,Program->bH,FuncId->cw,IntKind->dp,run_underlying->eH,Calls->jY,Operand->om,setRow_other->HQ,setRow_heap->HR
open Go.Builtin renaming zeroCells->lP,copy_->yv,append_->En,firstCells->HT,lenOf->Tm,nextslicecap->acU,clear_->ac3
open Go.Code renaming region->aAB
open Go.Extern renaming findNext->LS,find->LU
open Go.Extern.BytealgMakeNoZero renaming digits->uN,makeNoZero->Tr
open Go.Fence renaming wide->Be
open Go.Instr renaming sureAddr->lO,storeAt->Ti,buildSlice->acV,alloc->aAp
open Go.Lib renaming bytesWorld->HU,bytesCells->HV
open Go.Next renaming value->kx
open Go.Oper renaming wp->mw,uponIn->aAz,wpIn_mono->aAA
open Go.Question renaming cut->aAl
open Go.Region renaming wanted->uK,noSelect->LN
open Go.Result renaming andThen_ok->gH
open Go.Sem renaming run_bind->gY,run_pure->iw
open Go.Value renaming int->s4,slice->L3
open Go.Value.int renaming injEq->aDA
open Go.World renaming cell?->jW,frozen?->uH,alloc->Er,freeze->L5,alloc_eq->L6,drew->Ts,drew_eq->acX
open Go.World.Extends renaming refl->oi,drew->LO
open Int renaming le_refl->bX,toNat_natCast->gu,lt_or_le->jX,le_trans->oe,natCast_nonneg->rL
open List renaming getD->ae,map_cons->cI,range->cU,mem_cons_of_mem->dn,replicate->du,length_cons->dv,length_append->dN,mem_of_getElem?->eh,map_nil->eo,map_append->ft,length_nil->fM,map_congr_left->h8,append_nil->h9,take_of_length_le->jd,append_assoc->je,nil_append->jr,getElem?_eq_getElem->kg,mem_of_mem_take->kv,map_map->k7,length_map->k8,length->lN,length_take->m8,getElem?_map->nE,getElem?_take->og,take_append_drop->oj,mem_of_mem_drop->oo,mem_cons->oT,getElem?_set->oU,zipWith->pA,flatMap_cons->qa,length_drop->q2,getD_cons_zero->rN,getElem?_cons_zero->rQ,getElem?_append_left->s0,flatten_cons->s9,getD_eq_getElem?_getD->uF,size_toArray->uJ,eq_nil_of_length_eq_zero->uL,take_zero->uM,replicate_succ->uO,cons_append->wu,getElem?_append_right->A6,take_succ_cons->A8,length_replicate->Bd,getD_cons_succ->Ea,mem_of_find?_eq_some->Ed,drop_left->Ee,all_cons->HB,getElem?_append->HG,take_append_of_le_length->HH,getElem_mem->HL,drop_drop->HP,mem_or_eq_of_mem_set->HS,zipWith_cons_cons->LQ,getElem?_set_ne->S8,take_length->S9,find?_some->Ta,ext_getElem?->Tk,getElem?_eq_none->Tl,getElem?_set_self->acA,getElem?_range->acS,eq_of_mem_replicate->acY,drop_append_of_le_length->aAi,flatMap_map->aAo
open List.cons renaming injEq->hX
open Nat renaming beq->aG,le_refl->br,ble->bB,eq_of_beq_eq_true->bG,blt->cf,le_of_ble_eq_true->eC,le_trans->iL,add_zero->mv,le_succ->oV,zero_add->pB,lt_succ_self->s5,succ_mul->s6,add_mul->s8,lt_of_lt_of_le->wo,beq_refl->ym,min_eq_left->yq,le_add_right->Eb,mul_le_mul_right->Tp,mul_le_mul->acz,mod_eq_of_lt->aAk,le_of_mul_le_mul_right->aAs
open Option renaming map_some->rO,getD_some->rP,isSome_none->rR
open Option.some renaming injEq->aQ,inj->hZ
open Prod.mk renaming injEq->cA
open Pure renaming pure->A7
set_option linter.unusedVariables false
set_option linter.unusedSimpArgs false
namespace Go.bo
open M
structure dO (n nb:Nat) (ρ:Env) (m:Nat->Nat) (n' j5:Nat) (ah:Env) (m':Nat->Nat):Prop where
 hn:n<=n'
 ha:agree n ρ ah
 hb:nb<=j5
 hm:∀b,b<nb->m' b=m b
theorem dO.refl (n nb:Nat) (ρ:Env) (m:Nat->Nat):dO n nb ρ m n nb ρ m:=⟨br _,agree.refl _ _,br _,λ_ _=>rfl⟩
theorem dO.trans {n nb n1 xM en Z6:Nat} {ρ aE bT:Env} {m fW eF:Nat->Nat} (h:dO n nb ρ m n1 xM aE fW) (h':dO n1 xM aE fW en Z6 bT eF):dO n nb ρ m en Z6 bT eF:=
 ⟨iL h.hn h'.hn,h.ha.trans h'.ha h.hn,iL h.hb h'.hb,λb hb=>(h'.hm b (wo hb h.hb)).trans (h.hm b hb)⟩
def eu (n:Nat) (G dU:dT):Prop:=∀l,l<n->dU l=G l
theorem eu.refl (n:Nat) (G:dT):eu n G G:=λ_ _=>rfl
theorem eu.trans {n n':Nat} {G dU Mk:dT} (h:eu n G dU) (h':eu n' dU Mk) (hn:n<=n'):eu n G Mk:=λl hl=>(h' l (by omega)).trans (h l hl)
structure R (w0:dK) (n:Nat) (ρ:Env) (m:Nat->Nat) (tm:List V) (bl:List ax) (a:Act) (w:ar):Prop where
 t:dX n bl.length ρ m tm a.tmps
 d:a.defers=w0.ds
 b:cK n bl.length ρ bl
 bx:Mem w0 ρ m bl w
section
variable (S:Nat->List Int->List Int->Prop) (L:V->Env->Prop) (w0:dK)
def j0 (k:gi) (n nb:Nat) (ρ:Env) (m:Nat->Nat) (G:dT) (K:Act->ar->Prop):Prop:=
 ∀n' ah m' ch a8 dU di w',dO n nb ρ m n' (lN a8) ah m'->eu n G dU->R w0 n' ah m' ch a8 di w'->(k n' ch a8).holds S L dU ah->K di w'
def uS (k:RK) (n nb:Nat) (ρ:Env) (m:Nat->Nat) (G:dT) (R':Ending->ar->Prop):Prop:=
 ∀n' v a8 dU ah m' w' val,dO n nb ρ m n' (lN a8) ah m'->eu n G dU->V.ok n' a8.length ah v->v.rel ah m' val->cK n' a8.length ah a8->Mem w0 ah m' a8 w'->(k n' v a8).holds S L dU ah->R' (.returned val) w'
def m9 (P:bH) (inl:js):Prop:=
 ∀f n vs bl k G ρ m w xs R',cK n (lN bl) ρ bl->Mem w0 ρ m bl w->(∀v∈vs,V.ok n bl.length ρ v)->eD ρ m vs xs->(inl f n vs bl k).holds S L G ρ->uS S L w0 k n bl.length ρ m G R'->
  (callFunc f xs.toArray).run P w= .ok (.enter f xs.toArray) w/\jY P f xs.toArray w R'
end
section
variable {S:Nat->List Int->List Int->Prop} {L:V->Env->Prop} {w0:dK} {P:bH} {gl:ei} {cal:eI} {inl:js}
theorem j0.later {k:gi} {n nb n1 xM:Nat} {ρ aE:Env} {m fW:Nat->Nat} {G G1:dT} {K:Act->ar->Prop} (h:j0 S L w0 k n nb ρ m G K) (hl:dO n nb ρ m n1 xM aE fW) (hA:eu n G G1):j0 S L w0 k n1 xM aE fW G1 K:=
 λn' ah m' ch a8 dU di w' h1 h2 h3 h4=>h n' ah m' ch a8 dU di w' (hl.trans h1) (hA.trans h2 hl.hn) h3 h4
def j9 (m:Nat->Nat) (nb g:Nat):Nat->Nat:=λb=>if b=nb then g else m b
theorem kR {m:Nat->Nat} {nb g b:Nat} (h:b<nb):j9 m nb g b=m b:=by simp[j9];omega
theorem lF (m:Nat->Nat) (nb g:Nat):j9 m nb g nb=g:=by simp[j9]
theorem Mem.push {n:Nat} {ρ:Env} {m:Nat->Nat} {bl:List ax} {w:ar} {x:ax} {g:Nat} (h:Mem w0 ρ m bl w) (hb:cK n bl.length ρ bl) (hx:∀a∈x.1,A.ok n bl.length ρ a)
 (h1:bV x.1=true->w0.b.heap.size<=g/\(w0.ex g∨w0.r.heap.size<=g)/\∃r:List aF,(x.2.2=false->r=[])/\w.heap[g]?=some (.cells (x.1.map (A.den ρ m)++r).toArray x.2.1 (0,0)))
 (h2:∀sh off code cap kind,x.1=[.rows sh off code cap kind]->q4 w0 ρ g sh off code cap kind x.2.1 w)
 (h3:∀(i:Nat) (p:ax),bl[i]?=some p->m i=g->(bp ρ p.1<=1/\bp ρ x.1<=1)∨bp ρ p.1=0∨bp ρ x.1=0):
 Mem w0 ρ (j9 m bl.length g) (bl++[x]) w:=by
 have hold:∀(i:Nat) (p:ax),(bl++[x])[i]?=some p->(i<bl.length/\bl[i]?=some p)∨(i=bl.length/\p=x):=λi p hi=>by
  rw[HG]at hi
  split at hi
  ·rename_i c9;exact .inl ⟨c9,hi⟩
  ·have:i=bl.length:=by
    have:=(List.getElem?_eq_some_iff.1 hi).1
    simp at this;omega
   subst this
   simp only[Nat.sub_self,rQ,aQ]at hi
   exact .inr ⟨rfl,hi.symm⟩
 refine⟨h.ext,h.gQ,h.jz,h.ic,h.e8,h.gz,λi iB t' hi ho=>?_,λi sh off code cap kind t' hi=>?_,λi j p q hi hj he=>?_⟩
 ·rcases hold i _ hi with⟨c9,hi⟩|⟨rfl,cX⟩
  ·obtain⟨g1,kk,r,hr,g2⟩:=h.eR i iB t' hi ho
   rw[kR c9]
   refine⟨g1,kk,r,hr,?_⟩
   rw[sF (hb _ (eh hi)) (agree.refl n ρ) (λb hb=>kR hb)]
   exact g2
  ·subst cX
   rw[lF]
   obtain⟨g1,kk,r,hr,g2⟩:=h1 ho
   refine⟨g1,kk,r,hr,?_⟩
   rw[sF hx (agree.refl n ρ) (λb hb=>kR hb)]
   exact g2
 ·rcases hold i _ hi with⟨c9,hi⟩|⟨rfl,cX⟩
  ·rw[kR c9]
   exact h.rws i sh off code cap kind t' hi
  ·subst cX
   rw[lF]
   exact h2 sh off code cap kind rfl
 ·rcases hold i p hi with⟨c9,qA⟩|⟨rfl,cX⟩<;>rcases hold j q hj with⟨Ym,F2⟩|⟨rfl,pQ⟩
  ·rw[kR c9,kR Ym]at he
   exact h.inj i j p q qA F2 he
  ·rw[kR c9,lF]at he
   subst pQ
   exact .inr (h3 i p qA he)
  ·rw[kR Ym,lF]at he
   subst cX
   rcases h3 j q F2 he.symm with h|h|h
   ·exact .inr (.inl ⟨h.2,h.1⟩)
   ·exact .inr (.inr (.inr h))
   ·exact .inr (.inr (.inl h))
  ·exact .inl rfl
theorem Mem.alloc {n:Nat} {ρ:Env} {m:Nat->Nat} {bl:List ax} {w:ar} {cs:List A} {t:aX} {ex:List aF} {open_:Bool} (h:Mem w0 ρ m bl w) (hb:cK n bl.length ρ bl) (hc:∀a∈cs,A.ok n bl.length ρ a) (hop:open_=false->ex=[]) (kK:bV cs=true):
 Mem w0 ρ (j9 m bl.length w.heap.size) (bl++[(cs,(t,open_))]) (w.alloc (.cells (cs.map (A.den ρ m)++ex).toArray t)):=by
 refine(h.grow ((oi w).alloc _)).push hb hc (λ_=>⟨h.ext.size,.inr h.e8,ex,hop,heap_alloc_new w _⟩) (λsh off code cap kind e=>?_) λi p hi he=>?_
 ·simp only at e
  subst e
  cases kK
 ·by_cases hk:bp ρ p.1=0
  ·exact .inr (.inl hk)
  ·have:=h.lt hi hk;omega
theorem Mem.put {kd:Nat} {ρ:Env} {m:Nat->Nat} {bl:List ax} {w:ar} {b:Nat} {sh:List aB} {off code cap code':aa} {t:aX×Bool} {cells row:Array aF} {fz:Nat×Nat} (h:Mem w0 ρ m bl w) (gd:2<=kd) (hbl:bl[b]?=some ([.rows sh off code cap kd],t)) (c0:0<=cap.den ρ)
 (hr:q4 w0 ρ (m b) sh off code' cap kd t.1 (w.setRow (m b) row)):Mem w0 ρ m (df bl b ([.rows sh off code' cap kd],t)) (w.setRow (m b) row):=by
 have mD:b<bl.length:=(List.getElem?_eq_some_iff.1 hbl).1
 have jM:∀c,bp ρ [.rows sh off c cap kd]=kd:=λc=>oJ (by omega) c0
 obtain⟨_,hl⟩:=h.rws b sh off code cap kd t hbl (by omega)
 obtain⟨_,cells,iZ,fz,_,_,h5⟩:=hl c0
 obtain⟨_,_,_,_,h1,Jg⟩:=h5 gd
 have dc:∀(i:Nat) (p:ax),(df bl b ([.rows sh off code' cap kd],t))[i]?=some p->(i=b/\p=([.rows sh off code' cap kd],t))∨(i≠b/\bl[i]?=some p):=λi p hi=>by
  rw[iX,oU]at hi
  split at hi
  ·rename_i eM
   subst eM
   simp only[mD,if_true,aQ]at hi
   exact .inl ⟨rfl,hi.symm⟩
  ·rename_i eM;exact .inr ⟨λe=>eM e.symm,hi⟩
 refine⟨h.ext.setRow (m b) _ h1,h.gQ,h.jz,h.ic,by simp;exact h.e8,λi hi hx=>?_,λi iB t' hi ho=>?_,λi eK gT code' gL mN t' hi=>?_,λi j p q hi hj he=>?_⟩
 ·rw[HQ w (m b) i _ (λe=>by
   subst e
   rcases Jg with h3|h3
   ·exact hx h3
   ·omega)]
  exact h.gz i hi hx
 ·rcases dc i _ hi with⟨rfl,cX⟩|⟨hne,hi⟩
  ·cases cX;cases ho
  ·obtain⟨g1,kk,g2⟩:=h.eR i iB t' hi ho
   exact⟨g1,kk,by rw[HQ w (m b) (m i) _ (λe=>h.ne hbl hi (by rw[jM];exact gd) (by rw[jA ho];decide) (λe=>hne e.symm) (by first|exact e|exact e.symm))];exact g2⟩
 ·rcases dc i _ hi with⟨rfl,cX⟩|⟨hne,hi⟩
  ·cases cX;exact hr
  ·exact(h.rws i eK gT _ gL mN t' hi).grow λhk hc=>HQ w (m b) (m i) _ (λe=>h.ne hbl hi (by rw[jM];exact gd) (by simp only[oJ hk hc];exact hk) (λe=>hne e.symm) (by first|exact e|exact e.symm))
 ·have hk:∀(i:Nat) (p:ax),(df bl b ([.rows sh off code' cap kd],t))[i]?=some p->∃p',bl[i]?=some p'/\bp ρ p'.1=bp ρ p.1:=λi p hi=>by
   rcases dc i _ hi with⟨rfl,cX⟩|⟨hne,hi⟩
   ·exact⟨_,hbl,by rw[cX];simp only[jM]⟩
   ·exact⟨p,hi,rfl⟩
  obtain⟨p',hp,ep⟩:=hk i p hi
  obtain⟨q',hq,eq⟩:=hk j q hj
  rw[<-ep,<-eq]
  exact h.inj i j p' q' hp hq he
theorem Mem.kill {ρ:Env} {m:Nat->Nat} {bl:List ax} {w:ar} {b k:Nat} {sh:List aB} {off code cap:aa} {t:aX×Bool} (h:Mem w0 ρ m bl w) (hbl:bl[b]?=some ([.rows sh off code cap k],t)):Mem w0 ρ m (df bl b ([.rows sh off code cap 0],t)) w:=by
 have mD:b<bl.length:=(List.getElem?_eq_some_iff.1 hbl).1
 have dc:∀(i:Nat) (p:ax),(df bl b ([.rows sh off code cap 0],t))[i]?=some p->(i=b/\p=([.rows sh off code cap 0],t))∨(i≠b/\bl[i]?=some p):=λi p hi=>by
  rw[iX,oU]at hi
  split at hi
  ·rename_i eM
   subst eM
   simp only[mD,if_true,aQ]at hi
   exact .inl ⟨rfl,hi.symm⟩
  ·rename_i eM;exact .inr ⟨λe=>eM e.symm,hi⟩
 have kI:bp ρ [.rows sh off code cap 0]=0:=by simp[bp]
 refine⟨h.ext,h.gQ,h.jz,h.ic,h.e8,h.gz,λi iB t' hi ho=>?_,λi eK gT code' gL mN t' hi=>?_,λi j p q hi hj he=>?_⟩
 ·rcases dc i _ hi with⟨rfl,cX⟩|⟨hne,hi⟩
  ·cases cX;cases ho
  ·exact h.eR i iB t' hi ho
 ·rcases dc i _ hi with⟨rfl,cX⟩|⟨hne,hi⟩
  ·cases cX;exactλhk=>absurd rfl hk
  ·exact h.rws i eK gT _ gL mN t' hi
 ·rcases dc i _ hi with⟨rfl,cX⟩|⟨hne,hi⟩
  ·exact .inr (.inr (.inl (by rw[cX];exact kI)))
  ·rcases dc j _ hj with⟨rfl,pQ⟩|⟨hne,hj⟩
   ·exact .inr (.inr (.inr (by rw[pQ];exact kI)))
   ·exact h.inj i j p q hi hj he
theorem dO.alloc (n:Nat) (ρ:Env) (m:Nat->Nat) (bl:List ax) (x:ax) (g:Nat):dO n bl.length ρ m n (bl++[x]).length ρ (j9 m bl.length g):=
 ⟨br _,agree.refl _ _,by simp,λb hb=>kR hb⟩
theorem cK.alloc {n:Nat} {ρ:Env} {bl:List ax} {cs:List A} {t:aX×Bool} (hb:cK n bl.length ρ bl) (hc:∀a∈cs,A.ok n bl.length ρ a):cK n (bl++[(cs,t)]).length ρ (bl++[(cs,t)]):=by
 intro p hp a ha
 rcases List.mem_append.1 hp with hp|hp
 ·exact(hb p hp a ha).ext (agree.refl n ρ) (br _) (by simp)
 ·simp at hp;subst hp;exact(hc a ha).ext (agree.refl n ρ) (br _) (by simp)
theorem R.alloc {n:Nat} {ρ:Env} {m:Nat->Nat} {tm:List V} {bl:List ax} {a:Act} {w:ar} {cs:List A} {t:aX} (h:R w0 n ρ m tm bl a w) (hc:∀x∈cs,A.ok n bl.length ρ x) (dst:Option Tmp) (kK:bV cs=true):
 R w0 n ρ (j9 m bl.length w.heap.size) (fr tm dst (.w (.one (.ptr bl.length 0)))) (bl++[(cs,(t,false))]) (a.put dst (.pointer (some ⟨w.heap.size,0,none⟩))) (w.alloc (.cells (cs.map (A.den ρ m)).toArray t)):=by
 have hl:=dO.alloc n ρ m bl (cs,(t,false)) w.heap.size
 have jO:=h.bx.alloc (t:=t) (ex:=[]) (open_:=false) h.b hc (λ_=>rfl) kK
 rw[h9]at jO
 exact⟨dX.put (h.t.ext hl.ha hl.hn hl.hb hl.hm) dst (by simp[V.ok,W.ok,A.ok]) (by simp[V.rel,W.den,A.den,lF]),by rw[put_defers];exact h.d,h.b.alloc hc,jO⟩
theorem R.row {n:Nat} {ρ:Env} {m:Nat->Nat} {tm:List V} {bl:List ax} {a:Act} {w:ar} {cs:List A} {t:aX} {ex:List aF} {open_:Bool} (h:R w0 n ρ m tm bl a w) (hc:∀x∈cs,A.ok n bl.length ρ x) (hop:open_=false->ex=[]) (kK:bV cs=true) (dst:Option Tmp) {v:V} {x:aF}
 (hv:v.ok n (bl.length+1) ρ) (hx:v.rel ρ (j9 m bl.length w.heap.size) x):
 R w0 n ρ (j9 m bl.length w.heap.size) (fr tm dst v) (bl++[(cs,(t,open_))]) (a.put dst x) (w.alloc (.cells (cs.map (A.den ρ m)++ex).toArray t)):=by
 have hl:=dO.alloc n ρ m bl (cs,(t,open_)) w.heap.size
 exact⟨dX.put (h.t.ext hl.ha hl.hn hl.hb hl.hm) dst (by simpa using hv) hx,by rw[put_defers];exact h.d,h.b.alloc hc,h.bx.alloc h.b hc hop kK⟩
theorem Mem.storeCells {n:Nat} {ρ:Env} {m:Nat->Nat} {bl:List ax} {w:ar} {b off:Nat} {cs l:List A} {bY:aX×Bool} (h:Mem w0 ρ m bl w) (hb:cK n bl.length ρ bl) (hl:∀a∈l,A.ok n bl.length ρ a)
 (hbl:bl[b]?=some (cs,bY)) (rm:off+l.length<=cs.length) (pb:bV cs=true) (mG:bV (cs.take off++l++cs.drop (off+l.length))=true):
 ∃w',(Go.storeCells ⟨m b,off,none⟩ (l.map (A.den ρ m))).run P w= .ok () w'/\Mem w0 ρ m (df bl b (cs.take off++l++cs.drop (off+l.length),bY)) w':=by
 obtain⟨h1,Jg,r,hr,h2⟩:=h.eR b cs bY hbl pb
 have hst:=run_storeCells_at P (m b) off bY.1 (l.map (A.den ρ m)) 0 (cs.map (A.den ρ m)++r).toArray w h2 (by simp;omega) (λx hx=>by
  obtain⟨a,ha,rfl⟩:=List.mem_map.1 hx
  exact A.Kx (hl a ha))
 have tJ:∀k,k<=cs.length->(cs.map (A.den ρ m)++r).take k=(cs.take k).map (A.den ρ m)/\(cs.map (A.den ρ m)++r).drop k=(cs.drop k).map (A.den ρ m)++r:=λk hk=>by
  refine⟨?_,?_⟩
  ·rw[HH (by simpa using hk),List.map_take]
  ·rw[aAi (by simpa using hk),List.map_drop]
 refine⟨w.setRow (m b) ((cs.take off++l++cs.drop (off+l.length)).map (A.den ρ m)++r).toArray,?_,?_⟩
 ·simp only[mv,k8]at hst
  rw[hst]
  congr 3
  simp only[ft,je]
  rw[(tJ off (by omega)).1,(tJ (off+l.length) (by omega)).2]
 ·have mD:b<bl.length:=(List.getElem?_eq_some_iff.1 hbl).1
  have dc:∀(i:Nat) (p:ax),(df bl b (cs.take off++l++cs.drop (off+l.length),bY))[i]?=some p->(i=b/\p=(cs.take off++l++cs.drop (off+l.length),bY))∨(i≠b/\bl[i]?=some p):=λi p hi=>by
   rw[iX,oU]at hi
   split at hi
   ·rename_i eM
    subst eM
    simp only[mD,if_true,aQ]at hi
    exact .inl ⟨rfl,hi.symm⟩
   ·rename_i eM;exact .inr ⟨λe=>eM e.symm,hi⟩
  have jM:bp ρ cs=2:=jA pb
  refine⟨h.ext.setRow (m b) _ h1,h.gQ,h.jz,h.ic,by simp;exact h.e8,λi hi hx=>?_,λi iB t' hi ho=>?_,λi sh gT code cap kind t' hi=>?_,λi j p q hi hj he=>?_⟩
  ·rw[HQ w (m b) i _ (λe=>by
    subst e
    rcases Jg with h3|h3
    ·exact hx h3
    ·omega)]
   exact h.gz i hi hx
  ·rcases dc i _ hi with⟨rfl,cX⟩|⟨hne,hi⟩
   ·cases cX
    exact⟨h1,Jg,r,hr,HR w (m i) _ _ _ _ h2⟩
   ·obtain⟨g1,kk,g2⟩:=h.eR i iB t' hi ho
    exact⟨g1,kk,by rw[HQ w (m b) (m i) _ (λe=>h.ne hbl hi (by rw[jM];exact br 2) (by rw[jA ho];decide) (λe=>hne e.symm) (by first|exact e|exact e.symm))];exact g2⟩
  ·rcases dc i _ hi with⟨rfl,cX⟩|⟨hne,hi⟩
   ·have hi:=(Prod.mk.inj cX).1
    rw[<-hi]at mG
    cases mG
   ·exact(h.rws i sh gT code cap kind t' hi).grow λhk hc=>HQ w (m b) (m i) _ (λe=>h.ne hbl hi (by rw[jM];exact br 2) (by simp only[oJ hk hc];exact hk) (λe=>hne e.symm) (by first|exact e|exact e.symm))
  ·have hk:∀(i:Nat) (p:ax),(df bl b (cs.take off++l++cs.drop (off+l.length),bY))[i]?=some p->∃p',bl[i]?=some p'/\bp ρ p'.1=bp ρ p.1:=λi p hi=>by
    rcases dc i _ hi with⟨rfl,cX⟩|⟨hne,hi⟩
    ·exact⟨_,hbl,by rw[cX];exact jM.trans (jA mG).symm⟩
    ·exact⟨p,hi,rfl⟩
   obtain⟨p',hp,ep⟩:=hk i p hi
   obtain⟨q',hq,eq⟩:=hk j q hj
   rw[<-ep,<-eq]
   exact h.inj i j p' q' hp hq he
theorem Mem.store {n:Nat} {ρ:Env} {m:Nat->Nat} {bl:List ax} {w:ar} {b off:Nat} {cs l:List A} {bY:aX×Bool} (h:Mem w0 ρ m bl w) (hb:cK n bl.length ρ bl) (hl:∀a∈l,A.ok n bl.length ρ a)
 (hbl:bl[b]?=some (cs,bY)) (rm:off+l.length<=cs.length) (gj:0<l.length) (pb:bV cs=true) (mG:bV (cs.take off++l++cs.drop (off+l.length))=true) (ty:aX) (hs:eW P ty=some l.length) (v:aF) (hv:v.cells=(l.map (A.den ρ m)).toArray):
 ∃w',(Ti ty (.pointer (some ⟨m b,off,none⟩)) v).run P w= .ok () w'/\Mem w0 ρ m (df bl b (cs.take off++l++cs.drop (off+l.length),bY)) w':=by
 obtain⟨w',hL,vj⟩:=h.storeCells (P:=P) hb hl hbl rm pb mG
 refine⟨w',?_,vj⟩
 simp only[Ti,lO,gY,iw,gH,storeVar,im hs,hv]
 simp only[uJ,k8,ne_eq,not_true_eq_false,if_false,iw,gH]
 simp only[iw,gH,hL]
theorem iY (bl:List ax) (b:Nat) (x:ax):(df bl b x).length=bl.length:=by rw[iX];simp
theorem cK.set {n:Nat} {ρ:Env} {bl:List ax} {b:Nat} {cs:List A} {t:aX×Bool} (hb:cK n bl.length ρ bl) (hc:∀a∈cs,A.ok n bl.length ρ a):cK n (df bl b (cs,t)).length ρ (df bl b (cs,t)):=by
 intro p hp a ha
 rw[iY]
 rw[iX]at hp
 rcases HS hp with h|h
 ·exact hb p h a ha
 ·subst h;exact hc a ha
theorem D6 {t:aX} {cs:List A} (h:mr P t=some cs):∃i z,P.info? t=some i/\i.zero=some z/\u3 z.cells.toList=some cs:=by
 unfold mr at h
 cases hi:P.info? t with
 |none=>simp[hi]at h
 |some i=>
  cases hz:i.zero with
  |none=>simp[hi,hz]at h
  |some z=>simp only[hi,hz]at h;exact⟨i,z,rfl,hz,h⟩
theorem Xb {Z:Array aF} {i:Nat} (h:i<Z.size):Z[i]! =Z[i]:=by simp[h]
theorem atG {z:List A} {Z:Array aF} {n nb:Nat} {ρ:Env} {m:Nat->Nat} (hz:z.map (A.den ρ m)=Z.toList) (bm:∀a∈z,A.ok n nb ρ a) (h0:0<z.length) (len:Nat):
 (∀a∈G7 z len,A.ok n nb ρ a)/\((G7 z len).map (A.den ρ m)).toArray=(aAj (len*Z.size)).map λi=>Z[i% Z.size]! :=by
 have hl:Z.size=z.length:=by have:=congrArg lN hz;simpa using this.symm
 have hi:∀i,i% z.length<z.length:=λi=>Nat.mod_lt _ h0
 refine⟨λa ha=>?_,?_⟩
 ·obtain⟨i,_,rfl⟩:=List.mem_map.1 ha
  rw[kg (hi i)]
  exact bm _ (HL _)
 ·apply L1
  rw[s7,Tj]
  simp only[G7,k7,hl]
  refine h8 λi _=>?_
  simp only[HD]
  have h1:i% z.length<Z.size:=by rw[hl];exact hi i
  rw[Xb h1,kg (hi i)]
  simp only[rP]
  have h2:=congrArg (λl=>l[i% z.length]?) hz
  simp only[nE,kg (hi i),rO]at h2
  rw[HO,HF h1]at h2
  simpa using h2
theorem afc {t:aX} {len n:Nat} {ρ:Env} {m:Nat->Nat} {bl:List ax} {parts:List (Nat×V)} {vals:Array (Nat×aF)} {cs:List A} {e:aX} (h:MY P t len parts=some (cs,e)) (hr:Ig n bl.length ρ m parts vals.toList):
 (∀a∈cs,A.ok n bl.length ρ a)/\∀w,(acV t len vals).run P w= .ok (.slice (some ⟨w.heap.size,0,none⟩) len len) (w.alloc (.cells (cs.map (A.den ρ m)).toArray e)):=by
 unfold MY at h
 cases h1:hU P t with
 |none=>simp[h1]at h
 |some pI=>
  simp only[h1]at h
  cases h2:eW P pI with
  |none=>simp[h2]at h
  |some s=>
   cases h3:mr P pI with
   |none=>simp[h2,h3]at h
   |some z=>
    simp only[h2,h3]at h
    cases hc:(aG z.length s&&cf 0 s&&bB (len*s) 16777216)with
    |false=>simp[hc]at h
    |true=>
     simp only[hc,cond_true]at h
     simp only[aS]at hc
     have c1:=bG hc.1.1
     have c2:=qk hc.1.2
     have c3:=eC hc.2
     cases h4:tx (λi=>some (i*s,s)) (G7 z len) parts with
     |none=>simp[h4]at h
     |some l=>
      simp only[h4,aQ,cA]at h
      obtain⟨rfl,rfl⟩:=h
      obtain⟨inf,ky,hi,nW,gP⟩:=D6 h3
      have kG:=u4 gP n bl.length ρ m
      have zC:=atG (Z:=ky.cells) kG.2 kG.1 (by omega) len
      have zd:ky.cells.size=s:=by have:=congrArg lN kG.2;simp at this;omega
      obtain⟨g1,g2⟩:=I7 (m:=m) h4 zC.1 hr
      refine⟨g1,λw=>?_⟩
      rw[zC.2,zd]at g2
      have hn:¬(16777216<len*s):=by omega
      by_cases hl0:len=0
      ·subst hl0
       have g3:Instr.fill (λi=>some (i*s,s)) ((aAj (0*s)).map λi=>(#[]:Array aF)[i% (#[]:Array aF).size]!) vals.toList=some (l.map (A.den ρ m)).toArray:=by
        rw[<-g2];congr 1;simp
       simp[acV,eH (gg h1),im h2]at g3⊢
       simp[g3,newRow]
      ·have hne:¬(len*s=0):=by
        intro h0
        rcases Nat.mul_eq_zero.1 h0 with h0|h0<;>omega
       have zx:¬(s=0):=by omega
       simp[acV,eH (gg h1),im h2,hn,hne,hl0,zx,zeroValue,typeInfo,hi,nW,zd,g2,newRow]
theorem azx {Z:Array aF} {k:Nat} (h:0<Z.size):∃r:List aF,lP Z (k+1)=(Z.toList++r).toArray:=by
 refine⟨(lP Z (k+1)).toList.drop Z.size,?_⟩
 apply L1
 have:(lP Z (k+1)).toList.take Z.size=Z.toList:=by
  apply Tk
  intro i
  rw[og]
  by_cases hi:i<Z.size
  ·have h1:i<(k+1)*Z.size:=wo hi (by rw[s6];omega)
   rw[if_pos hi]
   simp only[lP,s7,Tj,nE,acS h1,rO,aAk hi]
   rw[Xb hi,HO,HF hi]
  ·rw[if_neg hi,Tl (by simpa using hi)]
 conv=>lhs;rw[<-oj Z.size (lP Z (k+1)).toList,this]
theorem FN {w:ar} {n:Nat} {ρ:Env} {m:Nat->Nat} {bl:List ax} {b off k:Nat} {cs:List A} (hm:Mem w0 ρ m bl w) (hb:cK n bl.length ρ bl) (h:sr bl b off k=some cs):
 cs.length=k/\(∀a∈cs,A.ok n bl.length ρ a)/\∀j v,(cs.map (A.den ρ m))[j]?=some v->w.cell? ((⟨m b,off,none⟩:Addr).add j)=some v:=by
 unfold sr at h
 cases hbl:bl[b]? with
 |none=>simp[hbl]at h
 |some q=>
  obtain⟨C,t⟩:=q
  simp only[hbl]at h
  cases hc:(bB (off+k) C.length&&bV C)with
  |false=>simp[hc]at h
  |true=>
   simp only[hc,cond_true,aQ]at h
   simp only[aS]at hc
   have hle:=eC hc.1
   subst h
   obtain⟨_,_,r,_,h2⟩:=hm.eR b C t hbl hc.2
   refine⟨by simp;omega,λa ha=>hb _ (eh hbl) a (oo (kv ha)),λj v hj=>?_⟩
   rw[iy]
   rw[nE,og]at hj
   split at hj
   ·rename_i Pn
    rw[List.getElem?_drop]at hj
    cases hq:C[off+j]? with
    |none=>simp[hq]at hj
    |some y=>
     simp only[hq,rO,aQ]at hj
     have hlt:off+j<C.length:=(List.getElem?_eq_some_iff.1 hq).1
     simp only[jW,h2,rR,qb,if_false,List.getElem?_toArray]
     rw[s0 (by simpa using hlt),nE,hq]
     simp[hj]
   ·simp at hj
theorem Xh {n:Nat} {ρ:Env} {m:Nat->Nat} {tm:List V} {bl:List ax} {a:Act} {w:ar} {G:dT} {K:Act->ar->Prop} {k:gi} {i:TypeInfo} {e:aX} {z:List A} {d:Option Tmp} {eJ m1 len:Nat} {olds news:List A} {Z:Array aF}
 (h:R w0 n ρ m tm bl a w) (ho:∀a∈olds,A.ok n bl.length ρ a) (hn:∀a∈news,A.ok n bl.length ρ a) (hz:∀a∈z,A.ok n bl.length ρ a) (zd:z.map (A.den ρ m)=Z.toList) (ai:(Jf i e z d eJ m1 len olds news n tm bl k).holds S L G ρ) (hk:j0 S L w0 k n bl.length ρ m G K):
 (eJ+len<=1000000/\acU (eJ+len) m1*i.bytes<=281474976710656/\m1<eJ+len/\0<len)/\
 K (a.put d (.slice (some ⟨w.heap.size,0,none⟩) (eJ+len) (grownCap w (eJ+len) m1 e))) (w.drew.alloc (.cells ((olds.map (A.den ρ m)).toArray++(news.map (A.den ρ m)).toArray++lP Z (grownCap w (eJ+len) m1 e-(eJ+len))) e)):=by
 unfold Jf at ai
 cases hc:(bB (eJ+len) 1000000&&bB (acU (eJ+len) m1*i.bytes) 281474976710656&&cf m1 (eJ+len)&&cf 0 len&&aG z.length i.size&&cf 0 i.size&&bV (olds++news)&&bV (olds++news++z))with
 |false=>rw[hc]at ai;exact ai.elim
 |true=>
  simp only[hc,cond_true,T.holds]at ai
  simp only[aS]at hc
  obtain⟨⟨hc,pb⟩,mG⟩:=hc
  have c1:=eC hc.1.1.1.1.1
  have c2:=eC hc.1.1.1.1.2
  have c3:=qk hc.1.1.1.2
  have c4:=qk hc.1.1.2
  have c5:=bG hc.1.2
  have hQ:=qk hc.2
  refine⟨⟨c1,c2,c3,c4⟩,?_⟩
  have hsz:Z.size=z.length:=by have:=congrArg lN zd;simpa using this.symm
  have ec:eJ+len<=grownCap w (eJ+len) m1 e:=by unfold grownCap aAl;exact Eb _ _
  generalize grownCap w (eJ+len) m1 e=c at ec⊢
  have qx:R w0 n ρ m tm bl a w.drew:=⟨h.t,h.d,h.b,h.bx.grow (LO (oi w))⟩
  by_cases Ju:c=eJ+len
  ·subst Ju
   have Qi:lP Z (eJ+len-(eJ+len))=#[]:=by simp[lP]
   rw[Qi]
   have hR:=R.row (t:=e) (cs:=olds++news) (ex:=[]) (open_:=false) qx (λx hx=>(List.mem_append.1 hx).elim (ho x) (hn x)) (λ_=>rfl) pb d (v:= .w (.one (.slc bl.length 0 (eJ+len) (eJ+len)))) (x:= .slice (some ⟨w.heap.size,0,none⟩) (eJ+len) (eJ+len)) (by simp[V.ok,W.ok,A.ok]) (by
    show L3 (some ⟨w.heap.size,0,none⟩) _ _=_
    simp[W.den,A.den,lF])
   have:=hk n ρ _ _ _ G _ _ (dO.alloc n ρ m bl (olds++news,(e,false)) w.heap.size) (eu.refl _ _) hR ai.1
   simpa [ft]using this
  ·obtain⟨q,hq⟩:∃q,c-(eJ+len)=q+1:=⟨c-(eJ+len)-1,by omega⟩
   rw[hq]
   obtain⟨r,hr⟩:=azx (Z:=Z) (k:=q) (by omega)
   rw[hr,<-zd]
   have hR:=R.row (t:=e) (cs:=olds++news++z) (ex:=r) (open_:=true) qx (λx hx=>(List.mem_append.1 hx).elim (λhx=>(List.mem_append.1 hx).elim (ho x) (hn x)) (hz x)) (λh=>by cases h) mG d (v:= .n2 bl.length (eJ+len) (eJ+len+1)) (x:= .slice (some ⟨w.heap.size,0,none⟩) (eJ+len) c) (by simp[V.ok]) ⟨c,by omega,by
    rw[lF];rfl⟩
   have:=hk n ρ _ _ _ G _ _ (dO.alloc n ρ m bl (olds++news++z,(e,true)) w.heap.size) (eu.refl _ _) hR ai.2
   simpa [ft]using this
theorem aeN {n:Nat} {ρ:Env} {m:Nat->Nat} {tm:List V} {bl:List ax} {a:Act} {w:ar} {G:dT} {o:Oper} {K:Act->ar->Prop} {Q:Exit->Act->ar->Prop} {k:gi} {c:Call} {s x:om} {t t':aX}
 (h:R w0 n ρ m tm bl a w) (hop:o.op= .call c) (gP:c.callee= .builtin .append) (fk:c.args.toList=[s,x]) (l8:c.argTypes.toList=[t,t'])
 (ai:(MM P o.dst t t' (cg tm s) (cg tm x) n tm bl k).holds S L G ρ) (hk:j0 S L w0 k n bl.length ρ m G K):o.wp P a w K Q:=by
 have a1:c.args=#[s,x]:=by rw[<-jF (xs:=c.args),fk]
 have a2:c.argTypes=#[t,t']:=by rw[<-jF (xs:=c.argTypes),l8]
 have hex:execOp a.eval o=(do pure (kx (<-En #[t,t'] o.type #[a.eval s,a.eval x]))):=by
  simp[execOp,hop,resolve,gP,a1,a2,invoke,builtin]
 have vl:∀v w',(En #[t,t'] o.type #[a.eval s,a.eval x]).run P w= .ok v w'->K (a.put o.dst v) w'->o.wp P a w K Q:=λv w' h1 h2=>by
  unfold mw
  simp only[hex,gY,h1,gH,iw]
  exact h2
 have hs:=cC h.t s
 have hx:=cC h.t x
 unfold MM at ai
 split at ai
 ·rename_i cp gT mO gL e vm vk
  rw[vm]at hx
  have db:a.eval x= .slice (some ⟨m cp,gT,none⟩) mO gL:=hx.2
  split at ai
  ·rename_i i z hi hz
   split at ai
   ·rename_i news alk
    obtain⟨n1,en,mh⟩:=FN h.bx h.b alk
    cases xo:aG t t' with
    |false=>simp[xo,T.holds]at ai
    |true=>
     have xo:=bG xo
     subst xo
     simp only[ym,Ec,cond_false]at ai
     obtain⟨inf,ky,nR,nW,kG⟩:=D6 hz
     rw[hi]at nR
     simp only[aQ]at nR
     subst nR
     have kG:=u4 kG n bl.length ρ m
     cases nk:Qr (cg tm s)with
     |true=>
      simp only[nk,cond_true]at ai
      have nn:a.eval s= .slice none 0 0:=by
       unfold Qr at nk
       split at nk
       ·rename_i hv
        rw[hv]at hs
        exact hs.2
       ·cases nk
      obtain⟨⟨c1,c2,c3,c4⟩,c5⟩:=Xh (Z:=ky.cells) h (λ_ h=>by simp at h) en kG.1 kG.2 ai hk
      simp only[pB]at c1 c2 c3 c4 c5
      refine vl _ _ ?_ c5
      rw[nn,db,run_append_nil w t _ e i ky (gg vk) hi nW ⟨m cp,gT,none⟩ mO gL (news.map (A.den ρ m)) (by simpa using n1) mh c4 (by omega) (by rw[nextslicecap_zero c4]at c2;exact c2)]
      simp
     |false=>
      simp only[nk,cond_false]at ai
      split at ai
      ·rename_i b off len cap lx
       rw[lx]at hs
       have nn:a.eval s= .slice (some ⟨m b,off,none⟩) len cap:=hs.2
       split at ai
       ·rename_i olds hold
        obtain⟨o1,o2,Q2⟩:=FN h.bx h.b hold
        obtain⟨⟨c1,c2,c3,c4⟩,c5⟩:=Xh (Z:=ky.cells) h o2 en kG.1 kG.2 ai hk
        refine vl _ _ ?_ c5
        rw[nn,db,run_append_grow w t _ e i ky (gg vk) hi nW ⟨m b,off,none⟩ len cap (olds.map (A.den ρ m)) (by simpa using o1) Q2 ⟨m cp,gT,none⟩ mO gL (news.map (A.den ρ m)) (by simpa using n1) mh c3 (by omega) c2]
       ·exact ai.elim
      ·rename_i b len lo lx
       rw[lx]at hs
       obtain⟨mz,X5,nn⟩:=hs.2
       split at ai
       ·rename_i cs ty hbl
        cases hc:(bB (len+mO) lo&&bB ((len+mO)*i.size) cs.length&&cf 0 (mO*i.size)&&bV cs&&bV (cs.take (len*i.size)++news++cs.drop (len*i.size+news.length)))with
        |false=>rw[hc]at ai;exact ai.elim
        |true=>
         simp only[hc,cond_true]at ai
         simp only[aS]at hc
         obtain⟨⟨hc,pb⟩,mG⟩:=hc
         have c1:=eC hc.1.1
         have c2:=eC hc.1.2
         have c3:=qk hc.2
         obtain⟨w',hL,vj⟩:=h.bx.storeCells (P:=P) (off:=len*i.size) (l:=news) h.b en hbl (by rw[n1,<-s8];exact c2) pb mG
         have bm:∀a∈cs.take (len*i.size)++news++cs.drop (len*i.size+news.length),A.ok n bl.length ρ a:=λa ha=>by
          have hcs:=h.b _ (eh hbl)
          rcases List.mem_append.1 ha with ha|ha
          ·rcases List.mem_append.1 ha with ha|ha
           ·exact hcs a (kv ha)
           ·exact en a ha
          ·exact hcs a (oo ha)
         have FF:b<bl.length:=(List.getElem?_eq_some_iff.1 hbl).1
         refine vl (.slice (some ⟨m b,0,none⟩) (len+mO) mz) w' ?_ (hk n ρ m _ _ G _ w' ⟨br _,agree.refl _ _,by rw[iY];exact br _,λ_ _=>rfl⟩ (eu.refl _ _) ⟨?_,by rw[put_defers];exact h.d,h.b.set bm,vj⟩ ai)
         ·have xf:=run_firstCells_some (P:=P) w i.size mO ⟨m cp,gT,none⟩ mO gL (news.map (A.den ρ m)) (by simpa using n1) mh
          have hle:len+mO<=mz:=by omega
          rw[nn,db]
          simp[En,eH (gg vk),sizeOf,typeInfo,hi,Tm,hle,xf,iy,hL]
         ·rw[iY]
          exact dX.put h.t o.dst FF ⟨mz,by omega,rfl⟩
       ·exact ai.elim
      ·exact ai.elim
   ·exact ai.elim
  ·exact ai.elim
 ·exact ai.elim
theorem KR {n:Nat} {ρ:Env} {m:Nat->Nat} {tm:List V} {bl:List ax} {a:Act} {w:ar} {G:dT} {o:Oper} {K:Act->ar->Prop} {Q:Exit->Act->ar->Prop} {k:gi}
 (cQ:fS S P gl w0 cal) (hg:fg gl w0) (h:R w0 n ρ m tm bl a w) (ai:(vR P cal gl bl tm o n λv n'=>k n' (fr tm o.dst v) bl).holds S L G ρ) (hk:j0 S L w0 k n bl.length ρ m G K):o.wp P a w K Q:=by
 obtain⟨ah,n',v,hn,ha,⟨hv,val,hr,hq⟩,Cg⟩:=Rs (L:=L) cQ h.b hg ⟨w,h.bx⟩ h.t o G _ ai
 have hl:dO n bl.length ρ m n' bl.length ah m:=⟨hn,ha,br _,λ_ _=>rfl⟩
 have hR:∀w',w.Extends w'->R w0 n' ah m (fr tm o.dst v) bl (a.put o.dst val) w':=λw' he=>
  ⟨dX.put (h.t.ext ha hn (br _) (λ_ _=>rfl)) o.dst hv hr,by rw[put_defers];exact h.d,h.b.ext ha hn (br _),(h.bx.grow he).mZ h.b ha⟩
 unfold mw
 rcases hq w h.bx with hq|⟨f,args,hq,hc⟩
 ·rw[hq]
  exact hk n' ah m _ bl G _ w hl (eu.refl _ _) (hR w (oi w)) Cg
 ·rw[hq]
  refine hc.mono λe n8 ⟨he,hx⟩=>?_
  subst he
  exact hk n' ah m _ bl G _ n8 hl (eu.refl _ _) (hR n8 hx) Cg
theorem afS {n nb:Nat} {ρ:Env} {m:Nat->Nat} {v:V} {f:Nat} {iA:List A} {x:aF} (h:Ng v=some (f,iA)) (hv:v.ok n nb ρ) (hr:v.rel ρ m x):
 (∀y∈iA,A.ok n nb ρ y)/\x= .func (.func f) #[] (iA.map (A.den ρ m)).toArray:=by
 unfold Ng at h
 split at h
 ·simp only[aQ,cA]at h
  obtain⟨rfl,rfl⟩:=h
  exact⟨hv,hr⟩
 ·rename_i kC a b
  cases hc:(aG a.size 0&&aG b.size 0)with
  |false=>simp[hc]at h
  |true=>
   simp only[hc,cond_true,aQ,cA]at h
   obtain⟨rfl,rfl⟩:=h
   simp only[aS]at hc
   have e1:=wy (bG hc.1)
   have e2:=wy (bG hc.2)
   subst e1;subst e2
   have hr:x= .func (.func kC) #[] #[]:=hr
   exact⟨λy hy=>by simp at hy,by rw[hr];rfl⟩
 ·cases h
end
end Go.bo
namespace Go.bo
open M
theorem cl.row {sh:List aB} {row:List Int} (hs:mm sh=true) (h:cl sh row):RB row:=by
 unfold mm at hs
 simp only[aS]at hs
 obtain⟨⟨h0,Fh⟩,h2⟩:=hs
 refine⟨by rw[h.len];exact eC h0,?_⟩
 have hp:=fv
 clear h0 Fh
 induction sh generalizing row with
 |nil=>
  cases row with
  |nil=>intro z hz;simp at hz
  |cons _ _=>exact h.elim
 |cons c sh ih=>
  cases row with
  |nil=>exact h.elim
  |cons x r=>
   simp only[HB,aS]at h2
   intro z hz
   rcases List.mem_cons.1 hz with rfl|hz
   ·have h3:=h.1
    cases c with
    |int k lo hi=>
     have h4:=h2.1
     simp only[aS,decide_eq_true_eq]at h4
     simp only[aB.eL]at h3
     omega
    |str=>simp only[aB.eL]at h3;omega
    |bool=>simp only[aB.eL]at h3;omega
   ·exact ih h.2 h2.2 z hz
theorem wG {sh:List aB} {rows:List (List Int)} (hs:mm sh=true) (hl:rows.length<=1073741824) (h:∀row∈rows,cl sh row):rc rows<=bK:=
 oX (by unfold maxLen;omega) λrow hr=>(h row hr).row hs
theorem aB.val_one (c:aB) (z:Int):(c.val z).oneCell'=true:=by cases c<;>rfl
theorem aa8:∀{sh:List aB} {row:List Int},∀u∈de sh row,u.oneCell'=true
 |[],_,u,h=>by simp[de]at h
 |_::_,[],u,h=>by simp[de]at h
 |c::sh,z::r,u,h=>by
  simp only[de,oT]at h
  rcases h with rfl|h
  ·exact aB.val_one c z
  ·exact aa8 u h
theorem Jb {sh:List aB} {rows:List (List Int)}:∀u∈bf sh rows,u.oneCell'=true:=λu h=>by
 obtain⟨row,_,h⟩:=List.mem_flatMap.1 h
 exact aa8 u h
theorem lg.flat {cells:Array aF} {off:Nat} {sh:List aB} {rows:List (List Int)} (h:lg cells off sh rows) {j:Nat} {v:aF} (hj:(bf sh rows)[j]?=some v):cells[off+j]?=some v:=by
 obtain⟨h1,pre,post,h2,h3⟩:=h
 have hlt:=(List.getElem?_eq_some_iff.1 hj).1
 rw[<-HO,h2,je,A6 (by omega),s0 (by omega)]
 rw[show off+j-pre.length=j by omega];exact hj
theorem lg.sub {cells:Array aF} {off:Nat} {sh:List aB} {rows:List (List Int)} (h:lg cells off sh rows) (a k:Nat) (ha:a<=rows.length):lg cells (off+a*sh.length) sh ((rows.drop a).take k):=by
 obtain⟨h1,pre,post,h2,h3⟩:=h
 refine⟨λrow hr=>h1 row (oo (kv hr)),pre++bf sh (rows.take a),bf sh ((rows.drop a).drop k)++post,?_,?_⟩
 ·rw[h2]
  have:rows=rows.take a++((rows.drop a).take k++(rows.drop a).drop k):=by rw[oj,oj]
  conv=>lhs;rw[this]
  simp only[pK,je]
 ·rw[dN,h3,kj λrow hr=>h1 row (kv hr),m8,yq ha]
section
variable {S:Nat->List Int->List Int->Prop} {L:V->Env->Prop} {n:Nat} {ρ:Env} {m:Nat->Nat} {bl:List ax} {gl:ei} {w0:dK} {P:bH}
theorem J0 {e:bd}:aw S L (zQ e) n ρ λah n' l=>l.bk n'/\(0<=l.den ah/\l.den ah<=1)/\e.den ρ=decide (l.den ah=1):=by
 intro A k hk
 cases h:e.den ρ with
 |true=>exact⟨_,n+1,_,oV _,agree.c6 _ _ _,⟨aa.eV (s5 n),by simp[aa.cE,jC],by simp[aa.cE,jC]⟩,hk 1 (by decide) (by decide) (by simp[h])⟩
 |false=>exact⟨_,n+1,_,oV _,agree.c6 _ _ _,⟨aa.eV (s5 n),by simp[aa.cE,jC],by simp[aa.cE,jC]⟩,hk 0 (by decide) (by decide) (by simp[h])⟩
theorem afI {nb:Nat} {c:aB} {a:A} (ha:a.ok n nb ρ):aw S L (Na c a) n ρ λah n' l=>l.bk n'/\(c.eL.1<=l.den ah/\l.den ah<=c.eL.2)/\c.val (l.den ah)=a.den ρ m:=by
 unfold Na
 split
 ·refine dV λhc=>aw.pure ?_
  simp only[aS,decide_eq_true_eq]at hc
  obtain⟨⟨h1,h2⟩,h3⟩:=hc
  have h4:=ha.2
  refine⟨ha.1,⟨?_,?_⟩,?_⟩
  ·simp only[aB.eL];omega
  ·simp only[aB.eL];omega
  ·simp only[aB.val,A.den,h1]
 ·exact aw.pure ⟨ha.1,ha.2,rfl⟩
 ·split
  ·rename_i v
   refine aw.pure ⟨aa.cT _ _,?_,?_⟩
   ·simp only[aB.eL,aa.aW];cases v<;>decide
   ·simp only[aB.val,A.den,bd.den,aa.aW];cases v<;>rfl
  ·rename_i e _
   exact J0.mono λah n' l _ _ ⟨h1,h2,h3⟩=>⟨h1,h2,by simp only[aB.val,A.den,h3]⟩
 ·exact aw.fail
theorem DB {nb:Nat}:∀{sh:List aB} {l:List A} {n:Nat} {ρ:Env},(∀a∈l,A.ok n nb ρ a)->aw S L (vV sh l) n ρ λah n' ls=>(∀x∈ls,aa.bk n' x)/\cl sh (ls.map (·.den ah))/\de sh (ls.map (·.den ah))=l.map (A.den ρ m)
 |[],[],n,ρ,_=>aw.pure ⟨λ_ h=>by simp at h,trivial,rfl⟩
 |c::sh,a::r,n,ρ,h=>by
  have h0:=h a (by simp)
  refine(afI (m:=m) h0).bind λaE n1 x hn ha ⟨g1,g2,g3⟩=>(DB (nb:=nb) (sh:=sh) (l:=r) λb hb=>(h b (dn _ hb)).ext ha hn (br _)).bind λbT en ls eN dD ⟨k1,k2,k3⟩=>aw.pure ⟨λy hy=>?_,?_,?_⟩
  ·rcases List.mem_cons.1 hy with rfl|hy
   ·exact g1.mono eN
   ·exact k1 y hy
  ·simp only[cI]
   exact⟨by rw[aa.bR dD g1];exact g2,k2⟩
  ·simp only[cI,de,aa.bR dD g1,g3,k3]
   rw[sF (λb hb=>h b (dn _ hb)) ha (λ_ _=>rfl)]
 |[],_::_,_,_,_=>aw.fail
 |_::_,[],_,_,_=>aw.fail
theorem EW {w:Nat}:∀{k:Nat} {l:List A},l.length=k*w->(nc w k l).length=k/\(nc w k l).flatten=l
 |0,l,h=>by
  have:l=[]:=uL (by omega)
  subst this;exact⟨rfl,rfl⟩
 |k+1,l,h=>by
  rw[s6]at h
  have ih:=EW (w:=w) (k:=k) (l:=l.drop w) (by simp;omega)
  exact⟨by simp[nc,ih.1],by simp[nc,ih.2]⟩
theorem EX {w:Nat}:∀{k:Nat} {l:List A},∀row∈nc w k l,∀a∈row,a∈l
 |0,l,row,h,a,ha=>by simp[nc]at h
 |k+1,l,row,h,a,ha=>by
  simp only[nc,oT]at h
  rcases h with rfl|h
  ·exact kv ha
  ·exact oo (EX row h a ha)
theorem EF {nb:Nat} {sh:List aB} (ig:mm sh=true):∀{rs:List (List A)} {n:Nat} {ρ:Env} {c:aa},(∀row∈rs,∀a∈row,A.ok n nb ρ a)->c.bk n->(0<=c.den ρ/\c.den ρ<=bK)->(∀row∈af (c.den ρ),cl sh row)->(af (c.den ρ)).length+rs.length<=1073741824->
 aw S L (wM sh rs c) n ρ λah n' c'=>c'.bk n'/\(0<=c'.den ah/\c'.den ah<=bK)/\∃dF,af (c'.den ah)=af (c.den ρ)++dF/\dF.length=rs.length/\(∀row∈dF,cl sh row)/\bf sh dF=rs.flatten.map (A.den ρ m)
 |[],n,ρ,c,_,h1,h2,_,_=>aw.pure ⟨h1,h2,[],by simp,rfl,λ_ h=>by simp at h,rfl⟩
 |row::rs,n,ρ,c,h0,h1,h2,h3,h4=>by
  refine(DB (nb:=nb) (m:=m) (sh:=sh) (l:=row) (h0 row (by simp))).bind λaE n1 ls hn ha ⟨g1,g2,g3⟩=>?_
  have e1:c.den aE=c.den ρ:=aa.bR ha h1
  have hf:au 23 ((c::ls).map (·.den aE))=rc (af (c.den ρ)++[ls.map (·.den aE)]):=by
   simp only[cI,au,e1]
  simp only[dv]at h4
  have nU:∀r∈af (c.den ρ)++[ls.map (·.den aE)],cl sh r:=λr hr=>by
   rcases List.mem_append.1 hr with hr|hr
   ·exact h3 r hr
   ·simp at hr;subst hr;exact g2
  have hb:rc (af (c.den ρ)++[ls.map (·.den aE)])<=bK:=wG ig (by simp;omega) nU
  refine(fT (by rw[hf];exact gm _) (by rw[hf];exact hb)).bind λbT en c' eN dD ⟨k1,k2⟩=>?_
  rw[hf]at k2
  have e2:af (c'.den bT)=af (c.den ρ)++[ls.map (·.den aE)]:=by rw[k2,ee]
  have hA:=ha.trans dD hn
  refine(EF (nb:=nb) (rs:=rs) (c:=c') ig (λr hr a zi=>(h0 r (dn _ hr) a zi).ext hA (iL hn eN) (br _)) k1 (by rw[k2];exact⟨gm _,hb⟩) (by rw[e2];exact nU) (by rw[e2];simp;omega)).mono λgv mh c3 sx qu ⟨p1,bJ,dF,cP,ea,ed,gf⟩=>⟨p1,bJ,ls.map (·.den aE)::dF,?_,by simp[ea],λr hr=>?_,?_⟩
  ·rw[cP,e2];simp
  ·rcases List.mem_cons.1 hr with rfl|hr
   ·exact g2
   ·exact ed r hr
  ·show de sh (ls.map (·.den aE))++bf sh dF=_
   rw[gf,g3,s9,ft]
   congr 1
   refine h8 λa Jp=>A.ki (n:=n) (nb:=nb) ?_ hA (λ_ _=>rfl)
   obtain⟨r,hr,zi⟩:=List.mem_flatten.1 Jp
   exact h0 r (dn _ hr) a zi
def adZ (P:bH) (oP:aX) (sh:List aB) (X:aF) (w:ar) (old:List (List Int)) (ah:Env) (n':Nat) (p:aa×aa):Prop:=
 p.1.bk n'/\p.2.bk n'/\(0<=p.1.den ah/\p.1.den ah<=bK)/\∃dF,af (p.1.den ah)=old++dF/\p.2.den ah=dF.length/\(∀row∈dF,cl sh row)/\old.length+dF.length<=1073741824/\Src P sh.length oP X dF.length (bf sh dF) w
theorem abK {sh:List aB} (ig:mm sh=true) {w:ar} (hb:cK n bl.length ρ bl) (hw:Mem w0 ρ m bl w) {oP:aX} {x:V} {X:aF} (hx:x.ok n bl.length ρ) (bP:x.rel ρ m X) {base:aa} (o8:base.bk n)
 (zk:0<=base.den ρ/\base.den ρ<=bK) (si:∀row∈af (base.den ρ),cl sh row):aw S L (Ld P oP sh bl x base) n ρ (adZ P oP sh X w (af (base.den ρ))):=by
 unfold Ld
 split
 ·rename_i b off len cap
  split
  ·rename_i cs pI hcs Cp
   obtain⟨c1,c2,c3⟩:=FN hw hb hcs
   refine gM λhk=>?_
   simp only[cI,eo,ab,aa.aW]at hk
   have j2:=EW (w:=sh.length) (k:=len) c1
   refine(EF (nb:=bl.length) (m:=m) ig (rs:=nc sh.length len cs) (c:=base) (λrow hr a ha=>c2 a (EX row hr a ha)) o8 zk si (by rw[j2.1];omega)).bind λaE n1 c' hn ha ⟨p1,bJ,dF,cP,ea,ed,gf⟩=>aw.pure ⟨p1,aa.cT _ _,bJ,dF,cP,?_,ed,by rw[ea,j2.1];omega,?_⟩
   ·rw[aa.aW,ea,j2.1]
   ·have bP:X= .slice (some ⟨m b,off,none⟩) len cap:=bP
    rw[j2.2]at gf
    rw[bP,gf,ea,j2.1]
    exact Src.ofSlice w (gg Cp) _ _ _ _ (by simpa using c1) c3 (λu hu=>by
     obtain⟨a,ha,rfl⟩:=List.mem_map.1 hu
     exact A.Kx (c2 a ha))
  ·exact aw.fail
 ·rename_i b a7 o ro len cap
  split
  ·rename_i eK off code dL kind bY pI hbl Cp
   refine dV λhc=>gM λjk=>gM λhk2=>?_
   simp only[aS]at hc
   obtain⟨⟨⟨c1,c2⟩,c3⟩,c4⟩:=hc
   have c1:0<kind:=eC c1
   have c2:=vZ c2
   have c3:=aa.beq_eq c3
   have c4:=bG c4
   subst c2;subst c3;subst c4
   simp only[cI,eo,ab,aa.den_add]at jk hk2
   have np:(A.sl b sh.length o ro len cap).ok n bl.length ρ:=hx
   obtain⟨ptr,e1,e2,bN⟩:=p4 (m:=m) np
   have bP:X=(A.sl b sh.length o ro len cap).den ρ m:=bP
   rw[e1]at bP
   obtain⟨x1,⟨x2,gF,gq,gG⟩,⟨gV,ka,lH,lI⟩,⟨mq,kT⟩,fQ,hV⟩:=np
   have jy:=hw.rws b sh o code dL kind bY hbl (by omega)
   have jx:∀row∈af (code.den ρ),cl sh row:=λrow hr=>by
    rcases jX (dL.den ρ) 0 with h|h
    ·rw[jy.1 h]at hr;simp at hr
    ·obtain⟨_,cells,iZ,fz,_,⟨_,g3⟩,_⟩:=jy.2 h
     exact g3.1 row hr
   have Gm:∀row∈(((af (code.den ρ)).drop (ro.den ρ).toNat).take (len.den ρ).toNat),cl sh row:=λrow hr=>jx row (oo (kv hr))
   have hlen:(((af (code.den ρ)).drop (ro.den ρ).toNat).take (len.den ρ).toNat).length=(len.den ρ).toNat:=by simp;omega
   have ni:au 22 ([code,ro,ro.add len].map (·.den ρ))=rc (((af (code.den ρ)).drop (ro.den ρ).toNat).take (len.den ρ).toNat):=by
    simp only[cI,eo,au,aa.den_add]
    have:(ro.den ρ+len.den ρ).toNat-(ro.den ρ).toNat=(len.den ρ).toNat:=by omega
    rw[this]
   have B5:Src P sh.length oP X (((af (code.den ρ)).drop (ro.den ρ).toNat).take (len.den ρ).toNat).length (bf sh (((af (code.den ρ)).drop (ro.den ρ).toNat).take (len.den ρ).toNat)) w:=by
    rw[bP]
    by_cases c0:cap.den ρ<0
    ·have h0:=fQ c0
     rw[e2 c0,if_pos c0,h0]
     simp only[Int.toNat_zero,uM]
     exact Src.ofNil w (gg Cp) 0
    ·rw[bN (by omega),if_neg c0,hlen]
     refine Src.ofSlice w (gg Cp) _ _ _ _ (by rw[kj Gm,hlen]) (λj u hu=>?_) Jb
     rw[iy]
     rcases jX (dL.den ρ) 0 with h|h
     ·rw[jy.1 h]at hu;simp[bf]at hu
     ·obtain⟨_,cells,iZ,fz,g1,⟨_,g3⟩,_⟩:=jy.2 h
      have:=(g3.sub (ro.den ρ).toNat (len.den ρ).toNat (by omega)).flat hu
      simp only[jW,g1,rR,qb,if_false]
      exact this
   generalize mF:(((af (code.den ρ)).drop (ro.den ρ).toNat).take (len.den ρ).toNat)=mid at Gm hlen ni B5
   have hb1:rc mid<=bK:=wG ig (by omega) Gm
   refine(fT (by rw[ni];exact gm _) (by rw[ni];exact hb1)).bind λaE n1 s fq dP ⟨g1,g2⟩=>?_
   rw[ni]at g2
   have tu:base.den aE=base.den ρ:=aa.bR dP o8
   have iC:au 24 ([base,s].map (·.den aE))=rc (af (base.den ρ)++mid):=by
    simp only[cI,eo,au,tu,g2,ee]
   have hall:∀row∈af (base.den ρ)++mid,cl sh row:=λrow hr=>(List.mem_append.1 hr).elim (si row) (Gm row)
   have hb2:rc (af (base.den ρ)++mid)<=bK:=wG ig (by simp;omega) hall
   refine(fT (by rw[iC];exact gm _) (by rw[iC];exact hb2)).bind λbT en c eN dD ⟨k1,k2⟩=>aw.pure ⟨k1,gq.mono (iL fq eN),?_,mid,?_,?_,Gm,by omega,B5⟩
   ·rw[k2,iC];exact⟨gm _,hb2⟩
   ·rw[k2,iC,ee]
   ·rw[aa.bR (dP.trans dD fq) gq,hlen];omega
  ·exact aw.fail
 ·rename_i l
  split
  ·rename_i hu
   refine dV λB9=>?_
   have alS:∃lo hi,sh=[.int .u8 lo hi]/\lo=0/\hi=255:=by
    unfold IF at B9
    split at B9
    ·simp only[aS,decide_eq_true_eq]at B9
     exact⟨_,_,rfl,B9.1,B9.2⟩
    ·cases B9
   obtain⟨lo,hi,rfl,rfl,rfl⟩:=alS
   have hl:(A.str l).ok n bl.length ρ:=hx
   have bP:X= .string (bw (U (l.den ρ))):=bP
   have ak6:=tc hl.2.2
   unfold gk at ak6
   refine(fT (op:=0) (args:=[l]) (rL _) (by show((U (l.den ρ)).length:Int)<=_;omega)).bind λaE n1 len fq dP ⟨g1,g2⟩=>gM λhk=>?_
   have g2:len.den aE=(U (l.den ρ)).length:=g2
   have tu:base.den aE=base.den ρ:=aa.bR dP o8
   have el:l.den aE=l.den ρ:=aa.bR dP hl.1
   simp only[cI,eo,ab,tu,g2]at hk
   have ni:au 27 ([l].map (·.den aE))=rc ((U (l.den ρ)).map λb=>[(b.toNat:Int)]):=by
    simp only[cI,eo,au,el]
   have mF:∀row∈((U (l.den ρ)).map λb=>[(b.toNat:Int)]),cl [.int .u8 0 255] row:=λrow hr=>by
    obtain⟨b,_,rfl⟩:=List.mem_map.1 hr
    have:=b.toNat_lt
    refine⟨⟨?_,?_⟩,trivial⟩
    ·simp only[aB.eL];omega
    ·simp only[aB.eL];omega
   have pS:((U (l.den ρ)).map λb=>[(b.toNat:Int)]).length=(U (l.den ρ)).length:=by simp
   have iP:bf [.int .u8 0 255] ((U (l.den ρ)).map λb=>[(b.toNat:Int)])=byteCells (bw (U (l.den ρ))):=by
    unfold byteCells bf bw
    simp only[aAo]
    generalize U (l.den ρ)=q
    induction q with
    |nil=>rfl
    |cons y r ih=>rw[qa,cI,ih];rfl
   have B5:=Src.ofString (P:=P) w hu (bw (U (l.den ρ)))
   rw[<-iP,qj,<-bP]at B5
   generalize jO:((U (l.den ρ)).map λb=>[(b.toNat:Int)])=mid at mF pS ni B5
   have hb1:rc mid<=bK:=wG ig (by omega) mF
   refine(fT (by rw[ni];exact gm _) (by rw[ni];exact hb1)).bind λbT en s eN dD ⟨h1,h2⟩=>?_
   rw[ni]at h2
   have ago:base.den bT=base.den ρ:=(aa.bR dD (o8.mono fq)).trans tu
   have iC:au 24 ([base,s].map (·.den bT))=rc (af (base.den ρ)++mid):=by
    simp only[cI,eo,au,ago,h2,ee]
   have hall:∀row∈af (base.den ρ)++mid,cl [.int .u8 0 255] row:=λrow hr=>(List.mem_append.1 hr).elim (si row) (mF row)
   have hb2:rc (af (base.den ρ)++mid)<=bK:=wG ig (by simp;omega) hall
   refine(fT (by rw[iC];exact gm _) (by rw[iC];exact hb2)).bind λgv mh c sx qu ⟨k1,k2⟩=>aw.pure ⟨k1,g1.mono (iL eN sx),?_,mid,?_,?_,mF,by omega,?_⟩
   ·rw[k2,iC];exact⟨gm _,hb2⟩
   ·rw[k2,iC,ee]
   ·rw[aa.bR (dD.trans qu eN) g1,g2,pS]
   ·rw[pS];exact B5
  ·exact aw.fail
 ·split
  ·rename_i pI Cp
   refine gM λhk=>aw.pure ⟨o8,aa.cT _ _,zk,[],by simp,by simp[aa.aW],λ_ h=>by simp at h,?_,?_⟩
   ·simp only[cI,eo,ab,aa.aW]at hk
    simp only[fM];omega
   ·have bP:X= .slice none 0 0:=bP
    rw[bP]
    exact Src.ofNil w (gg Cp) 0
  ·exact aw.fail
 ·exact aw.fail
theorem abl (w:ar) (t oP ty e:aX) (i:TypeInfo) (ht:P.underlying t=some (.slice e)) (hi:P.info? e=some i) (g eJ m1:Nat) (cur:Array aF) (sa:aX) (hg:w.heap[g]?=some (.cells cur sa (0,0))) (x:aF) (k:Nat) (news:List aF) (hs:Src P i.size oP x k news w)
 (hroom:eJ+k<=m1) (rm:eJ*i.size+news.length<=cur.size):
 (En #[t,oP] ty #[.slice (some ⟨g,0,none⟩) eJ m1,x]).run P w= .ok (.slice (some ⟨g,0,none⟩) (eJ+k) m1) (w.setRow g (cur.toList.take (eJ*i.size)++news++cur.toList.drop (eJ*i.size+news.length)).toArray):=by
 have hst:=run_storeCells_at P g (eJ*i.size) sa news 0 cur w hg (by simpa using rm) hs.one
 simp only[mv]at hst
 rcases hs.kind with⟨pI,hk⟩|hk<;>simp[En,eH ht,eH hk,sizeOf,typeInfo,hi,hs.len,hroom,hs.cells,Addr.add_lit,hst]
theorem Hy (Z:Array aF) (k:Nat):(lP Z k).size=k*Z.size:=by simp[lP]
theorem Fc (w:ar) (Di old:Nat) (e:aX) (h:Di<=1073741824):Di<=grownCap w Di old e/\grownCap w Di old e<=9223372036854775807:=by
 have hlt:=Nat.mod_lt (w.tape w.drawn (.appendCap Di old e)) (show 0<2^63-Di by omega)
 simp only[grownCap,aAl]
 omega
theorem aaQ {kd:Nat} {tm:List V} {a:Act} {w:ar} {G:dT} {K:Act->ar->Prop} {k:gi} {e:aX} {d:Option Tmp} {sh:List aB} {code len:aa} {c:Int} {g:Nat}
 (gd:2<=kd) (h:R w0 n ρ m tm bl a w) (hcs:code.bk n) (xi:len.bk n) (hc1:0<=code.den ρ/\code.den ρ<=bK) (hc:-1<=c/\c<=9223372036854775807) (qD:AT 0 0 (len.den ρ) c)
 (nk:c<0->af (code.den ρ)=[])
 (F9:0<=c->∃(cells:Array aF) (fz:Nat×Nat),(w.heap[g]?=some (.cells cells e fz)/\uQ kd fz cells.size)/\lg cells 0 sh (af (code.den ρ))/\cells.size=c.toNat*sh.length/\w0.b.heap.size<=g/\(w0.ex g∨w0.r.heap.size<=g))
 (zu:∀(i:Nat) (p:ax),bl[i]?=some p->m i=g->bp ρ p.1=0∨c<0)
 (ai:(k (n+1) (fr tm d (.w (.one (.sl bl.length sh.length (.const 0) (.const 0) len (.var n))))) (bl++[([.rows sh (.const 0) code (.var n) kd],(e,false))])).holds S L G (c6 ρ n c)) (hk:j0 S L w0 k n bl.length ρ m G K):
 K (a.put d (if c<0 then .slice none 0 0 else .slice (some ⟨g,0,none⟩) (len.den ρ).toNat c.toNat)) w:=by
 have ha:agree n ρ (c6 ρ n c):=agree.c6 _ _ _
 have hb1:cK (n+1) bl.length (c6 ρ n c) bl:=h.b.ext ha (oV _) (br _)
 have alf:Mem w0 (c6 ρ n c) m bl w:=h.bx.mZ h.b ha
 have e1:code.den (c6 ρ n c)=code.den ρ:=aa.bR ha hcs
 have e2:len.den (c6 ρ n c)=len.den ρ:=aa.bR ha xi
 have bN:(aa.var n).den (c6 ρ n c)=c:=by simp[aa.cE,jC]
 have hA:(A.rows sh (.const 0) code (.var n) kd).ok (n+1) bl.length (c6 ρ n c):=⟨⟨aa.cT _ _,hcs.mono (oV _),aa.eV (s5 n)⟩,by rw[e1];exact hc1,by rw[bN];omega⟩
 have fj:=alf.push (x:=([.rows sh (.const 0) code (.var n) kd],(e,false))) (g:=g) hb1 (λy hy=>by simp at hy;subst hy;exact hA) (λho=>by cases ho) (λeK gT code' gL mN he=>by
  cases he
  intro _
  refine⟨λh=>by rw[bN]at h;rw[e1];exact nk h,λh=>?_⟩
  rw[bN]at h
  obtain⟨cells,fz,⟨g1,kk⟩,g2,g3,g4,g5⟩:=F9 h
  exact⟨g5.elim .inl λh=> .inr (.inr h),cells,e,fz,g1,⟨by rw[aa.aW];exact bX _,by rw[e1,aa.aW];exact g2⟩,λ_=>⟨rfl,aa.aW _ _,kk,by rw[bN];exact g3,g4,g5⟩⟩) (λi p hi he=>by
  rcases zu i p hi he with bg|bg
  ·exact .inr (.inl (by rw[qK (h.b _ (eh hi)) ha];exact bg))
  ·refine .inr (.inr ?_)
   simp only[bp,bN]
   rw[if_pos bg])
 have cF:dO n bl.length ρ m (n+1) (bl++[([A.rows sh (.const 0) code (.var n) kd],(e,false))]).length (c6 ρ n c) (j9 m bl.length g):=⟨oV _,ha,by simp,λb hb=>kR hb⟩
 refine hk _ _ _ _ _ G _ _ cF (eu.refl _ _) ⟨dX.put (h.t.ext cF.ha cF.hn cF.hb cF.hm) d ?_ ?_,by rw[put_defers];exact h.d,hb1.alloc (λy hy=>by simp at hy;subst hy;exact hA),fj⟩ ai
 ·refine⟨by simp,⟨aa.cT _ _,aa.cT _ _,xi.mono (oV _),aa.eV (s5 n)⟩,?_⟩
  rw[aa.aW,e2,bN]
  exact qD
 ·simp only[V.rel,W.den,A.den,e2,bN,aa.aW,lF]
  split<;>simp
theorem Rm {kd:Nat} {tm:List V} {a:Act} {w:ar} {G:dT} {K:Act->ar->Prop} {k:gi} {e:aX} {d:Option Tmp} {sh:List aB} {code len:aa} {c:Int} {g:Nat}
 (gd:2<=kd) (h:R w0 n ρ m tm bl a w) (hcs:code.bk n) (xi:len.bk n) (hc1:0<=code.den ρ/\code.den ρ<=bK) (hc:-1<=c/\c<=9223372036854775807) (qD:AT 0 0 (len.den ρ) c)
 (nk:c<0->af (code.den ρ)=[])
 (F9:0<=c->∃(cells:Array aF) (fz:Nat×Nat),(w.heap[g]?=some (.cells cells e fz)/\uQ kd fz cells.size)/\lg cells 0 sh (af (code.den ρ))/\cells.size=c.toNat*sh.length/\w0.b.heap.size<=g/\(w0.ex g∨w0.r.heap.size<=g))
 (zu:∀(i:Nat) (p:ax),bl[i]?=some p->m i=g->bp ρ p.1=0∨c<0)
 (ai:(Fb kd e d sh code len n tm bl k).holds S L G ρ) (hk:j0 S L w0 k n bl.length ρ m G K):
 K (a.put d (if c<0 then .slice none 0 0 else .slice (some ⟨g,0,none⟩) (len.den ρ).toNat c.toNat)) w:=by
 unfold Fb at ai
 exact aaQ gd h hcs xi hc1 hc qD nk F9 zu (ai c (by omega) (by omega)) hk
theorem Rn {tm:List V} {a:Act} {w:ar} {G:dT} {K:Act->ar->Prop} {k:gi} {e:aX} {d:Option Tmp} {sh:List aB} {code len:aa} {c:Int} {g:Nat}
 (h:R w0 n ρ m tm bl a w) (hcs:code.bk n) (xi:len.bk n) (hc1:0<=code.den ρ/\code.den ρ<=bK) (hc:-1<=c/\c<=9223372036854775807) (qD:AT 0 0 (len.den ρ) c)
 (nk:c<0->af (code.den ρ)=[])
 (F9:0<=c->∃cells:Array aF,w.heap[g]?=some (.cells cells e (0,0))/\lg cells 0 sh (af (code.den ρ))/\cells.size=c.toNat*sh.length/\w0.b.heap.size<=g/\(w0.ex g∨w0.r.heap.size<=g))
 (zu:∀(i:Nat) (p:ax),bl[i]?=some p->m i=g->bp ρ p.1=0∨c<0)
 (ai:(BY e d sh code len n tm bl k).holds S L G ρ) (hk:j0 S L w0 k n bl.length ρ m G K):
 K (a.put d (if c<0 then .slice none 0 0 else .slice (some ⟨g,0,none⟩) (len.den ρ).toNat c.toNat)) w:=
 Rm (kd:=2) (br 2) h hcs xi hc1 hc qD nk (λh0=>by
  obtain⟨cells,g1,g2⟩:=F9 h0
  exact⟨cells,(0,0),⟨g1,.GL⟩,g2⟩) zu ai hk
theorem Xi {tm:List V} {a:Act} {w:ar} {G:dT} {K:Act->ar->Prop} {k:gi} {e:aX} {d:Option Tmp} {sh:List aB} {code len:aa} {rows:List (List Int)} {c:Nat} {cells:Array aF}
 (h:R w0 n ρ m tm bl a w) (hcs:code.bk n) (xi:len.bk n) (hc1:0<=code.den ρ/\code.den ρ<=bK) (nU:af (code.den ρ)=rows) (bm:∀row∈rows,cl sh row) (hlen:len.den ρ=rows.length)
 (c0:rows.length<=c) (OW:c<=9223372036854775807) (qw:cells.size=c*sh.length) (akH:∃post,cells.toList=bf sh rows++post)
 (ai:(BY e d sh code len n tm bl k).holds S L G ρ) (hk:j0 S L w0 k n bl.length ρ m G K):
 K (a.put d (.slice (some ⟨w.heap.size,0,none⟩) rows.length c)) (w.drew.alloc (.cells cells e)):=by
 have qx:R w0 n ρ m tm bl a w.drew:=⟨h.t,h.d,h.b,h.bx.grow (LO (oi w))⟩
 have hR:R w0 n ρ m tm bl a (w.drew.alloc (.cells cells e)):=⟨h.t,h.d,h.b,qx.bx.grow ((oi w.drew).alloc _)⟩
 have key:=Rn (c:=(c:Int)) (g:=w.heap.size) hR hcs xi hc1 ⟨by omega,by omega⟩ (by rw[hlen];exact⟨⟨by omega,by omega,by omega,by omega⟩,⟨by omega,by omega⟩,λh=>by omega,λ_=>by omega⟩) (λh=>by omega)
  (λ_=>⟨cells,heap_alloc_new w.drew _,by
    obtain⟨post,hp⟩:=akH
    rw[nU]
    exact⟨bm,[],post,by simpa using hp,rfl⟩,by simpa using qw,h.bx.ext.size,.inr h.bx.e8⟩) (λi p hi he=>by
    by_cases kI:bp ρ p.1=0
    ·exact .inl kI
    ·have:=qx.bx.lt hi kI
     have bg:w.drew.heap.size=w.heap.size:=rfl
     omega) ai hk
 rw[if_neg (by omega),hlen]at key
 simpa using key
theorem azv {nb:Nat} {v:V} {X:aF} (h:SY v=true) (hv:v.ok n nb ρ) (hr:v.rel ρ m X):∃base,X= .slice base 0 0:=by
 unfold SY at h
 split at h
 ·rename_i b a7 o ro len cap
  split at h
  ·rename_i l c hl hc
   simp only[aS,decide_eq_true_eq]at h
   have e1:=aa.ia hl (ρ:=ρ)
   have e2:=aa.ia hc (ρ:=ρ)
   have hr:X=(A.sl b a7 o ro len cap).den ρ m:=hr
   simp only[A.den,e1,e2,h.1,h.2]at hr
   exact⟨_,hr⟩
  ·cases h
 ·rename_i b off len cap
  simp only[aS]at h
  have e1:=bG h.1
  have e2:=bG h.2
  subst e1;subst e2
  exact⟨_,hr⟩
 ·exact⟨none,hr⟩
 ·cases h
theorem NS (w:ar) (size:Nat) (base:Option Addr) (c:Nat):(HT size 0 (.slice base 0 c)).run P w= .ok #[] w:=by
 cases base with
 |none=>exact run_firstCells_none w size 0 0 c
 |some b=>exact run_firstCells_some w size 0 b 0 c [] (by simp) (λj v h=>by simp at h)
theorem R.later {n':Nat} {ah:Env} {tm:List V} {a:Act} {w:ar} (h:R w0 n ρ m tm bl a w) (hn:n<=n') (ha:agree n ρ ah):R w0 n' ah m tm bl a w:=
 ⟨h.t.ext ha hn (br _) (λ_ _=>rfl),h.d,h.b.ext ha hn (br _),h.bx.mZ h.b ha⟩
theorem fa:af 0=[]:=ee []
theorem R.kill {tm:List V} {a:Act} {w:ar} {b k:Nat} {sh:List aB} {off code cap:aa} {t:aX×Bool} (h:R w0 n ρ m tm bl a w) (hbl:bl[b]?=some ([.rows sh off code cap k],t)):R w0 n ρ m tm (df bl b ([.rows sh off code cap 0],t)) a w:=
 ⟨by rw[iY];exact h.t,h.d,h.b.set (λy hy=>by
  simp at hy;subst hy
  exact h.b _ (eh hbl) (.rows sh off code cap k) (by simp)),h.bx.kill hbl⟩
theorem aeO {tm:List V} {a:Act} {w:ar} {G:dT} {o:Oper} {K:Act->ar->Prop} {Q:Exit->Act->ar->Prop} {k:gi} {c:Call} {s x:om} {t t':aX} {r3:T}
 (h:R w0 n ρ m tm bl a w) (hop:o.op= .call c) (gP:c.callee= .builtin .append) (fk:c.args.toList=[s,x]) (l8:c.argTypes.toList=[t,t'])
 (bI:MN P o.dst t t' (cg tm s) (cg tm x) n tm bl k=some r3) (ai:r3.holds S L G ρ) (hk:j0 S L w0 k n bl.length ρ m G K):o.wp P a w K Q:=by
 have a1:c.args=#[s,x]:=by rw[<-jF (xs:=c.args),fk]
 have a2:c.argTypes=#[t,t']:=by rw[<-jF (xs:=c.argTypes),l8]
 have hex:execOp a.eval o=(do pure (kx (<-En #[t,t'] o.type #[a.eval s,a.eval x]))):=by
  simp[execOp,hop,resolve,gP,a1,a2,invoke,builtin]
 have vl:∀v w',(En #[t,t'] o.type #[a.eval s,a.eval x]).run P w= .ok v w'->K (a.put o.dst v) w'->o.wp P a w K Q:=λv w' h1 h2=>by
  unfold mw
  simp only[hex,gY,h1,gH,iw]
  exact h2
 have hs:=cC h.t s
 have hx:=cC h.t x
 unfold MN at bI
 split at bI
 ·cases bI
 rename_i e vk
 split at bI
 rotate_left
 ·cases bI
 rename_i i z hi hz
 obtain⟨inf,ky,nR,nW,kG⟩:=D6 hz
 rw[hi]at nR
 simp only[aQ]at nR
 subst nR
 have mK:ky.cells.size=z.length:=by
  have:=(u4 kG n bl.length ρ m).2
  have:=congrArg lN this
  simpa using this.symm
 split at bI
 ·
  rename_i Qi
  obtain⟨base,nn⟩:=azv Qi hs.1 hs.2
  split at bI
  rotate_left
  ·cases bI
  rename_i sh _
  cases hgd:BW sh i z with
  |false=>simp[hgd]at bI
  |true=>
  simp only[hgd,cond_true,aQ]at bI
  subst bI
  unfold BW at hgd
  simp only[aS]at hgd
  obtain⟨⟨⟨d1,d2⟩,d3⟩,d4⟩:=hgd
  have d2:=bG d2
  have d3:=bG d3
  have d4:=eC d4
  unfold W6 at ai
  have aZ:(aa.const 0).den ρ=0:=aa.aW _ _
  obtain⟨ah,n',p,hn,ha,⟨bq,bE,b5,dF,dm,ik,jT,pr,j6⟩,ai⟩:=(abK (P:=P) d1 h.b h.bx hx.1 hx.2 (aa.cT _ _) (by rw[aZ];exact⟨bX _,by have:=oX (l:=[]) (by simp) (by simp);exact oe (gm []) this⟩) (by rw[aZ,fa];simp)) G _ ai
  rw[aZ,fa,jr]at dm
  rw[aZ,fa]at pr
  simp only[fM,pB]at pr
  have qs:=h.later hn ha
  have j4:=hk.later (G1:=G) (⟨hn,ha,br _,λ_ _=>rfl⟩:dO n bl.length ρ m n' bl.length ah m) (eu.refl _ _)
  rw[<-d2]at j6
  have hnone:dF.length=0->(k n' (fr tm o.dst (cg tm s)) bl).holds S L G ah->o.wp P a w K Q:=λh0 FX=>by
   have pc:dF=[]:=uL h0
   subst pc
   refine vl _ _ (by rw[nn];exact run_append_nothing w t t' o.type e i (gg vk) hi base 0 0 (br _) _ j6) ?_
   refine j4 n' ah m _ bl G _ w (dO.refl _ _ _ _) (eu.refl _ _) ⟨dX.put qs.t o.dst (cC qs.t s).1 ?_,by rw[put_defers];exact h.d,qs.b,qs.bx⟩ FX
   rw[<-nn];exact(cC qs.t s).2
  have hgrow:0<dF.length->(BY e o.dst sh p.1 p.2 n' tm bl k).holds S L G ah->o.wp P a w K Q:=λh0 FX=>by
   have FJ:=Fc w (0+dF.length) 0 e (by omega)
   refine vl _ _ (by rw[nn];exact run_append_grow_src w t t' o.type e i ky (gg vk) hi nW base 0 0 [] (NS _ _ _ _) _ _ _ j6 (by omega) (by omega) (growslice_fits (by omega) (by
    have:=acz (show 0+dF.length<=1073741824 by omega) d4
    omega))) ?_
   have key:=Xi (c:=grownCap w (0+dF.length) 0 e) (cells:=([]++bf sh dF).toArray++lP ky.cells (grownCap w (0+dF.length) 0 e-(0+dF.length))) qs bq bE b5 dm jT ik (by omega) FJ.2 (by
    have:=j6.newsLen
    rw[acW,Hy,mK,d3,uJ,jr,this,d2,<-s8]
    congr 1;omega) ⟨(lP ky.cells (grownCap w (0+dF.length) 0 e-(0+dF.length))).toList,by simp⟩ FX j4
   simpa using key
  split at ai
  ·rename_i hc0
   have:=aa.ia hc0 (ρ:=ah)
   exact hnone (by omega) ai
  ·rename_i afA hc0 hne
   have:=aa.ia hne (ρ:=ah)
   exact hgrow (by
    have:afA≠0:=λe=>hc0 e
    omega) ai
  ·simp only[T.holds,bd.den,aa.aW,decide_eq_true_eq,decide_eq_false_iff_not]at ai
   by_cases h0:dF.length=0
   ·exact hnone h0 (ai.1 (by omega))
   ·exact hgrow (by omega) (ai.2 (by omega))
 ·split at bI
  rotate_left
  ·cases bI
  rename_i b a7 off ro len cap lx
  split at bI
  rotate_left
  ·cases bI
  rename_i sh gT code dL kind bY hbl
  cases hgd:(BW sh i z&&aG kind 2&&aa.beq off (.const 0)&&aa.beq gT (.const 0)&&aa.beq ro (.const 0)&&aa.beq cap dL&&aG bY.1 e)with
  |false=>rw[hgd]at bI;cases bI
  |true=>
  rw[hgd]at bI
  simp only[cond_true,aQ]at bI
  subst bI
  simp only[aS]at hgd
  obtain⟨⟨⟨⟨⟨⟨hgd,k2⟩,b1⟩,b2⟩,b3⟩,b4⟩,nK⟩:=hgd
  have nK:=bG nK
  have k2:=bG k2
  have b1:=aa.beq_eq b1
  have b2:=aa.beq_eq b2
  have b3:=aa.beq_eq b3
  have b4:=aa.beq_eq b4
  subst k2;subst b1;subst b2;subst b3;subst b4
  unfold BW at hgd
  simp only[aS]at hgd
  obtain⟨⟨⟨d1,d2⟩,d3⟩,d4⟩:=hgd
  have d2:=bG d2
  have d3:=bG d3
  have d4:=eC d4
  obtain⟨zw,ai⟩:=ai
  simp only[cI,eo,ab]at zw
  rw[lx]at hs
  have tI:(A.sl b a7 (.const 0) (.const 0) len cap).ok n bl.length ρ:=hs.1
  obtain⟨ptr,e1,e2,bN⟩:=p4 (m:=m) tI
  have nn:a.eval s=(A.sl b a7 (.const 0) (.const 0) len cap).den ρ m:=hs.2
  rw[e1]at nn
  obtain⟨x1,⟨x2,gF,gq,gG⟩,⟨gV,ka,lH,lI⟩,⟨mq,kT⟩,fQ,hV⟩:=tI
  rw[aa.aW]at kT
  have jy:=h.bx.rws b sh (.const 0) code cap 2 bY hbl (by decide)
  have e7:(A.rows sh (.const 0) code cap 2).ok n bl.length ρ:=h.b _ (eh hbl) _ (by simp)
  obtain⟨⟨r1,r2,jm⟩,iH,bA⟩:=e7
  have jx:∀row∈af (code.den ρ),cl sh row:=λrow hr=>by
   rcases jX (cap.den ρ) 0 with h|h
   ·rw[jy.1 h]at hr;simp at hr
   ·obtain⟨_,cells,iZ,fz,_,⟨_,g3⟩,_⟩:=jy.2 h
    exact g3.1 row hr
  obtain⟨ah,n',p,hn,ha,⟨bq,bE,b5,dF,dm,ik,jT,pr,j6⟩,ai⟩:=(abK (P:=P) d1 h.b h.bx hx.1 hx.2 r2 iH jx) G _ ai
  rw[<-d2]at j6
  generalize nU:af (code.den ρ)=rows at*
  have F4:=h.kill hbl
  have qs:=F4.later hn ha
  have hb1:=iY bl b ([.rows sh (.const 0) code cap 0],bY)
  have j4:j0 S L w0 k n' (df bl b ([.rows sh (.const 0) code cap 0],bY)).length ah m G K:=by
   rw[hb1]
   exact hk.later (⟨hn,ha,br _,λ_ _=>rfl⟩:dO n bl.length ρ m n' bl.length ah m) (eu.refl _ _)
  have JG:(len.add p.2).den ah=(rows++dF).length:=by
   rw[aa.den_add,aa.bR ha gq,ik,zw];simp
  have hall:∀row∈rows++dF,cl sh row:=λrow hr=>(List.mem_append.1 hr).elim (jx row) (jT row)
  have kJ:=j6.newsLen
  have JH:(len.den ρ).toNat=rows.length:=by omega
  have gO:cap.den ah=cap.den ρ:=aa.bR ha gG
  have Ci:(len.add p.2).bk n':=aa.um (gq.mono hn) bE
  have JE:(rows++dF).length=rows.length+dF.length:=dN
  have iP:(bf sh rows).length=rows.length*i.size:=by rw[kj jx,d2]
  by_cases hroom:((rows.length+dF.length:Nat):Int)<=cap.den ρ∨(cap.den ρ<0/\dF.length=0)
  ·by_cases hc0:cap.den ρ<0
   ·
    have pc:dF.length=0:=by rcases hroom with h|h<;>omega
    have pc:dF=[]:=uL pc
    subst pc
    have PW:rows=[]:=jy.1 hc0
    subst PW
    have hl0:=fQ hc0
    refine vl _ _ (by rw[nn,e2 hc0,if_pos hc0,hl0];exact run_append_nothing w t t' o.type e i (gg vk) hi none 0 0 (br _) _ j6) ?_
    have key:=Rn (c:=-1) (g:=w.heap.size) qs bq Ci b5 ⟨by omega,by omega⟩ (by rw[JG];exact⟨⟨by omega,by omega,by omega,by omega⟩,⟨by omega,by omega⟩,λh=>by simp,λh=>by omega⟩) (λ_=>by rw[dm];rfl) (λh=>by omega) (λ_ _ _ _=> .inr (by omega)) ai j4
    rw[if_pos (by omega)]at key
    exact key
   ·
    obtain⟨_,cells,iZ,fz,g1,⟨g2,g3⟩,g4⟩:=jy.2 (by omega)
    obtain⟨g0,g5,g6,g7,g8,g9⟩:=g4 (by decide)
    subst g0
    have g6:=g6.two
    subst g6
    rw[aa.aW]at g3
    obtain⟨_,pre,post,g10,g11⟩:=g3
    have ie:pre=[]:=uL (by simpa using g11)
    subst ie
    simp only[jr]at g10
    have hsz:cells.size=(bf sh rows).length+post.length:=by rw[<-wz,g10,dN]
    have YN:rows.length+dF.length<=(cap.den ρ).toNat:=by rcases hroom with h|h<;>omega
    have rm:rows.length*i.size+(bf sh dF).length<=cells.size:=by
     rw[kJ,g7,<-s8,d2]
     exact Tp _ YN
    have hL:=abl w t t' o.type e i (gg vk) hi (m b) rows.length (cap.den ρ).toNat cells bY.1 g1 _ _ _ j6 YN rm
    have alU:a.eval s= .slice (some ⟨m b,0,none⟩) rows.length (cap.den ρ).toNat:=by
     rw[nn,bN (by omega),if_neg hc0,JH,aa.aW];simp
    refine vl _ _ (by rw[alU];exact hL) ?_
    have nj:(cells.toList.take (rows.length*i.size)++bf sh dF++cells.toList.drop (rows.length*i.size+(bf sh dF).length))=bf sh (rows++dF)++cells.toList.drop (rows.length*i.size+(bf sh dF).length):=by
     rw[pK,g10,HH (by omega),<-iP,S9]
    rw[nj]
    have JJ:=h.bx.put (kd:=2) (cells:=cells) (fz:=(0,0)) (code':=code) (by decide) hbl (by omega) (row:=(bf sh (rows++dF)++cells.toList.drop (rows.length*i.size+(bf sh dF).length)).toArray) (λ_=>⟨λh=>by omega,λ_=>⟨g9.elim .inl λh=> .inr (.inr h),_,_,(0,0),HR w (m b) _ _ _ _ g1,⟨g2,by
     rw[nU,aa.aW]
     exact⟨jx,[],bf sh dF++cells.toList.drop (rows.length*i.size+(bf sh dF).length),by simp[pK],rfl⟩⟩,λ_=>⟨rfl,g5,.GL,by
     rw[<-g7];simp only[uJ,dN,q2,wz,pK];omega,g8,g9⟩⟩⟩)
    have alQ:df bl b ([.rows sh (.const 0) code cap 2],bY)=bl:=by
     rw[iX]
     exact Tk λj=>by
      rw[oU]
      split
      ·rename_i hj
       subst hj
       first|exact hbl.symm|(rw[if_pos (List.getElem?_eq_some_iff.1 hbl).1];exact hbl.symm)
      ·rfl
    rw[alQ]at JJ
    have zc:R w0 n ρ m tm bl a (w.setRow (m b) (bf sh (rows++dF)++cells.toList.drop (rows.length*i.size+(bf sh dF).length)).toArray):=⟨h.t,h.d,h.b,JJ⟩
    have ai0:=(zc.kill hbl).later hn ha
    have key:=Rn (e:=e) (d:=o.dst) (c:=cap.den ρ) (g:=m b) ai0 bq Ci b5 ⟨by omega,by omega⟩ (by rw[JG,JE];exact⟨⟨by omega,by omega,by omega,by omega⟩,⟨by omega,by omega⟩,λh=>by omega,λh=>by omega⟩) (λh=>by omega)
     (λ_=>⟨_,by rw[<-nK];exact HR w (m b) _ _ _ _ g1,by
       rw[dm]
       exact⟨hall,[],cells.toList.drop (rows.length*i.size+(bf sh dF).length),by simp,rfl⟩,by
       rw[<-g7];simp only[uJ,dN,q2,wz,pK];omega,g8,g9⟩) (λj q hj he=>by
       by_cases zv:j=b
       ·subst zv
        rw[iX,acA (List.getElem?_eq_some_iff.1 hbl).1]at hj
        simp only[aQ]at hj
        subst hj
        exact .inl (by simp[bp])
       ·rw[iX,S8 (λe=>zv e.symm)]at hj
        have jM:bp ρ [A.rows sh (.const 0) code cap 2]=2:=oJ (by decide) (by omega)
        have ak1:bp ρ q.1=0:=by
         rcases h.bx.inj j b q _ hj hbl he with bg|bg|bg|bg
         ·exact absurd bg zv
         ·have:=bg.2;simp only[jM]at this;omega
         ·exact bg
         ·simp only[jM]at bg;omega
        exact .inl (by rw[qK (h.b _ (eh hj)) ha];exact ak1)) ai j4
    rw[if_neg hc0,JG,JE,gu]at key
    exact key
  ·
   have JB:(if cap.den ρ<0 then 0 else(cap.den ρ).toNat)<rows.length+dF.length:=by
    split
    ·rename_i hc
     have:¬dF.length=0:=λe=>hroom (.inr ⟨hc,e⟩)
     omega
    ·omega
   have hold:(HT i.size rows.length (.slice ptr rows.length (if cap.den ρ<0 then 0 else(cap.den ρ).toNat))).run P w.drew= .ok (bf sh rows).toArray w.drew:=by
    by_cases hc:cap.den ρ<0
    ·have PW:rows=[]:=jy.1 hc
     subst PW
     exact NS _ _ _ _
    ·obtain⟨_,cells,iZ,fz,g1,⟨g2,g3⟩,g4⟩:=jy.2 (by omega)
     rw[bN (by omega)]
     refine run_firstCells_some w.drew i.size rows.length _ rows.length _ (bf sh rows) iP λj v hv=>?_
     rw[iy,aa.aW]
     have:=g3.flat hv
     rw[aa.aW]at this
     have kk:w.drew.heap[m b]?=some (.cells cells iZ fz):=g1
     simp only[jW,kk,rR,qb,if_false]
     simpa using this
   have FJ:=Fc w (rows.length+dF.length) (if cap.den ρ<0 then 0 else(cap.den ρ).toNat) e pr
   refine vl _ _ (by rw[nn,JH];exact run_append_grow_src w t t' o.type e i ky (gg vk) hi nW ptr rows.length _ (bf sh rows) hold _ _ _ j6 JB (by omega) (growslice_fits JB (by
    have:=acz pr d4
    omega))) ?_
   have key:=Xi (e:=e) (d:=o.dst) (c:=grownCap w (rows.length+dF.length) (if cap.den ρ<0 then 0 else(cap.den ρ).toNat) e) (cells:=(bf sh rows++bf sh dF).toArray++lP ky.cells (grownCap w (rows.length+dF.length) (if cap.den ρ<0 then 0 else(cap.den ρ).toNat) e-(rows.length+dF.length))) qs bq Ci b5 dm hall JG (by rw[JE];exact FJ.1) FJ.2 (by
    rw[acW,Hy,mK,d3,uJ,dN,iP,kJ,<-s8,d2,<-s8]
    congr 1;omega) ⟨(lP ky.cells (grownCap w (rows.length+dF.length) (if cap.den ρ<0 then 0 else(cap.den ρ).toNat) e-(rows.length+dF.length))).toList,by rw[pK];simp⟩ ai j4
   rw[JE]at key
   exact key
theorem auO {tm:List V} {a:Act} {w:ar} {G:dT} {o:Oper} {K:Act->ar->Prop} {Q:Exit->Act->ar->Prop} {k:gi} {r3:T}
 (h:R w0 n ρ m tm bl a w) (bI:R7 P o n tm bl k=some r3) (ai:r3.holds S L G ρ) (hk:j0 S L w0 k n bl.length ρ m G K):o.wp P a w K Q:=by
 unfold R7 at bI
 split at bI
 ·rename_i c ho
  split at bI
  ·rename_i hc
   split at bI
   ·rename_i s x t t' fk l8
    exact aeO h ho hc fk l8 bI ai hk
   ·cases bI
  ·cases bI
 ·cases bI
end
end Go.bo
namespace Go.bo
open M
theorem Hb:∀{s1 s2:List aB} {l1 l2:List Int},l1.length=s1.length->de (s1++s2) (l1++l2)=de s1 l1++de s2 l2
 |[],_,[],_,_=>rfl
 |c::s1,s2,z::l1,l2,h=>by
  simp only[wu,de,Hb (s1:=s1) (s2:=s2) (l1:=l1) (l2:=l2) (by simpa using h)]
 |[],_,_::_,_,h=>by simp at h
 |_::_,_,[],_,h=>by simp at h
theorem EA:∀{s1 s2:List aB} {l1 l2:List Int},l1.length=s1.length->(cl (s1++s2) (l1++l2)↔cl s1 l1/\cl s2 l2)
 |[],_,[],_,_=>by simp[cl]
 |c::s1,s2,z::l1,l2,h=>by
  simp only[wu,cl,EA (s1:=s1) (s2:=s2) (l1:=l1) (l2:=l2) (by simpa using h),and_assoc]
 |[],_,_::_,_,h=>by simp at h
 |_::_,_,[],_,h=>by simp at h
theorem abb {sh:List aB} {row ls:List Int} {j s:Nat} (h:cl sh row) (hl:cl ((sh.drop j).take s) ls) (hj:j+s<=sh.length):
 cl sh (row.take j++ls++row.drop (j+ls.length))/\de sh (row.take j++ls++row.drop (j+ls.length))=(de sh row).take j++de ((sh.drop j).take s) ls++(de sh row).drop (j+s):=by
 have hlen:=h.len
 have Pu:ls.length=s:=by rw[hl.len];simp;omega
 have e:sh=sh.take j++((sh.drop j).take s++sh.drop (j+s)):=by
  rw[<-HP,oj,oj]
 have u6:row=row.take j++((row.drop j).take s++row.drop (j+s)):=by
  rw[<-HP,oj,oj]
 have l1:(row.take j).length=(sh.take j).length:=by simp[hlen]
 have l2:((row.drop j).take s).length=((sh.drop j).take s).length:=by simp[hlen]
 have Aj:ls.length=((sh.drop j).take s).length:=hl.len
 have h0:cl (sh.take j++((sh.drop j).take s++sh.drop (j+s))) (row.take j++((row.drop j).take s++row.drop (j+s))):=by rw[<-e,<-u6];exact h
 rw[EA l1,EA l2]at h0
 have hv:de sh row=de (sh.take j) (row.take j)++(de ((sh.drop j).take s) ((row.drop j).take s)++de (sh.drop (j+s)) (row.drop (j+s))):=by
  conv=>lhs;rw[e,u6]
  rw[Hb l1,Hb l2]
 have k1:(de (sh.take j) (row.take j)).length=j:=by rw[AP h0.1];simp;omega
 have k2:(de ((sh.drop j).take s) ((row.drop j).take s)).length=s:=by rw[AP h0.2.1];simp;omega
 rw[Pu]
 refine⟨?_,?_⟩
 ·rw[je]
  conv=>lhs;rw[e]
  rw[EA l1,EA Aj]
  exact⟨h0.1,hl,h0.2.2⟩
 ·rw[je]
  conv=>lhs;rw[e]
  have ht:(de sh row).take j=de (sh.take j) (row.take j):=by rw[hv];exact List.take_left' k1
  have hd:(de sh row).drop (j+s)=de (sh.drop (j+s)) (row.drop (j+s)):=by
   rw[hv,<-je];exact List.drop_left' (by rw[dN,k1,k2])
  rw[Hb l1,Hb Aj,ht,hd,je]
theorem N1 {sh:List aB}:∀{rows:List (List Int)} {i:Nat} {row:List Int},rows[i]?=some row->bf sh rows=bf sh (rows.take i)++(de sh row++bf sh (rows.drop (i+1)))
 |r::rs,0,row,h=>by simp at h;subst h;simp[bf]
 |r::rs,i+1,row,h=>by
  have ih:=N1 (sh:=sh) (rows:=rs) (i:=i) (by simpa using h)
  simp only[bf,qa,A8,List.drop_succ_cons]at ih⊢
  rw[ih,je]
 |[],_,_,h=>by simp at h
theorem agM {sh:List aB} {rows:List (List Int)} {i:Nat} {row AO:List Int} (h:rows[i]?=some row):bf sh (rows.set i AO)=bf sh (rows.take i)++(de sh AO++bf sh (rows.drop (i+1))):=by
 have hlt:=(List.getElem?_eq_some_iff.1 h).1
 have:=N1 (sh:=sh) (rows:=rows.set i AO) (i:=i) (row:=AO) (by simp[hlt])
 rw[this,List.take_set,List.drop_set_of_lt (by omega)]
 congr 1
 congr 1
 rw[List.set_eq_of_length_le (by simp;omega)]
theorem K3 {P:bH} (g o:Nat) (t:aX) (fz:Nat×Nat) (kd:Nat):∀(vs:List aF) (i:Nat) (cur:Array aF) (w:ar),uQ kd fz cur.size->w.heap[g]?=some (.cells cur t fz)->o+i+vs.length<=cur.size->(∀v∈vs,v.oneCell'=true)->
 (storeCells ⟨g,o,none⟩ vs i).run P w= .ok () (w.setRow g (cur.toList.take (o+i)++vs++cur.toList.drop (o+i+vs.length)).toArray)
 |[],i,cur,w,_,hg,_,_=>by
  simp only[storeCells,h9,fM,mv,oj,jF]
  rw[setRow_self w g cur t fz hg]
  rfl
 |v::rest,i,cur,w,Jz,hg,hl,h1=>by
  have hi:o+i<cur.size:=by simp at hl;omega
  have hcell:w.cell? ⟨g,o+i,none⟩=some cur[o+i]:=by simp[jW,hg,hi]
  have akJ:w.frozen? ⟨g,o+i,none⟩=false:=by
   rcases Jz with⟨_,rfl⟩|⟨_,rfl⟩
   ·simp[uH,hg]
   ·simp[uH,hg];omega
  have hst:(store ((⟨g,o,none⟩:Addr).add i) v).run P w= .ok () (w.setRow g (cur.setIfInBounds (o+i) v)):=by
   rw[iy,run_store P w _ v _ (h1 v (by simp)),hcell]
   simp[akJ,setCell_eq_setRow w g (o+i) cur t fz v hg]
  have ih:=K3 (P:=P) g o t fz kd rest (i+1) (cur.setIfInBounds (o+i) v) (w.setRow g (cur.setIfInBounds (o+i) v)) (by simpa using Jz) (HR w g cur _ t _ hg) (by simp at hl⊢;omega) (λx hx=>h1 x (by simp[hx]))
  simp only[storeCells,gY,hst,gH,ih,setRow_setRow]
  congr 3
  have e:=list_seg_step cur.toList (o+i) v rest (by simp at hl⊢;omega)
  simpa [Array.toList_setIfInBounds,Nat.add_assoc]using e
section
variable {S:Nat->List Int->List Int->Prop} {L:V->Env->Prop} {n:Nat} {ρ:Env} {m:Nat->Nat} {bl:List ax} {gl:ei} {w0:dK} {P:bH}
theorem Zh {tm:List V} {a:Act} (h:dX n bl.length ρ m tm a.tmps) {x:om} {l:aa} (hl:pe (cg tm x)=some l):∃k,a.eval x= .int k (l.den ρ)/\l.bk n:=by
 have hx:=cC h x
 unfold pe at hl
 split at hl
 ·rename_i k aCH hv
  simp only[aQ]at hl
  subst hl
  rw[hv]at hx
  exact⟨k,hx.2,hx.1.1⟩
 ·cases hl
theorem Mem.mark {w0:dK} {P:bH} {ρ:Env} {m:Nat->Nat} {bl:List ax} {w:ar} {b c:Nat} {C:List A} {code:aa} {t:aX×Bool} {s e:aX} (h:Mem w0 ρ m bl w) (hbl:bl[b]?=some (C,t)) (ho:bV C=true) (ht:t.2=false) (hlen:C.length=c)
 (hs:P.underlying s=some (.slice e)) (he:P.underlying e=some (.int .u8))
 (jx:∀row∈af (code.den ρ),cl gK row) (iP:bf gK (af (code.den ρ))=C.map (A.den ρ m)):
 ∃w',(convert s s (.slice (some ⟨m b,0,none⟩) c c)).run P w= .ok (.slice (some ⟨m b,0,none⟩) c c) w'/\Mem w0 ρ m (df bl b ([.rows gK (.const 0) code (.const c) 3],t)) w':=by
 have mD:b<bl.length:=(List.getElem?_eq_some_iff.1 hbl).1
 obtain⟨bq,bE,r,hr,b5⟩:=h.eR b C t hbl ho
 have hr:=hr ht
 subst hr
 rw[h9]at b5
 have hsz:(C.map (A.den ρ m)).toArray.size=c:=by simp[hlen]
 have ig:w.shape? (m b)=some (t.1,c):=by
  unfold World.shape?
  rw[b5];simp[hlen]
 have Cf:∀i:Nat,i≠m b->(w.freeze ⟨m b,c,none⟩ 1).heap[i]?=w.heap[i]?:=λi hi=>by
  unfold L5
  rw[if_neg (by decide)]
  simp only[aAr]
  rw[if_neg (λe=>hi e.symm)]
 have ni:(w.freeze ⟨m b,c,none⟩ 1).heap[m b]?=some (.cells (C.map (A.den ρ m)).toArray t.1 (c,c+1)):=by
  unfold L5
  rw[if_neg (by decide)]
  simp only[aAr,if_true,b5,rO]
  rfl
 have Yi:(w.freeze ⟨m b,c,none⟩ 1).heap.size=w.heap.size:=by
  unfold L5
  rw[if_neg (by decide)]
  simp
 refine⟨w.freeze ⟨m b,c,none⟩ 1,?_,?_⟩
 ·simp[convert,eH hs,eH he,markStringish,ig]
 generalize se:w.freeze ⟨m b,c,none⟩ 1=w' at*
 have gQ:w'.os=w.os/\w'.tape=w.tape/\w'.output=w.output:=by
  subst se
  unfold L5
  rw[if_neg (by decide)]
  exact⟨rfl,rfl,rfl⟩
 have dc:∀(i:Nat) (p:ax),(df bl b ([.rows gK (.const 0) code (.const c) 3],t))[i]?=some p->(i=b/\p=([.rows gK (.const 0) code (.const c) 3],t))∨(i≠b/\bl[i]?=some p):=λi p hi=>by
  rw[iX,oU]at hi
  split at hi
  ·rename_i eM
   subst eM
   simp only[mD,if_true,aQ]at hi
   exact .inl ⟨rfl,hi.symm⟩
  ·rename_i eM;exact .inr ⟨λe=>eM e.symm,hi⟩
 have jM:bp ρ C=2:=jA ho
 have JC:bp ρ [.rows gK (.const 0) code (.const c) 3]=3:=oJ (by decide) (by rw[aa.aW];omega)
 have PE:∀i:Nat,i<w0.b.heap.size->w'.heap[i]?=w.heap[i]?:=λi hi=>Cf i (by omega)
 have zr:w0.b.Extends w':=⟨gQ.1.trans h.ext.os,gQ.2.1.trans h.ext.tape,gQ.2.2.trans h.ext.output,by rw[Yi];exact h.ext.size,
  λy hy=>cj (by simp only[jW,PE y.block hy]) (h.ext.cell y hy),λy hy=>cj (by simp only[uH,PE y.block hy]) (h.ext.frozen y hy),λi hi=>(PE i hi).trans (h.ext.block i hi)⟩
 refine⟨zr,gQ.1.trans h.gQ,gQ.2.1.trans h.jz,gQ.2.2.trans h.ic,by rw[Yi];exact h.e8,λi hi hx=>?_,λi iB t' hi hH=>?_,λi eK gT code' gL mN t' hi=>?_,λi j p q hi hj he=>?_⟩
 ·rw[Cf i (λe=>by
   subst e
   rcases bE with h3|h3
   ·exact hx h3
   ·omega)]
  exact h.gz i hi hx
 ·rcases dc i _ hi with⟨rfl,cX⟩|⟨hne,hi⟩
  ·cases cX;cases hH
  ·obtain⟨g1,kk,g2⟩:=h.eR i iB t' hi hH
   exact⟨g1,kk,by rw[Cf (m i) (λe=>h.ne hbl hi (by rw[jM];exact br 2) (by rw[jA hH];decide) (λe=>hne e.symm) (by first|exact e|exact e.symm))];exact g2⟩
 ·rcases dc i _ hi with⟨rfl,cX⟩|⟨hne,hi⟩
  ·cases cX
   intro _
   simp only[aa.aW]
   refine⟨λh0=>by omega,λ_=>⟨bE.elim .inl λh=> .inr (.inr h),_,_,_,ni,⟨bX _,jx,[],[],by simp[iP],rfl⟩,λ_=>⟨rfl,by trivial,.inr ⟨by decide,by rw[hsz]⟩,by simp[hlen,gK],bq,bE⟩⟩⟩
  ·exact(h.rws i eK gT _ gL mN t' hi).grow λhk hc=>Cf (m i) (λe=>h.ne hbl hi (by rw[jM];exact br 2) (by simp only[oJ hk hc];exact hk) (λe=>hne e.symm) (by first|exact e|exact e.symm))
 ·have hk:∀(i:Nat) (p:ax),(df bl b ([.rows gK (.const 0) code (.const c) 3],t))[i]?=some p->∃p',bl[i]?=some p'/\(bp ρ p'.1=bp ρ p.1∨(bp ρ p'.1=2/\bp ρ p.1=3)):=λi p hi=>by
   rcases dc i _ hi with⟨rfl,cX⟩|⟨hne,hi⟩
   ·exact⟨_,hbl,.inr ⟨jM,by rw[cX];exact JC⟩⟩
   ·exact⟨p,hi,.inl rfl⟩
  obtain⟨p',hp,ep⟩:=hk i p hi
  obtain⟨q',hq,eq⟩:=hk j q hj
  have:=h.inj i j p' q' hp hq he
  omega
theorem Wr:∀(n t:Nat) (acc:Array aF),∃l:List (List Int),l.length=n/\(∀r∈l,cl gK r)/\(uN n t acc).toList=acc.toList++bf gK l
 |0,_,_=>⟨[],rfl,by simp,by simp[uN,bf]⟩
 |n+1,t,acc=>by
  obtain⟨l,h1,h2,h3⟩:=Wr n (t/256) (acc.push (.int .u8 (Int.ofNat (t% 256))))
  refine⟨[((t% 256:Nat):Int)]::l,by simp[h1],λr hr=>?_,?_⟩
  ·rcases List.mem_cons.1 hr with rfl|hr
   ·exact⟨⟨by simp only[aB.eL];omega,by simp only[aB.eL];omega⟩,trivial⟩
   ·exact h2 r hr
  ·rw[uN,h3]
   simp[bf,gK,de,aB.val]
theorem aud {P:bH} (w:ar) (cx:Array aX) (t e:aX) (ht:P.underlying t=some (.slice e)) (n:Nat) (hn:n<=281474976710656):
 ∃(c d:Nat),(Tr cx #[t] #[.int .i64 n]).run P w= .ok (.slice (some ⟨w.heap.size,0,none⟩) n c) (w.drew.drew.alloc (.cells (uN c d #[]) e))/\n<=c/\(n<=maxLen->c<=maxLen):=by
 have FM:Tr cx #[t] #[.int .i64 n]=
  (do
    let .slice elem<-underlying t|stuck "bytealg.MakeNoZero: slice type expected"
    if(n:Int)<0||(n:Int)>2^48 then runtimePanic (.error "makeslice: len out of range")
    let cap<-choose (.appendCap (n:Int).toNat 0 elem)
    askRoom cap
    let bytes<-choose (.extern "internal/bytealg.MakeNoZero.bytes" 0)
    let a<-newRow elem (uN cap bytes #[])
    pure (.slice (some a) (n:Int).toNat cap)):=rfl
 have h1:¬(n:Int)<0:=by omega
 have h2:¬(281474976710656:Int)<(n:Int):=by omega
 exact⟨grownCap w n 0 e,_,by
  rw[FM]
  simp[eH ht,h1,h2,Question.forced,newRow,grownCap]
  rfl,by simpa using grownCap_ge w n 0 e,λhm=>by simpa using grownCap_le_maxLen w n 0 e hm⟩
theorem agF {fn:Func} (h:J2 fn=true):fn.body.isNone=true/\(fn.name== "runtime.NumGoroutine")=false/\LS fn=none/\LU fn=some (Tr fn.params fn.resultTypes):=by
 unfold J2 at h
 simp only[aS,beq_iff_eq]at h
 obtain⟨⟨h1,h2⟩,h3⟩:=h
 have g1:Extern.allNextRows.lookup "internal/bytealg.MakeNoZero" =none:=by kernel_rfl
 have g2:Extern.allNextRows.lookup "" =none:=by kernel_rfl
 have g3:Extern.allGenericRows.lookup "internal/bytealg.MakeNoZero" =none:=by kernel_rfl
 have g4:Extern.allTypedRows.lookup "internal/bytealg.MakeNoZero" =some Tr:=by kernel_rfl
 refine⟨h2,by rw[h1];decide,?_,?_⟩
 ·unfold LS
  simp only[h1,h3,g1,g2]
  rfl
 ·unfold LU
  simp only[h1,g3,g4]
  rfl
theorem auQ {tm:List V} {a:Act} {w:ar} {G:dT} {o:Oper} {K:Act->ar->Prop} {Q:Exit->Act->ar->Prop} {k:gi} {r3:T}
 (h:R w0 n ρ m tm bl a w) (bI:uu P o n tm bl k=some r3) (ai:r3.holds S L G ρ) (hk:j0 S L w0 k n bl.length ρ m G K):o.wp P a w K Q:=by
 unfold uu at bI
 split at bI
 ·rename_i t p x ho
  have hp:=cC h.t p
  have hx:=cC h.t x
  split at bI
  ·rename_i b a7 cm i j u PO vm
   rw[PO]at hp
   rw[vm]at hx
   split at bI
   ·rename_i sh off code cap kind bY s hbl hs
    cases hc:(bB 2 kind&&aG a7 sh.length&&aa.beq cm off&&aG u.cells.length s&&cf 0 s&&bB (j+s) sh.length&&mm sh)with
    |false=>rw[hc]at bI;cases bI
    |true=>
     rw[hc]at bI
     simp only[cond_true,aQ]at bI
     subst bI
     simp only[aS]at hc
     obtain⟨⟨⟨⟨⟨⟨c1,c2⟩,c3⟩,c4⟩,c5⟩,hQ⟩,ox⟩:=hc
     have c1:=eC c1;have c2:=bG c2;have c3:=aa.beq_eq c3;have c4:=bG c4;have c5:=qk c5;have hQ:=eC hQ
     subst c2;subst c3;subst c4
     have PM:a.eval p= .pointer (some ⟨m b,(cm.den ρ).toNat+(i.den ρ).toNat*sh.length+j,none⟩):=hp.2
     have db:a.eval x=u.den ρ m:=hx.2
     have alA:(A.ep b sh.length cm i j).ok n bl.length ρ:=hp.1
     have e7:(A.rows sh cm code cap kind).ok n bl.length ρ:=h.b _ (eh hbl) _ (by simp)
     have hcs:aw S L (bind (fy 21 [code,i]) λ_=>bind (Bt 67 [code,i,.const sh.length]) λ_=>bind (vV ((sh.drop j).take u.cells.length) u.cells) λls=>bind (eT 42 (code::i:: .const j::ls) 0 bK) λcode'=>pure code') n ρ λah n' code'=>code'.bk n'/\(0<=code'.den ah/\code'.den ah<=bK)/\(0<=i.den ρ/\i.den ρ<(af (code.den ρ)).length)/\
      ∃ls:List Int,cl ((sh.drop j).take u.cells.length) ls/\de ((sh.drop j).take u.cells.length) ls=u.cells.map (A.den ρ m)/\
       af (code'.den ah)=(af (code.den ρ)).set (i.den ρ).toNat (((af (code.den ρ)).getD (i.den ρ).toNat []).take j++ls++((af (code.den ρ)).getD (i.den ρ).toNat []).drop (j+ls.length)):=by
      refine gM λjk=>?_
      have jk:0<=i.den ρ/\i.den ρ<(af (code.den ρ)).length:=jk
      have hlt:(i.den ρ).toNat<(af (code.den ρ)).length:=by omega
      have c0:0<=cap.den ρ:=by
       rcases jX (cap.den ρ) 0 with gB|gB
       ·have:=(h.bx.rws b sh cm code cap kind bY hbl (by omega)).1 gB
        rw[this]at hlt;simp at hlt
       ·exact gB
      obtain⟨_,cells,iZ,fz,bq,⟨bE,b5⟩,dm⟩:=(h.bx.rws b sh cm code cap kind bY hbl (by omega)).2 c0
      have xg:(af (code.den ρ)).getD (i.den ρ).toNat []=(af (code.den ρ))[(i.den ρ).toNat]:=by simp[ae,hlt]
      have hrow:cl sh ((af (code.den ρ)).getD (i.den ρ).toNat []):=by rw[xg];exact b5.1 _ (HL hlt)
      refine(Iu (op:=67) (ls:=[code,i,.const sh.length]) (by simp only[cI,eo,ab,aa.aW,gu];exact hrow.len)).bind λb8 n0 _ _ _ ⟨zM,nT⟩=>?_
      have zM:=zM.symm;have nT:=nT.symm
      subst zM;subst nT
      refine(DB (nb:=bl.length) (m:=m) (λy hy=>W.BF hx.1 y hy)).bind λaE n1 ls fq dP ⟨g1,g2,g3⟩=>?_
      have hf:au 42 ((code::i::aa.const j::ls).map (·.den aE))=rc ((af (code.den ρ)).set (i.den ρ).toNat (((af (code.den ρ)).getD (i.den ρ).toNat []).take j++ls.map (·.den aE)++((af (code.den ρ)).getD (i.den ρ).toNat []).drop (j+(ls.map (·.den aE)).length))):=by
       simp only[cI,au,aa.aW,gu,aa.bR dP e7.1.2.1,aa.bR dP alA.2.1.2]
      have JN:=abb hrow g2 hQ
      have nU:∀r∈(af (code.den ρ)).set (i.den ρ).toNat (((af (code.den ρ)).getD (i.den ρ).toNat []).take j++ls.map (·.den aE)++((af (code.den ρ)).getD (i.den ρ).toNat []).drop (j+(ls.map (·.den aE)).length)),cl sh r:=λr hr=>by
       rcases HS hr with hr|hr
       ·exact b5.1 r hr
       ·subst hr;exact JN.1
      have gj:0<sh.length:=by omega
      have hlen:(af (code.den ρ)).length<=maxLen:=by
       have sM:=b5
       obtain⟨_,pre,post,p1,bJ⟩:=sM
       have h4:=congrArg lN p1
       simp only[dN,kj b5.1,wz]at h4
       obtain⟨_,_,_,h5,_⟩:=dm c1
       rw[h5]at h4
       have h6:(af (code.den ρ)).length*sh.length<=(cap.den ρ).toNat*sh.length:=by omega
       have h7:=aAs h6 gj
       have:=e7.2.2.2
       unfold maxLen;omega
      have fO:=oX (l:=(af (code.den ρ)).set (i.den ρ).toNat (((af (code.den ρ)).getD (i.den ρ).toNat []).take j++ls.map (·.den aE)++((af (code.den ρ)).getD (i.den ρ).toNat []).drop (j+(ls.map (·.den aE)).length))) (by simpa using hlen) λr hr=>(nU r hr).row ox
      refine(fT (by rw[hf];exact gm _) (by rw[hf];exact fO)).bind λbT en code' eN dD ⟨k1,k2⟩=>aw.pure ?_
      rw[hf]at k2
      exact⟨k1,by rw[k2];exact⟨gm _,fO⟩,jk,ls.map (·.den aE),g2,g3,by rw[k2,ee]⟩
     obtain⟨ah,n',code',hn,ha,⟨g1,g2,g3,ls,g4,g5,g6⟩,ai⟩:=hcs G _ ai
     have hR:=h.later hn ha
     have hlt:(i.den ρ).toNat<(af (code.den ρ)).length:=by omega
     have c0:0<=cap.den ρ:=by
      rcases jX (cap.den ρ) 0 with gB|gB
      ·have:=(h.bx.rws b sh cm code cap kind bY hbl (by omega)).1 gB
       rw[this]at hlt;simp at hlt
      ·exact gB
     obtain⟨fJ,cells,iZ,fz,bq,⟨bE,b5⟩,dm⟩:=(h.bx.rws b sh cm code cap kind bY hbl (by omega)).2 c0
     obtain⟨aP,r1,r2,jm,iH,bA⟩:=dm c1
     subst aP
     obtain⟨ug,pre,post,Dr,GZ⟩:=b5
     have JQ:(af (code.den ρ))[(i.den ρ).toNat]?=some ((af (code.den ρ)).getD (i.den ρ).toNat []):=by simp[ae,hlt]
     generalize alN:(af (code.den ρ)).getD (i.den ρ).toNat []=row at g6 JQ
     have zE:=ug row (eh JQ)
     obtain⟨p1,bJ⟩:=abb zE g4 hQ
     have al9:u.cells.length=(u.cells.map (A.den ρ m)).length:=by simp
     have X2:cells.toList=(pre++bf sh ((af (code.den ρ)).take (i.den ρ).toNat))++(de sh row++(bf sh ((af (code.den ρ)).drop ((i.den ρ).toNat+1))++post)):=by
      rw[Dr,N1 JQ];simp only[je]
     have hA:(pre++bf sh ((af (code.den ρ)).take (i.den ρ).toNat)).length=(cm.den ρ).toNat+(i.den ρ).toNat*sh.length:=by
      rw[dN,GZ,kj λr hr=>ug r (kv hr),m8,yq (by omega)]
     have hB:=AP zE
     have akF:(cm.den ρ).toNat+(i.den ρ).toNat*sh.length+j+0+(u.cells.map (A.den ρ m)).length<=cells.size:=by
      have:=congrArg lN X2
      simp only[dN,wz,hB]at this hA
      simp;omega
     have hst:=K3 (P:=P) (m b) ((cm.den ρ).toNat+(i.den ρ).toNat*sh.length+j) _ fz kind (u.cells.map (A.den ρ m)) 0 cells w r2 bq akF (λv hv=>by
      obtain⟨y,hy,rfl⟩:=List.mem_map.1 hv
      exact A.Kx (W.BF hx.1 y hy))
     simp only[mv]at hst
     have nj:cells.toList.take ((cm.den ρ).toNat+(i.den ρ).toNat*sh.length+j)++u.cells.map (A.den ρ m)++cells.toList.drop ((cm.den ρ).toNat+(i.den ρ).toNat*sh.length+j+(u.cells.map (A.den ρ m)).length)=pre++bf sh (af (code'.den ah))++post:=by
      rw[g6,agM JQ,X2,<-hA,bJ,g5]
      rw[List.take_append,jd (by omega),Nat.add_sub_cancel_left,HH (by omega)]
      rw[List.drop_append,List.drop_of_length_le (by omega),jr]
      rw[show(pre++bf sh ((af (code.den ρ)).take (i.den ρ).toNat)).length+j+(u.cells.map (A.den ρ m)).length-(pre++bf sh ((af (code.den ρ)).take (i.den ρ).toNat)).length=j+u.cells.length by simp;omega]
      rw[aAi (by omega)]
      simp only[je]
     rw[nj]at hst
     have YO:∀r∈af (code'.den ah),cl sh r:=λr hr=>by
      rw[g6]at hr
      rcases HS hr with hr|hr
      ·exact ug r hr
      ·subst hr;exact p1
     have tG:(af (code'.den ah)).length=(af (code.den ρ)).length:=by rw[g6];simp
     have hsz:(pre++bf sh (af (code'.den ah))++post).length=cells.size:=by
      have e1:=congrArg lN Dr
      simp only[dN,kj YO,kj ug,wz,tG]at e1⊢
      omega
     have d1:cap.den ah=cap.den ρ:=aa.bR ha e7.1.2.2
     have d2:cm.den ah=cm.den ρ:=aa.bR ha e7.1.1
     have JJ:=hR.bx.put (kd:=kind) (cells:=cells) (fz:=fz) (code':=code') c1 hbl (by rw[d1];exact c0) (row:=(pre++bf sh (af (code'.den ah))++post).toArray) (λ_=>⟨λbg=>by rw[d1]at bg;omega,λ_=>⟨fJ,_,_,fz,HR w (m b) _ _ _ _ bq,⟨by rw[d2];exact bE,by
      rw[d2]
      exact⟨YO,pre,post,rfl,GZ⟩⟩,λ_=>⟨rfl,by rw[d2];exact r1,by simp only[uJ,hsz];exact r2,by rw[d1];simp only[uJ,hsz];exact jm,iH,bA⟩⟩⟩)
     unfold mw
     have hL:(Ti t (.pointer (some ⟨m b,(cm.den ρ).toNat+(i.den ρ).toNat*sh.length+j,none⟩)) (u.den ρ m)).run P w= .ok () (w.setRow (m b) (pre++bf sh (af (code'.den ah))++post).toArray):=by
      simp only[Ti,lO,gY,iw,gH,storeVar,im hs,W.IL (m:=m) u hx.1]
      simp only[uJ,k8,ne_eq,not_true_eq_false,if_false,iw,gH]
      simp only[iw,gH,hst]
     simp only[execOp,ho,gY,PM,db,hL,gH,iw]
     refine hk n' ah m _ _ G _ _ ⟨hn,ha,by rw[iY];exact br _,λ_ _=>rfl⟩ (eu.refl _ _) ⟨?_,by rw[put_defers];exact h.d,hR.b.set (λy hy=>by
      simp at hy;subst hy
      exact⟨⟨e7.1.1.mono hn,g1,e7.1.2.2.mono hn⟩,g2,by rw[d1];exact e7.2.2⟩),JJ⟩ ai
     rw[iY]
     exact dX.put hR.t o.dst (by intro x hx;simp at hx) rfl
   ·cases bI
  ·cases bI
 ·rename_i s d x ho
  have hx:=cC h.t x
  split at bI
  ·rename_i l vm
   rw[vm]at hx
   split at bI
   ·rename_i e hs hd
    split at bI
    ·rename_i he
     simp only[aQ]at bI
     subst bI
     have sw:(A.str l).ok n bl.length ρ:=hx.1
     have db:a.eval x= .string (bw (U (l.den ρ))):=hx.2
     have hcs:aw S L (bind (eT 27 [l] 0 bK) λcode=>bind (eT 0 [l] 0 9223372036854775807) λlen=>pure (code,len)) n ρ λah n' p=>(p.1.bk n'/\p.2.bk n')/\(0<=p.1.den ah/\p.1.den ah<=bK)/\(U (l.den ρ)).length<=9223372036854775807/\af (p.1.den ah)=(U (l.den ρ)).map (λb=>[(b.toNat:Int)])/\p.2.den ah=(U (l.den ρ)).length:=by
      have jk:(U (l.den ρ)).length<=9223372036854775807:=by have:=tc sw.2.2;unfold gk at this;omega
      have fO:rc ((U (l.den ρ)).map λb=>[(b.toNat:Int)])<=bK:=oX (by simp;unfold maxLen;omega) λr hr=>by
       obtain⟨b,_,rfl⟩:=List.mem_map.1 hr
       have hp:=fv
       have:=b.toNat_lt
       exact⟨by simp,λz hz=>by simp at hz;subst hz;omega⟩
      refine(fT (op:=27) (args:=[l]) (gm _) fO).bind λaE n1 code fq dP ⟨g1,g2⟩=>?_
      have g2:code.den aE=rc ((U (l.den ρ)).map λb=>[(b.toNat:Int)]):=g2
      have pR:l.den aE=l.den ρ:=aa.bR dP sw.1
      refine(fT (op:=0) (args:=[l]) (lo:=0) (hi:=9223372036854775807) (rL _) (by
       show((U (l.den aE)).length:Int)<=_
       rw[pR];omega)).bind λbT en len eN dD ⟨k1,k2⟩=>aw.pure ?_
      have k2:len.den bT=((U (l.den aE)).length:Nat):=k2
      have bN:code.den bT=code.den aE:=aa.bR dD g1
      refine⟨⟨g1.mono eN,k1⟩,by rw[bN,g2];exact⟨gm _,fO⟩,jk,by rw[bN,g2,ee],by rw[k2,pR]⟩
     obtain⟨ah,n',p,hn,ha,⟨⟨g1,kk⟩,g2,g3,g4,g5⟩,ai⟩:=hcs G (λp n=>Fb 3 e o.dst gK p.1 p.2 n tm bl k) ai
     have hR:=h.later hn ha
     have hL:=Lib.run_convert_string_bytes (P:=P) w s d e (bw (U (l.den ρ))) hs (gg hd) he
     generalize c0:grownCap w (bw (U (l.den ρ))).size 0 e=c at hL
     have ec:(bw (U (l.den ρ))).size<=c:=by rw[<-c0];exact grownCap_ge w _ 0 e
     have hle:c<=9223372036854775807:=by rw[<-c0];exact grownCap_le_maxLen w _ 0 e (by rw[qj];exact g3)
     have vg:(HU w e (bw (U (l.den ρ)))).heap[w.heap.size]?=some (.cells (HV w e (bw (U (l.den ρ)))) e ((HV w e (bw (U (l.den ρ)))).size,(HV w e (bw (U (l.den ρ)))).size+1)):=Lib.bytesWorld_at_new w e _
     have akq:(HV w e (bw (U (l.den ρ)))).size=c:=by
      have akK:=ec
      rw[qj]at akK
      simp only[HV,acW,Array.size_map,Array.size_replicate,c0]
      show(bw (U (l.den ρ))).size+_=_
      omega
     have zr:w.Extends (HU w e (bw (U (l.den ρ)))):=by
      have hb:∀i:Nat,i<w.heap.size->(HU w e (bw (U (l.den ρ)))).heap[i]?=w.heap[i]?:=λi hi=>Lib.bytesWorld_at_old w e _ i hi
      exact⟨rfl,rfl,rfl,by simp[HU,L5,Er,Ts,-L6,-acX],λy hy=>by simp only[jW,hb y.block hy],λy hy=>by simp only[uH,hb y.block hy],hb⟩
     have zc:R w0 n' ah m tm bl a (HU w e (bw (U (l.den ρ)))):=⟨hR.t,hR.d,hR.b,hR.bx.grow zr⟩
     unfold mw
     simp only[execOp,ho,gY,db,hL,gH,iw]
     have j4:j0 S L w0 k n' bl.length ah m G K:=hk.later ⟨hn,ha,br _,λ_ _=>rfl⟩ (eu.refl _ _)
     have e8:(bw (U (l.den ρ))).size=(U (l.den ρ)).length:=qj _
     have key:=Rm (kd:=3) (c:=(c:Int)) (g:=w.heap.size) (by omega) zc g1 kk g2 ⟨by omega,by omega⟩ (by rw[g5];exact⟨⟨by omega,by omega,by omega,by omega⟩,⟨by omega,by omega⟩,λh=>by omega,λ_=>by omega⟩) (λh=>by omega)
      (λ_=>⟨_,_,⟨vg,.inr ⟨by decide,rfl⟩⟩,by
        rw[g4]
        refine⟨λr hr=>?_,[],du (c-(U (l.den ρ)).length) (.int .u8 0),?_,rfl⟩
        ·obtain⟨b,_,rfl⟩:=List.mem_map.1 hr
         have:=b.toNat_lt
         exact⟨⟨by simp[aB.eL],by simp only[aB.eL];omega⟩,trivial⟩
        ·simp only[HV,c0,Array.toList_append,s7,Array.toList_replicate,jr]
         congr 1
         ·show(U (l.den ρ)).map _=_
          simp only[bf,aAo]
          induction U (l.den ρ)with
          |nil=>rfl
          |cons b r ih=>simp[de,aB.val,gK,ih],by
        rw[akq];simp[gK],h.bx.ext.size,.inr h.bx.e8⟩) (λi p hi he=>by
         by_cases kI:bp ah p.1=0
         ·exact .inl kI
         ·have:=hR.bx.lt hi kI;omega) ai j4
     rw[if_neg (by omega),g5]at key
     have key:K (a.put o.dst (.slice (some ⟨w.heap.size,0,none⟩) (U (l.den ρ)).length c)) (HU w e (bw (U (l.den ρ)))):=by simpa using key
     rw[e8]
     exact key
    ·cases bI
   ·cases bI
  ·rename_i b len cap vm
   rw[vm]at hx
   split at bI
   ·rename_i C t e hbl hd
    split at bI
    ·rename_i he
     cases hc:(aG s d&&bV C&& !t.2&&aG C.length len&&aG cap len&&bB len 1000000)with
     |false=>rw[hc]at bI;cases bI
     |true=>
      rw[hc]at bI
      simp only[cond_true,aQ]at bI
      subst bI
      simp only[aS]at hc
      obtain⟨⟨⟨⟨⟨bC,c1⟩,c2⟩,c3⟩,c4⟩,c5⟩:=hc
      have bC:=bG bC
      have c2:t.2=false:=by simpa using c2
      have c3:=bG c3
      have c4:=bG c4
      have c5:=eC c5
      subst bC;subst c4
      have bm:∀x∈C,A.ok n bl.length ρ x:=h.b _ (eh hbl)
      have j2:=EW (w:=1) (k:=cap) (l:=C) (by omega)
      have aZ:af ((aa.const 0).den ρ)=[]:=by rw[aa.aW];exact fa
      have hz:(0:Int)<=bK:=oe (gm []) (oX (l:=[]) (by simp) (by simp))
      obtain⟨ah,n',code,hn,ha,⟨p1,bJ,dF,cP,ea,ed,gf⟩,ai⟩:=EF (S:=S) (L:=L) (nb:=bl.length) (m:=m) (sh:=gK) (by decide) (rs:=nc 1 cap C) (c:= .const 0) (n:=n) (ρ:=ρ) (λrow hr x hx=>bm x (EX row hr x hx)) (aa.cT _ _) (by rw[aa.aW];exact⟨bX _,hz⟩) (by rw[aZ];intro _ h;simp at h) (by rw[aZ,j2.1];simp;omega) G _ ai
      rw[aZ,jr]at cP
      have hR:=h.later hn ha
      have Py:C.map (A.den ah m)=C.map (A.den ρ m):=sF bm ha (λ_ _=>rfl)
      obtain⟨w',hL,fj⟩:=hR.bx.mark (P:=P) (s:=s) (e:=e) (code:=code) hbl c1 c2 c3 (gg hd) he (by rw[cP];exact ed) (by rw[cP,gf,j2.2,Py])
      unfold mw
      have ami:a.eval x= .slice (some ⟨m b,0,none⟩) cap cap:=hx.2
      simp only[execOp,ho,gY,ami,hL,gH,iw]
      have zm:b<bl.length:=(List.getElem?_eq_some_iff.1 hbl).1
      refine hk n' ah m _ _ G _ _ ⟨hn,ha,by rw[iY];exact br _,λ_ _=>rfl⟩ (eu.refl _ _) ⟨?_,by rw[put_defers];exact h.d,hR.b.set (λy hy=>by
       have hy:y= .rows gK (.const 0) code (.const cap) 3:=by simpa using hy
       subst hy
       exact⟨⟨aa.cT _ _,p1,aa.cT _ _⟩,bJ,by rw[aa.aW];omega⟩),fj⟩ ai
      rw[iY]
      exact dX.put hR.t o.dst ⟨zm,⟨aa.cT _ _,aa.cT _ _,aa.cT _ _,aa.cT _ _⟩,by simp only[aa.aW,AT];omega⟩ (by
       show _=_
       simp[W.den,A.den,aa.aW])
    ·cases bI
   ·cases bI
  ·cases bI
 ·rename_i t x y ho
  split at bI
  ·rename_i e mP mf hd alc ald
   cases hi:P.info? e with
   |none=>simp[hi]at bI
   |some i=>
    simp only[hi]at bI
    split at bI
    ·rename_i z hz
     cases hc:(aG i.size 1&&bB i.bytes 1024&&decide (z=0))with
     |false=>rw[hc]at bI;cases bI
     |true=>
      rw[hc]at bI
      simp only[cond_true,aQ]at bI
      subst bI
      simp only[aS,decide_eq_true_eq]at hc
      have c1:=bG hc.1.1
      have c2:=eC hc.1.2
      have c3:=hc.2
      subst c3
      obtain⟨anl,hx,fk⟩:=Zh h.t alc
      obtain⟨anm,hy,zL⟩:=Zh h.t ald
      obtain⟨Pp,ai⟩:=ai
      have Pp:0<=mP.den ρ/\mP.den ρ<=mf.den ρ/\mf.den ρ<=1073741824:=Pp
      obtain⟨bq,bE,b5⟩:=Pp
      have fJ:0<=mf.den ρ:=by omega
      have hrow:∀r∈du (mP.den ρ).toNat [(0:Int)],cl gK r:=λr hr=>by
       rw[acY hr]
       exact⟨⟨by simp[aB.eL],by simp[aB.eL]⟩,trivial⟩
      have fO:rc (du (mP.den ρ).toNat [(0:Int)])<=bK:=wG (sh:=gK) (by decide) (by simp;omega) hrow
      have hf:au 26 ([mP,aa.const 0].map (·.den ρ))=rc (du (mP.den ρ).toNat [(0:Int)]):=by
       simp only[cI,eo,au,aa.aW]
      obtain⟨ah,n',code,hn,ha,⟨g1,g2⟩,ai⟩:=fT (S:=S) (L:=L) (n:=n) (op:=26) (args:=[mP,.const 0]) (lo:=0) (hi:=bK) (by rw[hf];exact gm _) (by rw[hf];exact fO) G _ ai
      rw[hf]at g2
      have hR:=h.later hn ha
      have d1:mP.den ah=mP.den ρ:=aa.bR ha fk
      have hL:=run_make (P:=P) w t e i (.int .u8 0) (gg hd) hi hz anl anm (mP.den ρ) (mf.den ρ) bq bE (by
       have h0:(i.bytes:Int)<=1024:=by omega
       have h2:(i.bytes:Int)*mf.den ρ<=1024*1073741824:=Int.mul_le_mul h0 b5 fJ (by decide)
       omega) (by omega)
      have Yy:(madeCells (s4 .u8 0).cells ((mf.den ρ).toNat*i.size)).toList=du (mf.den ρ).toNat (.int .u8 0):=by
       rw[c1,Nat.mul_one]
       refine Tk λj=>?_
       simp only[madeCells,Value.cells,s7,Tj]
       rw[nE,List.getElem?_replicate]
       by_cases hj:j<(mf.den ρ).toNat
       ·rw[if_pos hj,acS hj]
        simp[Nat.mod_one]
       ·rw[if_neg hj,Tl (by simp;omega)];rfl
      have hsz:(madeCells (s4 .u8 0).cells ((mf.den ρ).toNat*i.size)).size=(mf.den ρ).toNat:=by
       have:=congrArg lN Yy
       simpa using this
      have vg:(w.alloc (.cells (madeCells (s4 .u8 0).cells ((mf.den ρ).toNat*i.size)) e)).heap[w.heap.size]?=some (.cells (madeCells (s4 .u8 0).cells ((mf.den ρ).toNat*i.size)) e (0,0)):=by simp[Er,-L6]
      have zr:w.Extends (w.alloc (.cells (madeCells (s4 .u8 0).cells ((mf.den ρ).toNat*i.size)) e)):=by
       have hb:∀j:Nat,j<w.heap.size->(w.alloc (.cells (madeCells (s4 .u8 0).cells ((mf.den ρ).toNat*i.size)) e)).heap[j]?=w.heap[j]?:=λj hj=>by
        simp only[Er]
        rw[aAt hj,HF hj]
       exact⟨rfl,rfl,rfl,by simp[Er,-L6],λy hy=>by simp only[jW,hb y.block hy],λy hy=>by simp only[uH,hb y.block hy],hb⟩
      generalize se:w.alloc (.cells (madeCells (s4 .u8 0).cells ((mf.den ρ).toNat*i.size)) e)=W at*
      have zc:R w0 n' ah m tm bl a W:=⟨hR.t,hR.d,hR.b,hR.bx.grow zr⟩
      unfold mw
      simp only[execOp,ho,gY,hx,hy,hL,gH,iw]
      have j4:j0 S L w0 k n' bl.length ah m G K:=hk.later ⟨hn,ha,br _,λ_ _=>rfl⟩ (eu.refl _ _)
      have key:=Rm (kd:=2) (c:=mf.den ρ) (g:=w.heap.size) (br _) zc g1 (fk.mono hn) (by rw[g2];exact⟨gm _,fO⟩) ⟨by omega,by omega⟩ (by rw[d1];exact⟨⟨by omega,by omega,by omega,by omega⟩,⟨by omega,by omega⟩,λh=>by omega,λ_=>by omega⟩) (λh=>by omega)
       (λ_=>⟨_,_,⟨vg,.inl ⟨rfl,rfl⟩⟩,by
         rw[g2,ee]
         refine⟨hrow,[],du ((mf.den ρ).toNat-(mP.den ρ).toNat) (.int .u8 0),?_,rfl⟩
         rw[Yy,jr]
         have e1:bf gK (du (mP.den ρ).toNat [(0:Int)])=du (mP.den ρ).toNat (.int .u8 0):=by
          generalize (mP.den ρ).toNat=q
          induction q with
          |zero=>rfl
          |succ q ih=>
           rw[uO,uO]
           simp only[bf,qa]at ih⊢
           rw[ih];rfl
         rw[e1,List.replicate_append_replicate]
         congr 1;omega,by rw[hsz];simp[gK],h.bx.ext.size,.inr h.bx.e8⟩) (λj p hj he=>by
         by_cases kI:bp ah p.1=0
         ·exact .inl kI
         ·have:=hR.bx.lt hj kI;omega) ai j4
      rw[if_neg (by omega),d1]at key
      have key:K (a.put o.dst (.slice (some ⟨w.heap.size,0,none⟩) (mP.den ρ).toNat (mf.den ρ).toNat)) W:=key
      exact key
    ·cases bI
  ·cases bI
 ·rename_i c ho
  split at bI
  ·rename_i f hc
   split at bI
   ·rename_i fn x hf oC
    split at bI
    ·rename_i y t hx lv
     split at bI
     ·rename_i e hd
      split at bI
      ·rename_i he
       cases hm:J2 fn with
       |false=>rw[hm]at bI;cases bI
       |true=>
        rw[hm]at bI
        simp only[cond_true,aQ]at bI
        subst bI
        obtain⟨fW,eF,C8,Al⟩:=agF hm
        have fk:=cC h.t x
        rw[hx]at fk
        have zL:y.l.bk n:=fk.1.1
        obtain⟨Po,ai⟩:=ai
        have Po:0<=y.l.den ρ/\y.l.den ρ<=1073741824:=Po
        obtain⟨bq,bE⟩:=Po
        obtain⟨N,hN⟩:∃N:Nat,y.l.den ρ=N:=⟨(y.l.den ρ).toNat,by omega⟩
        have db:a.eval x= .int .i64 (N:Int):=by rw[<-hN];exact fk.2
        have alI:fn.resultTypes=#[t]:=L1 (by rw[lv])
        obtain⟨mz,yY,hL,hle,qB⟩:=aud (P:=P) w fn.params t e (gg hd) N (by omega)
        have qB:=qB (by unfold maxLen;omega)
        unfold maxLen at qB
        obtain⟨l,l1,l2,Aj⟩:=Wr mz yY #[]
        have rl:(execOp a.eval o).run P w= .ok (.value (.slice (some ⟨w.heap.size,0,none⟩) N mz)) (w.drew.drew.alloc (.cells (uN mz yY #[]) e)):=by
         rw[RL hc o ho,run_callFunc_extern hf eF fW C8 Al]
         have:c.args.map a.eval=#[.int .i64 (N:Int)]:=L1 (by rw[s7,oC];simp[db])
         rw[this,alI,hL]
         rfl
        have Cs:∀r∈l.take N,cl gK r:=λr hr=>l2 r (kv hr)
        have mK:(l.take N).length=N:=by rw[m8,l1];omega
        have Y2:rc (l.take N)<=bK:=wG (sh:=gK) (by decide) (by rw[mK];omega) Cs
        have ai:=ai (rc (l.take N)) (gm _) Y2
        have dP:agree n ρ (c6 ρ n (rc (l.take N))):=agree.c6 _ _ _
        have aM:y.l.den (c6 ρ n (rc (l.take N)))=N:=by rw[aa.bR dP zL,hN]
        have Nq:(aa.var n).den (c6 ρ n (rc (l.take N)))=rc (l.take N):=by simp[aa.cE,jC]
        have ai:=ai (by
         show y.l.den (c6 ρ n (rc (l.take N)))=((af ((aa.var n).den (c6 ρ n (rc (l.take N))))).length:Int)
         rw[aM,Nq,ee,mK])
        have ai:=ai (mz:Int) (by omega) (by omega)
        have ai:=ai (by
         have dD:agree (n+1) (c6 ρ n (rc (l.take N))) (c6 (c6 ρ n (rc (l.take N))) (n+1) (mz:Int)):=agree.c6 _ _ _
         show y.l.den (c6 (c6 ρ n (rc (l.take N))) (n+1) (mz:Int))<=(aa.var (n+1)).den (c6 (c6 ρ n (rc (l.take N))) (n+1) (mz:Int))
         rw[aa.bR dD (zL.mono (oV _)),aM]
         simp only[aa.cE,jC]
         omega)
        have hR:=h.later (oV n) dP
        have vg:(w.drew.drew.alloc (.cells (uN mz yY #[]) e)).heap[w.heap.size]?=some (.cells (uN mz yY #[]) e (0,0)):=by simp[Er,Ts,-L6,-acX]
        have zr:w.Extends (w.drew.drew.alloc (.cells (uN mz yY #[]) e)):=by
         have hb:∀j:Nat,j<w.heap.size->(w.drew.drew.alloc (.cells (uN mz yY #[]) e)).heap[j]?=w.heap[j]?:=λj hj=>by
          simp only[Er,Ts]
          rw[aAt hj,HF hj]
         exact⟨rfl,rfl,rfl,by simp[Er,Ts,-L6,-acX],λy hy=>by simp only[jW,hb y.block hy],λy hy=>by simp only[uH,hb y.block hy],hb⟩
        generalize se:w.drew.drew.alloc (.cells (uN mz yY #[]) e)=W at*
        have zc:R w0 (n+1) (c6 ρ n (rc (l.take N))) m tm bl a W:=⟨hR.t,hR.d,hR.b,hR.bx.grow zr⟩
        unfold mw
        simp only[rl]
        have j4:j0 S L w0 k (n+1) bl.length (c6 ρ n (rc (l.take N))) m G K:=hk.later ⟨oV n,dP,br _,λ_ _=>rfl⟩ (eu.refl _ _)
        have key:=aaQ (kd:=2) (c:=(mz:Int)) (g:=w.heap.size) (code:= .var n) (len:=y.l) (e:=e) (d:=o.dst) (sh:=gK) (br _) zc (aa.eV (s5 n)) (zL.mono (oV _)) (by rw[Nq];exact⟨gm _,Y2⟩) ⟨by omega,by omega⟩ (by rw[aM];exact⟨⟨by omega,by omega,by omega,by omega⟩,⟨by omega,by omega⟩,λh=>by omega,λ_=>by omega⟩) (λh=>by omega)
         (λ_=>⟨_,_,⟨vg,.inl ⟨rfl,rfl⟩⟩,by
           rw[Nq,ee]
           refine⟨Cs,[],bf gK (l.drop N),?_,rfl⟩
           rw[Aj]
           show bf gK l=bf gK (l.take N)++bf gK (l.drop N)
           rw[<-pK,oj],by
           have e1:=congrArg lN Aj
           simp only[dN,kj l2,l1]at e1
           simpa [gK]using e1,h.bx.ext.size,.inr h.bx.e8⟩) (λj p hj he=>by
           by_cases kI:bp (c6 ρ n (rc (l.take N))) p.1=0
           ·exact .inl kI
           ·have:=hR.bx.lt hj kI;omega) ai j4
        rw[if_neg (by omega),aM]at key
        have key:K (a.put o.dst (.slice (some ⟨w.heap.size,0,none⟩) N mz)) W:=by simpa using key
        exact key
      ·cases bI
     ·cases bI
    ·cases bI
   ·cases bI
  ·cases bI
 ·cases bI
end
end Go.bo
namespace Go.bo
open M
theorem atz {α:Type} (f:Nat->α) (s k:Nat):(cU ((k+1)*s)).map (λi=>f (i% s))=(cU s).map (λi=>f (i% s))++(cU (k*s)).map (λi=>f (i% s)):=by
 rw[s6,Nat.add_comm (k*s) s,List.range_add,ft,k7]
 congr 1
 refine h8 λi _=>?_
 simp only[HD,Nat.add_mod_left]
theorem acs (Z:Array aF):∀k:Nat,(lP Z k).toList=(du k Z.toList).flatten
 |0=>by simp[lP]
 |k+1=>by
  have ih:=acs Z k
  simp only[lP,s7,Tj]at ih⊢
  rw[atz (λi=>Z[i]!) Z.size k,ih,uO,s9]
  congr 1
  refine List.ext_getElem (by simp) λi h1 h2=>?_
  simp only[k8,List.length_range]at h1
  simp[aAk h1,h1]
theorem WY (sh:List aB) (row:List Int):∀k:Nat,bf sh (du k row)=(du k (de sh row)).flatten
 |0=>rfl
 |k+1=>by
  have ih:=WY sh row k
  rw[uO,uO,s9,<-ih];rfl
section
variable {S:Nat->List Int->List Int->Prop} {L:V->Env->Prop} {n:Nat} {ρ:Env} {m:Nat->Nat} {bl:List ax} {gl:ei} {w0:dK} {P:bH}
theorem Mem.rewrite {w:ar} {b:Nat} {sh:List aB} {off code cap code':aa} {kind:Nat} {bY:aX×Bool} (h:Mem w0 ρ m bl w) (hbl:bl[b]?=some ([.rows sh off code cap kind],bY)) (hk:2<=kind) (c0:0<=cap.den ρ)
 (nU:∀r∈af (code'.den ρ),cl sh r) (hlen:(af (code'.den ρ)).length=(af (code.den ρ)).length):
 ∃(cells:Array aF) (post:List aF) (fz:Nat×Nat),w.heap[m b]?=some (.cells cells bY.1 fz)/\uQ kind fz cells.size/\off.den ρ=0/\(∀r∈af (code.den ρ),cl sh r)/\cells.toList=bf sh (af (code.den ρ))++post/\cells.size=(cap.den ρ).toNat*sh.length/\
  Mem w0 ρ m (df bl b ([.rows sh off code' cap kind],bY)) (w.setRow (m b) (bf sh (af (code'.den ρ))++post).toArray):=by
 obtain⟨fJ,cells,iZ,fz,bq,⟨bE,b5⟩,dm⟩:=(h.rws b sh off code cap kind bY hbl (by omega)).2 c0
 obtain⟨aP,r1,r2,jm,iH,bA⟩:=dm hk
 subst aP
 obtain⟨ug,pre,post,Dr,GZ⟩:=b5
 rw[r1]at GZ
 have ie:pre=[]:=uL (by simpa using GZ)
 subst ie
 rw[jr]at Dr
 have hsz:(bf sh (af (code'.den ρ))++post).length=cells.size:=by
  have e1:=congrArg lN Dr
  simp only[dN,kj nU,kj ug,wz,hlen]at e1⊢
  omega
 refine⟨cells,post,fz,bq,r2,r1,ug,Dr,jm,?_⟩
 exact h.put (kd:=kind) (cells:=cells) (fz:=fz) (code':=code') hk hbl c0 (row:=(bf sh (af (code'.den ρ))++post).toArray) (λ_=>⟨λbg=>by omega,λ_=>⟨fJ,_,_,fz,HR w (m b) _ _ _ _ bq,⟨by rw[r1];exact bX _,by
  rw[r1]
  exact⟨nU,[],post,by simp,rfl⟩⟩,λ_=>⟨rfl,r1,by simp only[uJ,hsz];exact r2,by simp only[uJ,hsz];exact jm,iH,bA⟩⟩⟩)
theorem ZT {sh:List aB} {rows mid:List (List Int)} {post:List aF} {cells:List aF} {a:Nat} (hr:∀r∈rows,cl sh r) (hm:∀r∈mid,cl sh r) (hc:cells=bf sh rows++post) (ha:a+mid.length<=rows.length):
 cells.take (a*sh.length)++bf sh mid++cells.drop (a*sh.length+(bf sh mid).length)=bf sh (rows.take a++mid++rows.drop (a+mid.length))++post:=by
 have h1:bf sh rows=bf sh (rows.take a)++bf sh (rows.drop a):=by rw[<-pK,oj]
 have h2:bf sh rows=bf sh (rows.take (a+mid.length))++bf sh (rows.drop (a+mid.length)):=by rw[<-pK,oj]
 have l1:(bf sh (rows.take a)).length=a*sh.length:=by rw[kj λr h=>hr r (kv h),m8,yq (by omega)]
 have l2:(bf sh (rows.take (a+mid.length))).length=a*sh.length+(bf sh mid).length:=by rw[kj λr h=>hr r (kv h),kj hm,m8,yq (by omega),s8]
 have e1:cells.take (a*sh.length)=bf sh (rows.take a):=by
  rw[hc,h1,je,HH (by omega),jd (by omega)]
 have e2:cells.drop (a*sh.length+(bf sh mid).length)=bf sh (rows.drop (a+mid.length))++post:=by
  rw[hc,h2,je,<-l2,Ee]
 rw[e1,e2,pK,pK]
 simp only[je]
theorem Ko {sh:List aB} {rows mid:List (List Int)} {a k:Nat} (hr:∀r∈rows,cl sh r) (hm:∀r∈mid,cl sh r):∀r∈rows.take a++mid++rows.drop k,cl sh r:=λr h=>by
 rcases List.mem_append.1 h with h|h
 ·rcases List.mem_append.1 h with h|h
  ·exact hr r (kv h)
  ·exact hm r h
 ·exact hr r (oo h)
theorem QT {rows mid:List (List Int)} {a:Nat} (ha:a+mid.length<=rows.length):(rows.take a++mid++rows.drop (a+mid.length)).length=rows.length:=by
 simp only[dN,m8,q2];omega
theorem K1 {w:ar} {b:Nat} {sh:List aB} {off code cap:aa} {kind:Nat} {bY:aX×Bool} (h:Mem w0 ρ m bl w) (hbl:bl[b]?=some ([.rows sh off code cap kind],bY)) (hk:2<=kind) (c0:0<=cap.den ρ) (sj:cap.den ρ<=9223372036854775807) (gj:0<sh.length):(af (code.den ρ)).length<=maxLen/\∀r∈af (code.den ρ),cl sh r:=by
 obtain⟨fJ,cells,iZ,fz,bq,⟨bE,b5⟩,dm⟩:=(h.rws b sh off code cap kind bY hbl (by omega)).2 c0
 obtain⟨_,_,_,h5,_⟩:=dm hk
 obtain⟨ug,pre,post,p1,bJ⟩:=b5
 refine⟨?_,ug⟩
 have h4:=congrArg lN p1
 simp only[dN,kj ug,wz]at h4
 rw[h5]at h4
 have h6:(af (code.den ρ)).length*sh.length<=(cap.den ρ).toNat*sh.length:=by omega
 have h7:=aAs h6 gj
 unfold maxLen;omega
theorem abB {sh:List aB} (h:mm sh=true):0<sh.length:=by
 unfold mm at h
 simp only[aS]at h
 exact qk h.1.2
theorem at0 {w:ar} {b:Nat} {sh:List aB} {off code cap:aa} {kind:Nat} {bY:aX×Bool} (h:Mem w0 ρ m bl w) (hbl:bl[b]?=some ([.rows sh off code cap kind],bY)) (hk:2<=kind) (sj:cap.den ρ<=9223372036854775807) (gj:0<sh.length):(af (code.den ρ)).length<=maxLen/\∀r∈af (code.den ρ),cl sh r:=by
 rcases jX (cap.den ρ) 0 with hc|hc
 ·rw[(h.rws b sh off code cap kind bY hbl (by omega)).1 hc]
  exact⟨Nat.zero_le _,λr hr=>by simp at hr⟩
 ·exact K1 h hbl hk hc sj gj
theorem Mem.atC {w:ar} {b:Nat} {sh:List aB} {off code cap code':aa} {kind:Nat} {bY:aX×Bool} (h:Mem w0 ρ m bl w) (hbl:bl[b]?=some ([.rows sh off code cap kind],bY)) (he:af (code'.den ρ)=af (code.den ρ)):Mem w0 ρ m (df bl b ([.rows sh off code' cap kind],bY)) w:=by
 rw[iX]
 have hlt:=(List.getElem?_eq_some_iff.1 hbl).1
 have hg:∀(i:Nat) (p:ax),(bl.set b ([.rows sh off code' cap kind],bY))[i]?=some p->(i=b/\p=([.rows sh off code' cap kind],bY))∨(i≠b/\bl[i]?=some p):=λi p hi=>by
  rw[oU]at hi
  by_cases iD:b=i
  ·subst iD
   rw[if_pos rfl,if_pos hlt]at hi
   exact .inl ⟨rfl,(hZ hi).symm⟩
  ·rw[if_neg iD]at hi
   exact .inr ⟨λe=>iD e.symm,hi⟩
 have gd:∀(i:Nat) (p:ax),(bl.set b ([.rows sh off code' cap kind],bY))[i]?=some p->∃q:ax,bl[i]?=some q/\bp ρ p.1=bp ρ q.1:=λi p hi=>by
  rcases hg i p hi with⟨rfl,rfl⟩|⟨_,h2⟩
  ·exact⟨_,hbl,rfl⟩
  ·exact⟨_,h2,rfl⟩
 refine⟨h.ext,h.gQ,h.jz,h.ic,h.e8,h.gz,λi cs t hi ho=>?_,λi eK gT gy gL mN t hi=>?_,λi j p q hi hj hm=>?_⟩
 ·rcases hg i _ hi with⟨_,h2⟩|⟨_,h2⟩
  ·cases h2;exact absurd ho (by simp[bV])
  ·exact h.eR i cs t h2 ho
 ·rcases hg i _ hi with⟨rfl,h2⟩|⟨_,h2⟩
  ·cases h2
   have:=h.rws _ sh off code cap kind bY hbl
   unfold q4 at this⊢
   rw[he];exact this
  ·exact h.rws i _ _ _ _ _ t h2
 ·obtain⟨p',hp,ep⟩:=gd i p hi
  obtain⟨q',hq,eq⟩:=gd j q hj
  rw[ep,eq]
  exact h.inj i j p' q' hp hq hm
theorem auR {tm:List V} {a:Act} {w:ar} {G:dT} {o:Oper} {K:Act->ar->Prop} {Q:Exit->Act->ar->Prop} {k:gi} {r3:T}
 (h:R w0 n ρ m tm bl a w) (bI:R8 P o n tm bl k=some r3) (ai:r3.holds S L G ρ) (hk:j0 S L w0 k n bl.length ρ m G K):o.wp P a w K Q:=by
 unfold R8 at bI
 split at bI
 rotate_left
 ·cases bI
 rename_i c ho
 split at bI
 ·rename_i gP
  split at bI
  rotate_left
  ·cases bI
  rename_i x t fk l8
  have hx:=cC h.t x
  split at bI
  rotate_left
  ·cases bI
  rename_i b a7 cm ro len cap e hv he
  rw[hv]at hx
  split at bI
  rotate_left
  ·cases bI
  rename_i sh off code dL kind bY z hbl hz
  cases hc:(bB 2 kind&&aa.beq cm off&&aG a7 sh.length&&mm sh&&aG z.length sh.length)with
  |false=>rw[hc]at bI;cases bI
  |true=>
   rw[hc]at bI
   simp only[cond_true,aQ]at bI
   subst bI
   simp only[aS]at hc
   obtain⟨⟨⟨⟨c1,c2⟩,c3⟩,c4⟩,c5⟩:=hc
   have c1:=eC c1;have c2:=aa.beq_eq c2;have c3:=bG c3;have c5:=bG c5
   subst c2;subst c3
   obtain⟨inf,ky,hi,nW,kG⟩:=D6 hz
   have a1:c.args=#[x]:=by rw[<-jF (xs:=c.args),fk]
   have a2:c.argTypes=#[t]:=by rw[<-jF (xs:=c.argTypes),l8]
   have np:(A.sl b sh.length cm ro len cap).ok n bl.length ρ:=hx.1
   obtain⟨ptr,e1,e2,bN⟩:=p4 (m:=m) np
   have db:a.eval x=(A.sl b sh.length cm ro len cap).den ρ m:=hx.2
   rw[e1]at db
   obtain⟨x1,⟨x2,gF,gq,gG⟩,⟨gV,ka,lH,lI⟩,⟨mq,kT⟩,fQ,hV⟩:=np
   have e7:(A.rows sh cm code dL kind).ok n bl.length ρ:=h.b _ (eh hbl) _ (by simp)
   have gj:=abB c4
   have hcs:aw S L (bind (fy 65 [code,ro,len]) λ_=>bind (vV sh z) λls=>bind (eT 61 (code::ro::len::ls) 0 bK) λcode'=>pure code') n ρ λah n' code'=>code'.bk n'/\(0<=code'.den ah/\code'.den ah<=bK)/\(0<=ro.den ρ/\0<len.den ρ/\ro.den ρ+len.den ρ<=(af (code.den ρ)).length)/\0<=dL.den ρ/\
    ∃row:List Int,cl sh row/\de sh row=ky.cells.toList/\af (code'.den ah)=(af (code.den ρ)).take (ro.den ρ).toNat++du (len.den ρ).toNat row++(af (code.den ρ)).drop ((ro.den ρ).toNat+(len.den ρ).toNat):=by
    refine gM λjk=>?_
    have jk:0<=ro.den ρ/\0<len.den ρ/\ro.den ρ+len.den ρ<=(af (code.den ρ)).length:=jk
    have hzs:=u4 kG n bl.length ρ m
    refine(DB (nb:=bl.length) (m:=m) hzs.1).bind λaE n1 ls fq dP ⟨g1,g2,g3⟩=>?_
    rw[hzs.2]at g3
    have c0:0<=dL.den ρ:=by
     rcases jX (dL.den ρ) 0 with gB|gB
     ·have:=(h.bx.rws b sh cm code dL kind bY hbl (by omega)).1 gB
      rw[this]at jk;simp at jk;omega
     ·exact gB
    obtain⟨qB,jx⟩:=K1 h.bx hbl c1 c0 e7.2.2.2 gj
    have hf:au 61 ((code::ro::len::ls).map (·.den aE))=rc ((af (code.den ρ)).take (ro.den ρ).toNat++du (len.den ρ).toNat (ls.map (·.den aE))++(af (code.den ρ)).drop ((ro.den ρ).toNat+(len.den ρ).toNat)):=by
     simp only[cI,au,aa.bR dP e7.1.2.1,aa.bR dP gF,aa.bR dP gq]
    have bm:∀r∈(af (code.den ρ)).take (ro.den ρ).toNat++du (len.den ρ).toNat (ls.map (·.den aE))++(af (code.den ρ)).drop ((ro.den ρ).toNat+(len.den ρ).toNat),cl sh r:=Ko jx λr hr=>by rw[acY hr];exact g2
    have fO:=oX (l:=(af (code.den ρ)).take (ro.den ρ).toNat++du (len.den ρ).toNat (ls.map (·.den aE))++(af (code.den ρ)).drop ((ro.den ρ).toNat+(len.den ρ).toNat)) (by simp only[dN,m8,q2,Bd];omega) λr hr=>(bm r hr).row c4
    refine(fT (by rw[hf];exact gm _) (by rw[hf];exact fO)).bind λbT en code' eN dD ⟨k1,k2⟩=>aw.pure ?_
    rw[hf]at k2
    exact⟨k1,by rw[k2];exact⟨gm _,fO⟩,jk,c0,ls.map (·.den aE),g2,g3,by rw[k2,ee]⟩
   obtain⟨ah,n',code',hn,ha,⟨g1,g2,g3,c0,row,g4,g5,g6⟩,ai⟩:=hcs G _ ai
   have hR:=h.later hn ha
   have d1:code.den ah=code.den ρ:=aa.bR ha e7.1.2.1
   have d2:dL.den ah=dL.den ρ:=aa.bR ha e7.1.2.2
   have zC:(du (len.den ρ).toNat row).length=(len.den ρ).toNat:=Bd
   have mF:∀r∈du (len.den ρ).toNat row,cl sh r:=λr hr=>by rw[acY hr];exact g4
   have hle:(ro.den ρ).toNat+(du (len.den ρ).toNat row).length<=(af (code.den ρ)).length:=by rw[zC];omega
   have nU:∀r∈af (code.den ρ),cl sh r:=(K1 h.bx hbl c1 c0 e7.2.2.2 gj).2
   obtain⟨cells,post,fz,p1,bJ,cP,ea,ed,gf,mS⟩:=hR.bx.rewrite (code':=code') hbl c1 (by rw[d2];exact c0) (by rw[g6];exact Ko nU mF) (by
    rw[g6,d1]
    have:=QT hle
    rw[zC]at this;exact this)
   rw[d1]at ea ed
   have cP:cm.den ρ=0:=by rw[<-aa.bR ha x2];exact cP
   have FI:0<=cap.den ρ:=by
    rcases jX (cap.den ρ) 0 with gB|gB
    ·have:=fQ gB;omega
    ·exact gB
   have bP:a.eval x= .slice (some ⟨m b,(ro.den ρ).toNat*sh.length,none⟩) (len.den ρ).toNat (cap.den ρ).toNat:=by
    rw[db,bN FI,if_neg (by omega),cP];simp
   have mK:(lP ky.cells (len.den ρ).toNat).toList=bf sh (du (len.den ρ).toNat row):=by rw[acs,WY,g5]
   have amr:(lP ky.cells (len.den ρ).toNat).toList.length=(len.den ρ).toNat*sh.length:=by rw[mK,kj mF,zC]
   have OY:=congrArg lN ed
   simp only[dN,wz,kj ea]at OY
   have rm:(ro.den ρ).toNat*sh.length+0+(lP ky.cells (len.den ρ).toNat).toList.length<=cells.size:=by
    rw[amr]
    have:((ro.den ρ).toNat+(len.den ρ).toNat)*sh.length<=(af (code.den ρ)).length*sh.length:=Tp _ (by omega)
    rw[s8]at this
    omega
   have hst:=K3 (P:=P) (m b) ((ro.den ρ).toNat*sh.length) bY.1 fz kind (lP ky.cells (len.den ρ).toNat).toList 0 cells w bJ p1 rm (by rw[mK];exact Jb)
   rw[mv,mK,ZT ea mF ed hle]at hst
   rw[zC]at hst
   rw[<-g6]at hst
   obtain⟨q,hq⟩:∃q,(len.den ρ).toNat=q+1:=⟨(len.den ρ).toNat-1,by omega⟩
   have Cs:∀w:ar,(zeroValue e).run P w= .ok ky w:=λw=>by simp[zeroValue,typeInfo,hi,nW]
   have hL:(ac3 #[t] o.type #[.slice (some ⟨m b,(ro.den ρ).toNat*sh.length,none⟩) (q+1) (cap.den ρ).toNat]).run P w= .ok (.tuple #[]) (w.setRow (m b) (bf sh (af (code'.den ah))++post).toArray):=by
    rw[hq]at hst mK
    have P2:(storeCells ⟨m b,(ro.den ρ).toNat*sh.length,none⟩ (lP ky.cells (q+1)).toList 0).run P w= .ok () (w.setRow (m b) (bf sh (af (code'.den ah))++post).toArray):=by rw[mK];exact hst
    simp[ac3,eH (gg he),Cs,P2]
   rw[hq]at bP
   unfold mw
   have hex:execOp a.eval o=(do pure (kx (<-ac3 #[t] o.type #[a.eval x]))):=by
    simp[execOp,ho,resolve,gP,a1,a2,invoke,builtin]
   simp only[hex,bP,gY,hL,gH,iw]
   refine hk n' ah m _ _ G _ _ ⟨hn,ha,by rw[iY];exact br _,λ_ _=>rfl⟩ (eu.refl _ _) ⟨?_,by rw[put_defers];exact h.d,hR.b.set (λy hy=>by
    simp at hy;subst hy
    exact⟨⟨e7.1.1.mono hn,g1,e7.1.2.2.mono hn⟩,g2,by rw[d2];exact e7.2.2⟩),mS⟩ ai
   rw[iY]
   exact dX.put hR.t o.dst (by intro x hx;simp at hx) rfl
 ·rename_i gP
  split at bI
  rotate_left
  ·cases bI
  rename_i x y t t' fk l8
  have hx:=cC h.t x
  have hy:=cC h.t y
  split at bI
  rotate_left
  ·rename_i b a7 cm ro len cap e hv iR he
   rw[hv]at hx
   rw[iR]at hy
   split at bI
   rotate_left
   ·cases bI
   rename_i s hs
   simp only[aQ]at bI
   subst bI
   have a1:c.args=#[x,y]:=by rw[<-jF (xs:=c.args),fk]
   have a2:c.argTypes=#[t,t']:=by rw[<-jF (xs:=c.argTypes),l8]
   have np:(A.sl b a7 cm ro len cap).ok n bl.length ρ:=hx.1
   obtain⟨ptr,e1,e2,bN⟩:=p4 (m:=m) np
   have db:a.eval x=(A.sl b a7 cm ro len cap).den ρ m:=hx.2
   rw[e1]at db
   have sA:a.eval y= .slice none 0 0:=hy.2
   obtain⟨Et,TE,Mg,bP⟩:∃A B C,a.eval x= .slice A B C:=⟨_,_,_,db⟩
   have hL:(yv #[t,t'] o.type #[.slice Et TE Mg,.slice none 0 0]).run P w= .ok (goInt 0) w:=by
    cases Et<;>simp[yv,eH (gg he),Tm,im hs,HT,storeCells]
   unfold mw
   have hex:execOp a.eval o=(do pure (kx (<-yv #[t,t'] o.type #[a.eval x,a.eval y]))):=by
    simp[execOp,ho,resolve,gP,a1,a2,invoke,builtin]
   simp only[hex,bP,sA,gY,hL,gH,iw]
   exact hk n ρ m _ _ G _ _ (dO.refl _ _ _ _) (eu.refl _ _) ⟨dX.put (v:= .w (.one (.int .i64 ⟨.const 0,0,0⟩))) h.t o.dst ⟨aa.cT _ _,by simp[aa.aW],by simp[aa.aW]⟩ rfl,by rw[put_defers];exact h.d,h.b,h.bx⟩ ai
  ·cases bI
  rename_i b a7 cm ro len cap b2 Sb o2 fP jl BD e hv iR he
  rw[hv]at hx
  rw[iR]at hy
  split at bI
  rotate_left
  ·cases bI
  rename_i sh off code dL kind bY RV Q4 gy u1 vH ID s hbl qv hs
  cases hc:(bB 2 kind&&cf 0 vH&&aa.beq cm off&&aa.beq o2 Q4&&nu sh RV&&aG a7 sh.length&&aG Sb sh.length&&aG s sh.length&&mm sh)with
  |false=>rw[hc]at bI;cases bI
  |true=>
   rw[hc]at bI
   simp only[cond_true,aQ]at bI
   subst bI
   simp only[aS]at hc
   obtain⟨⟨⟨⟨⟨⟨⟨⟨c1,c2⟩,c3⟩,c4⟩,c5⟩,hQ⟩,ox⟩,nN⟩,q9⟩:=hc
   have c1:=eC c1;have c2:0<vH:=eC c2;have c3:=aa.beq_eq c3;have c4:=aa.beq_eq c4;have c5:=vZ c5;have hQ:=bG hQ;have ox:=bG ox;have nN:=bG nN
   subst c3;subst c4;subst c5;subst hQ;subst ox;subst nN
   have a1:c.args=#[x,y]:=by rw[<-jF (xs:=c.args),fk]
   have a2:c.argTypes=#[t,t']:=by rw[<-jF (xs:=c.argTypes),l8]
   have np:(A.sl b sh.length cm ro len cap).ok n bl.length ρ:=hx.1
   have Y1:(A.sl b2 sh.length o2 fP jl BD).ok n bl.length ρ:=hy.1
   obtain⟨ptr,e1,e2,bN⟩:=p4 (m:=m) np
   obtain⟨ato,f1,f2,f3⟩:=p4 (m:=m) Y1
   have db:a.eval x=(A.sl b sh.length cm ro len cap).den ρ m:=hx.2
   have sA:a.eval y=(A.sl b2 sh.length o2 fP jl BD).den ρ m:=hy.2
   rw[e1]at db
   rw[f1]at sA
   obtain⟨x1,⟨x2,gF,gq,gG⟩,⟨gV,ka,lH,lI⟩,⟨mq,kT⟩,fQ,hV⟩:=np
   obtain⟨iq,⟨qU,yl,AY,AZ⟩,⟨A0,A1,A2,A3⟩,⟨DT,DV⟩,AX,DU⟩:=Y1
   have e7:(A.rows sh cm code dL kind).ok n bl.length ρ:=h.b _ (eh hbl) _ (by simp)
   have aiL:(A.rows sh o2 gy u1 vH).ok n bl.length ρ:=h.b _ (eh qv) _ (by simp)
   have gj:=abB q9
   have hcs:aw S L (bind (fy 80 [code,ro,len]) λ_=>bind (fy 22 [gy,fP,fP.add jl]) λ_=>bind (eT 62 [jl,len] 0 9223372036854775807) λq=>bind (eT 22 [gy,fP,fP.add q] 0 bK) λsrc=>bind (eT 63 [code,ro,src] 0 bK) λcode'=>pure (q,code')) n ρ λah n' p=>(p.1.bk n'/\p.2.bk n')/\(0<=p.2.den ah/\p.2.den ah<=bK)/\(0<=ro.den ρ/\0<=len.den ρ/\ro.den ρ+len.den ρ<=(af (code.den ρ)).length)/\
    p.1.den ah=min (jl.den ρ) (len.den ρ)/\(0<=fP.den ρ/\fP.den ρ+jl.den ρ<=(af (gy.den ρ)).length)/\af (p.2.den ah)=(af (code.den ρ)).take (ro.den ρ).toNat++((af (gy.den ρ)).drop (fP.den ρ).toNat).take (min (jl.den ρ) (len.den ρ)).toNat++(af (code.den ρ)).drop ((ro.den ρ).toNat+(((af (gy.den ρ)).drop (fP.den ρ).toNat).take (min (jl.den ρ) (len.den ρ)).toNat).length)/\∀r∈af (gy.den ρ),cl sh r:=by
    refine gM λjk=>gM λhk2=>?_
    have jk:0<=ro.den ρ/\0<=len.den ρ/\ro.den ρ+len.den ρ<=(af (code.den ρ)).length:=jk
    have hk2:0<=fP.den ρ/\fP.den ρ<=(fP.add jl).den ρ/\(fP.add jl).den ρ<=(af (gy.den ρ)).length:=hk2
    rw[aa.den_add]at hk2
    obtain⟨qB,jx⟩:=at0 h.bx hbl c1 e7.2.2.2 gj
    have Gh:∀r∈af (gy.den ρ),cl sh r:=by
     rcases jX (u1.den ρ) 0 with gB|gB
     ·have:=(h.bx.rws b2 sh o2 gy u1 vH ID qv (by omega)).1 gB
      rw[this];intro _ h;simp at h
     ·obtain⟨_,_,_,_,_,⟨_,b5⟩,_⟩:=(h.bx.rws b2 sh o2 gy u1 vH ID qv (by omega)).2 gB
      exact b5.1
    have Cj:au 62 ([jl,len].map (·.den ρ))=min (jl.den ρ) (len.den ρ):=rfl
    refine(fT (by rw[Cj];omega) (by rw[Cj];omega)).bind λaE n1 q fq dP ⟨bq,bE⟩=>?_
    rw[Cj]at bE
    have b1:gy.den aE=gy.den ρ:=aa.bR dP aiL.1.2.1
    have r5:fP.den aE=fP.den ρ:=aa.bR dP yl
    have hf:au 22 ([gy,fP,fP.add q].map (·.den aE))=rc (((af (gy.den ρ)).drop (fP.den ρ).toNat).take (min (jl.den ρ) (len.den ρ)).toNat):=by
     simp only[cI,eo,au,aa.den_add,b1,r5,bE]
     congr 2;omega
    have fO:rc (((af (gy.den ρ)).drop (fP.den ρ).toNat).take (min (jl.den ρ) (len.den ρ)).toNat)<=bK:=oX (by
     simp only[m8,q2]
     have:(af (code.den ρ)).length<=maxLen:=qB
     omega) λr hr=>(Gh r (oo (kv hr))).row q9
    refine(fT (by rw[hf];exact gm _) (by rw[hf];exact fO)).bind λbT en src eN dD ⟨s1,s2⟩=>?_
    rw[hf]at s2
    have XO:=dP.trans dD fq
    have O3:au 63 ([code,ro,src].map (·.den bT))=rc ((af (code.den ρ)).take (ro.den ρ).toNat++((af (gy.den ρ)).drop (fP.den ρ).toNat).take (min (jl.den ρ) (len.den ρ)).toNat++(af (code.den ρ)).drop ((ro.den ρ).toNat+(((af (gy.den ρ)).drop (fP.den ρ).toNat).take (min (jl.den ρ) (len.den ρ)).toNat).length)):=by
     simp only[cI,eo,au,aa.bR XO e7.1.2.1,aa.bR XO gF,s2,ee]
    have mF:∀r∈((af (gy.den ρ)).drop (fP.den ρ).toNat).take (min (jl.den ρ) (len.den ρ)).toNat,cl sh r:=λr hr=>Gh r (oo (kv hr))
    have XU:rc ((af (code.den ρ)).take (ro.den ρ).toNat++((af (gy.den ρ)).drop (fP.den ρ).toNat).take (min (jl.den ρ) (len.den ρ)).toNat++(af (code.den ρ)).drop ((ro.den ρ).toNat+(((af (gy.den ρ)).drop (fP.den ρ).toNat).take (min (jl.den ρ) (len.den ρ)).toNat).length))<=bK:=oX (by
     rw[QT (by simp only[m8,q2];omega)];exact qB) λr hr=>(Ko jx mF r hr).row q9
    refine(fT (by rw[O3];exact gm _) (by rw[O3];exact XU)).bind λgv mh code' sx qu ⟨k1,k2⟩=>aw.pure ?_
    rw[O3]at k2
    refine⟨⟨bq.mono (iL eN sx),k1⟩,by rw[k2];exact⟨gm _,XU⟩,jk,?_,⟨hk2.1,hk2.2.2⟩,by rw[k2,ee],Gh⟩
    rw[aa.bR (dD.trans qu eN) bq,bE]
   obtain⟨ah,n',p,hn,ha,⟨⟨g1,kk⟩,g2,g3,g4,g5,g6,Gh⟩,ai⟩:=hcs G (λp n=>k n (fr tm o.dst (.w (.one (.int .i64 ⟨p.1,0,9223372036854775807⟩)))) (df bl b ([.rows sh cm p.2 dL kind],bY))) ai
   have hR:=h.later hn ha
   have d1:code.den ah=code.den ρ:=aa.bR ha e7.1.2.1
   have d2:dL.den ah=dL.den ρ:=aa.bR ha e7.1.2.2
   rcases jX 0 (len.den ρ)with PK|PK
   rotate_left
   ·have hl0:len.den ρ=0:=by omega
    have xl:p.1.den ah=0:=by rw[g4];omega
    have jO:min (jl.den ρ) (len.den ρ)=0:=by omega
    have Co:af (p.2.den ah)=af (code.den ah):=by
     rw[g6,jO,d1];simp
    obtain⟨Et,TE,Mg,bP⟩:∃A B C,a.eval x= .slice A B C/\B=0:=⟨_,_,_,db,by rw[hl0];rfl⟩
    obtain⟨bP,rfl⟩:=bP
    obtain⟨Mc,TF,U6,hY⟩:∃A B C,a.eval y= .slice A B C:=⟨_,_,_,sA⟩
    have Jy:(HT sh.length 0 (.slice Mc TF U6)).run P w= .ok #[] w:=by
     cases Mc<;>simp[HT,loadCells,loadCellsFrom]
    have hL:(yv #[t,t'] o.type #[.slice Et 0 Mg,.slice Mc TF U6]).run P w= .ok (goInt 0) w:=by
     cases Et<;>simp[yv,eH (gg he),Tm,im hs,Jy,storeCells]
    unfold mw
    have hex:execOp a.eval o=(do pure (kx (<-yv #[t,t'] o.type #[a.eval x,a.eval y]))):=by
     simp[execOp,ho,resolve,gP,a1,a2,invoke,builtin]
    simp only[hex,bP,hY,gY,hL,gH,iw]
    refine hk n' ah m _ _ G _ _ ⟨hn,ha,by rw[iY];exact br _,λ_ _=>rfl⟩ (eu.refl _ _) ⟨?_,by rw[put_defers];exact h.d,hR.b.set (λy hy=>by
     simp at hy;subst hy
     exact⟨⟨e7.1.1.mono hn,kk,e7.1.2.2.mono hn⟩,g2,by rw[d2];exact e7.2.2⟩),hR.bx.atC hbl Co⟩ ai
    rw[iY]
    refine dX.put hR.t o.dst ⟨g1,by show(0:Int)<=p.1.den ah;omega,by show p.1.den ah<=9223372036854775807;omega⟩ ?_
    show goInt 0=s4 .i64 (p.1.den ah)
    rw[xl];rfl
   have c0:0<=dL.den ρ:=by
    rcases jX (dL.den ρ) 0 with gB|gB
    ·have:=(h.bx.rws b sh cm code dL kind bY hbl (by omega)).1 gB
     rw[this]at g3;simp at g3;omega
    ·exact gB
   generalize hq:(min (jl.den ρ) (len.den ρ)).toNat=q at*
   have mF:∀r∈((af (gy.den ρ)).drop (fP.den ρ).toNat).take q,cl sh r:=λr hr=>Gh r (oo (kv hr))
   have pS:(((af (gy.den ρ)).drop (fP.den ρ).toNat).take q).length=q:=by simp only[m8,q2];omega
   have hle:(ro.den ρ).toNat+(((af (gy.den ρ)).drop (fP.den ρ).toNat).take q).length<=(af (code.den ρ)).length:=by rw[pS];omega
   have nU:∀r∈af (code.den ρ),cl sh r:=(K1 h.bx hbl c1 c0 e7.2.2.2 gj).2
   obtain⟨cells,post,fz,p1,bJ,cP,ea,ed,gf,mS⟩:=hR.bx.rewrite (code':=p.2) hbl c1 (by rw[d2];exact c0) (by rw[g6];exact Ko nU mF) (by rw[g6,d1];exact QT hle)
   rw[d1]at ea ed
   have cP:cm.den ρ=0:=by rw[<-aa.bR ha x2];exact cP
   have FI:0<=cap.den ρ:=by
    rcases jX (cap.den ρ) 0 with gB|gB
    ·have:=fQ gB;omega
    ·exact gB
   have bP:a.eval x= .slice (some ⟨m b,(ro.den ρ).toNat*sh.length,none⟩) (len.den ρ).toNat (cap.den ρ).toNat:=by
    rw[db,bN FI,if_neg (by omega),cP];simp
   have iP:(bf sh (((af (gy.den ρ)).drop (fP.den ρ).toNat).take q)).length=q*sh.length:=by rw[kj mF,pS]
   have OY:=congrArg lN ed
   simp only[dN,wz,kj ea]at OY
   have rm:(ro.den ρ).toNat*sh.length+0+(bf sh (((af (gy.den ρ)).drop (fP.den ρ).toNat).take q)).length<=cells.size:=by
    rw[iP]
    have:((ro.den ρ).toNat+q)*sh.length<=(af (code.den ρ)).length*sh.length:=Tp _ (by omega)
    rw[s8]at this
    omega
   have hst:=K3 (P:=P) (m b) ((ro.den ρ).toNat*sh.length) bY.1 fz kind (bf sh (((af (gy.den ρ)).drop (fP.den ρ).toNat).take q)) 0 cells w bJ p1 rm Jb
   rw[mv,ZT ea mF ed hle]at hst
   rw[<-g6]at hst
   have alF:Nat.min (jl.den ρ).toNat (len.den ρ).toNat=q:=by show min _ _=q;omega
   have Jy:(HT sh.length q (a.eval y)).run P w= .ok (bf sh (((af (gy.den ρ)).drop (fP.den ρ).toNat).take q)).toArray w:=by
    rcases jX (BD.den ρ) 0 with gB|gB
    ·have h0:=AX gB
     have xl:q=0:=by omega
     rw[sA,f2 gB,xl,uM]
     have:=run_firstCells_none (P:=P) w sh.length 0 (jl.den ρ).toNat (if BD.den ρ<0 then 0 else(BD.den ρ).toNat)
     simpa [bf]using this
    ·rw[sA,f3 gB]
     have va:0<=u1.den ρ∨q=0:=by
      rcases jX (u1.den ρ) 0 with sj|sj
      ·have:=(h.bx.rws b2 sh o2 gy u1 vH ID qv (by omega)).1 sj
       rw[this]at g5;simp at g5;right;omega
      ·exact .inl sj
     refine run_firstCells_some w sh.length q _ _ _ _ iP λj v hj=>?_
     rcases va with va|va
     ·obtain⟨_,aA3,iZ,aA9,bq,⟨bE,b5⟩,_⟩:=(h.bx.rws b2 sh o2 gy u1 vH ID qv (by omega)).2 va
      have:=(b5.sub (fP.den ρ).toNat q (by omega)).flat hj
      rw[iy]
      simp only[jW,bq,rR,qb,if_false]
      exact this
     ·rw[va,uM]at hj;simp[bf]at hj
   obtain⟨anI,aA2,hY⟩:∃B C,a.eval y= .slice ato B C:=⟨_,_,sA⟩
   have F8:anI=(jl.den ρ).toNat:=by rw[sA]at hY;injection hY with _ h2 _;exact h2.symm
   subst F8
   have hL:(yv #[t,t'] o.type #[.slice (some ⟨m b,(ro.den ρ).toNat*sh.length,none⟩) (len.den ρ).toNat (cap.den ρ).toNat,a.eval y]).run P w= .ok (goInt q) (w.setRow (m b) (bf sh (af (p.2.den ah))++post).toArray):=by
    rw[hY]at Jy⊢
    simp[yv,eH (gg he),Tm,im hs,alF,Jy,hst]
   unfold mw
   have hex:execOp a.eval o=(do pure (kx (<-yv #[t,t'] o.type #[a.eval x,a.eval y]))):=by
    simp[execOp,ho,resolve,gP,a1,a2,invoke,builtin]
   simp only[hex,bP,gY,hL,gH,iw]
   refine hk n' ah m _ _ G _ _ ⟨hn,ha,by rw[iY];exact br _,λ_ _=>rfl⟩ (eu.refl _ _) ⟨?_,by rw[put_defers];exact h.d,hR.b.set (λy hy=>by
    simp at hy;subst hy
    exact⟨⟨e7.1.1.mono hn,kk,e7.1.2.2.mono hn⟩,g2,by rw[d2];exact e7.2.2⟩),mS⟩ ai
   rw[iY]
   refine dX.put hR.t o.dst ⟨g1,by show(0:Int)<=p.1.den ah;rw[g4];omega,by show p.1.den ah<=9223372036854775807;rw[g4];omega⟩ ?_
   show goInt q=s4 .i64 (p.1.den ah)
   have lp:((q:Nat):Int)=p.1.den ah:=by rw[g4,<-hq];omega
   rw[<-lp];rfl
 ·cases bI
end
end Go.bo
namespace Go.bo
open M
section
variable {S:Nat->List Int->List Int->Prop} {L:V->Env->Prop} {w0:dK} {P:bH} {gl:ei} {cal:eI} {inl:js}
theorem cond_holds {c:Bool} {t:T} {G:dT} {ρ:Env} (h:(cond c t .stuck).holds S L G ρ):c=true/\t.holds S L G ρ:=by
 cases c with
 |true=>exact⟨rfl,h⟩
 |false=>exact h.elim
theorem auN {n:Nat} {ρ:Env} {m:Nat->Nat} {tm:List V} {bl:List ax} {a:Act} {w:ar} {G:dT} {o:Oper} {K:Act->ar->Prop} {Q:Exit->Act->ar->Prop} {k:gi}
 (cQ:fS S P gl w0 cal) (hg:fg gl w0) (j3:m9 S L w0 P inl) (h:R w0 n ρ m tm bl a w) (ai:(R6 P gl cal inl o n tm bl k).holds S L G ρ) (hk:j0 S L w0 k n bl.length ρ m G K):o.wp P a w K Q:=by
 unfold R6 at ai
 split at ai
 ·rename_i t ho
  cases hz:mr P t with
  |none=>simp[hz,T.holds]at ai
  |some cs=>
   simp only[hz]at ai
   unfold mr at hz
   cases hi:P.info? t with
   |none=>simp[hi]at hz
   |some i=>
    cases nW:i.zero with
    |none=>simp[hi,nW]at hz
    |some z=>
     simp only[hi,nW]at hz
     have hc:=u4 hz n bl.length ρ m
     obtain⟨kK,ai⟩:=cond_holds ai
     have hw:=hk n ρ _ _ _ G _ _ (dO.alloc n ρ m bl (cs,(t,false)) w.heap.size) (eu.refl _ _) (h.alloc (t:=t) hc.1 o.dst kK) ai
     unfold mw
     simp only[execOp,ho,aAp,gY,zeroValue,typeInfo,run_program,gH,hi,nW,iw,newVar,newRow,run_newObj]
     have e:(cs.map (A.den ρ m)).toArray=z.cells:=by rw[hc.2]
     rw[e]at hw
     exact hw
 ·rename_i t x ho
  have hx:=cC h.t x
  split at ai
  ·rename_i u hu
   rw[hu]at hx
   have db:a.eval x=u.den ρ m:=hx.2
   obtain⟨kK,ai⟩:=cond_holds ai
   have hw:=hk n ρ _ _ _ G _ _ (dO.alloc n ρ m bl (u.cells,(t,false)) w.heap.size) (eu.refl _ _) (h.alloc (t:=t) (W.BF hx.1) o.dst kK) ai
   unfold mw
   simp only[execOp,ho,Instr.box,gY,gH,iw,newVar,newRow,run_newObj,db]
   rw[<-W.IL u hx.1]at hw
   exact hw
  ·exact ai.elim
 ·rename_i t len parts ho
  split at ai
  ·rename_i cs e o8
   obtain⟨g1,g2⟩:=afc (m:=m) (vals:=parts.map λ(i,x)=>(i,a.eval x)) o8 (by
    rw[s7]
    generalize parts.toList=cx
    induction cx with
    |nil=>exact trivial
    |cons p r ih=>exact⟨⟨rfl,cC h.t p.2⟩,ih⟩)
   obtain⟨kK,ai⟩:=cond_holds ai
   have hR:=R.row (t:=e) (cs:=cs) (ex:=[]) (open_:=false) h g1 (λ_=>rfl) kK o.dst (v:= .w (.one (.slc bl.length 0 len len))) (x:= .slice (some ⟨w.heap.size,0,none⟩) len len) (by simp[V.ok,W.ok,A.ok]) (by
    show L3 (some ⟨w.heap.size,0,none⟩) _ _=_
    simp[W.den,A.den,lF])
   have hw:=hk n ρ _ _ _ G _ _ (dO.alloc n ρ m bl (cs,(e,false)) w.heap.size) (eu.refl _ _) hR ai
   rw[h9]at hw
   unfold mw
   simp only[execOp,ho,gY,g2,gH,iw]
   exact hw
  ·exact ai.elim
 ·rename_i t p x ho
  have hp:=cC h.t p
  have hx:=cC h.t x
  split at ai
  ·rename_i b off u PO vm
   rw[PO]at hp
   rw[vm]at hx
   have PM:a.eval p= .pointer (some ⟨m b,off,none⟩):=hp.2
   have db:a.eval x=u.den ρ m:=hx.2
   split at ai
   ·rename_i cs bY s hbl hs
    cases hc:(aG u.cells.length s&&bB (off+s) cs.length&&cf 0 s&&bV cs&&bV (cs.take off++u.cells++cs.drop (off+s)))with
    |false=>rw[hc]at ai;exact ai.elim
    |true=>
     simp only[hc,cond_true]at ai
     simp only[aS]at hc
     obtain⟨⟨hc,pb⟩,mG⟩:=hc
     have e1:=bG hc.1.1
     have e2:=eC hc.1.2
     have bN:=qk hc.2
     subst e1
     obtain⟨w',hL,vj⟩:=h.bx.store h.b (W.BF hx.1) hbl e2 bN pb mG t hs (u.den ρ m) (W.IL u hx.1)
     have bm:∀a∈cs.take off++u.cells++cs.drop (off+u.cells.length),A.ok n bl.length ρ a:=λa ha=>by
      have hcs:=h.b _ (eh hbl)
      rcases List.mem_append.1 ha with ha|ha
      ·rcases List.mem_append.1 ha with ha|ha
       ·exact hcs a (kv ha)
       ·exact W.BF hx.1 a ha
      ·exact hcs a (oo ha)
     unfold mw
     simp only[execOp,ho,gY,PM,db,hL,gH,iw]
     refine hk n ρ m _ _ G _ w' ⟨br _,agree.refl _ _,by rw[iY];exact br _,λ_ _=>rfl⟩ (eu.refl _ _) ⟨?_,by rw[put_defers];exact h.d,h.b.set bm,vj⟩ ai
     rw[iY]
     exact dX.put h.t o.dst (by intro x hx;simp at hx) rfl
   ·exact ai.elim
  ·exact ai.elim
 ·rename_i c ho
  split at ai
  ·rename_i f hc
   split at ai
   ·exact KR cQ hg h ai hk
   ·have oC:∀v∈c.args.toList.map (cg tm),V.ok n bl.length ρ v:=λv hv=>by
     obtain⟨x,_,rfl⟩:=List.mem_map.1 hv
     exact(cC h.t x).1
    have hr:=j3 f n _ bl _ G ρ m w _ (λe n8=>match e with
     | .returned v=>K (a.put o.dst v) n8
     | .panicked chain=>Q (.panic chain) a n8
     | .outgrown=>LetsOut Q) h.b h.bx oC (Ic (xs:=c.args.toList) h.t) ai (by
     intro n' v a8 dU ah m' w' val h1 h2 h3 h4 h5 h6 h7
     exact hk n' ah m' _ a8 dU _ w' h1 h2 ⟨dX.put (h.t.ext h1.ha h1.hn h1.hb h1.hm) o.dst h3 h4,by rw[put_defers];exact h.d,h5,h6⟩ h7)
    have ha:(c.args.toList.map a.eval).toArray=c.args.map a.eval:=by rw[<-s7]
    rw[ha]at hr
    unfold mw
    rw[RL hc o ho,hr.1]
    refine hr.2.mono λe n8 he=>?_
    cases e<;>exact he
  ·rename_i x hc
   split at ai
   ·exact KR cQ hg h ai hk
   split at ai
   ·rename_i f iA akr
    have hx:=cC h.t (.tmp x)
    obtain⟨hx1,db⟩:(∀y∈iA,A.ok n bl.length ρ y)/\a.eval (.tmp x)= .func (.func f) #[] (iA.map (A.den ρ m)).toArray:=afS akr hx.1 hx.2
    have oC:∀v∈c.args.toList.map (cg tm)++iA.map (λy=>V.w (.one y)),V.ok n bl.length ρ v:=λv hv=>by
     rcases List.mem_append.1 hv with hv|hv
     ·obtain⟨x,_,rfl⟩:=List.mem_map.1 hv
      exact(cC h.t x).1
     ·obtain⟨y,hy,rfl⟩:=List.mem_map.1 hv
      exact hx1 y hy
    have hrel:eD ρ m (c.args.toList.map (cg tm)++iA.map λy=>V.w (.one y)) (c.args.toList.map a.eval++iA.map (A.den ρ m)):=by
     generalize c.args.toList=l
     induction l with
     |nil=>
      simp only[eo,jr]
      generalize iA=q
      induction q with
      |nil=>trivial
      |cons y r ih=>exact⟨rfl,ih⟩
     |cons x r ih=>exact⟨(cC h.t x).2,ih⟩
    have hr:=j3 f n _ bl _ G ρ m w _ (λe n8=>match e with
     | .returned v=>K (a.put o.dst v) n8
     | .panicked chain=>Q (.panic chain) a n8
     | .outgrown=>LetsOut Q) h.b h.bx oC hrel ai (by
     intro n' v a8 dU ah m' w' val h1 h2 h3 h4 h5 h6 h7
     exact hk n' ah m' _ a8 dU _ w' h1 h2 ⟨dX.put (h.t.ext h1.ha h1.hn h1.hb h1.hm) o.dst h3 h4,by rw[put_defers];exact h.d,h5,h6⟩ h7)
    have hex:execOp a.eval o=callFunc f (c.args.toList.map a.eval++iA.map (A.den ρ m)).toArray:=by
     have e:(c.args.toList.map a.eval++iA.map (A.den ρ m)).toArray=#[]++c.args.map a.eval++(iA.map (A.den ρ m)).toArray:=by
      apply L1
      simp
     rw[e]
     simp only[execOp,ho,resolve,hc,db,Deferred.ofValue,pure_bind,invoke]
    unfold mw
    rw[hex,hr.1]
    refine hr.2.mono λe n8 he=>?_
    cases e<;>exact he
   ·exact ai.elim
  ·rename_i hc
   split at ai
   ·rename_i s x t t' fk l8
    exact aeN h ho hc fk l8 ai hk
   ·exact ai.elim
  ·exact KR cQ hg h ai hk
 ·exact KR cQ hg h ai hk
theorem abL {n:Nat} {ρ:Env} {m:Nat->Nat} {tm:List V} {bl:List ax} {a:Act} {w:ar} {G:dT} {o:Oper} {K:Act->ar->Prop} {Q:Exit->Act->ar->Prop} {k:gi}
 (cQ:fS S P gl w0 cal) (hg:fg gl w0) (j3:m9 S L w0 P inl) (h:R w0 n ρ m tm bl a w) (ai:(Le P gl cal inl o n tm bl k).holds S L G ρ) (hk:j0 S L w0 k n bl.length ρ m G K):o.wp P a w K Q:=by
 unfold Le at ai
 split at ai
 ·rename_i t ht
  exact auO h ht ai hk
 ·split at ai
  ·rename_i t ht
   exact auQ h ht ai hk
  ·split at ai
   ·rename_i t ht
    exact auR h ht ai hk
   ·exact auN cQ hg j3 h ai hk
theorem VU {ρ:Env}:∀{b:bd} {v:Bool} {r:aa×Option Int×Option Int},b.den ρ=v->q8 b v=some r->(∀c,r.2.1=some c->c<=r.1.den ρ)/\(∀c,r.2.2=some c->r.1.den ρ<=c)
 | .le p q,true,r,hb,h| .le p q,false,r,hb,h| .lt p q,true,r,hb,h| .lt p q,false,r,hb,h=>by
  simp only[bd.den,decide_eq_true_eq,decide_eq_false_iff_not]at hb
  simp only[q8]at h
  split at h
  ·rename_i c h1 h2
   have e:=aa.ia h1 (ρ:=ρ)
   simp only[aQ]at h
   subst h
   constructor<;>intro c' hc<;>simp only[aQ,reduceCtorEq]at hc<;>subst hc<;>simp only<;>omega
  ·rename_i c h1 h2
   have e:=aa.ia h2 (ρ:=ρ)
   simp only[aQ]at h
   subst h
   constructor<;>intro c' hc<;>simp only[aQ,reduceCtorEq]at hc<;>subst hc<;>simp only<;>omega
  ·cases h
 | .not b,v,r,hb,h=>by
  simp only[q8]at h
  refine VU (b:=b) (v:= !v) ?_ h
  simp only[bd.den]at hb
  rw[<-hb,Bool.not_not]
 | .lit _,_,_,_,h=>by simp[q8]at h
 | .eq _ _,_,_,_,h=>by simp[q8]at h
 | .and _ _,_,_,_,h=>by simp[q8]at h
 | .iff _ _,_,_,_,h=>by simp[q8]at h
theorem af1 {n nb:Nat} {ρ:Env} {m:Nat->Nat} {b:bd} {v:Bool} (hb:b.den ρ=v) (u:V) (hu:u.ok n nb ρ):(IU b v (q8 b v) u).ok n nb ρ/\∀x,u.rel ρ m x->(IU b v (q8 b v) u).rel ρ m x:=by
 unfold IU
 split
 ·rename_i e
  cases hc:bd.beq e b with
  |false=>simp only[cond_false];exact⟨hu,λ_ h=>h⟩
  |true=>
   have:=bd.beq_eq hc
   subst this
   simp only[cond_true]
   refine⟨trivial,λx hx=>?_⟩
   simp only[V.rel,W.den,A.den,bd.den]at hx⊢
   rw[hx,hb]
 ·rename_i k y
  cases hr:q8 b v with
  |none=>exact⟨hu,λ_ h=>h⟩
  |some r=>
   obtain⟨l,lo,hi⟩:=r
   simp only
   cases hc:aa.beq y.l l with
   |false=>simp only[cond_false];exact⟨hu,λ_ h=>h⟩
   |true=>
    have:=aa.beq_eq hc
    have hs:=VU hb hr
    have hy:y.ok n ρ:=hu
    simp only[cond_true]
    have b1:Da y.lo lo<=y.l.den ρ:=by
     unfold Da
     cases lo with
     |none=>exact hy.2.1
     |some c=>
      simp only
      have:=hs.1 c rfl
      have:=hy.2.1
      cases decide (y.lo<=c)with
      |true=>simp only[cond_true];rw[‹y.l=l›];assumption
      |false=>simp only[cond_false];assumption
    have b2:y.l.den ρ<=GJ y.hi hi:=by
     unfold GJ
     cases hi with
     |none=>exact hy.2.2
     |some c=>
      simp only
      have:=hs.2 c rfl
      have:=hy.2.2
      cases decide (c<=y.hi)with
      |true=>simp only[cond_true];rw[‹y.l=l›];assumption
      |false=>simp only[cond_false];assumption
    cases hd:decide (Da y.lo lo=GJ y.hi hi)with
    |true=>
     simp only[cond_true]
     have hd:=of_decide_eq_true hd
     refine⟨bF.nd _ _ _,λx h=>?_⟩
     have h:x= .int k (y.l.den ρ):=h
     rw[h]
     simp only[V.rel,W.den,A.den,bF.const,aa.aW]
     congr 1;omega
    |false=>simp only[cond_false];exact⟨⟨hy.1,b1,b2⟩,λx h=>h⟩
 ·exact⟨hu,λ_ h=>h⟩
theorem DI {n nb:Nat} {ρ:Env} {m:Nat->Nat} {b:bd} {v:Bool} (hb:b.den ρ=v) {tm:List V} {xs:Array aF} (h:dX n nb ρ m tm xs):dX n nb ρ m (qS b v tm) xs:=by
 refine⟨by simp[qS,h.1],λi u hu=>?_⟩
 simp only[qS,nE,Option.map_eq_some_iff]at hu
 obtain⟨u0,h0,rfl⟩:=hu
 obtain⟨h1,x,h2,h3⟩:=h.2 i u0 h0
 have:=af1 (m:=m) hb u0 h1
 exact⟨this.1,x,h2,this.2 x h3⟩
theorem Fe {n nb:Nat} {ρ:Env} {m:Nat->Nat} {tm:List V} {a:Act} {G:dT} {ops:Array Oper} {o:Oper} {yes no:List V->T} (ht:dX n nb ρ m tm a.tmps) (h:(y8 ops tm o yes no).holds S L G ρ):
 ∃ch,dX n nb ρ m ch a.tmps/\((uK o (yielded ops a.tmps)=true/\(yes ch).holds S L G ρ)∨(uK o (yielded ops a.tmps)=false/\(no ch).holds S L G ρ)):=by
 unfold y8 at h
 unfold uK
 cases hgd:o.guard with
 |none=>simp only[hgd]at h;exact⟨tm,ht,.inl ⟨rfl,h⟩⟩
 |some N8=>
  obtain⟨g,want⟩:=N8
  simp only[hgd]at h⊢
  unfold yielded
  cases hd:(ops[g]?).bind (·.dst)with
  |none=>simp[hd,T.holds]at h
  |some d=>
   simp only[hd]at h
   simp only[Option.bind_some]
   cases P4:tm[d]? with
   |none=>simp[P4,T.holds]at h
   |some v=>
    obtain⟨_,x,hx,hr⟩:=ht.2 d v P4
    simp only[P4]at h
    revert hr h
    cases v with
    |any=>intro hr h;exact h.elim
    |n2 _ _ _=>intro hr h;exact h.elim
    |oy _ _=>intro hr h;exact h.elim
    |fY l=>
     cases l with
     |nil=>
      intro hr h
      have hr:x= .tuple #[]:=hr
      subst hr
      simp only[hx]
      exact⟨tm,ht,.inr ⟨by simp,h⟩⟩
     |cons _ _=>intro hr h;exact h.elim
    |w y=>
     cases y with
     |agg l=>intro hr h;exact h.elim
     |one c=>
      cases c with
      |bool b=>
       intro hr h
       have hr:x= .bool (b.den ρ):=hr
       subst hr
       simp only[hx]
       have key:∀b:bd,(T.nM b (cond want (yes (qS b true tm)) (no (qS b true tm))) (cond want (no (qS b false tm)) (yes (qS b false tm)))).holds S L G ρ->∃ch,dX n nb ρ m ch a.tmps/\(((some (b.den ρ)==some want)=true/\(yes ch).holds S L G ρ)∨((some (b.den ρ)==some want)=false/\(no ch).holds S L G ρ)):=λb hb=>by
        simp only[T.holds]at hb
        cases hq:b.den ρ with
        |true=>
         have:=hb.1 hq
         cases want with
         |true=>exact⟨_,DI hq ht,.inl ⟨by simp,this⟩⟩
         |false=>exact⟨_,DI hq ht,.inr ⟨by simp,this⟩⟩
        |false=>
         have:=hb.2 hq
         cases want with
         |true=>exact⟨_,DI hq ht,.inr ⟨by simp,this⟩⟩
         |false=>exact⟨_,DI hq ht,.inl ⟨by simp,this⟩⟩
       cases b with
       |lit v=>
        simp only[bd.den]
        cases hv:(v==want)with
        |true=>simp only[hv,cond_true]at h;exact⟨tm,ht,.inl ⟨by simpa using hv,h⟩⟩
        |false=>simp only[hv,cond_false]at h;exact⟨tm,ht,.inr ⟨by simpa using hv,h⟩⟩
       |eq _ _=>exact key _ h
       |lt _ _=>exact key _ h
       |le _ _=>exact key _ h
       |not _=>exact key _ h
       |and _ _=>exact key _ h
       |iff _ _=>exact key _ h
      |_=>intro hr h;exact h.elim
theorem R.skip {n:Nat} {ρ:Env} {m:Nat->Nat} {tm:List V} {bl:List ax} {a:Act} {w:ar} (h:R w0 n ρ m tm bl a w) (d:Option Tmp):R w0 n ρ m (fr tm d (.fY [])) bl (a.put d undef) w:=
 ⟨dX.put h.t d (by intro x hx;simp at hx) rfl,by rw[put_defers];exact h.d,h.b,h.bx⟩
theorem KA {ops:Array Oper} {Q:Exit->Act->ar->Prop} (cQ:fS S P gl w0 cal) (hg:fg gl w0) (j3:m9 S L w0 P inl):∀(l:List Oper) {n:Nat} {ρ:Env} {m:Nat->Nat} {tm:List V} {bl:List ax} {a:Act} {w:ar} {G:dT} {k:gi},
 R w0 n ρ m tm bl a w->(Dk P gl cal inl ops l n tm bl k).holds S L G ρ->j0 S L w0 k n bl.length ρ m G (Q .normal)->wpList P ops Q l a w
 |[],n,ρ,m,tm,bl,a,w,G,k,h,ai,hk=>hk n ρ m tm bl G a w (dO.refl _ _ _ _) (eu.refl _ _) h ai
 |o::r,n,ρ,m,tm,bl,a,w,G,k,h,ai,hk=>by
  unfold Dk at ai
  unfold wpList
  obtain⟨ch,ly,hgd⟩:=Fe h.t ai
  have h:R w0 n ρ m ch bl a w:=⟨ly,h.d,h.b,h.bx⟩
  rcases hgd with⟨hw,ai⟩|⟨hw,ai⟩
  ·rw[if_pos hw]
   refine .inl (abL cQ hg j3 h ai λn' ah m' ch a8 dU di w' h1 h2 h3 h4=>?_)
   exact KA cQ hg j3 r h3 h4 (hk.later h1 h2)
  ·rw[if_neg (by simp[hw])]
   exact KA cQ hg j3 r (h.skip o.dst) ai hk
theorem allT_holds {g:Nat->T} {L:V->Env->Prop} {G:dT} {ρ:Env}:∀{l:List Nat},(MI g l).holds S L G ρ->∀i∈l,(g i).holds S L G ρ
 |[],ai,_,hi=>by cases hi
 |[j],ai,i,hi=>by simp at hi;subst hi;exact ai
 |j::Qu::r,ai,i,hi=>by
  rcases List.mem_cons.1 hi with rfl|hi
  ·exact ai.1
  ·exact allT_holds (l:=Qu::r) ai.2 i hi
theorem Jw {ops:Array Oper} {bl:List ax} {m:Nat->Nat} {n0:Nat} {b8:Env} (cQ:fS S P gl w0 cal) (hg:fg gl w0) (pO:cK n0 bl.length b8 bl) (hex:∃w,Mem w0 b8 m bl w) {F:Act->Prop} {G:dT}:∀(l:List Oper) {n:Nat} {ρ:Env} {tm:List V} {a:Act} {k:Nat->List V->T},
 n0<=n->agree n0 b8 ρ->dX n bl.length ρ m tm a.tmps->a.defers=w0.ds->(Cc P gl cal ops l n tm bl k).holds S L G ρ->
 (∀n' ah ch di,n<=n'->agree n ρ ah->dX n' bl.length ah m ch di.tmps->di.defers=w0.ds->(k n' ch).holds S L G ah->F di)->yB P ops (λw=>Mem w0 b8 m bl w) F l a
 |[],n,ρ,tm,a,k,hn,ha,ht,hd,ai,hk=>hk n ρ tm a (br _) (agree.refl _ _) ht hd ai
 |o::r,n,ρ,tm,a,k,hn,ha,ht,hd,ai,hk=>by
  unfold Cc at ai
  unfold yB
  obtain⟨uy,rr⟩:=hex
  cases dZ:fH o with
  |true=>
   simp only[dZ,cond_true]at ai⊢
   exact Jw cQ hg pO ⟨uy,rr⟩ r hn ha ht hd ai hk
  |false=>
   simp only[dZ,cond_false]at ai⊢
   obtain⟨ch,ht,hgd⟩:=Fe ht ai
   rcases hgd with⟨hw,ai⟩|⟨hw,ai⟩
   ·have hb:cK n bl.length ρ bl:=pO.ext ha hn (br _)
    obtain⟨ah,n',v,tH,j1,⟨hv,val,hr,hq⟩,Cg⟩:=Rs (L:=L) cQ hb hg ⟨uy,rr.mZ pO ha⟩ ht o G _ ai
    refine⟨val,.inl ⟨hw,λw amh=>hq w (amh.mZ pO ha)⟩,?_⟩
    exact Jw cQ hg pO ⟨uy,rr⟩ r (iL hn tH) (ha.trans j1 hn) (dX.put (ht.ext j1 tH (br _) (λ_ _=>rfl)) o.dst hv hr) (by rw[put_defers];exact hd) Cg
     λDh rW abZ Vw h1 h2 h3 h4 h5=>hk Dh rW abZ Vw (iL tH h1) (j1.trans h2 tH) h3 h4 h5
   ·exact⟨undef,.inr ⟨hw,rfl⟩,Jw cQ hg pO ⟨uy,rr⟩ r hn ha (dX.put (v:= .fY []) ht o.dst (by intro x hx;simp at hx) rfl) (by rw[put_defers];exact hd) ai hk⟩
def D7 (P:bH) (ops:Array Oper) (j:Nat):Obj:=
 match ops[j]? with
 |some o=>match o.op with
  | .alloc t=>match P.info? t with
   |some i=>match i.zero with
    |some z=> .cells z.cells t
    |none=>default
   |none=>default
  |_=>default
 |none=>default
theorem azy {l:List Oper} {h j:Nat} {o:Oper} (hz:LI P (l.take h)=true) (hj:j<h) (ho:l.toArray[j]?=some o) (dZ:fH o=true) (b:Act) (w:ar):
 (execOp b.eval o).run P w= .ok (.value (.pointer (some ⟨w.heap.size,0,none⟩))) (w.alloc (D7 P l.toArray j)):=by
 have hH:l[j]?=some o:=by simpa using ho
 have hm:o∈l.take h:=eh (i:=j) (by rw[og,if_pos hj];exact hH)
 have h1:=List.all_eq_true.1 hz o hm
 simp only[dZ,Ec,Bool.false_or]at h1
 unfold D7
 simp only[ho]
 cases hop:o.op with
 |alloc t=>
  simp only[hop]at h1
  obtain⟨cs,hcs⟩:=Option.isSome_iff_exists.1 h1
  obtain⟨i,z,hi,nW,_⟩:=D6 hcs
  simp only[execOp,hop,aAp,gY,zeroValue,typeInfo,run_program,gH,hi,nW,iw,newVar,newRow,run_newObj]
  rfl
 |_=>simp[hop]at h1
theorem MK {ops:Array Oper} {h:Nat} {an b:Act} {fu:Nat->Nat} {a7:Nat} {w:ar} {n:Nat} {ρ:Env} {G:dT} {k:gi} {K:Act->ar->Prop} (ve:Fin ops h an b fu) (nj:wE ops h (λ_=>True) (D7 P ops) fu a7 w) (hsz:w0.b.heap.size<=a7) (YW:w0.r.heap.size<=a7):
 ∀(l:List Oper) (i:Nat) {m:Nat->Nat} {tm:List V} {bl:List ax} {c:Act},(∀j,j<l.length->ops[i+j]?=l[j]?)->i+l.length=h->R w0 n ρ m tm bl c w->
  (∀(aI:Nat) (p:ax),bl[aI]?=some p->bp ρ p.1≠0->m aI<a7∨∃j,j<i/\qf ops j=true/\m aI=fu j)->c.tmps.size=an.tmps.size->
  (∀t:Nat,((∃j o,j<i/\ops[j]?=some o/\fH o=true/\o.dst=some t)->c.tmps[t]?=b.tmps[t]?)/\((∀j o,j<i->ops[j]?=some o->fH o=true->o.dst≠some t)->c.tmps[t]?=an.tmps[t]?))->
  (EE P l n tm bl k).holds S L G ρ->j0 S L w0 k n bl.length ρ m G K->an.defers=w0.ds->K b w
 |[],i,m,tm,bl,c,hl,hi,hR,hm,hcs,hc,ai,hk,hd=>by
  simp only[fM,mv]at hi
  subst hi
  have jw:c=b:=aen (by rw[hR.d,ve.d,hd]) λt=>by
   by_cases ht:∃j o,j<i/\ops[j]?=some o/\fH o=true/\o.dst=some t
   ·exact(hc t).1 ht
   ·have hno:∀j o,j<i->ops[j]?=some o->fH o=true->o.dst≠some t:=λj o h1 h2 h3 h4=>ht ⟨j,o,h1,h2,h3,h4⟩
    rw[(hc t).2 hno,ve.no t hno]
  subst jw
  exact hk n ρ m tm bl G c w (dO.refl _ _ _ _) (eu.refl _ _) hR ai
 |o::r,i,m,tm,bl,c,hl,hi,hR,hm,hcs,hc,ai,hk,hd=>by
  have ho:ops[i]?=some o:=by have:=hl 0 (by simp);simpa using this
  have hr:∀j,j<r.length->ops[i+1+j]?=r[j]?:=λj hj=>by
   have:=hl (j+1) (by simp;omega)
   rw[show i+1+j=i+(j+1) by omega,this];simp
  have nR:i+1+r.length=h:=by simp at hi;omega
  unfold EE at ai
  cases dZ:fH o with
  |false=>
   simp only[dZ,cond_false]at ai
   refine MK ve nj hsz YW r (i+1) hr nR hR (λaI p jN hp=>(hm aI p jN hp).imp id λ⟨j,h1,h2⟩=>⟨j,by omega,h2⟩) hcs (λt=>⟨λ⟨j,cm,h1,h2,h3,h4⟩=>?_,λhno=>(hc t).2 λj cm h1=>hno j cm (by omega)⟩) ai hk hd
   by_cases kH:j=i
   ·subst kH
    have:cm=o:=hZ (h2.symm.trans ho)
    subst this
    rw[dZ]at h3;cases h3
   ·exact(hc t).1 ⟨j,cm,by omega,h2,h3,h4⟩
  |true=>
   simp only[dZ,cond_true]at ai
   cases hop:o.op with
   |alloc ty=>
    simp only[hop]at ai
    cases hz:mr P ty with
    |none=>simp[hz,T.holds]at ai
    |some cs=>
     simp only[hz]at ai
     obtain⟨kK,ai⟩:=cond_holds ai
     obtain⟨inf,z,akQ,nW,gP⟩:=D6 hz
     have OZ:=u4 gP n bl.length ρ m
     have iD:qf ops i=true:=by simp[qf,ho,dZ]
     have Pg:i<h:=by simp at hi;omega
     obtain⟨g1,g2⟩:=nj.1 i Pg trivial iD
     have ams:D7 P ops i= .cells (cs.map (A.den ρ m)).toArray ty (0,0):=by
      unfold D7
      simp only[ho,hop,akQ,nW,OZ.2]
     rw[ams]at g2
     have hne:∀(aI:Nat) (p:ax),bl[aI]?=some p->bp ρ p.1≠0->m aI≠fu i:=λaI p jN hp e=>by
      rcases hm aI p jN hp with h1|⟨j,h1,h2,h3⟩
      ·omega
      ·have:=nj.2 j i (by omega) Pg trivial trivial h2 iD (h3.symm.trans e)
       omega
     have fj:=hR.bx.push (x:=(cs,(ty,false))) hR.b OZ.1 (λ_=>⟨by omega,.inr (by omega),[],λ_=>rfl,by rw[h9];exact g2⟩) (λsh off code cap kind e=>by simp only at e;subst e;cases kK) λi p hi he=> .inr (.inl (acT λhk=>hne i p hi hk he))
     have cF:=dO.alloc n ρ m bl (cs,(ty,false)) (fu i)
     have qs:R w0 n ρ (j9 m bl.length (fu i)) (fr tm o.dst (.w (.one (.ptr bl.length 0)))) (bl++[(cs,(ty,false))]) (c.put o.dst (.pointer (some ⟨fu i,0,none⟩))) w:=
      ⟨dX.put (hR.t.ext cF.ha cF.hn cF.hb cF.hm) o.dst (by simp[V.ok,W.ok,A.ok]) (by simp[V.rel,W.den,A.den,lF]),by rw[put_defers];exact hR.d,hR.b.alloc OZ.1,fj⟩
     refine MK ve nj hsz YW r (i+1) hr nR qs (λaI p jN hp=>?_) ((At _ _ _).trans hcs) (λt=>⟨λ⟨j,cm,h1,h2,h3,h4⟩=>?_,λhno=>?_⟩) ai (hk.later cF (eu.refl _ _)) hd
     ·by_cases jM:aI<bl.length
      ·rw[kR jM]
       rw[s0 jM]at jN
       exact(hm aI p jN hp).imp id λ⟨j,h1,h2⟩=>⟨j,by omega,h2⟩
      ·have:aI=bl.length:=by have:=(List.getElem?_eq_some_iff.1 jN).1;simp at this;omega
       subst this
       rw[lF]
       exact .inr ⟨i,by omega,iD,rfl⟩
     ·by_cases ht:o.dst=some t
      ·rw[ht]
       simp only[Act.put]
       rcases Nat.lt_or_ge t c.tmps.size with h5|h5
       ·have o8:t<b.tmps.size:=by rw[ve.a7,<-hcs];exact h5
        rw[ve.al t i o Pg ho dZ ht o8]
        simp[h5]
       ·rw[Hz (by simpa using h5),Hz (by rw[ve.a7,<-hcs];exact h5)]
      ·rw[uf ht]
       by_cases kH:j=i
       ·subst kH
        have:cm=o:=hZ (h2.symm.trans ho)
        subst this
        exact absurd h4 ht
       ·exact(hc t).1 ⟨j,cm,by omega,h2,h3,h4⟩
     ·have ht:o.dst≠some t:=hno i o (by omega) ho dZ
      rw[uf ht]
      exact(hc t).2 λj cm h1=>hno j cm (by omega)
   |_=>simp[hop,T.holds]at ai
end
end Go.bo
namespace Go.bo
open M
theorem afW {a b:aF} (h:Nk a b=true):a=b:=by
 unfold Nk at h
 split at h
 ·rfl
 ·rfl
 ·rename_i f a b kC di cp
  simp only[aS]at h
  obtain⟨⟨⟨⟨h1,h2⟩,h3⟩,h4⟩,h5⟩:=h
  rw[bG h1,wy (bG h2),wy (bG h3),wy (bG h4),wy (bG h5)]
 ·cases h
theorem A.beq_eq {a b:A} (h:A.beq a b=true):a=b:=by
 cases a<;>cases b<;>simp only[A.beq]at h<;>(try(cases h;done))
 case int.int k x a6 y=>
  simp only[aS,decide_eq_true_eq,beq_iff_eq]at h
  obtain⟨⟨⟨h1,h2⟩,h3⟩,h4⟩:=h
  cases x;cases y
  simp only at h2 h3 h4
  rw[h1,aa.beq_eq h2,h3,h4]
 case bool.bool x y=>
  rw[bd.beq_eq h]
 case con.con=>rw[afW h]
 case ptr.ptr=>simp only[aS]at h;rw[bG h.1,bG h.2]
 case gptr.gptr=>simp only[aS]at h;rw[bG h.1,bG h.2]
 case slc.slc=>
  simp only[aS]at h
  rw[bG h.1.1.1,bG h.1.1.2,bG h.1.2,bG h.2]
 case str.str=>rw[aa.beq_eq h]
 case rows.rows=>
  simp only[aS]at h
  rw[vZ h.1.1.1.1,aa.beq_eq h.1.1.1.2,aa.beq_eq h.1.1.2,aa.beq_eq h.1.2,bG h.2]
 case sl.sl=>
  simp only[aS]at h
  rw[bG h.1.1.1.1.1,bG h.1.1.1.1.2,aa.beq_eq h.1.1.1.2,aa.beq_eq h.1.1.2,aa.beq_eq h.1.2,aa.beq_eq h.2]
 case ep.ep=>
  simp only[aS]at h
  rw[bG h.1.1.1.1,bG h.1.1.1.2,aa.beq_eq h.1.1.2,aa.beq_eq h.1.2,bG h.2]
theorem Bx:∀{a b:List A},ow a b=true->a=b
 |[],[],_=>rfl
 |x::r,y::s,h=>by
  simp only[ow,aS]at h
  rw[A.beq_eq h.1,Bx h.2]
 |[],_::_,h=>by simp[ow]at h
 |_::_,[],h=>by simp[ow]at h
theorem V.beq_eq {a b:V} (h:V.beq a b=true):a=b:=by
 cases a with
 |any=>cases b<;>simp[V.beq]at h
 |fY l=>cases l<;>cases b<;>simp[V.beq]at h;rename_i bQ;cases bQ<;>simp[V.beq]at h;rfl
 |w x=>
  cases b with
  |w y=>cases x<;>cases y<;>simp[V.beq]at h;rw[A.beq_eq h];rw[Bx h]
  |_=>cases x<;>simp[V.beq]at h
 |n2 _ _ _=>simp[V.beq]at h
 |oy f l=>
  cases b with
  |oy kC bQ=>
   simp only[V.beq,aS]at h
   rw[bG h.1,Bx h.2]
  |_=>simp[V.beq]at h
theorem DL:∀(zs:List Int) (n:Nat) (ρ:Env) (j:Nat),j<zs.length->bL ρ n zs (n+j)=zs.getD j 0
 |[],_,_,_,h=>by simp at h
 |z::zs,n,ρ,0,_=>by
  show bL (c6 ρ n z) (n+1) zs (n+0)=z
  rw[agree.bL zs (n+1) _ (n+0) (by omega)]
  exact jC ρ n z
 |z::zs,n,ρ,j+1,h=>by
  show bL (c6 ρ n z) (n+1) zs (n+(j+1))=_
  rw[show n+(j+1)=n+1+j by omega,DL zs (n+1) _ j (by simpa using h)]
  rfl
def yL (n nb:Nat) (ρ:Env) (m:Nat->Nat):List V->List aF->Prop
 |[],[]=>True
 |v::r,x::s=>v.ok n nb ρ/\v.rel ρ m x/\yL n nb ρ m r s
 |_,_=>False
theorem Vi {n nb:Nat} {ρ:Env} {m:Nat->Nat}:∀{tm:List V} {xs:List aF},dX n nb ρ m tm xs.toArray->yL n nb ρ m tm xs
 |[],[],_=>trivial
 |v::r,x::s,h=>by
  have h0:=h.2 0 v rfl
  obtain⟨h1,y,h2,h3⟩:=h0
  simp at h2;subst h2
  refine⟨h1,h3,Vi (tm:=r) (xs:=s) ⟨by simpa using h.1,λi u hu=>?_⟩⟩
  have:=h.2 (i+1) u (by simpa using hu)
  simpa using this
 |[],_::_,h=>by have:=h.1;simp at this
 |_::_,[],h=>by have:=h.1;simp at this
theorem Ih {n nb:Nat} {ρ:Env} {m:Nat->Nat}:∀{tm:List V} {xs:List aF},yL n nb ρ m tm xs->dX n nb ρ m tm xs.toArray
 |[],[],_=>⟨rfl,λi v h=>by simp at h⟩
 |v::r,x::s,h=>by
  have ih:=Ih h.2.2
  refine⟨by simpa using ih.1,λi u hu=>?_⟩
  cases i with
  |zero=>simp at hu;subst hu;exact⟨h.1,x,by simp,h.2.1⟩
  |succ i=>have:=ih.2 i u (by simpa using hu);simpa using this
 |[],_::_,h=>h.elim
 |_::_,[],h=>h.elim
theorem sB:∀{b cp:List (Int×Int)} {l bQ:List Int},aV b l->aV cp bQ->aV (b++cp) (l++bQ)
 |[],_,[],_,_,h=>h
 |_::_,_,_::_,_,h,h'=>⟨h.1,h.2.1,sB h.2.2 h'⟩
 |[],_,_::_,_,h,_=>h.elim
 |_::_,_,[],_,h,_=>h.elim
theorem agree.symm {n:Nat} {ρ ah:Env} (h:agree n ρ ah):agree n ah ρ:=λi hi=>(h i hi).symm
theorem V.back {n nb:Nat} {b8 ah bT:Env} {m0 m':Nat->Nat} {v:V} {x:aF} (h0:v.ok n nb b8) (ha:agree n b8 ah) (h2:agree n b8 bT) (hm:∀b,b<nb->m' b=m0 b) (hr:v.rel ah m' x):v.ok n nb bT/\v.rel bT m0 x:=by
 have alp:v.ok n nb ah:=h0.ext ha (br _) (br _)
 exact⟨h0.ext h2 (br _) (br _),hr.ext alp (ha.symm.trans h2 (br _)) λb hb=>(hm b hb).symm⟩
section
variable {fl:List Nat} {ints:List (Nat×Int×Int)}
theorem Cn:∀{tm:List V} {i s:Nat} {t:List V} {l:List aa} {b:List (Int×Int)},hs fl ints i s tm=some (t,l,b)->l.length=b.length/\t.length=tm.length
 |[],i,s,t,l,b,h=>by simp[hs]at h;obtain⟨rfl,rfl,rfl⟩:=h;exact⟨rfl,rfl⟩
 |v::r,i,s,t,l,b,h=>by
  unfold hs at h
  cases hk:fl.any (aG i)with
  |true=>
   simp only[hk,cond_true]at h
   cases hr:hs fl ints (i+1) s r with
   |none=>simp[hr]at h
   |some q=>
    obtain⟨t',bQ,cp⟩:=q
    simp only[hr,aQ,cA]at h
    obtain⟨rfl,rfl,rfl⟩:=h
    have:=Cn hr
    simp[this]
  |false=>
   simp only[hk,cond_false]at h
   cases hf:wV i ints with
   |none=>
    simp only[hf]at h
    cases hr:hs fl ints (i+1) s r with
    |none=>simp[hr]at h
    |some q=>
     obtain⟨t',bQ,cp⟩:=q
     simp only[hr,aQ,cA]at h
     obtain⟨rfl,rfl,rfl⟩:=h
     have:=Cn hr
     simp[this]
   |some q=>
    obtain⟨lo,hi⟩:=q
    simp only[hf]at h
    split at h
    ·rename_i k x
     cases hc:(decide (lo<=x.lo)&&decide (x.hi<=hi))with
     |false=>simp[hc]at h
     |true=>
      simp only[hc,cond_true]at h
      cases hr:hs fl ints (i+1) (s+1) r with
      |none=>simp[hr]at h
      |some q=>
       obtain⟨t',bQ,cp⟩:=q
       simp only[hr,aQ,cA]at h
       obtain⟨rfl,rfl,rfl⟩:=h
       have:=Cn hr
       simp[this]
    ·cases hr:hs fl ints (i+1) (s+1) r with
     |none=>simp[hr]at h
     |some q=>
      obtain⟨t',bQ,cp⟩:=q
      simp only[hr,aQ,cA]at h
      obtain⟨rfl,rfl,rfl⟩:=h
      have:=Cn hr
      simp[this]
    ·cases h
theorem Gk {n nb N:Nat} {b8 ah bT:Env} {m0 m':Nat->Nat} {n' j5:Nat} (ha:agree n b8 ah) (h2:agree n b8 bT) (hm:∀b,b<nb->m' b=m0 b) (oD:n<=N):
 ∀{tm ch:List V} {xs:List aF} {i s:Nat} {t t':List V} {l bQ:List aa} {b cp:List (Int×Int)},
 (∀v∈tm,V.ok n nb b8 v)->yL n' j5 ah m' ch xs->hs fl ints i s tm=some (t,l,b)->hs fl ints i s ch=some (t',bQ,cp)->lZ t t'=true->
 (∀j,j<bQ.length->bT (s+j)=(bQ.getD j (.const 0)).den ah)->s+bQ.length<=N->yL N nb bT m0 t xs/\aV b (bQ.map (·.den ah))/\bQ.length=l.length
 |[],[],[],i,s,t,t',l,bQ,b,cp,h0,hr,e1,e2,hf,hv,hN=>by
  simp[hs]at e1 e2
  obtain⟨rfl,rfl,rfl⟩:=e1
  obtain⟨rfl,rfl,rfl⟩:=e2
  exact⟨trivial,trivial,rfl⟩
 |v::r,v'::r',x::xs,i,s,t,t',l,bQ,b,cp,h0,hr,e1,e2,hf,hv,hN=>by
  obtain⟨bm,hrel,zD⟩:=hr
  have y9:∀v∈r,V.ok n nb b8 v:=λu hu=>h0 u (dn _ hu)
  unfold hs at e1 e2
  cases hk:fl.any (aG i)with
  |true=>
   simp only[hk,cond_true]at e1 e2
   cases e3:hs fl ints (i+1) s r with
   |none=>simp[e3]at e1
   |some bq=>
    obtain⟨t1,l1,b1⟩:=bq
    cases gR:hs fl ints (i+1) s r' with
    |none=>simp[gR]at e2
    |some bE=>
     obtain⟨t2,l2,b2⟩:=bE
     simp only[e3,aQ,cA]at e1
     simp only[gR,aQ,cA]at e2
     obtain⟨rfl,rfl,rfl⟩:=e1
     obtain⟨rfl,rfl,rfl⟩:=e2
     have hv0:=h0 v (by simp)
     have key:lZ t1 t2=true/\(v= .any∨v=v'):=by
      unfold lZ at hf
      split at hf
      ·rename_i heq _;cases heq
      ·rename_i h1 h2;cases h1;cases h2;exact⟨hf,.inl rfl⟩
      ·rename_i h1 h2;cases h1;cases h2
       simp only[aS]at hf
       exact⟨hf.2,.inr (V.beq_eq hf.1)⟩
      ·cases hf
     obtain⟨p1,bJ,cP⟩:=Gk ha h2 hm oD y9 zD e3 gR key.1 hv hN
     refine⟨⟨?_,?_,p1⟩,bJ,cP⟩
     ·exact hv0.ext h2 oD (br _)
     ·rcases key.2 with rfl|rfl
      ·trivial
      ·exact(V.back hv0 ha h2 hm hrel).2
  |false=>
   simp only[hk,cond_false]at e1 e2
   cases iC:wV i ints with
   |none=>
    simp only[iC]at e1 e2
    cases e3:hs fl ints (i+1) s r with
    |none=>simp[e3]at e1
    |some bq=>
     obtain⟨t1,l1,b1⟩:=bq
     cases gR:hs fl ints (i+1) s r' with
     |none=>simp[gR]at e2
     |some bE=>
      obtain⟨t2,l2,b2⟩:=bE
      simp only[e3,aQ,cA]at e1
      simp only[gR,aQ,cA]at e2
      obtain⟨rfl,rfl,rfl⟩:=e1
      obtain⟨rfl,rfl,rfl⟩:=e2
      obtain⟨p1,bJ,cP⟩:=Gk ha h2 hm oD y9 zD e3 gR (by simpa [lZ]using hf) hv hN
      exact⟨⟨trivial,trivial,p1⟩,bJ,cP⟩
   |some q=>
    obtain⟨lo,hi⟩:=q
    simp only[iC]at e1 e2
    split at e1
    ·rename_i k y
     split at e2
     ·rename_i a6 kb
      cases hc1:(decide (lo<=y.lo)&&decide (y.hi<=hi))with
      |false=>simp[hc1]at e1
      |true=>
       cases hc2:(decide (lo<=kb.lo)&&decide (kb.hi<=hi))with
       |false=>simp[hc2]at e2
       |true=>
        simp only[hc1,cond_true]at e1
        simp only[hc2,cond_true]at e2
        cases e3:hs fl ints (i+1) (s+1) r with
        |none=>simp[e3]at e1
        |some bq=>
         obtain⟨t1,l1,b1⟩:=bq
         cases gR:hs fl ints (i+1) (s+1) r' with
         |none=>simp[gR]at e2
         |some bE=>
          obtain⟨t2,l2,b2⟩:=bE
          simp only[e3,aQ,cA]at e1
          simp only[gR,aQ,cA]at e2
          obtain⟨rfl,rfl,rfl⟩:=e1
          obtain⟨rfl,rfl,rfl⟩:=e2
          simp only[lZ,aS]at hf
          have jN:=V.beq_eq hf.1
          simp only[V.w.injEq,W.one.injEq,A.int.injEq]at jN
          simp only[aS,decide_eq_true_eq]at hc2
          obtain⟨p1,bJ,cP⟩:=Gk ha h2 hm oD y9 zD e3 gR hf.2 (λj hj=>by
           have:=hv (j+1) (by simpa using hj)
           rw[show s+1+j=s+(j+1) by omega];simpa using this) (by simp at hN;omega)
          have hv0:=hv 0 (by simp)
          simp only[mv,rN]at hv0
          have hb:=bm.2
          simp only[V.rel,W.den,A.den]at hrel
          refine⟨⟨⟨aa.eV (by simp at hN;omega),?_,?_⟩,?_,p1⟩,⟨?_,?_,bJ⟩,by simp[cP]⟩
          ·simp only[aa.cE,hv0];omega
          ·simp only[aa.cE,hv0];omega
          ·simp only[V.rel,W.den,A.den,aa.cE,hv0,jN.1];exact hrel
          ·simp only;omega
          ·simp only;omega
     ·cases e3:hs fl ints (i+1) (s+1) r' with
      |none=>simp[e3]at e2
      |some bE=>
       obtain⟨t2,l2,b2⟩:=bE
       simp only[e3,aQ,cA]at e2
       obtain⟨rfl,rfl,rfl⟩:=e2
       cases hc1:(decide (lo<=y.lo)&&decide (y.hi<=hi))with
       |false=>simp[hc1]at e1
       |true=>
        simp only[hc1,cond_true]at e1
        cases gR:hs fl ints (i+1) (s+1) r with
        |none=>simp[gR]at e1
        |some bq=>
         obtain⟨t1,l1,b1⟩:=bq
         simp only[gR,aQ,cA]at e1
         obtain⟨rfl,rfl,rfl⟩:=e1
         simp[lZ,V.beq,A.beq]at hf
     ·cases e2
    ·rename_i y
     split at e2
     ·rename_i a6 kb
      cases e3:hs fl ints (i+1) (s+1) r with
      |none=>simp[e3]at e1
      |some bq=>
       obtain⟨t1,l1,b1⟩:=bq
       simp only[e3,aQ,cA]at e1
       obtain⟨rfl,rfl,rfl⟩:=e1
       cases hc2:(decide (lo<=kb.lo)&&decide (kb.hi<=hi))with
       |false=>simp[hc2]at e2
       |true=>
        simp only[hc2,cond_true]at e2
        cases gR:hs fl ints (i+1) (s+1) r' with
        |none=>simp[gR]at e2
        |some bE=>
         obtain⟨t2,l2,b2⟩:=bE
         simp only[gR,aQ,cA]at e2
         obtain⟨rfl,rfl,rfl⟩:=e2
         simp[lZ,V.beq,A.beq]at hf
     ·rename_i kb
      cases e3:hs fl ints (i+1) (s+1) r with
      |none=>simp[e3]at e1
      |some bq=>
       obtain⟨t1,l1,b1⟩:=bq
       cases gR:hs fl ints (i+1) (s+1) r' with
       |none=>simp[gR]at e2
       |some bE=>
        obtain⟨t2,l2,b2⟩:=bE
        simp only[e3,aQ,cA]at e1
        simp only[gR,aQ,cA]at e2
        obtain⟨rfl,rfl,rfl⟩:=e1
        obtain⟨rfl,rfl,rfl⟩:=e2
        simp only[lZ,aS]at hf
        obtain⟨p1,bJ,cP⟩:=Gk ha h2 hm oD y9 zD e3 gR hf.2 (λj hj=>by
         have:=hv (j+1) (by simpa using hj)
         rw[show s+1+j=s+(j+1) by omega];simpa using this) (by simp at hN;omega)
        have hv0:=hv 0 (by simp)
        simp only[mv,rN]at hv0
        have hb:0<=kb.den ah/\kb.den ah<=bM:=bm.2
        have hrel:x= .string (bw (U (kb.den ah))):=hrel
        refine⟨⟨⟨aa.eV (by simp at hN;omega),?_⟩,?_,p1⟩,⟨hb.1,hb.2,bJ⟩,by simp[cP]⟩
        ·simp only[aa.cE,hv0];exact hb
        ·simp only[V.rel,W.den,A.den,aa.cE,hv0];exact hrel
     ·cases e2
    ·cases e1
 |[],_::_,_,i,s,t,t',l,bQ,b,cp,h0,hr,e1,e2,hf,hv,hN=>by
  simp[hs]at e1
  obtain⟨rfl,_,_⟩:=e1
  have:=(Cn e2).2
  cases t' with
  |nil=>simp at this
  |cons _ _=>simp[lZ]at hf
 |_::_,[],_,i,s,t,t',l,bQ,b,cp,h0,hr,e1,e2,hf,hv,hN=>by
  simp[hs]at e2
  obtain⟨rfl,_,_⟩:=e2
  have:=(Cn e1).2
  cases t with
  |nil=>simp at this
  |cons y z=>cases y<;>simp[lZ]at hf
 |_::_,_::_,[],i,s,t,t',l,bQ,b,cp,h0,hr,e1,e2,hf,hv,hN=>hr.elim
 |[],[],_::_,i,s,t,t',l,bQ,b,cp,h0,hr,e1,e2,hf,hv,hN=>hr.elim
end
def Ex (n nb:Nat) (ρ:Env) (m:Nat->Nat):List A->List aF->Prop
 |[],[]=>True
 |a::r,x::s=>A.ok n nb ρ a/\x=a.den ρ m/\Ex n nb ρ m r s
 |_,_=>False
theorem Ve {n nb:Nat} {ρ:Env} {m:Nat->Nat}:∀{l:List A},(∀a∈l,A.ok n nb ρ a)->Ex n nb ρ m l (l.map (A.den ρ m))
 |[],_=>trivial
 |a::r,h=>⟨h a (by simp),rfl,Ve λx hx=>h x (dn _ hx)⟩
theorem Vf {n nb:Nat} {ρ:Env} {m:Nat->Nat}:∀{l:List A} {xs:List aF},Ex n nb ρ m l xs->(∀a∈l,A.ok n nb ρ a)/\xs=l.map (A.den ρ m)
 |[],[],_=>⟨by simp,rfl⟩
 |a::r,x::s,h=>by
  have ih:=Vf h.2.2
  exact⟨λy hy=>by rcases List.mem_cons.1 hy with rfl|hy;exact h.1;exact ih.1 y hy,by rw[h.2.1,ih.2];rfl⟩
 |[],_::_,h=>h.elim
 |_::_,[],h=>h.elim
theorem A.back {n nb:Nat} {b8 ah bT:Env} {m0 m':Nat->Nat} {v:A} (h0:v.ok n nb b8) (ha:agree n b8 ah) (h2:agree n b8 bT) (hm:∀b,b<nb->m' b=m0 b):v.den ah m'=v.den bT m0:=by
 rw[A.ki h0 ha hm,A.ki (m':=m0) h0 h2 (λ_ _=>rfl)]
section
variable {ints:List (Nat×Int×Int)}
theorem B6:∀{cs:List A} {i s:Nat} {t:List A} {l:List aa} {b:List (Int×Int)},ha ints i s cs=some (t,l,b)->l.length=b.length/\t.length=cs.length
 |[],i,s,t,l,b,h=>by simp[ha]at h;obtain⟨rfl,rfl,rfl⟩:=h;exact⟨rfl,rfl⟩
 |v::r,i,s,t,l,b,h=>by
  unfold ha at h
  cases hf:wV i ints with
  |none=>
   simp only[hf]at h
   cases hr:ha ints (i+1) s r with
   |none=>simp[hr]at h
   |some q=>
    obtain⟨t',bQ,cp⟩:=q
    simp only[hr,aQ,cA]at h
    obtain⟨rfl,rfl,rfl⟩:=h
    have:=B6 hr
    simp[this]
  |some q=>
   obtain⟨lo,hi⟩:=q
   simp only[hf]at h
   cases hc:jH lo hi s v with
   |none=>simp[hc]at h
   |some p=>
    obtain⟨a,x,eL⟩:=p
    simp only[hc]at h
    cases hr:ha ints (i+1) (s+1) r with
    |none=>simp[hr]at h
    |some q=>
     obtain⟨t',bQ,cp⟩:=q
     simp only[hr,aQ,cA]at h
     obtain⟨rfl,rfl,rfl⟩:=h
     have:=B6 hr
     simp[this]
theorem afH {n nb N:Nat} {b8 ah bT:Env} {m0 m':Nat->Nat} {n' j5:Nat} {lo hi:Int} {s:Nat} {v v' a di:A} {x gp:aa} {eL aeZ:Int×Int} (fU:agree n b8 ah) (h2:agree n b8 bT) (oD:n<=N)
 (h0:v.ok n nb b8) (h':v'.ok n' j5 ah) (e1:jH lo hi s v=some (a,x,eL)) (e2:jH lo hi s v'=some (di,gp,aeZ)) (hf:a=di) (hv:bT s=gp.den ah) (hN:s<N):
 a.ok N nb bT/\a.den bT m0=v'.den ah m'/\eL.1<=gp.den ah/\gp.den ah<=eL.2:=by
 subst hf
 have lx:(aa.var s).den bT=gp.den ah:=by rw[aa.cE,hv]
 cases v with
 |int k y=>
  simp only[jH]at e1
  cases hc1:(decide (lo<=y.lo)&&decide (y.hi<=hi))with
  |false=>simp[hc1]at e1
  |true=>
   simp only[hc1,cond_true,aQ,cA]at e1
   obtain⟨rfl,rfl,rfl⟩:=e1
   cases v' with
   |int a6 kb=>
    simp only[jH]at e2
    cases hc2:(decide (lo<=kb.lo)&&decide (kb.hi<=hi))with
    |false=>simp[hc2]at e2
    |true=>
     simp only[hc2,cond_true,aQ,cA,A.int.injEq]at e2
     obtain⟨⟨rfl,_⟩,rfl,rfl⟩:=e2
     simp only[aS,decide_eq_true_eq]at hc2
     have h':kb.ok n' ah:=h'
     have hb:=h'.2
     refine⟨⟨aa.eV hN,by simp only[lx];omega,by simp only[lx];omega⟩,by simp only[A.den,lx],by simp only;omega,by simp only;omega⟩
   |str _=>simp[jH]at e2
   |rows _ _ _ _ _=>simp[jH]at e2
   |_=>simp[jH]at e2
 |str y=>
  simp only[jH,aQ,cA]at e1
  obtain⟨rfl,rfl,rfl⟩:=e1
  cases v' with
  |str kb=>
   simp only[jH,aQ,cA]at e2
   obtain⟨_,rfl,rfl⟩:=e2
   have hb:0<=kb.den ah/\kb.den ah<=bM:=h'.2
   exact⟨⟨aa.eV hN,by rw[lx];exact hb⟩,by simp only[A.den,lx],hb.1,hb.2⟩
  |int a6 kb=>
   simp only[jH]at e2
   cases hc2:(decide (lo<=kb.lo)&&decide (kb.hi<=hi))<;>simp[hc2]at e2
  |rows _ _ _ _ _=>simp[jH]at e2
  |_=>simp[jH]at e2
 |rows sh off code cap k=>
  simp only[jH,aQ,cA]at e1
  obtain⟨rfl,rfl,rfl⟩:=e1
  cases v' with
  |rows eK gT code' gL a6=>
   simp only[jH,aQ,cA,A.rows.injEq]at e2
   obtain⟨_,rfl,rfl⟩:=e2
   obtain⟨⟨s1,s2,fL⟩,_,b3⟩:=h0
   obtain⟨_,b2,_⟩:=h'
   refine⟨⟨⟨s1.mono oD,aa.eV hN,fL.mono oD⟩,by rw[lx];exact b2,by rw[aa.bR h2 fL];exact b3⟩,by simp only[A.den,lx],b2.1,b2.2⟩
  |int a6 kb=>
   simp only[jH]at e2
   cases hc2:(decide (lo<=kb.lo)&&decide (kb.hi<=hi))<;>simp[hc2]at e2
  |str _=>simp[jH]at e2
  |_=>simp[jH]at e2
 |_=>simp[jH]at e1
theorem OP {n nb N:Nat} {b8 ah bT:Env} {m0 m':Nat->Nat} {n' j5:Nat} (fU:agree n b8 ah) (h2:agree n b8 bT) (hm:∀b,b<nb->m' b=m0 b) (oD:n<=N):
 ∀{cs iB:List A} {xs:List aF} {i s:Nat} {t t':List A} {l bQ:List aa} {b cp:List (Int×Int)},
 (∀v∈cs,A.ok n nb b8 v)->Ex n' j5 ah m' iB xs->ha ints i s cs=some (t,l,b)->ha ints i s iB=some (t',bQ,cp)->ow t t'=true->
 (∀j,j<bQ.length->bT (s+j)=(bQ.getD j (.const 0)).den ah)->s+bQ.length<=N->Ex N nb bT m0 t xs/\aV b (bQ.map (·.den ah))/\bQ.length=l.length
 |[],[],[],i,s,t,t',l,bQ,b,cp,h0,hr,e1,e2,hf,hv,hN=>by
  simp[ha]at e1 e2
  obtain⟨rfl,rfl,rfl⟩:=e1
  obtain⟨rfl,rfl,rfl⟩:=e2
  exact⟨trivial,trivial,rfl⟩
 |v::r,v'::r',x::xs,i,s,t,t',l,bQ,b,cp,h0,hr,e1,e2,hf,hv,hN=>by
  obtain⟨bm,hrel,zD⟩:=hr
  have y9:∀v∈r,A.ok n nb b8 v:=λu hu=>h0 u (dn _ hu)
  unfold ha at e1 e2
  cases iC:wV i ints with
  |none=>
   simp only[iC]at e1 e2
   cases e3:ha ints (i+1) s r with
   |none=>simp[e3]at e1
   |some bq=>
    obtain⟨t1,l1,b1⟩:=bq
    cases gR:ha ints (i+1) s r' with
    |none=>simp[gR]at e2
    |some bE=>
     obtain⟨t2,l2,b2⟩:=bE
     simp only[e3,aQ,cA]at e1
     simp only[gR,aQ,cA]at e2
     obtain⟨rfl,rfl,rfl⟩:=e1
     obtain⟨rfl,rfl,rfl⟩:=e2
     simp only[ow,aS]at hf
     have zH:=A.beq_eq hf.1
     subst zH
     have hv0:=h0 v (by simp)
     obtain⟨p1,bJ,cP⟩:=OP fU h2 hm oD y9 zD e3 gR hf.2 hv hN
     exact⟨⟨hv0.ext h2 oD (br _),by rw[hrel,A.back hv0 fU h2 hm],p1⟩,bJ,cP⟩
  |some q=>
   obtain⟨lo,hi⟩:=q
   simp only[iC]at e1 e2
   cases hc1:jH lo hi s v with
   |none=>simp[hc1]at e1
   |some p1=>
    obtain⟨a1,x1,d1⟩:=p1
    cases hc2:jH lo hi s v' with
    |none=>simp[hc2]at e2
    |some bJ=>
     obtain⟨a2,x2,d2⟩:=bJ
     simp only[hc1]at e1
     simp only[hc2]at e2
     cases e3:ha ints (i+1) (s+1) r with
     |none=>simp[e3]at e1
     |some bq=>
      obtain⟨t1,l1,b1⟩:=bq
      cases gR:ha ints (i+1) (s+1) r' with
      |none=>simp[gR]at e2
      |some bE=>
       obtain⟨t2,l2,b2⟩:=bE
       simp only[e3,aQ,cA]at e1
       simp only[gR,aQ,cA]at e2
       obtain⟨rfl,rfl,rfl⟩:=e1
       obtain⟨rfl,rfl,rfl⟩:=e2
       simp only[ow,aS]at hf
       obtain⟨p1,bJ,cP⟩:=OP fU h2 hm oD y9 zD e3 gR hf.2 (λj hj=>by
        have:=hv (j+1) (by simpa using hj)
        rw[show s+1+j=s+(j+1) by omega];simpa using this) (by simp at hN;omega)
       have hv0:=hv 0 (by simp)
       simp only[mv,rN]at hv0
       obtain⟨c1,c2,c3,c4⟩:=afH (m0:=m0) (m':=m') fU h2 oD (h0 v (by simp)) bm hc1 hc2 (A.beq_eq hf.1) hv0 (by simp at hN;omega)
       exact⟨⟨c1,by rw[hrel,c2],p1⟩,⟨c3,c4,bJ⟩,by simp[cP]⟩
 |[],_::_,_,i,s,t,t',l,bQ,b,cp,h0,hr,e1,e2,hf,hv,hN=>by
  simp[ha]at e1
  obtain⟨rfl,_,_⟩:=e1
  have:=(B6 e2).2
  cases t' with
  |nil=>simp at this
  |cons _ _=>simp[ow]at hf
 |_::_,[],_,i,s,t,t',l,bQ,b,cp,h0,hr,e1,e2,hf,hv,hN=>by
  simp[ha]at e2
  obtain⟨rfl,_,_⟩:=e2
  have:=(B6 e1).2
  cases t with
  |nil=>simp at this
  |cons y z=>simp[ow]at hf
 |_::_,_::_,[],i,s,t,t',l,bQ,b,cp,h0,hr,e1,e2,hf,hv,hN=>hr.elim
 |[],[],_::_,i,s,t,t',l,bQ,b,cp,h0,hr,e1,e2,hf,hv,hN=>hr.elim
end
section
variable {cells:List (Nat×Nat×Int×Int)}
theorem FD:∀{bl:List ax} {i s:Nat} {t:List ax} {l:List aa} {b:List (Int×Int)},hb cells i s bl=some (t,l,b)->l.length=b.length/\t.length=bl.length
 |[],i,s,t,l,b,h=>by simp[hb]at h;obtain⟨rfl,rfl,rfl⟩:=h;exact⟨rfl,rfl⟩
 |(cs,ty)::r,i,s,t,l,b,h=>by
  unfold hb at h
  cases hc:ha (cellsOf i cells) 0 s cs with
  |none=>simp[hc]at h
  |some q=>
   obtain⟨c,l1,b1⟩:=q
   simp only[hc]at h
   cases hr:hb cells (i+1) (s+l1.length) r with
   |none=>simp[hr]at h
   |some q=>
    obtain⟨t',bQ,cp⟩:=q
    simp only[hr,aQ,cA]at h
    obtain⟨rfl,rfl,rfl⟩:=h
    have h1:=B6 hc
    have h2:=FD hr
    simp[h1,h2]
theorem Xc {l bQ:List aa} {j:Nat} (h:j<l.length) (d:aa):(l++bQ).getD j d=l.getD j d:=by
 simp[ae,s0 h]
theorem Xd {l bQ:List aa} {j:Nat} (d:aa):(l++bQ).getD (l.length+j) d=bQ.getD j d:=by
 simp only[ae];rw[A6 (by omega)];simp
theorem XT {n nb N:Nat} {b8 ah bT:Env} {m0 m':Nat->Nat} {n' j5:Nat} (fU:agree n b8 ah) (h2:agree n b8 bT) (hm:∀b,b<nb->m' b=m0 b) (oD:n<=N):
 ∀{bl a8:List ax} {i s:Nat} {t t':List ax} {l bQ:List aa} {b cp:List (Int×Int)},
 cK n nb b8 bl->cK n' j5 ah a8->hb cells i s bl=some (t,l,b)->hb cells i s a8=some (t',bQ,cp)->lY t t'=true->
 (∀j,j<bQ.length->bT (s+j)=(bQ.getD j (.const 0)).den ah)->s+bQ.length<=N->
 cK N nb bT t/\aV b (bQ.map (·.den ah))/\bQ.length=l.length/\∀(j:Nat) (c:List A) (ty:aX×Bool),t[j]?=some (c,ty)->∃c':List A,a8[j]?=some (c',ty)/\c.map (A.den bT m0)=c'.map (A.den ah m')
 |[],[],i,s,t,t',l,bQ,b,cp,h0,hr,e1,e2,hf,hv,hN=>by
  simp[hb]at e1 e2
  obtain⟨rfl,rfl,rfl⟩:=e1
  obtain⟨rfl,rfl,rfl⟩:=e2
  exact⟨λp hp=>by simp at hp,trivial,rfl,λj c ty h=>by simp at h⟩
 |(cs,ty)::r,(iB,avs)::r',i,s,t,t',l,bQ,b,cp,h0,hr,e1,e2,hf,hv,hN=>by
  unfold hb at e1 e2
  cases hc1:ha (cellsOf i cells) 0 s cs with
  |none=>simp[hc1]at e1
  |some bq=>
   obtain⟨c1,l1,b1⟩:=bq
   cases hc2:ha (cellsOf i cells) 0 s iB with
   |none=>simp[hc2]at e2
   |some bE=>
    obtain⟨c2,l2,b2⟩:=bE
    simp only[hc1]at e1
    simp only[hc2]at e2
    cases e3:hb cells (i+1) (s+l1.length) r with
    |none=>simp[e3]at e1
    |some bq=>
     obtain⟨t1,QA,Bv⟩:=bq
     cases gR:hb cells (i+1) (s+l2.length) r' with
     |none=>simp[gR]at e2
     |some bE=>
      obtain⟨t2,QB,r5⟩:=bE
      simp only[e3,aQ,cA]at e1
      simp only[gR,aQ,cA]at e2
      obtain⟨rfl,rfl,rfl⟩:=e1
      obtain⟨rfl,rfl,rfl⟩:=e2
      simp only[lY,aS]at hf
      have Gr:ty=avs:=Prod.ext (bG hf.1.1.2) (by simpa using hf.1.2)
      subst Gr
      have Oq:s+l2.length+QB.length<=N:=by simp at hN;omega
      obtain⟨p1,bJ,cP⟩:=OP fU h2 hm oD (λv hv=>h0 (cs,ty) (by simp) v hv) (Ve (m:=m') λv hv=>hr (iB,ty) (by simp) v hv) hc1 hc2 hf.1.1.1 (λj hj=>by
       have:=hv j (by simp;omega)
       rwa [Xc hj]at this) (by omega)
      rw[<-cP]at e3
      obtain⟨bq,bE,b5,dm⟩:=XT fU h2 hm oD (λp hp=>h0 p (dn _ hp)) (λp hp=>hr p (dn _ hp)) e3 gR hf.2 (λj hj=>by
       have:=hv (l2.length+j) (by simp;omega)
       rw[Xd]at this
       rw[<-this];congr 1;omega) Oq
      have hp:=Vf p1
      refine⟨λp PL a XR=>?_,by rw[ft];exact sB bJ bE,by simp[cP,b5],λj c avt hj=>?_⟩
      ·rcases List.mem_cons.1 PL with rfl|PL
       ·exact hp.1 a XR
       ·exact bq p PL a XR
      ·cases j with
       |zero=>simp at hj;obtain⟨rfl,rfl⟩:=hj;exact⟨iB,rfl,hp.2.symm⟩
       |succ j=>simp at hj;obtain⟨c',h1,h2⟩:=dm j c avt hj;exact⟨c',by simpa using h1,h2⟩
 |[],_::_,i,s,t,t',l,bQ,b,cp,h0,hr,e1,e2,hf,hv,hN=>by
  simp[hb]at e1
  obtain⟨rfl,_,_⟩:=e1
  have:=(FD e2).2
  cases t' with
  |nil=>simp at this
  |cons _ _=>simp[lY]at hf
 |_::_,[],i,s,t,t',l,bQ,b,cp,h0,hr,e1,e2,hf,hv,hN=>by
  simp[hb]at e2
  obtain⟨rfl,_,_⟩:=e2
  have:=(FD e1).2
  cases t with
  |nil=>simp at this
  |cons y z=>simp[lY]at hf
def DH (p q:List A):Prop:=∃sh off code code' cap k,p=[.rows sh off code cap k]/\q=[.rows sh off code' cap k]
theorem DH.refl {p:List A} (h:bV p=false):DH p p:=by
 unfold bV at h
 split at h
 ·exact⟨_,_,_,_,_,_,rfl,rfl⟩
 ·cases h
theorem afG {lo hi:Int} {s:Nat} {v a:A} {x:aa} {eL:Int×Int} (h:jH lo hi s v=some (a,x,eL)):bV [a]=bV [v]/\(bV [a]=false->DH [a] [v]):=by
 unfold jH at h
 split at h
 ·rename_i k x
  cases hc:(decide (lo<=x.lo)&&decide (x.hi<=hi))with
  |false=>simp[hc]at h
  |true=>
   simp only[hc,cond_true,aQ,cA]at h
   obtain⟨rfl,_,_⟩:=h
   exact⟨rfl,λh=>by cases h⟩
 ·simp only[aQ,cA]at h
  obtain⟨rfl,_,_⟩:=h
  exact⟨rfl,λh=>by cases h⟩
 ·simp only[aQ,cA]at h
  obtain⟨rfl,_,_⟩:=h
  exact⟨rfl,λ_=>⟨_,_,_,_,_,_,rfl,rfl⟩⟩
 ·cases h
theorem Qs (a b:A) (l:List A):bV (a::b::l)=true:=by cases a<;>rfl
theorem aj9 {ints:List (Nat×Int×Int)} {i s:Nat} {cs:List A} {l:List aa} {b:List (Int×Int)} {t:List A} (h:ha ints i s cs=some (t,l,b)):(bV t=bV cs)/\(bV t=false->DH t cs):=by
 have hl:=(B6 h).2
 match cs,t,hl with
 |[],[],_=>exact⟨rfl,λh=>by cases h⟩
 |a::b::r,di::cp::r',_=>exact⟨by rw[Qs,Qs],λh=>by rw[Qs]at h;cases h⟩
 |[v],[a],_=>
  unfold ha at h
  cases hf:wV i ints with
  |none=>
   simp[hf,ha]at h
   obtain⟨rfl,_,_⟩:=h
   exact⟨rfl,λh=>DH.refl h⟩
  |some q=>
   obtain⟨lo,hi⟩:=q
   simp only[hf]at h
   cases hc:jH lo hi s v with
   |none=>simp[hc]at h
   |some p=>
    obtain⟨di,x,eL⟩:=p
    simp[hc,ha]at h
    obtain⟨rfl,_,_⟩:=h
    exact afG hc
theorem OS:∀{bl:List ax} {i s:Nat} {t:List ax} {l:List aa} {b:List (Int×Int)},hb cells i s bl=some (t,l,b)->∀(k:Nat) (p:ax),t[k]?=some p->∃q:ax,bl[k]?=some q/\bV p.1=bV q.1/\p.2=q.2/\(bV p.1=false->DH p.1 q.1)
 |[],i,s,t,l,b,h=>by simp[hb]at h;obtain⟨rfl,rfl,rfl⟩:=h;intro k p hp;simp at hp
 |(cs,ty)::r,i,s,t,l,b,h=>by
  unfold hb at h
  cases hc1:ha (cellsOf i cells) 0 s cs with
  |none=>simp[hc1]at h
  |some bq=>
   obtain⟨c1,l1,b1⟩:=bq
   simp only[hc1]at h
   cases e3:hb cells (i+1) (s+l1.length) r with
   |none=>simp[e3]at h
   |some bq=>
    obtain⟨t1,QA,Bv⟩:=bq
    simp only[e3,aQ,cA]at h
    obtain⟨rfl,rfl,rfl⟩:=h
    intro k p hp
    cases k with
    |zero=>
     simp only[rQ,aQ]at hp
     subst hp
     have:=aj9 hc1
     exact⟨(cs,ty),rfl,this.1,rfl,this.2⟩
    |succ k=>obtain⟨q,h1,h2⟩:=OS e3 k p (by simpa using hp);exact⟨q,by simpa using h1,h2⟩
theorem WM:∀{a b:List ax},lY a b=true->∀(k:Nat) (p:ax),a[k]?=some p->b[k]?=some p
 |[],[],_,k,p,h=>by simp at h
 |(c,t)::r,(c',t')::s,hf,k,p,h=>by
  simp only[lY,aS]at hf
  have Gr:t=t':=Prod.ext (bG hf.1.1.2) (by simpa using hf.1.2)
  have hc:=Bx hf.1.1.1
  subst Gr;subst hc
  cases k with
  |zero=>simpa using h
  |succ k=>have:=WM hf.2 k p (by simpa using h);simpa using this
 |[],_::_,h,_,_,_=>by simp[lY]at h
 |_::_,[],h,_,_,_=>by simp[lY]at h
end
end Go.bo
namespace Go.bo
variable {P:bH} {rd:Option Nat}
def qc (rd:Option Nat):Fence:={Be with round:=rd}
def pw (Q:Exit->Act->ar->Prop):Exit->Act->ar->Prop
 | .normal,a,w=>Q .normal a w
 |_,_,_=>False
theorem pw.imp {Q:Exit->Act->ar->Prop}:∀(e:Exit) (a:Act) (w:ar),calm (pw Q) e a w->Q e a w:=λe a w h=>by
 cases e<;>first|exact h|exact(h:False).elim
theorem pw.let {Q:Exit->Act->ar->Prop}:¬LetsOut (pw Q):=λ⟨a,w,h⟩=>h
theorem pw.anL {Q:Exit->Act->ar->Prop}:¬LetsOut (calm (pw Q)):=λ⟨a,w,h⟩=>h
def sH (o:Oper):Bool:=match o.op with| .defer _=>false|_=>true
def lB:Code->Bool
 | .region _ ops _=>ops.toList.all sH
 | .seq a b=>lB a&&lB b
 | .cond _ a b=>lB a&&lB b
 | .block _ c=>lB c
 | .loop c=>lB c
 |_=>true
theorem apB {o:Oper} (h:sH o=true):∀c,o.op≠ .defer c:=λc e=>by simp[sH,e]at h
theorem afw {n:Nat} {f:cw} {args:Array aF} {w:ar} {R:Ending->ar->Prop} (h:jY P f args w R):CallsIn (qc rd) n P f args w R:=callsIn_wide.2 h
theorem atW {n:Nat} {row:String} {args:Array aF} {w:ar} {R:aF->ar->Prop} (h:Rows P row args w R):RowsIn (qc rd) n P row args w R:=
 λc cs _=>let⟨v,w',r,s⟩:=h c cs;⟨v,w',r,stepsIn_wide.2 s⟩
theorem aal {o:Oper} {a:Act} {w:ar} {K:Act->ar->Prop} {Q:Exit->Act->ar->Prop} (hd:rd=none∨sH o=true) (h:o.wp P a w K Q):o.wpIn (qc rd) 0 P a w K Q:=by
 refine⟨λ_ _=>trivial,?_⟩
 have e:o.semAt (qc rd).round a.eval=execOp a.eval o:=by
  rcases hd with h|h
  ·subst h;rfl
  ·exact o.semAt_eq _ _ (apB h)
 rw[e]
 unfold mw at h
 generalize (execOp a.eval o).run P w=r at*
 cases r with
 |ok n w'=>
  cases n<;>simp only[Oper.upon,aAz]at h⊢
  case value u=>exact h
  case skip=>exact h
  case defer d=>exact h
  case enter f args=>exact⟨λhs=>by simp[qc,Be]at hs,afw h⟩
  case row row args=>exact⟨λhs=>by simp[qc,Be]at hs,atW h⟩
 |halt x w'=>
  cases x<;>simp only[Oper.upon,aAz]at h⊢
  case panic u=>exact h
variable {ops:Array Oper} {Q:Exit->Act->ar->Prop}
theorem Sy (cF:¬LetsOut Q):∀{l:List Oper} {a:Act} {w:ar},(rd=none∨l.all sH=true)->wpList P ops Q l a w->wpListIn (qc rd) 0 P ops Q l a w
 |[],_,_,_,h=>h
 |o::r,a,w,hd,h=>by
  have h1:rd=none∨sH o=true:=hd.imp id λh=>by simp only[HB,aS]at h;exact h.1
  have h2:rd=none∨r.all sH=true:=hd.imp id λh=>by simp only[HB,aS]at h;exact h.2
  unfold wpList at h
  unfold wpListIn
  split
  ·rename_i hw
   rw[if_pos hw]at h
   rcases h with h|h
   ·exact aAA (λa w h=>Sy cF h2 h) (aal h1 h)
   ·exact absurd h.2 cF
  ·rename_i hw
   rw[if_neg hw]at h
   exact⟨λ_ _=>trivial,Sy cF h2 h⟩
theorem Lp {md:Region.Mode} (hd:rd=none∨ops.toList.all sH=true) (cF:¬LetsOut Q):∀{f:Nat} {listed:Array Bool} {a:Act} {w:ar},wpAny P md ops Q f listed a w->wpAnyIn (qc rd) 0 P md ops Q f listed a w
 |0,_,_,_,h=>h
 |f+1,listed,a,w,h=>by
  refine⟨h.1,λi hi=>?_⟩
  have h2:=h.2 i hi
  unfold wpOp at h2
  unfold wpOpIn
  cases ho:ops[i]? with
  |none=>simp only[ho]at h2⊢;exact Lp hd cF h2
  |some o=>
   simp only[ho]at h2⊢
   have h1:rd=none∨sH o=true:=hd.imp id λh=>List.all_eq_true.1 h o (by simpa using Array.mem_of_getElem? ho)
   split
   ·rename_i hw
    rw[if_pos hw]at h2
    rcases h2 with h2|h2
    ·exact aAA (λa w h=>Lp hd cF h) (aal h1 h2)
    ·exact absurd h2.2 cF
   ·rename_i hw
    rw[if_neg hw]at h2
    exact⟨λ_ _=>trivial,Lp hd cF h2⟩
theorem atD {id:Nat} {a:Act} {w:ar} (hd:rd=none∨ops.toList.all sH=true) (h:wpList P ops (pw Q) ops.toList a w):(aAB id ops false).wpIn (qc rd) 0 P Q a w:=
 wpIn_mono (wpIn_region_list (Sy pw.let hd h)) λe a w h=>pw.imp e a w (by cases e<;>first|exact h|exact(h:False).elim)
theorem aaW {id:Nat} {a:Act} {w:ar} (hm:P.follows .mixedOrders=true) (hd:rd=none∨ops.toList.all sH=true)
 (h:wpAny P .any ops (calm (pw Q)) ops.size (uG ops.size false) a {w with drawn:=w.drawn+1}):(aAB id ops true).wpIn (qc rd) 0 P Q a w:=
 wpIn_mono (wpIn_region_any hm (Lp hd pw.anL h)) pw.imp
end Go.bo
namespace Go.bo
open M
section
variable {S:Nat->List Int->List Int->Prop} {L:V->Env->Prop} {w0:dK} {P:bH} {gl:ei} {cal:eI} {rd:Option Nat}
def Bj (S:Nat->List Int->List Int->Prop) (L:V->Env->Prop) (w0:dK) (k:q3) (n nb:Nat) (ρ:Env) (m:Nat->Nat) (G:dT) (Q:Exit->Act->ar->Prop):Prop:=
 ∀x n' ah m' ch a8 dU di w',dO n nb ρ m n' (lN a8) ah m'->eu n G dU->R w0 n' ah m' ch a8 di w'->(k x n' ch a8).holds S L dU ah->Q x.to di w'
theorem Bj.later {k:q3} {n nb n1 xM:Nat} {ρ aE:Env} {m fW:Nat->Nat} {G G1:dT} {Q:Exit->Act->ar->Prop} (h:Bj S L w0 k n nb ρ m G Q) (hl:dO n nb ρ m n1 xM aE fW) (hA:eu n G G1):Bj S L w0 k n1 xM aE fW G1 Q:=
 λx n' ah m' ch a8 dU di w' h1 h2 h3 h4=>h x n' ah m' ch a8 dU di w' (hl.trans h1) (hA.trans h2 hl.hn) h3 h4
def Mf (rd:Option Nat) (S:Nat->List Int->List Int->Prop) (L:V->Env->Prop) (w0:dK) (P:bH) (c:Code) (e:Nat->List V->List ax->q3->T):Prop:=(rd=none∨lB c=true)->
 ∀n tm bl k G ρ m a w Q,R w0 n ρ m tm bl a w->(e n tm bl k).holds S L G ρ->Bj S L w0 k n bl.length ρ m G Q->c.wpIn (qc rd) 0 P Q a w
theorem aa7 {c:Code} {e:Nat->List V->List ax->q3->T} (hd:rd=none∨lB c=true) (he:Mf rd S L w0 P c e) {Q:Exit->Act->ar->Prop}:∀(r:Nat) {n:Nat} {ρ:Env} {m:Nat->Nat} {tm:List V} {bl:List ax} {a:Act} {w:ar} {G:dT} {k:q3},
 R w0 n ρ m tm bl a w->(RA e r n tm bl k).holds S L G ρ->Bj S L w0 k n bl.length ρ m G Q->Code.roundsIn (qc rd) 0 P c Q r a w
 |0,_,_,_,_,_,_,_,_,_,_,ai,_=>ai.elim
 |r+1,n,ρ,m,tm,bl,a,w,G,k,h,ai,hk=>by
  rw[roundsIn_succ]
  refine he hd n tm bl _ G ρ m a w _ h ai λx n' ah m' ch a8 dU di w' h1 h2 h3 h4=>?_
  cases x with
  |normal=>exact aa7 hd he r h3 h4 (hk.later h1 h2)
  |exit id=>exact hk (.exit id) n' ah m' ch a8 dU di w' h1 h2 h3 h4
  |ret=>exact hk .ret n' ah m' ch a8 dU di w' h1 h2 h3 h4
theorem adx {n nb:Nat} {ρ:Env} {m:Nat->Nat} {tm:List V} {xs:Array aF} (h:dX n nb ρ m tm xs):yL n nb ρ m tm xs.toList:=Vi (by simpa using h)
theorem Yc {li:c7} {n:Nat} {b8 ah:Env} {m0 m':Nat->Nat} {tm ch kQ wa:List V} {bl a8 er nL:List ax} {l1 l2 v1 v2 ext:List aa} {b1 b2 Bv r5:List (Int×Int)} {n':Nat} {a:Act} {w:ar}
 (hlen:bl.length<=a8.length)
 (ha:agree n b8 ah) (hm:∀b,b<bl.length->m' b=m0 b) (ht:∀v∈tm,V.ok n bl.length b8 v) (pO:cK n bl.length b8 bl)
 (h:R w0 n' ah m' ch a8 a w) (e1:hs li.fl li.ints 0 (n+1) tm=some (kQ,l1,b1)) (e2:hb li.cells 0 (n+1+l1.length) bl=some (er,l2,b2))
 (bN:hs li.fl li.ints 0 (n+1) ch=some (wa,v1,Bv)) (fi:hb li.cells 0 (n+1+v1.length) (a8.take bl.length)=some (nL,v2,r5))
 (f1:lZ kQ wa=true) (f2:lY er nL=true):
 v1.length+v2.length=l1.length+l2.length/\aV (b1++b2) ((v1++v2).map (·.den ah))/\R w0 (n+1+l1.length+l2.length+ext.length) (bL b8 (n+1) ((v1++v2++ext).map (·.den ah))) m0 kQ er a w/\er.length=bl.length/\∀(i:Nat) (p:ax),er[i]?=some p->i<bl.length/\∃p':ax,a8[i]?=some p'/\bp (bL b8 (n+1) ((v1++v2++ext).map (·.den ah))) p.1=bp ah p'.1:=by
 have OQ:agree n b8 (bL b8 (n+1) ((v1++v2++ext).map (·.den ah))):=(agree.bL _ (n+1) b8).mono (by omega)
 have xg:∀j,j<(v1++v2).length->bL b8 (n+1) ((v1++v2++ext).map (·.den ah)) (n+1+j)=((v1++v2).getD j (.const 0)).den ah:=λj hj=>by
  rw[DL _ _ _ j (by simp at hj⊢;omega)]
  have pQ:j<(v1++v2++ext).length:=by simp at hj⊢;omega
  have e:(v1++v2++ext)[j]=(v1++v2)[j]:=List.getElem_append_left hj
  simp only[ae,nE,kg hj,kg pQ,rO,rP,e]
 have aCs:v1.length+v2.length=(v1++v2).length:=by simp
 obtain⟨p1,bJ,cP⟩:=Gk (N:=n+1+v1.length+v2.length+ext.length) ha OQ hm (by omega) ht (adx h.t) e1 bN f1 (λj hj=>by
  rw[xg j (by simp;omega),Xc hj]) (by omega)
 rw[<-cP]at e2
 have FG:cK n' a8.length ah (a8.take bl.length):=λp hp=>h.b p (kv hp)
 obtain⟨bq,bE,b5,dm⟩:=XT (N:=n+1+v1.length+v2.length+ext.length) ha OQ hm (by omega) pO FG e2 fi f2 (λj hj=>by
  rw[show n+1+v1.length+j=n+1+(v1.length+j) by omega,xg (v1.length+j) (by simp;omega),Xd]) (by omega)
 have hbl:er.length=bl.length:=(FD e2).2
 refine⟨by omega,by rw[ft];exact sB bJ bE,?_⟩
 rw[<-cP,<-b5]
 have kE:∀(i:Nat) (p:ax),er[i]?=some p->i<bl.length/\∃p':ax,a8[i]?=some p'/\bV p.1=bV p'.1/\p.2=p'.2/\(bV p.1=false->∃sh off code code' cap k,p.1=[.rows sh off code cap k]/\p'.1=[.rows sh off code' cap k]/\off.bk n/\cap.bk n):=λi p hi=>by
  have iD:i<bl.length:=by rw[<-hbl];exact(List.getElem?_eq_some_iff.1 hi).1
  obtain⟨p',h1,h2,Fi,h3⟩:=OS fi i p (WM f2 i p hi)
  rw[og,if_pos iD]at h1
  obtain⟨p0,g1,_,_,g3⟩:=OS e2 i p hi
  refine⟨iD,p',h1,h2,Fi,λho=>?_⟩
  obtain⟨sh,off,code,code',cap,k,s1,s2⟩:=h3 ho
  obtain⟨eK,gT,c1,c2,gL,a6,fL,j7⟩:=g3 ho
  rw[s1]at fL
  cases fL
  have bm:A.ok n bl.length b8 (.rows sh off c2 cap k):=pO _ (eh g1) _ (by rw[j7];simp)
  exact⟨sh,off,code,code',cap,k,s1,s2,bm.1.1,bm.1.2.2⟩
 have OR:agree n ah (bL b8 (n+1) ((v1++v2++ext).map (·.den ah))):=ha.sym.trans OQ (br _)
 have hk2:∀(p p':ax),bV p.1=bV p'.1->(bV p.1=false->∃sh off code code' cap k,p.1=[.rows sh off code cap k]/\p'.1=[.rows sh off code' cap k]/\off.bk n/\cap.bk n)->bp (bL b8 (n+1) ((v1++v2++ext).map (·.den ah))) p.1=bp ah p'.1:=λp p' h1 h2=>by
  cases ho:bV p.1 with
  |true=>rw[jA ho,jA (h1▸ho)]
  |false=>
   obtain⟨sh,off,code,code',cap,k,s1,s2,fL,j7⟩:=h2 ho
   rw[s1,s2]
   simp only[bp]
   rw[aa.bR OR j7]
 refine⟨?_,hbl,λi p hi=>by
  obtain⟨g1,p',g2,g3,_,g4⟩:=kE i p hi
  exact⟨g1,p',g2,hk2 p p' g3 g4⟩⟩
 refine⟨?_,h.d,by rw[hbl];exact bq,⟨h.bx.ext,h.bx.gQ,h.bx.jz,h.bx.ic,h.bx.e8,h.bx.gz,λi cs t hi ho=>?_,λi sh off code cap kind t hi=>?_,λi j p q hi hj he=>?_⟩⟩
 ·rw[hbl]
  have:=Ih p1
  simpa using this
 ·obtain⟨c',h1,h2⟩:=dm i cs t hi
  obtain⟨iD,p',k1,k2,_⟩:=kE i _ hi
  rw[og,if_pos iD,k1]at h1
  have h1:=hZ h1
  subst h1
  obtain⟨g1,kk,r,hr,g2⟩:=h.bx.eR i c' t k1 (k2▸ho)
  rw[<-hm i iD]
  exact⟨g1,kk,r,hr,by rw[h2];exact g2⟩
 ·obtain⟨iD,p',k1,_,k2,k3⟩:=kE i _ hi
  obtain⟨eK,gT,c1,c2,gL,a6,s1,s2,fL,j7⟩:=k3 rfl
  cases s1
  obtain⟨C,t'⟩:=p'
  simp only at s2 k2
  subst s2;subst k2
  obtain⟨c',h1,h2⟩:=dm i _ t hi
  rw[og,if_pos iD,k1]at h1
  cases h1
  simp only[cI,eo,A.den,hX,aDA,and_true,true_and]at h2
  rw[<-hm i iD]
  have hR:=h.bx.rws i sh off c2 cap kind t k1
  unfold q4 at hR⊢
  rw[aa.bR OR fL,aa.bR OR j7,h2]
  exact hR
 ·obtain⟨iD,p',k1,k2,_,k3⟩:=kE i p hi
  obtain⟨zv,q',l1,l2,_,Aj⟩:=kE j q hj
  rw[hk2 p p' k2 k3,hk2 q q' l2 Aj]
  rw[<-hm i iD,<-hm j zv]at he
  exact h.bx.inj i j p' q' k1 l1 he
theorem dX.set {n nb:Nat} {ρ:Env} {m:Nat->Nat} {tm:List V} {xs:Array aF} {s:Nat} {v:V} (h:dX n nb ρ m tm xs) (hv:v.ok n nb ρ) (hr:∀x,xs[s]?=some x->v.rel ρ m x):dX n nb ρ m (qQ tm s v) xs:=by
 rw[RU]
 refine⟨by simp[h.1],λi u hu=>?_⟩
 rw[oU]at hu
 split at hu
 ·rename_i alT
  subst alT
  split at hu
  ·rename_i hlt
   cases hu
   rw[h.1]at hlt
   exact⟨hv,_,HF hlt,hr _ (HF hlt)⟩
  ·cases hu
 ·exact h.2 i u hu
def Bi (tmps:Array aF):List Nat->List Int->Prop
 |[],[]=>True
 |s::r,z::zs=>(0<=z/\z<=1)/\(∀x,tmps[s]?=some x->x= .bool (decide (z=1)))/\Bi tmps r zs
 |_,_=>False
def yy (w0:dK) (w:ar) (tmps:Array aF) (F:Nat->Prop):List (Nat×List aB×aX)->List Int->Prop
 |[],[]=>True
 |(s,sh,e)::r,code::len::cap::zs=>∃g:Nat,(∀x,tmps[s]?=some x->x=if cap<0 then .slice none 0 0 else .slice (some ⟨g,0,none⟩) len.toNat cap.toNat)/\AT 0 0 len cap/\(0<=code/\code<=bK)/\(cap<0->af code=[])/\
    (0<=cap->∃cells:Array aF,w.heap[g]?=some (.cells cells e (0,0))/\lg cells 0 sh (af code)/\cells.size=cap.toNat*sh.length/\w0.b.heap.size<=g/\(w0.ex g∨w0.r.heap.size<=g))/\
    (0<=cap->F g)/\yy w0 w tmps (λji=>F ji/\(0<=cap->ji≠g)) r zs
 |_,_=>False
theorem MX {nb:Nat} {tm:List V} {m:Nat->Nat} {tmps:Array aF}:∀{l:List Nat} {n:Nat} {ρ:Env},dX n nb ρ m tm tmps->aw S L (EM tm l) n ρ λah n' ls=>(∀x∈ls,aa.bk n' x)/\ls.length=l.length/\Bi tmps l (ls.map (·.den ah))
 |[],n,ρ,ht=>aw.pure ⟨λ_ h=>by simp at h,rfl,trivial⟩
 |s::r,n,ρ,ht=>by
  unfold EM
  split
  ·rename_i e hs
   obtain⟨h1,x,h2,h3⟩:=ht.2 s _ hs
   have h3:x= .bool (e.den ρ):=h3
   have key:aw S L (match e with| .lit v=>pure (aa.const (cond v 1 0))|e=>zQ e) n ρ λah n' l=>l.bk n'/\(0<=l.den ah/\l.den ah<=1)/\e.den ρ=decide (l.den ah=1):=by
    cases e with
    |lit v=>cases v<;>exact aw.pure ⟨aa.cT _ _,by simp only[aa.aW];decide,by simp only[aa.aW,bd.den];rfl⟩
    |_=>exact J0
   refine key.bind λaE n1 l hn ha ⟨g1,g2,g3⟩=>(MX (l:=r) (ht.ext ha hn (br _) (λ_ _=>rfl))).bind λbT en ls eN dD ⟨k1,k2,k3⟩=>aw.pure ⟨λy hy=>?_,by simp[k2],?_⟩
   ·rcases List.mem_cons.1 hy with rfl|hy
    ·exact g1.mono eN
    ·exact k1 y hy
   ·have e1:=aa.bR dD g1
    simp only[cI,Bi,e1]
    refine⟨g2,λy hy=>?_,k3⟩
    rw[h2]at hy
    cases hy
    rw[h3,g3]
  ·exact aw.fail
theorem E5 {nb:Nat} {m:Nat->Nat} {tmps:Array aF}:∀{l:List (Nat×Int×Int)} {tm:List V} {n:Nat} {ρ:Env},dX n nb ρ m tm tmps->aw S L (y6 l tm) n ρ λah n' ch=>dX n' nb ah m ch tmps
 |[],tm,n,ρ,ht=>aw.pure ht
 |(s,lo,hi)::r,tm,n,ρ,ht=>by
  unfold y6
  split
  ·rename_i k x hs
   cases hc:(decide (lo<=x.lo)&&decide (x.hi<=hi))with
   |true=>simp only[cond_true];exact E5 ht
   |false=>
    simp only[cond_false]
    refine gM λhk=>?_
    simp only[cI,eo,ab,aa.aW]at hk
    obtain⟨h1,y,h2,h3⟩:=ht.2 s _ hs
    have h1:x.ok n ρ:=h1
    exact E5 (ht.set (v:= .w (.one (.int k ⟨x.l,lo,hi⟩))) ⟨h1.1,hk.1,hk.2⟩ λz hz=>by
     rw[h2]at hz;cases hz;exact h3)
  ·exact E5 ht
theorem Ii {n lo:Nat} {ρ:Env} {m:Nat->Nat} {tm:List V} {bl:List ax} {a:Act} {w:ar} (h:R w0 n ρ m tm bl a w):∀{l:List (Nat×List aB×aX)} {used:List Nat} {ls:List aa} {u:List Nat},th lo l tm bl used=some (ls,u)->
 (∀x∈ls,aa.bk n x)/\ls.length=(yP l).length/\(∀b∈used,b∈u)/\(∀b∈u,b∈used∨lo<=b)/\∀F:Nat->Prop,(∀(b:Nat) (p:ax),b∈u->b∉used->bl[b]?=some p->bp ρ p.1=2->bV p.1=false->F (m b))->yy w0 w a.tmps F l (ls.map (·.den ρ))
 |[],used,ls,u,he=>by
  simp only[th,aQ,cA]at he
  obtain⟨rfl,rfl⟩:=he
  exact⟨λ_ h=>by simp at h,rfl,λ_ h=>h,λ_ h=> .inl h,λ_ _=>trivial⟩
 |(s,sh,e)::r,used,ls,u,he=>by
  unfold th at he
  split at he
  ·rename_i hs
   split at he
   ·rename_i l1 px hr
    simp only[aQ,cA]at he
    obtain⟨rfl,rfl⟩:=he
    obtain⟨g1,g2,g3,g4,g5⟩:=Ii h hr
    refine⟨λx hx=>?_,by simp[yP]at g2⊢;omega,g3,g4,λF hF=>⟨0,λx hx=>?_,?_,?_,?_,?_,?_,?_⟩⟩
    ·simp only[oT]at hx
     rcases hx with rfl|rfl|rfl|hx
     ·exact aa.cT _ _
     ·exact aa.cT _ _
     ·exact aa.cT _ _
     ·exact g1 x hx
    ·obtain⟨_,y,h2,h3⟩:=h.t.2 s _ hs
     rw[h2]at hx;cases hx
     have lp:(aa.const (-1)).den ρ<0:=by rw[aa.aW];decide
     simp only[lp,if_true]
     exact h3
    ·simp only[aa.aW];exact⟨⟨by omega,by omega,by omega,by omega⟩,⟨by omega,by omega⟩,λ_=>rfl,λh=>by omega⟩
    ·simp only[aa.aW];exact⟨bX _,oe (gm []) (oX (l:=[]) (by simp) (by simp))⟩
    ·intro _;simp only[aa.aW];exact fa
    ·simp only[aa.aW];intro h;omega
    ·simp only[aa.aW];intro h;omega
    ·refine g5 _ λb p hb hu hbl hk ho=>⟨hF b p hb hu hbl hk ho,?_⟩
     simp only[aa.aW];intro h;omega
   ·cases he
  ·rename_i b a7 o ro len cap hs
   split at he
   ·rename_i eK off code dL kind t hbl
    cases hc:(nu sh eK&&aG kind 2&&aa.beq o (.const 0)&&aa.beq off (.const 0)&&aa.beq ro (.const 0)&&aa.beq cap dL&&aG t.1 e&&aG a7 sh.length&&bB lo b&& !(used.any (aG b)))with
    |false=>rw[hc]at he;cases he
    |true=>
     rw[hc]at he
     simp only[cond_true]at he
     split at he
     ·rename_i l1 px hr
      simp only[aQ,cA]at he
      obtain⟨rfl,rfl⟩:=he
      simp only[aS]at hc
      obtain⟨⟨⟨⟨⟨⟨⟨⟨⟨c1,c2⟩,c3⟩,c4⟩,c5⟩,hQ⟩,ox⟩,nN⟩,q9⟩,yV⟩:=hc
      have c1:=vZ c1;have c2:=bG c2;have c3:=aa.beq_eq c3;have c4:=aa.beq_eq c4;have c5:=aa.beq_eq c5;have hQ:=aa.beq_eq hQ
      have ox:=bG ox;have nN:=bG nN;have q9:=eC q9
      have aln:b∉used:=λhb=>by
       have:used.any (aG b)=true:=List.any_eq_true.2 ⟨b,hb,ym b⟩
       rw[this]at yV;cases yV
      subst c1;subst c2;subst c3;subst c4;subst c5;subst hQ;subst ox;subst nN
      obtain⟨g1,g2,g3,g4,g5⟩:=Ii h hr
      obtain⟨bm,y,h2,h3⟩:=h.t.2 s _ hs
      have bm:(A.sl b sh.length (.const 0) (.const 0) len cap).ok n bl.length ρ:=bm
      obtain⟨x1,⟨x2,gF,gq,gG⟩,gV⟩:=bm
      simp only[aa.aW]at gV
      have e7:(A.rows sh (.const 0) code cap 2).ok n bl.length ρ:=h.b _ (eh hbl) _ (by simp)
      obtain⟨⟨r1,r2,jm⟩,iH,bA⟩:=e7
      have jy:=h.bx.rws b sh (.const 0) code cap 2 t hbl (by decide)
      refine⟨λx hx=>?_,by simp[yP]at g2⊢;omega,λcp iO=>g3 cp (dn _ iO),λcp iO=>?_,λF hF=>⟨m b,λx hx=>?_,gV,iH,jy.1,λh0=>?_,λh0=>?_,?_⟩⟩
      ·simp only[oT]at hx
       rcases hx with rfl|rfl|rfl|hx
       ·exact r2
       ·exact gq
       ·exact gG
       ·exact g1 x hx
      ·rcases g4 cp iO with h5|h5
       ·rcases List.mem_cons.1 h5 with rfl|h5
        ·exact .inr q9
        ·exact .inl h5
       ·exact .inr h5
      ·have Qe:y=x:=hZ (h2.symm.trans hx)
       subst Qe
       have h3:y=(A.sl b sh.length (.const 0) (.const 0) len cap).den ρ m:=h3
       rw[h3]
       simp only[A.den,aa.aW]
       split<;>simp
      ·obtain⟨_,cells,iZ,fz,k1,⟨k2,k3⟩,k4⟩:=jy.2 h0
       obtain⟨fA,qI,tN,J3,amV,amW⟩:=k4 (by decide)
       subst fA
       have tN:=tN.two
       subst tN
       rw[aa.aW]at k3
       exact⟨cells,k1,k3,J3,amV,amW⟩
      ·exact hF b _ (g3 b (by simp)) aln hbl (oJ (by decide) h0) rfl
      ·refine g5 _ λcp p iO hu XW hk ho=>⟨hF cp p iO (λh=>hu (dn _ h)) XW hk ho,λh0=>?_⟩
       have jM:bp ρ [A.rows sh (.const 0) code cap 2]=2:=oJ (by decide) h0
       exact h.bx.ne XW hbl (by rw[hk];exact br 2) (by simp only[jM];decide) λe=>hu (by simp[e])
     ·cases he
   ·cases he
  ·cases he
theorem KC {c:List A} (h:bV c=false):∃sh off code cap k,c=[.rows sh off code cap k]:=by
 unfold bV at h
 split at h
 ·exact⟨_,_,_,_,_,rfl⟩
 ·cases h
theorem Qy {n:Nat} {ρ:Env} {m:Nat->Nat} {tm:List V} {a:Act} {w:ar}:∀{us:List Nat} {bl:List ax},R w0 n ρ m tm bl a w->R w0 n ρ m tm (ma us bl) a w/\(ma us bl).length=bl.length/\∀(i:Nat) (p:ax),(ma us bl)[i]?=some p->(bl[i]?=some p/\(i∈us->bV p.1=true∨bp ρ p.1=0))∨bp ρ p.1=0
 |[],bl,h=>⟨h,rfl,λi p hp=> .inl ⟨hp,λh=>by simp at h⟩⟩
 |b::r,bl,h=>by
  unfold ma
  split
  ·rename_i sh off code cap k t hbl
   obtain⟨g1,g2,g3⟩:=Qy (us:=r) (h.kill hbl)
   refine⟨g1,by rw[g2,iY],λi p hp=>?_⟩
   rcases g3 i p hp with⟨g4,g5⟩|g4
   ·by_cases iD:i=b
    ·subst iD
     rw[iX,acA (List.getElem?_eq_some_iff.1 hbl).1]at g4
     cases g4
     exact .inr (by simp[bp])
    ·rw[iX,S8 (λe=>iD e.symm)]at g4
     exact .inl ⟨g4,λhi=>g5 (by simpa [iD]using hi)⟩
   ·exact .inr g4
  ·rename_i hno
   obtain⟨g1,g2,g3⟩:=Qy (us:=r) h
   refine⟨g1,g2,λi p hp=>?_⟩
   rcases g3 i p hp with⟨g4,g5⟩|g4
   ·refine .inl ⟨g4,λhi=>?_⟩
    rcases List.mem_cons.1 hi with rfl|hi
    ·cases ho:bV p.1 with
     |true=>exact .inl rfl
     |false=>
      exfalso
      obtain⟨c,t⟩:=p
      obtain⟨sh,off,code,cap,k,rfl⟩:=KC ho
      exact hno _ _ _ _ _ _ g4
    ·exact g5 hi
   ·exact .inr g4
theorem Ya {N:Nat} {bT:Env} {m:Nat->Nat} {bl:List ax} {a:Act} {w:ar}:∀{l:List Nat} {zs:List Int} {v:Nat} {tm:List V},R w0 N bT m tm bl a w->Bi a.tmps l zs->(∀j,j<zs.length->bT (v+j)=zs.getD j 0)->v+zs.length<=N->R w0 N bT m (sq l v tm) bl a w
 |[],[],v,tm,h,_,_,_=>h
 |s::r,z::zs,v,tm,h,hb,hv,hN=>by
  unfold sq
  have h0:=hv 0 (by simp)
  simp only[mv,rN]at h0
  simp only[dv]at hN
  refine Ya (l:=r) (zs:=zs) ⟨dX.set h.t ?_ λx hx=>?_,h.d,h.b,h.bx⟩ hb.2.2 (λj hj=>by
   have:=hv (j+1) (by simpa using hj)
   rw[show v+1+j=v+(j+1) by omega];simpa using this) (by omega)
  ·exact⟨aa.eV (by omega),aa.cT _ _⟩
  ·rw[hb.2.1 x hx]
   simp[V.rel,W.den,A.den,bd.den,aa.cE,aa.aW,h0]
 |[],_::_,_,_,_,h,_,_=>h.elim
 |_::_,[],_,_,_,h,_,_=>h.elim
theorem X9 {N:Nat} {bT:Env} {a:Act} {w:ar}:∀{l:List (Nat×List aB×aX)} {zs:List Int} {v:Nat} {tm:List V} {bl:List ax} {m:Nat->Nat} {F:Nat->Prop},R w0 N bT m tm bl a w->yy w0 w a.tmps F l zs->(∀g,F g->∀(i:Nat) (p:ax),bl[i]?=some p->m i=g->bp bT p.1=0)->
 (∀j,j<zs.length->bT (v+j)=zs.getD j 0)->v+zs.length<=N->∃eF,(∀b,b<bl.length->eF b=m b)/\bl.length<=(qy l v tm bl).2.length/\R w0 N bT eF (qy l v tm bl).1 (qy l v tm bl).2 a w
 |[],[],v,tm,bl,m,F,h,_,_,_,_=>⟨m,λ_ _=>rfl,br _,h⟩
 |(s,sh,e)::r,code::len::cap::zs,v,tm,bl,m,F,h,hf,hF,hv,hN=>by
  obtain⟨g,f1,f2,f3,f4,f5,f6,f7⟩:=hf
  have v0:=hv 0 (by simp)
  have v1:=hv 1 (by simp)
  have v2:=hv 2 (by simp)
  simp only[rN,Ea,mv]at v0 v1 v2
  simp only[dv]at hN
  have hc:(-1:Int)<=cap/\cap<=9223372036854775807:=⟨f2.2.1.1,by have:=f2.2.1.2;omega⟩
  have hA:(A.rows sh (.const 0) (.var v) (.var (v+2)) 2).ok N bl.length bT:=⟨⟨aa.cT _ _,aa.eV (by omega),aa.eV (by omega)⟩,by rw[aa.cE,v0];exact f3,by rw[aa.cE,v2];exact hc⟩
  have fj:=h.bx.push (x:=([.rows sh (.const 0) (.var v) (.var (v+2)) 2],(e,false))) (g:=g) h.b (λy hy=>by simp at hy;subst hy;exact hA) (λho=>by cases ho) (λeK gT code' gL mN he=>by
   cases he
   intro _
   simp only[aa.cE,v0,v2,aa.aW]
   refine⟨f4,λh0=>?_⟩
   obtain⟨cells,k1,k2,k3,k4,qI⟩:=f5 h0
   exact⟨qI.elim .inl λh=> .inr (.inr h),cells,e,(0,0),k1,⟨bX _,k2⟩,λ_=>⟨rfl,by trivial,.GL,k3,k4,qI⟩⟩) (λi p hi he=>by
   rcases jX cap 0 with h0|h0
   ·refine .inr (.inr ?_)
    simp only[bp,aa.cE,v2]
    rw[if_pos h0]
   ·exact .inr (.inl (hF g (f6 h0) i p hi he)))
  have cF:=dO.alloc N bT m bl ([A.rows sh (.const 0) (.var v) (.var (v+2)) 2],(e,false)) g
  have hR:R w0 N bT (j9 m bl.length g) (qQ tm s (.w (.one (.sl bl.length sh.length (.const 0) (.const 0) (.var (v+1)) (.var (v+2)))))) (bl++[([.rows sh (.const 0) (.var v) (.var (v+2)) 2],(e,false))]) a w:=by
   refine⟨dX.set (h.t.ext cF.ha cF.hn cF.hb cF.hm) ?_ λx hx=>?_,h.d,h.b.alloc (λy hy=>by simp at hy;subst hy;exact hA),fj⟩
   ·refine⟨by simp,⟨aa.cT _ _,aa.cT _ _,aa.eV (by omega),aa.eV (by omega)⟩,?_⟩
    simp only[aa.aW,aa.cE,v1,v2];exact f2
   ·rw[f1 x hx]
    simp only[V.rel,W.den,A.den,aa.aW,aa.cE,v1,v2,lF]
    split<;>simp
  obtain⟨eF,bq,bE,b5⟩:=X9 (l:=r) (zs:=zs) (v:=v+3) hR f7 (λji tF i p hi he=>by
   rw[HG]at hi
   split at hi
   ·rename_i c9
    rw[kR c9]at he
    exact hF ji tF.1 i p hi he
   ·have c9:=(List.getElem?_eq_some_iff.1 hi).1
    have:i=bl.length:=by simp at c9;omega
    subst this
    simp only[Nat.sub_self,rQ,aQ]at hi
    subst hi
    rw[lF]at he
    rcases jX cap 0 with h0|h0
    ·simp only[bp,aa.cE,v2]
     rw[if_pos h0]
    ·exact absurd he.symm (tF.2 h0)) (λj hj=>by
   have:=hv (j+3) (by simp only[dv];omega)
   rw[show v+3+j=v+(j+3) by omega];simpa using this) (by omega)
  simp only[dN,dv,fM]at bq bE
  exact⟨eF,λb hb=>by rw[bq b (by omega)];exact kR hb,by unfold qy;omega,by unfold qy;exact b5⟩
 |[],_::_,_,_,_,_,_,_,h,_,_,_=>h.elim
 |_::_,[],_,_,_,_,_,_,h,_,_,_=>h.elim
 |_::_,[_],_,_,_,_,_,_,h,_,_,_=>h.elim
 |_::_,[_,_],_,_,_,_,_,_,h,_,_,_=>h.elim
theorem Zd {tmps:Array aF}:∀{l:List Nat} {zs:List Int},Bi tmps l zs->aV (IB l) zs
 |[],[],_=>trivial
 |s::r,z::zs,h=>⟨h.1.1,h.1.2,Zd h.2.2⟩
 |[],_::_,h=>h.elim
 |_::_,[],h=>h.elim
theorem Zb {w:ar} {tmps:Array aF}:∀{l:List (Nat×List aB×aX)} {zs:List Int} {F:Nat->Prop},yy w0 w tmps F l zs->aV (yP l) zs
 |[],[],_,_=>trivial
 |(s,sh,e)::r,code::len::cap::zs,F,⟨g,f1,f2,f3,f4,f5,f6,f7⟩=>⟨f3.1,f3.2,f2.1.2.2.1,f2.1.2.2.2,f2.2.1.1,by have:=f2.2.1.2;omega,Zb f7⟩
 |[],_::_,_,h=>h.elim
 |_::_,[],_,h=>h.elim
 |_::_,[_],_,h=>h.elim
 |_::_,[_,_],_,h=>h.elim
theorem Mem.RH {n:Nat} {ρ:Env} {m:Nat->Nat} {bl:List ax} {w:ar} {b c:Nat} {C:List A} {sh:List aB} {code:aa} {t:aX×Bool} (h:Mem w0 ρ m bl w) (hbl:bl[b]?=some (C,t)) (ho:bV C=true) (ht:t.2=false)
 (jx:∀row∈af (code.den ρ),cl sh row) (iP:bf sh (af (code.den ρ))=C.map (A.den ρ m)) (hlen:C.length=c*sh.length):Mem w0 ρ m (df bl b ([.rows sh (.const 0) code (.const c) 2],t)) w:=by
 have mD:b<bl.length:=(List.getElem?_eq_some_iff.1 hbl).1
 obtain⟨bq,bE,r,hr,b5⟩:=h.eR b C t hbl ho
 have hr:=hr ht
 subst hr
 rw[h9]at b5
 have dc:∀(i:Nat) (p:ax),(df bl b ([.rows sh (.const 0) code (.const c) 2],t))[i]?=some p->(i=b/\p=([.rows sh (.const 0) code (.const c) 2],t))∨(i≠b/\bl[i]?=some p):=λi p hi=>by
  rw[iX,oU]at hi
  split at hi
  ·rename_i eM
   subst eM
   simp only[mD,if_true,aQ]at hi
   exact .inl ⟨rfl,hi.symm⟩
  ·rename_i eM;exact .inr ⟨λe=>eM e.symm,hi⟩
 have hk2:bp ρ [.rows sh (.const 0) code (.const c) 2]=2:=oJ (by decide) (by rw[aa.aW];omega)
 refine⟨h.ext,h.gQ,h.jz,h.ic,h.e8,h.gz,λi iB t' hi hH=>?_,λi eK gT code' gL mN t' hi=>?_,λi j p q hi hj he=>?_⟩
 ·rcases dc i _ hi with⟨rfl,cX⟩|⟨hne,hi⟩
  ·cases cX;cases hH
  ·exact h.eR i iB t' hi hH
 ·rcases dc i _ hi with⟨rfl,cX⟩|⟨hne,hi⟩
  ·cases cX
   intro _
   simp only[aa.aW]
   refine⟨λh0=>by omega,λ_=>⟨bE.elim .inl λh=> .inr (.inr h),_,_,_,b5,⟨bX _,jx,[],[],by simp[iP],rfl⟩,λ_=>⟨rfl,by trivial,.GL,by simp[hlen],bq,bE⟩⟩⟩
  ·exact h.rws i eK gT _ gL mN t' hi
 ·have hk:∀(i:Nat) (p:ax),(df bl b ([.rows sh (.const 0) code (.const c) 2],t))[i]?=some p->∃p',bl[i]?=some p'/\bp ρ p'.1=bp ρ p.1:=λi p hi=>by
   rcases dc i _ hi with⟨rfl,cX⟩|⟨hne,hi⟩
   ·exact⟨_,hbl,by rw[cX];simp only[hk2,jA ho]⟩
   ·exact⟨p,hi,rfl⟩
  obtain⟨p',hp,ep⟩:=hk i p hi
  obtain⟨q',hq,eq⟩:=hk j q hj
  rw[<-ep,<-eq]
  exact h.inj i j p' q' hp hq he
theorem RI {m:Nat->Nat} {tm:List V} {a:Act} {w:ar}:∀{l:List (Nat×List aB×Nat)} {bl:List ax} {n:Nat} {ρ:Env},R w0 n ρ m tm bl a w->aw S L (Hc l bl) n ρ λah n' a8=>R w0 n' ah m tm a8 a w/\a8.length=bl.length
 |[],bl,n,ρ,h=>aw.pure ⟨h,rfl⟩
 |(b,sh,c)::r,bl,n,ρ,h=>by
  unfold Hc
  split
  ·rename_i C t hbl
   cases ho:bV C with
   |false=>simp only[cond_false];exact RI h
   |true=>
    simp only[cond_true]
    refine dV λhc=>?_
    simp only[aS]at hc
    obtain⟨⟨⟨c1,c2⟩,c3⟩,c4⟩:=hc
    have c1:t.2=false:=by simpa using c1
    have c2:=bG c2
    have c4:=eC c4
    have bm:∀x∈C,A.ok n bl.length ρ x:=h.b _ (eh hbl)
    have j2:=EW (w:=sh.length) (k:=c) c2
    have aZ:af ((aa.const 0).den ρ)=[]:=by rw[aa.aW];exact fa
    have hz:(0:Int)<=bK:=oe (gm []) (oX (l:=[]) (by simp) (by simp))
    refine(EF (nb:=bl.length) (m:=m) c3 (rs:=nc sh.length c C) (c:= .const 0) (λrow hr x hx=>bm x (EX row hr x hx)) (aa.cT _ _) (by rw[aa.aW];exact⟨bX _,hz⟩) (by rw[aZ];intro _ h;simp at h) (by rw[aZ,j2.1];simp;omega)).bind λaE n1 code fq dP ⟨p1,bJ,dF,cP,ea,ed,gf⟩=>?_
    rw[aZ,jr]at cP
    have h1:=h.later fq dP
    have Py:C.map (A.den aE m)=C.map (A.den ρ m):=sF bm dP (λ_ _=>rfl)
    have fj:=h1.bx.RH (n:=n1) (c:=c) (sh:=sh) (code:=code) hbl ho c1 (by rw[cP];exact ed) (by rw[cP,gf,j2.2,Py]) c2
    have hb1:cK n1 (df bl b ([.rows sh (.const 0) code (.const c) 2],t)).length aE (df bl b ([.rows sh (.const 0) code (.const c) 2],t)):=h1.b.set (λy hy=>by
     have hy:y= .rows sh (.const 0) code (.const c) 2:=by simpa using hy
     subst hy
     exact⟨⟨aa.cT _ _,p1,aa.cT _ _⟩,bJ,by rw[aa.aW];omega⟩)
    have hR:R w0 n1 aE m tm (df bl b ([.rows sh (.const 0) code (.const c) 2],t)) a w:=⟨by rw[iY];exact h1.t,h1.d,hb1,fj⟩
    exact(RI (l:=r) hR).mono λbT en lj _ _ ⟨g1,g2⟩=>⟨g1,by rw[g2,iY]⟩
  ·exact aw.fail
theorem natsM_holds {G:dT} {Bf:Unit->Nat->T}:∀{k n:Nat} {ρ:Env} {offs:List Int},(Ks k n Bf).holds S L G ρ->offs.length=k->(∀z∈offs,0<=z)->(Bf () (n+k)).holds S L G (bL ρ n offs)
 |0,n,ρ,[],h,_,_=>h
 |k+1,n,ρ,z::zs,h,hl,h0=>by
  have h1:(Ks k (n+1) Bf).holds S L G (c6 ρ n z):=h z (h0 z (by simp))
  have:=natsM_holds (offs:=zs) h1 (by simpa using hl) λy hy=>h0 y (dn _ hy)
  rw[show n+(k+1)=n+1+k by omega];exact this
 |0,_,_,_::_,_,hl,_=>by simp at hl
 |_+1,_,_,[],_,hl,_=>by simp at hl
def qe (w0:dK) (w:ar) (tmps:Array aF) (F:Nat->Prop):List (Nat×List aB)->List Nat->List Int->List Int->Prop
 |[],[],[],[]=>True
 |(s,sh)::r,g::gs,o::os,code::len::cap::zs=>(∀x,tmps[s]?=some x->x=if cap<0 then .slice none 0 0 else .slice (some ⟨g,o.toNat,none⟩) len.toNat cap.toNat)/\AT o 0 len cap/\(0<=code/\code<=bK)/\(cap<0->af code=[])/\
    (0<=cap->(w0.ex g∨w0.ro g∨w0.r.heap.size<=g)/\∃(cells:Array aF) (t:aX) (fz:Nat×Nat),w.heap[g]?=some (.cells cells t fz)/\lg cells o.toNat sh (af code))/\
    (0<=cap->F g)/\qe w0 w tmps F r gs os zs
 |_,_,_,_=>False
theorem qe.len {w:ar} {tmps:Array aF} {F:Nat->Prop}:∀{l:List (Nat×List aB)} {gs:List Nat} {os zs:List Int},qe w0 w tmps F l gs os zs->os.length=l.length/\∀z∈os,0<=z
 |[],[],[],[],_=>⟨rfl,λ_ h=>by simp at h⟩
 |(s,sh)::r,g::gs,o::os,code::len::cap::zs,h=>by
  obtain⟨_,h2,_,_,_,_,h7⟩:=h
  obtain⟨i1,i2⟩:=qe.len h7
  exact⟨by simp[i1],λz hz=>by
   rcases List.mem_cons.1 hz with rfl|hz
   ·exact h2.1.1
   ·exact i2 z hz⟩
 |_::_,[],_,_,h=>h.elim
 |_::_,_::_,[],_,h=>h.elim
 |_::_,_::_,_::_,[],h=>h.elim
 |_::_,_::_,_::_,[_],h=>h.elim
 |_::_,_::_,_::_,[_,_],h=>h.elim
 |[],_::_,_,_,h=>h.elim
 |[],[],_::_,_,h=>h.elim
 |[],[],[],_::_,h=>h.elim
theorem Ze {w:ar} {tmps:Array aF} {F:Nat->Prop}:∀{l:List (Nat×List aB)} {gs:List Nat} {os zs:List Int},qe w0 w tmps F l gs os zs->aV (AI l) zs
 |[],[],[],[],_=>trivial
 |(s,sh)::r,g::gs,o::os,code::len::cap::zs,⟨f1,f2,f3,f4,f5,f6,f7⟩=>⟨f3.1,f3.2,f2.1.2.2.1,f2.1.2.2.2,f2.2.1.1,by have:=f2.2.1.2;omega,Ze f7⟩
 |_::_,[],_,_,h=>h.elim
 |_::_,_::_,[],_,h=>h.elim
 |_::_,_::_,_::_,[],h=>h.elim
 |_::_,_::_,_::_,[_],h=>h.elim
 |_::_,_::_,_::_,[_,_],h=>h.elim
 |[],_::_,_,_,h=>h.elim
 |[],[],_::_,_,h=>h.elim
 |[],[],[],_::_,h=>h.elim
theorem KT {n:Nat} {ρ:Env} {m:Nat->Nat} {tm:List V} {bl:List ax} {a:Act} {w:ar} (h:R w0 n ρ m tm bl a w):∀{l:List (Nat×List aB)} {ls:List aa},AJ l tm bl=some ls->
 (∀x∈ls,aa.bk n x)/\ls.length=(AI l).length/\∃gs os,qe w0 w a.tmps (λg=>∃(i:Nat) (p:ax),bl[i]?=some p/\m i=g/\bp ρ p.1=1) l gs os (ls.map (·.den ρ))
 |[],ls,he=>by
  simp only[AJ,aQ]at he
  subst he
  exact⟨λ_ h=>by simp at h,rfl,[],[],trivial⟩
 |(s,sh)::r,ls,he=>by
  unfold AJ at he
  split at he
  ·rename_i hs
   split at he
   ·rename_i l1 hr
    simp only[aQ]at he
    subst he
    obtain⟨g1,g2,gs,os,g3⟩:=KT h hr
    refine⟨λx hx=>?_,by simp[AI]at g2⊢;omega,0::gs,0::os,λx hx=>?_,?_,?_,?_,?_,?_,g3⟩
    ·simp only[oT]at hx
     rcases hx with rfl|rfl|rfl|hx
     ·exact aa.cT _ _
     ·exact aa.cT _ _
     ·exact aa.cT _ _
     ·exact g1 x hx
    ·obtain⟨_,y,h2,h3⟩:=h.t.2 s _ hs
     rw[h2]at hx;cases hx
     have lp:(aa.const (-1)).den ρ<0:=by rw[aa.aW];decide
     simp only[lp,if_true]
     exact h3
    ·simp only[aa.aW];exact⟨⟨by omega,by omega,by omega,by omega⟩,⟨by omega,by omega⟩,λ_=>rfl,λh=>by omega⟩
    ·simp only[aa.aW];exact⟨bX _,oe (gm []) (oX (l:=[]) (by simp) (by simp))⟩
    ·intro _;simp only[aa.aW];exact fa
    ·simp only[aa.aW];intro h;omega
    ·simp only[aa.aW];intro h;omega
   ·cases he
  ·rename_i b a7 o ro len cap hs
   split at he
   ·rename_i eK off code dL kind t hbl
    cases hc:(nu sh eK&&aG kind 1&&aa.beq o off&&aa.beq ro (.const 0)&&aa.beq cap dL&&aG a7 sh.length)with
    |false=>rw[hc]at he;cases he
    |true=>
     rw[hc]at he
     simp only[cond_true]at he
     split at he
     ·rename_i l1 hr
      simp only[aQ]at he
      subst he
      simp only[aS]at hc
      obtain⟨⟨⟨⟨⟨c1,c2⟩,c3⟩,c4⟩,c5⟩,hQ⟩:=hc
      have c1:=vZ c1;have c2:=bG c2;have c3:=aa.beq_eq c3;have c4:=aa.beq_eq c4;have c5:=aa.beq_eq c5;have hQ:=bG hQ
      subst c1;subst c2;subst c3;subst c4;subst c5;subst hQ
      obtain⟨g1,g2,gs,os,g3⟩:=KT h hr
      obtain⟨bm,y,h2,h3⟩:=h.t.2 s _ hs
      have bm:(A.sl b sh.length o (.const 0) len cap).ok n bl.length ρ:=bm
      obtain⟨x1,⟨x2,gF,gq,gG⟩,gV⟩:=bm
      simp only[aa.aW]at gV
      have e7:(A.rows sh o code cap 1).ok n bl.length ρ:=h.b _ (eh hbl) _ (by simp)
      obtain⟨⟨r1,r2,jm⟩,iH,bA⟩:=e7
      have jy:=h.bx.rws b sh o code cap 1 t hbl (by decide)
      refine⟨λx hx=>?_,by simp[AI]at g2⊢;omega,m b::gs,o.den ρ::os,λx hx=>?_,gV,iH,jy.1,λh0=>?_,λh0=>?_,g3⟩
      ·simp only[oT]at hx
       rcases hx with rfl|rfl|rfl|hx
       ·exact r2
       ·exact gq
       ·exact gG
       ·exact g1 x hx
      ·have Qe:y=x:=hZ (h2.symm.trans hx)
       subst Qe
       have h3:y=(A.sl b sh.length o (.const 0) len cap).den ρ m:=h3
       rw[h3]
       simp only[A.den,aa.aW]
       split<;>simp
      ·obtain⟨fJ,cells,iZ,fz,k1,⟨k2,k3⟩,k4⟩:=jy.2 h0
       exact⟨fJ,cells,iZ,fz,k1,k3⟩
      ·exact⟨b,_,hbl,rfl,oJ (by decide) h0⟩
     ·cases he
   ·cases he
  ·cases he
theorem qe.mono {w:ar} {tmps:Array aF} {F wB:Nat->Prop} (hF:∀g,F g->wB g):∀{l:List (Nat×List aB)} {gs:List Nat} {os zs:List Int},qe w0 w tmps F l gs os zs->qe w0 w tmps wB l gs os zs
 |[],[],[],[],_=>trivial
 |(s,sh)::r,g::gs,o::os,code::len::cap::zs,⟨f1,f2,f3,f4,f5,f6,f7⟩=>⟨f1,f2,f3,f4,f5,λh=>hF g (f6 h),qe.mono hF f7⟩
 |_::_,[],_,_,h=>h.elim
 |_::_,_::_,[],_,h=>h.elim
 |_::_,_::_,_::_,[],h=>h.elim
 |_::_,_::_,_::_,[_],h=>h.elim
 |_::_,_::_,_::_,[_,_],h=>h.elim
 |[],_::_,_,_,h=>h.elim
 |[],[],_::_,_,h=>h.elim
 |[],[],[],_::_,h=>h.elim
theorem ME {lo:Nat} {tm:List V} {bl:List ax}:∀{l:List (Nat×List aB×aX)} {used:List Nat} {ls:List aa} {u:List Nat},th lo l tm bl used=some (ls,u)->∀b∈u,b∈used∨∃sh off code cap t,bl[b]?=some ([.rows sh off code cap 2],t)
 |[],used,ls,u,he=>by
  simp only[th,aQ,cA]at he
  obtain⟨rfl,rfl⟩:=he
  exactλb hb=> .inl hb
 |(s,sh,e)::r,used,ls,u,he=>by
  unfold th at he
  split at he
  ·split at he
   ·rename_i l1 px hr
    simp only[aQ,cA]at he
    obtain⟨rfl,rfl⟩:=he
    exact ME hr
   ·cases he
  ·rename_i b a7 o ro len cap hs
   split at he
   ·rename_i eK off code dL kind t hbl
    cases hc:(nu sh eK&&aG kind 2&&aa.beq o (.const 0)&&aa.beq off (.const 0)&&aa.beq ro (.const 0)&&aa.beq cap dL&&aG t.1 e&&aG a7 sh.length&&bB lo b&& !(used.any (aG b)))with
    |false=>rw[hc]at he;cases he
    |true=>
     rw[hc]at he
     simp only[cond_true]at he
     split at he
     ·rename_i l1 px hr
      simp only[aQ,cA]at he
      obtain⟨rfl,rfl⟩:=he
      simp only[aS]at hc
      obtain⟨⟨⟨⟨⟨⟨⟨⟨⟨c1,c2⟩,c3⟩,c4⟩,c5⟩,hQ⟩,ox⟩,nN⟩,q9⟩,yV⟩:=hc
      have c2:=bG c2
      subst c2
      intro cp iO
      rcases ME hr cp iO with h5|h5
      ·rcases List.mem_cons.1 h5 with rfl|h5
       ·exact .inr ⟨_,_,_,_,_,hbl⟩
       ·exact .inl h5
      ·exact .inr h5
     ·cases he
   ·cases he
  ·cases he
theorem Qx {i:Nat} {p:ax}:∀{us:List Nat} {bl:List ax},bl[i]?=some p->i∉us->(ma us bl)[i]?=some p
 |[],bl,h,_=>h
 |b::r,bl,h,hi=>by
  unfold ma
  split
  ·refine Qx ?_ λh=>hi (dn _ h)
   rw[iX,S8 (λe=>hi (by simp[e]))];exact h
  ·exact Qx h λh=>hi (dn _ h)
theorem Yb {N:Nat} {bT:Env} {a:Act} {w:ar} {F:Nat->Prop}:∀{l:List (Nat×List aB)} {gs:List Nat} {os zs:List Int} {v u:Nat} {tm:List V} {bl:List ax} {m:Nat->Nat},R w0 N bT m tm bl a w->qe w0 w a.tmps F l gs os zs->(∀g,F g->∀(i:Nat) (p:ax),bl[i]?=some p->m i=g->bp bT p.1<=1)->
 (∀j,j<zs.length->bT (v+j)=zs.getD j 0)->(∀j,j<os.length->bT (u+j)=os.getD j 0)->v+zs.length<=N->u+os.length<=N->
 ∃eF,(∀b,b<bl.length->eF b=m b)/\bl.length<=(headD l v u tm bl).2.length/\R w0 N bT eF (headD l v u tm bl).1 (headD l v u tm bl).2 a w/\∀(i:Nat) (p:ax),(headD l v u tm bl).2[i]?=some p->(i<bl.length/\bl[i]?=some p)∨(bp bT p.1≠0->F (eF i))
 |[],[],[],[],v,u,tm,bl,m,h,_,_,_,_,_,_=>⟨m,λ_ _=>rfl,br _,h,λi p hp=> .inl ⟨(List.getElem?_eq_some_iff.1 hp).1,hp⟩⟩
 |(s,sh)::r,g::gs,o::os,code::len::cap::zs,v,u,tm,bl,m,h,hf,hF,hv,hu,hN,Oq=>by
  obtain⟨f1,f2,f3,f4,f5,f6,f7⟩:=hf
  have v0:=hv 0 (by simp)
  have v1:=hv 1 (by simp)
  have v2:=hv 2 (by simp)
  have u0:=hu 0 (by simp)
  simp only[rN,Ea,mv]at v0 v1 v2 u0
  simp only[dv]at hN Oq
  have hc:(-1:Int)<=cap/\cap<=9223372036854775807:=⟨f2.2.1.1,by have:=f2.2.1.2;omega⟩
  have hA:(A.rows sh (.var u) (.var v) (.var (v+2)) 1).ok N bl.length bT:=⟨⟨aa.eV (by omega),aa.eV (by omega),aa.eV (by omega)⟩,by rw[aa.cE,v0];exact f3,by rw[aa.cE,v2];exact hc⟩
  have Yp:bp bT [A.rows sh (.var u) (.var v) (.var (v+2)) 1]<=1:=by
   simp only[bp]
   split<;>omega
  have fj:=h.bx.push (x:=([.rows sh (.var u) (.var v) (.var (v+2)) 1],(0,false))) (g:=g) h.b (λy hy=>by simp at hy;subst hy;exact hA) (λho=>by cases ho) (λeK gT code' gL mN he=>by
   cases he
   intro _
   simp only[aa.cE,v0,v2,u0]
   refine⟨f4,λh0=>?_⟩
   obtain⟨fA,cells,t,fz,k1,k2⟩:=f5 h0
   exact⟨fA,cells,t,fz,k1,⟨f2.1.1,k2⟩,λbg=>by omega⟩) (λi p hi he=>by
   rcases jX cap 0 with h0|h0
   ·refine .inr (.inr ?_)
    simp only[bp,aa.cE,v2]
    rw[if_pos h0]
   ·exact .inl ⟨hF g (f6 h0) i p hi he,Yp⟩)
  have cF:=dO.alloc N bT m bl ([A.rows sh (.var u) (.var v) (.var (v+2)) 1],(0,false)) g
  have hR:R w0 N bT (j9 m bl.length g) (qQ tm s (.w (.one (.sl bl.length sh.length (.var u) (.const 0) (.var (v+1)) (.var (v+2)))))) (bl++[([.rows sh (.var u) (.var v) (.var (v+2)) 1],(0,false))]) a w:=by
   refine⟨dX.set (h.t.ext cF.ha cF.hn cF.hb cF.hm) ?_ λx hx=>?_,h.d,h.b.alloc (λy hy=>by simp at hy;subst hy;exact hA),fj⟩
   ·refine⟨by simp,⟨aa.eV (by omega),aa.cT _ _,aa.eV (by omega),aa.eV (by omega)⟩,?_⟩
    simp only[aa.aW,aa.cE,v1,v2,u0];exact f2
   ·rw[f1 x hx]
    simp only[V.rel,W.den,A.den,aa.aW,aa.cE,v1,v2,u0,lF]
    split<;>simp
  obtain⟨eF,bq,bE,b5,dm⟩:=Yb (F:=F) (l:=r) (gs:=gs) (os:=os) (zs:=zs) (v:=v+3) (u:=u+1) hR f7 (λji tF i p hi he=>by
   rw[HG]at hi
   split at hi
   ·rename_i c9
    rw[kR c9]at he
    exact hF ji tF i p hi he
   ·have c9:=(List.getElem?_eq_some_iff.1 hi).1
    have:i=bl.length:=by simp at c9;omega
    subst this
    simp only[Nat.sub_self,rQ,aQ]at hi
    subst hi
    exact Yp) (λj hj=>by
   have:=hv (j+3) (by simp only[dv];omega)
   rw[show v+3+j=v+(j+3) by omega];simpa using this) (λj hj=>by
   have:=hu (j+1) (by simp only[dv];omega)
   rw[show u+1+j=u+(j+1) by omega];simpa using this) (by omega) (by omega)
  simp only[dN,dv,fM]at bq bE
  refine⟨eF,λb hb=>by rw[bq b (by omega)];exact kR hb,by unfold headD;omega,by unfold headD;exact b5,λi p hp=>?_⟩
  unfold headD at hp
  rcases dm i p hp with⟨ik,jT⟩|ik
  ·simp only[dN,dv,fM]at ik
   rw[HG]at jT
   split at jT
   ·rename_i c9;exact .inl ⟨c9,jT⟩
   ·rename_i c9
    have hi:i=bl.length:=by omega
    subst hi
    simp only[Nat.sub_self,rQ,aQ]at jT
    subst jT
    refine .inr λh0=>?_
    rw[bq bl.length (by omega),lF]
    refine f6 ?_
    rcases jX cap 0 with h1|h1
    ·refine absurd ?_ h0
     simp only[bp,aa.cE,v2]
     rw[if_pos h1]
    ·exact h1
  ·exact .inr ik
 |_::_,[],_,_,_,_,_,_,_,_,h,_,_,_,_,_=>h.elim
 |_::_,_::_,[],_,_,_,_,_,_,_,h,_,_,_,_,_=>h.elim
 |_::_,_::_,_::_,[],_,_,_,_,_,_,h,_,_,_,_,_=>h.elim
 |_::_,_::_,_::_,[_],_,_,_,_,_,_,h,_,_,_,_,_=>h.elim
 |_::_,_::_,_::_,[_,_],_,_,_,_,_,_,h,_,_,_,_,_=>h.elim
 |[],_::_,_,_,_,_,_,_,_,_,h,_,_,_,_,_=>h.elim
 |[],[],_::_,_,_,_,_,_,_,_,h,_,_,_,_,_=>h.elim
 |[],[],[],_::_,_,_,_,_,_,_,h,_,_,_,_,_=>h.elim
theorem Yd {li:c7} {n:Nat} {b8 ah:Env} {m0 m':Nat->Nat} {tm ch kQ wa:List V} {bl a8 er nL:List ax} {l1 l2 v1 v2 lb la jP:List aa} {b1 b2 Bv r5:List (Int×Int)} {n':Nat} {a:Act} {w:ar} {NA ND NN:Nat} {gs:List Nat} {os:List Int}
 (hlen:bl.length<=a8.length)
 (ha:agree n b8 ah) (hm:∀b,b<bl.length->m' b=m0 b) (ht:∀v∈tm,V.ok n bl.length b8 v) (pO:cK n bl.length b8 bl)
 (h:R w0 n' ah m' ch a8 a w) (e1:hs li.fl li.ints 0 (n+1) tm=some (kQ,l1,b1)) (e2:hb li.cells 0 (n+1+l1.length) bl=some (er,l2,b2))
 (bN:hs li.fl li.ints 0 (n+1) ch=some (wa,v1,Bv)) (fi:hb li.cells 0 (n+1+v1.length) (a8.take bl.length)=some (nL,v2,r5))
 (f1:lZ kQ wa=true) (f2:lY er nL=true) (pP:Bi a.tmps li.pG (lb.map (·.den ah))) (Jp:yy w0 w a.tmps (λg=>(∀(i:Nat) (p:ax),i<bl.length->a8[i]?=some p->m' i=g->bp ah p.1=0)/\¬∃(i:Nat) (p:ax),a8[i]?=some p/\m' i=g/\bp ah p.1=1) li.o0 (la.map (·.den ah)))
 (Cm:qe w0 w a.tmps (λg=>∃(i:Nat) (p:ax),a8[i]?=some p/\m' i=g/\bp ah p.1=1) li.lE gs os (jP.map (·.den ah)))
 (Xx:NA=n+1+l1.length+l2.length+lb.length) (Xy:ND=n+1+l1.length+l2.length+(lb++la).length) (Xz:NN=n+1+l1.length+l2.length+(lb++la++jP).length):
 aV (b1++b2++(IB li.pG++yP li.o0++AI li.lE)) ((v1++v2++(lb++la++jP)).map (·.den ah))/\∃eF,(∀b,b<bl.length->eF b=m0 b)/\bl.length<=(qy li.o0 NA (headD li.lE ND NN (sq li.pG (n+1+l1.length+l2.length) kQ) er).1 (headD li.lE ND NN (sq li.pG (n+1+l1.length+l2.length) kQ) er).2).2.length/\
  R w0 (NN+li.lE.length) (bL (bL b8 (n+1) ((v1++v2++(lb++la++jP)).map (·.den ah))) NN os) eF (qy li.o0 NA (headD li.lE ND NN (sq li.pG (n+1+l1.length+l2.length) kQ) er).1 (headD li.lE ND NN (sq li.pG (n+1+l1.length+l2.length) kQ) er).2).1 (qy li.o0 NA (headD li.lE ND NN (sq li.pG (n+1+l1.length+l2.length) kQ) er).1 (headD li.lE ND NN (sq li.pG (n+1+l1.length+l2.length) kQ) er).2).2 a w:=by
 obtain⟨al9,i1,i2,i3,i4⟩:=Yc (ext:=lb++la++jP) hlen ha hm ht pO h e1 e2 bN fi f1 f2
 obtain⟨als,aCA⟩:=Cm.len
 subst Xx;subst Xy;subst Xz
 have xg:∀j,j<(lb++la++jP).length->bL b8 (n+1) ((v1++v2++(lb++la++jP)).map (·.den ah)) (n+1+l1.length+l2.length+j)=((lb++la++jP).map (·.den ah)).getD j 0:=λj hj=>by
  rw[show n+1+l1.length+l2.length+j=n+1+(v1.length+v2.length+j) by omega,DL _ _ _ _ (by simp at hj⊢;omega)]
  rw[ft (l₁:=v1++v2),uF,A6 (by simp),uF]
  congr 2
  simp
 generalize Y3:bL b8 (n+1) ((v1++v2++(lb++la++jP)).map (·.den ah))=bT at*
 have qu:agree (n+1+l1.length+l2.length+(lb++la++jP).length) bT (bL bT (n+1+l1.length+l2.length+(lb++la++jP).length) os):=agree.bL os _ bT
 have amv:=i2.later (Eb _ li.lE.length) qu
 have O6:∀j,j<(lb++la++jP).length->bL bT (n+1+l1.length+l2.length+(lb++la++jP).length) os (n+1+l1.length+l2.length+j)=((lb++la++jP).map (·.den ah)).getD j 0:=λj hj=>by
  rw[<-xg j hj]
  exact(qu _ (by omega))
 have JC:∀(i:Nat) (p:ax),er[i]?=some p->bp (bL bT (n+1+l1.length+l2.length+(lb++la++jP).length) os) p.1=bp bT p.1:=λi p hi=>qK (i2.b p (eh hi)) qu
 generalize amu:bL bT (n+1+l1.length+l2.length+(lb++la++jP).length) os=gv at*
 have hB:=Ya (v:=n+1+l1.length+l2.length) amv pP (λj hj=>by
  simp only[k8]at hj
  rw[O6 j (by simp;omega),je,ft,uF,s0 (by simpa using hj),uF]) (by simp;omega)
 obtain⟨fW,p1,bJ,cP,ea⟩:=Yb (v:=n+1+l1.length+l2.length+(lb++la).length) (u:=n+1+l1.length+l2.length+(lb++la++jP).length) hB Cm (λg hg i p hi he=>by
  obtain⟨g1,p',g2,g3⟩:=i4 i p hi
  rw[JC i p hi,g3]
  obtain⟨j,q,bq,bE,b5⟩:=hg
  rcases h.bx.inj i j p' q g2 bq (by rw[bE,<-he,hm i g1])with bg|bg|bg|bg
  ·subst bg
   rw[g2]at bq;cases bq
   omega
  ·exact bg.1
  ·omega
  ·omega) (λj hj=>by
  simp only[k8]at hj
  rw[show n+1+l1.length+l2.length+(lb++la).length+j=n+1+l1.length+l2.length+((lb++la).length+j) by omega,O6 _ (by simp at hj⊢;omega),ft (l₁:=lb++la),uF,A6 (by simp),uF]
  congr 2
  simp) (λj hj=>by rw[<-amu,DL _ _ _ _ hj]) (by simp only[k8,dN];omega) (by rw[als];exact br _)
 obtain⟨eF,bq,bE,b5⟩:=X9 (v:=n+1+l1.length+l2.length+lb.length) cP Jp (λg hg i p hi he=>by
  rcases ea i p hi with⟨g0,g1⟩|g1
  ·obtain⟨kk,p',g2,g3⟩:=i4 i p g1
   rw[JC i p g1,g3]
   exact hg.1 i p' kk g2 (by rw[hm i kk,<-p1 i g0];exact he)
  ·by_cases h0:bp gv p.1=0
   ·exact h0
   ·have:=g1 h0
    rw[he]at this
    exact absurd this hg.2) (λj hj=>by
  simp only[k8]at hj
  rw[show n+1+l1.length+l2.length+lb.length+j=n+1+l1.length+l2.length+(lb.length+j) by omega,O6 _ (by simp;omega),je,ft,uF,A6 (by simp),ft,s0 (by simp;omega),uF]
  congr 2
  simp) (by simp;omega)
 refine⟨?_,eF,λb hb=>by rw[bq b (by rw[i3]at bJ;omega),p1 b (by rw[i3];exact hb)],by rw[i3]at bJ;omega,b5⟩
 rw[ft,ft (l₁:=lb++la),ft (l₁:=lb)]
 exact sB i1 (sB (sB (Zd pP) (Zb Jp)) (Ze Cm))
theorem MW {a b c:Nat} (h:a=c) (h':b=c):b=a:=h'.trans h.symm
theorem aor {li:c7} {c:Code} {e:Nat->List V->List ax->q3->T} (hd:rd=none∨lB c=true) (he:Mf rd S L w0 P c e) {Q:Exit->Act->ar->Prop} {n:Nat} {ρ:Env} {m:Nat->Nat} {tm:List V} {bl:List ax} {a:Act} {w:ar} {G:dT} {k:q3}
 (h:R w0 n ρ m tm bl a w) (ai:(QQ li e n tm bl k).holds S L G ρ) (hk:Bj S L w0 k n bl.length ρ m G Q):(Code.loop c).wpIn (qc rd) 0 P Q a w:=by
 unfold QQ at ai
 obtain⟨ade,aac,VT,YD,XS,⟨hz1,hz2⟩,ai⟩:=RI (S:=S) (L:=L) h G _ ai
 have hk:=hk.later (⟨YD,XS,by rw[hz2];exact br _,λ_ _=>rfl⟩:dO n bl.length ρ m aac VT.length ade m) (eu.refl _ G)
 clear h
 have h:=hz1
 clear hz1 hz2 YD XS
 revert h hk ai
 generalize aac=n
 generalize ade=ρ
 generalize VT=bl
 intro ai hk h
 obtain⟨b8,n0,tm,nT,ha0,xn,ai⟩:=E5 (S:=S) (L:=L) h.t G _ ai
 have Fh:=h.later nT ha0
 have h:R w0 n0 b8 m tm bl a w:=⟨xn,Fh.d,Fh.b,Fh.bx⟩
 have hk:=hk.later (⟨nT,ha0,br _,λ_ _=>rfl⟩:dO n bl.length ρ m n0 bl.length b8 m) (eu.refl _ G)
 obtain⟨aE,n1,lb,fq,dP,⟨s1,s2,fL⟩,ai⟩:=MX (S:=S) (L:=L) h.t G _ ai
 have h1:=h.later fq dP
 have hk:=hk.later (⟨fq,dP,br _,λ_ _=>rfl⟩:dO n0 bl.length b8 m n1 bl.length aE m) (eu.refl _ G)
 split at ai
 rotate_left
 ·exact ai.elim
 rename_i kQ l1 b1 la us jP e1 Wy agi
 obtain⟨a1,a2,_,_,a5⟩:=Ii h1 Wy
 obtain⟨k1,k2,k3⟩:=Qy (us:=us) h1
 obtain⟨r1,r2,gs,os,jm⟩:=KT h1 agi
 cases e2:hb li.cells 0 (n1+1+l1.length) (ma us bl)with
 |none=>rw[e2]at ai;exact ai.elim
 |some bE=>
  obtain⟨er,l2,b2⟩:=bE
  rw[e2]at ai
  simp only at ai
  cases hf:(lZ kQ kQ&&lY er er)with
  |false=>rw[hf]at ai;exact ai.elim
  |true=>
   rw[hf]at ai
   simp only[Ec,cond_false,T.holds]at ai
   simp only[aS]at hf
   obtain⟨I,jZ,Ok,hB⟩:=ai
   have JS:∀v∈tm,V.ok n1 (ma us bl).length aE v:=λv hv=>by
    obtain⟨i,hi⟩:=List.getElem?_of_mem hv
    exact(k1.t.2 i v hi).1
   have E0:hb li.cells 0 (n1+1+l1.length) ((ma us bl).take (ma us bl).length)=some (er,l2,b2):=by rw[S9];exact e2
   have aka:yy w0 w a.tmps (λg=>(∀(i:Nat) (p:ax),i<(ma us bl).length->(ma us bl)[i]?=some p->m i=g->bp aE p.1=0)/\¬∃(i:Nat) (p:ax),(ma us bl)[i]?=some p/\m i=g/\bp aE p.1=1) li.o0 (la.map (·.den aE)):=by
    refine a5 _ λb p hb _ hbl jM kK=>?_
    have key:∀(i:Nat) (q:ax),(ma us bl)[i]?=some q->m i=m b->bp aE q.1=0:=λi q hi he=>by
     rcases k3 i q hi with⟨g1,g2⟩|g1
     ·by_cases iD:i=b
      ·subst iD
       rw[hbl]at g1;cases g1
       rcases g2 hb with g2|g2
       ·rw[kK]at g2;cases g2
       ·exact g2
      ·rcases h1.bx.inj i b q p g1 hbl he with g3|g3|g3|g3
       ·exact absurd g3 iD
       ·omega
       ·exact g3
       ·omega
     ·exact g1
    exact⟨λi q _ hi he=>key i q hi he,λ⟨i,q,hi,he,hk⟩=>by have:=key i q hi he;omega⟩
   have Cm:qe w0 w a.tmps (λg=>∃(i:Nat) (p:ax),(ma us bl)[i]?=some p/\m i=g/\bp aE p.1=1) li.lE gs os (jP.map (·.den aE)):=by
    refine jm.mono λg ⟨i,p,hi,he,hk⟩=>⟨i,p,Qx hi λhu=>?_,he,hk⟩
    rcases ME Wy i hu with bg|⟨sh,off,code,cap,t,bg⟩
    ·simp at bg
    ·rw[hi]at bg
     cases bg
     simp only[bp]at hk
     split at hk<;>omega
   obtain⟨i1,eF,i2,i3,i4⟩:=Yd (br _) (agree.refl n1 aE) (λ_ _=>rfl) JS k1.b k1 e1 e2 e1 E0 hf.1 hf.2 fL aka Cm rfl rfl rfl
   generalize Xz:n1+1+l1.length+l2.length+(lb++la++jP).length=NN at*
   generalize Xy:n1+1+l1.length+l2.length+(lb++la).length=ND at*
   generalize Xx:n1+1+l1.length+l2.length+lb.length=NA at*
   generalize aku:headD li.lE ND NN (sq li.pG (n1+1+l1.length+l2.length) kQ) er=d at*
   refine wpIn_loop_ghost (λN di w'=>∃zs os eF,aV (b1++b2++(IB li.pG++yP li.o0++AI li.lE)) zs/\I zs/\jZ zs=N/\(os.length=li.lE.length/\∀z∈os,0<=z)/\(∀b,b<(ma us bl).length->eF b=m b)/\
    R w0 (NN+li.lE.length) (bL (bL aE (n1+1) zs) NN os) eF (qy li.o0 NA d.1 d.2).1 (qy li.o0 NA d.1 d.2).2 di w') (jZ ((l1++l2++(lb++la++jP)).map (·.den aE))) ⟨_,os,eF,i1,Ok,rfl,Cm.len,i2,i4⟩ ?_
   rintro N a1 w1 ⟨zs,Rc,eF,hz1,hz2,rfl,⟨pd,mJ⟩,amq,e9⟩
   have u9:=natsM_holds (lT hB hz1 hz2) pd mJ
   refine he hd _ _ _ _ _ _ _ a1 w1 _ e9 u9 λx n' ah m' ch a8 dU di w' h1 h2 h3 h4=>?_
   have zh:agree n1 aE (bL aE (n1+1) zs):=(agree.bL _ (n1+1) aE).mono (by omega)
   have akc:agree n1 aE (bL (bL aE (n1+1) zs) NN Rc):=zh.trans (agree.bL Rc NN _) (by omega)
   have Om:dO n1 bl.length aE m (NN+li.lE.length) (qy li.o0 NA d.1 d.2).2.length (bL (bL aE (n1+1) zs) NN Rc) eF:=⟨by omega,akc,by rw[k2]at i3;exact i3,λb hb=>amq b (by rw[k2];exact hb)⟩
   have w8:eu n1 G (G.set n1 λvs=>I vs/\jZ vs<jZ zs):=λl hl=>by
    unfold dT.set
    cases hb:aG l n1 with
    |true=>have:=bG hb;omega
    |false=>rfl
   have cF:=Om.trans h1
   have Oj:dU n1=λvs=>I vs/\jZ vs<jZ zs:=by
    rw[h2 n1 (by omega)]
    unfold dT.set
    have:aG n1 n1=true:=ym n1
    rw[this];rfl
   cases x with
   |exit id=>exact hk (.exit id) n' ah m' ch a8 dU di w' cF (w8.trans h2 (by omega)) h3 h4
   |ret=>exact hk .ret n' ah m' ch a8 dU di w' cF (w8.trans h2 (by omega)) h3 h4
   |normal=>
    simp only at h4
    obtain⟨TA,sG,ch,YB,Jo,alX,h4⟩:=E5 (S:=S) (L:=L) h3.t dU _ h4
    have w6:=h3.later YB Jo
    have h3:R w0 sG TA m' ch a8 di w':=⟨alX,w6.d,w6.b,w6.bx⟩
    have cF:=cF.trans (⟨YB,Jo,br _,λ_ _=>rfl⟩:dO n' a8.length ah m' sG a8.length TA m')
    obtain⟨rW,Dh,Zu,eN,dD,⟨t1,t2,t3⟩,h4⟩:=MX (S:=S) (L:=L) h3.t dU _ h4
    have h3:=h3.later eN dD
    split at h4
    rotate_left
    ·exact h4.elim
    rename_i wa v1 Bv QD kn ZK bN agh agj
    obtain⟨c1,c2,_,c4,c5⟩:=Ii h3 agh
    obtain⟨d1,d2,aCc,aam,d3⟩:=KT h3 agj
    cases fi:hb li.cells 0 (n1+1+v1.length) (a8.take bl.length)with
    |none=>rw[fi]at h4;exact h4.elim
    |some dm=>
     obtain⟨nL,v2,r5⟩:=dm
     rw[fi]at h4
     simp only at h4
     cases iC:(lZ kQ wa&&lY er nL)with
     |false=>rw[iC]at h4;exact h4.elim
     |true=>
      rw[iC]at h4
      simp only[cond_true,T.holds,Oj]at h4
      simp only[aS]at iC
      have On:=cF.trans (⟨eN,dD,br _,λ_ _=>rfl⟩:dO sG a8.length TA m' Dh a8.length rW m')
      have akb:yy w0 w' di.tmps (λg=>(∀(i:Nat) (p:ax),i<(ma us bl).length->a8[i]?=some p->m' i=g->bp rW p.1=0)/\¬∃(i:Nat) (p:ax),a8[i]?=some p/\m' i=g/\bp rW p.1=1) li.o0 (QD.map (·.den rW)):=by
       refine c5 _ λb p hb _ hbl jM kK=>⟨λi q c9 hi he=>?_,λ⟨i,q,hi,he,hk⟩=>?_⟩
       ·have zm:bl.length<=b:=by
         rcases c4 b hb with h|h
         ·simp at h
         ·exact h
        rw[k2]at c9
        rcases h3.bx.inj i b q p hi hbl he with g3|g3|g3|g3
        ·omega
        ·omega
        ·exact g3
        ·omega
       ·rcases h3.bx.inj i b q p hi hbl he with g3|g3|g3|g3
        ·subst g3
         rw[hi]at hbl;cases hbl
         omega
        ·omega
        ·omega
        ·omega
      obtain⟨dk,C8,oG,pg,pW⟩:=Yd (NA:=NA) (ND:=ND) (NN:=NN) (by rw[k2];exact On.hb) On.ha (λb hb=>On.hm b (by rw[k2]at hb;exact hb)) JS k1.b h3 e1 e2 bN (by rw[k2];exact fi) iC.1 iC.2 t3 akb d3 (by have:=t2;have:=MW s2 t2;omega) (by have:=MW s2 t2;simp only[dN]at*;omega) (by have:=MW s2 t2;simp only[dN]at*;omega)
      rw[aku]at pW
      exact⟨_,h4.2,_,aam,C8,dk,h4.1,rfl,d3.len,oG,pW⟩
theorem toL {ops:Array Oper}:ops.toList.toArray=ops:=jF
theorem N2 (N:Nat):∀(i:Nat) (bl:List ax),(gN N i bl).length=bl.length
 |_,[]=>rfl
 |i,_::r=>by simp[gN,N2 N (i+1) r]
theorem BV (N:Nat):∀(i:Nat) (bl:List ax) (k:Nat) (p:ax),(gN N i bl)[k]?=some p->p=eZ∨(i+k<N/\bV p.1=true/\bl[k]?=some p)
 |_,[],k,p,h=>by simp[gN]at h
 |i,q::r,0,p,h=>by
  simp only[gN,rQ,aQ]at h
  cases hc:(cf i N&&bV q.1)with
  |false=>rw[hc]at h;exact .inl h.symm
  |true=>
   rw[hc]at h
   simp only[cond_true]at h
   subst h
   simp only[aS]at hc
   exact .inr ⟨by simpa using qk hc.1,hc.2,rfl⟩
 |i,q::r,k+1,p,h=>by
  rcases BV N (i+1) r k p (by simpa [gN]using h)with h1|⟨h1,h2,h3⟩
  ·exact .inl h1
  ·exact .inr ⟨by omega,h2,by simpa using h3⟩
theorem aaN:∀{a b:List ax},preB a b=true->∀(k:Nat) (p:ax),a[k]?=some p->b[k]?=some p
 |[],_,_,_,_,h=>by simp at h
 |(c,t)::r,(c',t')::s,hf,k,p,h=>by
  simp only[preB,aS]at hf
  obtain⟨⟨⟨h1,h2⟩,h3⟩,h4⟩:=hf
  cases k with
  |zero=>
   have e1:=Bx h1;have e2:=bG h2;have bN:t.2=t'.2:=by simpa using h3
   have:t=t':=Prod.ext e2 bN
   subst e1;subst this
   simpa using h
  |succ k=>have:=aaN h4 k p (by simpa using h);simpa using this
 |_::_,[],h,_,_,_=>by simp[preB]at h
theorem Mem.sub {ρ bT:Env} {m eF:Nat->Nat} {bl lj:List ax} {w:ar} (h:Mem w0 ρ m bl w) (hs:∀(i:Nat) (p:ax),lj[i]?=some p->p=eZ∨(bl[i]?=some p/\bV p.1=true/\eF i=m i/\p.1.map (A.den bT eF)=p.1.map (A.den ρ m))):Mem w0 bT eF lj w:=by
 have kI:bp bT eZ.1=0:=by simp[eZ,bp]
 refine⟨h.ext,h.gQ,h.jz,h.ic,h.e8,h.gz,λi cs t hi ho=>?_,λi sh off code cap kind t hi=>?_,λi j p q hi hj he=>?_⟩
 ·rcases hs i _ hi with h1|⟨h1,_,h3,h4⟩
  ·cases h1;simp[bV]at ho
  ·rw[h3,h4];exact h.eR i cs t h1 ho
 ·rcases hs i _ hi with h1|⟨_,h2,_,_⟩
  ·cases h1;intro hk;exact absurd rfl hk
  ·simp[bV]at h2
 ·rcases hs i _ hi with h1|⟨h1,h2,h3,_⟩
  ·subst h1;exact .inr (.inr (.inl kI))
  ·rcases hs j _ hj with g1|⟨g1,g2,g3,_⟩
   ·subst g1;exact .inr (.inr (.inr kI))
   ·rcases h.inj i j p q h1 g1 (by rw[<-h3,<-g3];exact he)with h5|h5|h5|h5
    ·exact .inl h5
    ·rw[jA h2]at h5;omega
    ·rw[jA h2]at h5;cases h5
    ·rw[jA g2]at h5;cases h5
theorem cK.gN {n nb:Nat} {ρ:Env} {bl:List ax} (h:cK n nb ρ bl) (N:Nat):cK n nb ρ (Go.bo.gN N 0 bl):=λp hp=>by
 obtain⟨i,hi⟩:=List.mem_iff_getElem?.1 hp
 rcases BV N 0 bl i p hi with h1|⟨_,_,h3⟩
 ·subst h1
  intro a ha
  simp only[eZ,List.mem_singleton]at ha
  subst ha
  exact⟨⟨aa.cT _ _,aa.cT _ _,aa.cT _ _⟩,⟨by simp[aa.aW],by rw[aa.aW];exact oe (gm []) (oX (by simp) (λ_ h=>by cases h))⟩,by simp[aa.aW]⟩
 ·exact h p (eh h3)
theorem akA {ops:Array Oper} {N:Nat} {tm:List V} {bl:List ax} {o:Oper} {a:Act} {w:ar} {v:aF} (ho:Jx N tm bl o=true) (h:Ez P o a w v):(execOp a.eval o).run P w= .ok (.value v) w:=by
 rcases h with h|⟨f,args,h,_⟩
 ·exact h
 ·exfalso
  have key:∀s:Sem aF,(do pure (kx (<-s)):Sem Next).run P w= .ok (.enter f args) w->False:=λs hs=>by
   simp only[gY]at hs
   cases hx:s.run P w with
   |ok u w'=>rw[hx]at hs;simp at hs
   |halt x w'=>rw[hx]at hs;simp at hs
  unfold Jx at ho
  split at ho
  ·rename_i x hop;simp[execOp,hop]at h
  ·rename_i x hop;simp[execOp,hop]at h
  ·rename_i x i hop;exact key (Instr.extract (a.eval x) i) (by simpa [execOp,hop]using h)
  ·rename_i s x i hop;exact key (Instr.fieldAt s (a.eval x) i) (by simpa [execOp,hop]using h)
  ·rename_i t p hop;exact key (Instr.loadAt t (a.eval p)) (by simpa [execOp,hop]using h)
  ·rename_i t x lo hi dR hop;exact key (Instr.sliceAt t (a.eval x) (lo.map a.eval) (hi.map a.eval) (dR.map a.eval)) (by simpa [execOp,hop]using h)
  ·cases ho
theorem aeK {ops:Array Oper} {Q:Exit->Act->ar->Prop} {inl:js} (cQ:fS S P gl w0 cal) (hg:fg gl w0) (j3:m9 S L w0 P inl) (zb:∀c a w,¬Q (.panic c) a w)
 {N n0:Nat} {lU:List ax} {b8:Env} {m0:Nat->Nat} (hN:N<=lU.length) (pO:cK n0 lU.length b8 lU):∀(f:Nat) {listed:Array Bool} {n:Nat} {ρ:Env} {m:Nat->Nat} {tm:List V} {bl:List ax} {a:Act} {w:ar} {G:dT} {k:gi},
 R w0 n ρ m tm bl a w->dO n0 lU.length b8 m0 n bl.length ρ m->(∀(k:Nat) (p:ax),(gN N 0 lU)[k]?=some p->(gN N 0 bl)[k]?=some p)->(uW P gl cal inl ops N (gN N 0 lU) f listed n tm bl k).holds S L G ρ->j0 S L w0 k n bl.length ρ m G (Q .normal)->wpAnyH P .any ops Q (λw=>Mem w0 b8 m0 (gN N 0 lU) w) f listed a w:=by
 have down:∀{n:Nat} {ρ:Env} {m:Nat->Nat} {bl:List ax} {w:ar},dO n0 lU.length b8 m0 n bl.length ρ m->(∀(k:Nat) (p:ax),(gN N 0 lU)[k]?=some p->(gN N 0 bl)[k]?=some p)->Mem w0 ρ m bl w->Mem w0 b8 m0 (gN N 0 lU) w:=λhl hp hm=>by
  refine hm.sub λi p hi=>?_
  rcases BV N 0 lU i p hi with h1|⟨h1,h2,h3⟩
  ·exact .inl h1
  ·refine .inr ?_
   rcases BV N 0 _ i p (hp i p hi)with g1|⟨_,_,g3⟩
   ·subst g1;simp[eZ,bV]at h2
   ·exact⟨g3,h2,(hl.hm i (by omega)).symm,(sF (pO p (eh h3)) hl.ha hl.hm).symm⟩
 have up:∀{n:Nat} {ρ:Env} {m:Nat->Nat} {bl:List ax} {w:ar},dO n0 lU.length b8 m0 n bl.length ρ m->(∀(k:Nat) (p:ax),(gN N 0 lU)[k]?=some p->(gN N 0 bl)[k]?=some p)->Mem w0 b8 m0 (gN N 0 lU) w->Mem w0 ρ m (gN N 0 bl) w:=λ{n ρ m bl w} hl hp hm=>by
  refine hm.sub λi p hi=>?_
  rcases BV N 0 bl i p hi with h1|⟨h1,h2,h3⟩
  ·exact .inl h1
  ·refine .inr ?_
   have hlt:i<(gN N 0 lU).length:=by rw[N2];omega
   have hq:=hp i _ (kg hlt)
   rw[hi]at hq
   have hq:p=(gN N 0 lU)[i]:=hZ hq
   have h0:(gN N 0 lU)[i]?=some p:=by rw[kg hlt,hq]
   rcases BV N 0 lU i p h0 with g1|⟨_,_,g3⟩
   ·subst g1;simp[eZ,bV]at h2
   ·exact⟨h0,h2,hl.hm i (by omega),sF (pO p (eh g3)) hl.ha hl.hm⟩
 intro f
 induction f with
 |zero=>
  intro listed n ρ m tm bl a w G k h hl hp ai hk
  unfold uW at ai
  unfold wpAnyH
  split at ai
  ·rename_i hr
   exact⟨hr,hk n ρ m tm bl G a w (dO.refl _ _ _ _) (eu.refl _ _) h ai⟩
  ·exact ai.elim
 |succ f ih=>
  intro listed n ρ m tm bl a w G k h hl hp ai hk
  unfold uW at ai
  split at ai
  ·rename_i hr
   exact⟨λ_=>hk n ρ m tm bl G a w (dO.refl _ _ _ _) (eu.refl _ _) h ai,λi hi=>by rw[hr]at hi;cases hi⟩
  ·rename_i l hl0
   split at ai
   ·rename_i i hi
    unfold Ye at hi
    cases pa:LN ops with
    |false=>rw[pa]at hi;cases hi
    |true=>
    rw[pa,cond_true]at hi
    have cX:=Ta hi
    have qA:=Ed hi
    simp only[aS]at cX
    cases ho:ops[i]? with
    |none=>simp only[ho]at ai;exact ai.elim
    |some o=>
     simp only[ho]at ai
     have iP:Jx N tm bl o=true:=by have:=cX.1;simp only[ho]at this;exact this
     obtain⟨ch,ly,hgd⟩:=Fe h.t ai
     have h:R w0 n ρ m ch bl a w:=⟨ly,h.d,h.b,h.bx⟩
     have cL:=down hl hp h.bx
     rcases hgd with⟨hw,ai⟩|⟨hw,ai⟩
     ·have hlen:(gN N 0 bl).length=bl.length:=N2 N 0 bl
      obtain⟨ah,n',v,tH,j1,⟨hv,val,hr,hq⟩,Cg⟩:=Rs (L:=L) (bl:=gN N 0 bl) cQ (by rw[hlen];exact h.b.gN N) hg ⟨w,up hl hp cL⟩ (by rw[hlen];exact ly) o G _ ai
      rw[hlen]at hv
      have hy:YieldsIf P ops (λw=>Mem w0 b8 m0 (gN N 0 lU) w) o val a:= .inl ⟨hw,λw' tK=>akA (ops:=ops) iP (hq w' (up hl hp tK))⟩
      refine wpAnyH_take ho pa cX.2 (by simpa using qA) (λc a w hp=>absurd hp (zb _ _ _)) hy cL ?_
      have hlt:dO n bl.length ρ m n' bl.length ah m:=⟨tH,j1,br _,λ_ _=>rfl⟩
      exact ih ⟨dX.put (ly.ext j1 tH (br _) (λ_ _=>rfl)) o.dst hv hr,by rw[put_defers];exact h.d,h.b.ext j1 tH (br _),h.bx.mZ h.b j1⟩ (hl.trans hlt) hp Cg (hk.later hlt (eu.refl _ _))
     ·refine wpAnyH_take ho pa cX.2 (by simpa using qA) (λc a w hp=>absurd hp (zb _ _ _)) (.inr ⟨hw,rfl⟩) cL ?_
      exact ih (h.skip o.dst) hl hp ai hk
   split at ai
   ·rename_i i hi
    unfold aae at hi
    cases pa:LN ops with
    |false=>rw[pa]at hi;cases hi
    |true=>
    rw[pa,cond_true]at hi
    have cX:=Ta hi
    have qA:=Ed hi
    simp only[aS]at cX
    cases ho:ops[i]? with
    |none=>simp only[ho]at ai;exact ai.elim
    |some o=>
     simp only[ho]at ai
     obtain⟨ch,ly,hgd⟩:=Fe h.t ai
     have h:R w0 n ρ m ch bl a w:=⟨ly,h.d,h.b,h.bx⟩
     have cL:=down hl hp h.bx
     rcases hgd with⟨_,ai⟩|⟨hw,ai⟩
     ·exact ai.elim
     ·refine wpAnyH_take ho pa cX.2 (by simpa using qA) (λc a w hp=>absurd hp (zb _ _ _)) (.inr ⟨hw,rfl⟩) cL ?_
      exact ih (h.skip o.dst) hl hp ai hk
   unfold wpAnyH
   refine⟨λhr=>absurd hr hl0,λi hi=>?_⟩
   have cX:=allT_holds ai i hi
   unfold wpOp
   cases ho:ops[i]? with
   |none=>simp only[ho]at cX;exact cX.elim
   |some o=>
    simp only[ho]at cX⊢
    obtain⟨ch,ly,hgd⟩:=Fe h.t cX
    have h:R w0 n ρ m ch bl a w:=⟨ly,h.d,h.b,h.bx⟩
    rcases hgd with⟨hw,Pa⟩|⟨hw,Pa⟩
    ·rw[if_pos hw]
     refine .inl (abL cQ hg j3 h Pa λn' ah m' ch a8 dU di w' h1 h2 h3 h4=>?_)
     cases hf:preB (gN N 0 lU) (gN N 0 a8)with
     |false=>rw[hf]at h4;exact h4.elim
     |true=>
      rw[hf,cond_true]at h4
      have tG:=hl.trans h1
      have hf:=aaN hf
      exact⟨down tG hf h3.bx,ih h3 tG hf h4 (hk.later h1 h2)⟩
    ·rw[if_neg (by simp[hw])]
     exact⟨down hl hp h.bx,ih (h.skip o.dst) hl hp Pa hk⟩
theorem BH {inl:js} {li:Nat->Option c7} {rounds:Nat} (hm:P.follows .mixedOrders=true) (cQ:fS S P gl w0 cal) (hg:fg gl w0) (j3:m9 S L w0 P inl):∀(c:Code),Mf rd S L w0 P c (lV P gl cal inl li rounds c):=by
 intro c
 induction c with
 |skip=>intro hd n tm bl k G ρ m a w Q h ai hk;exact wpIn_skip (hk .normal n ρ m tm bl G a w (dO.refl _ _ _ _) (eu.refl _ _) h ai)
 |exit id=>intro hd n tm bl k G ρ m a w Q h ai hk;exact wpIn_exit (hk (.exit id) n ρ m tm bl G a w (dO.refl _ _ _ _) (eu.refl _ _) h ai)
 |ret=>intro hd n tm bl k G ρ m a w Q h ai hk;exact wpIn_ret (hk .ret n ρ m tm bl G a w (dO.refl _ _ _ _) (eu.refl _ _) h ai)
 |region id ops draw=>
  intro hd n tm bl k G ρ m a w Q h ai hk
  have Ot:j0 S L w0 (k .normal) n bl.length ρ m G (pw Q .normal):=λn' ah m' ch a8 dU di w' h1 h2 h3 h4=>hk .normal n' ah m' ch a8 dU di w' h1 h2 h3 h4
  cases draw with
  |false=>
   simp only[lV,cond_false]at ai
   refine atD hd ?_
   exact KA cQ hg j3 ops.toList h ai Ot
  |true=>
   simp only[lV,cond_true]at ai
   cases ht:(DJ ops (FO P cal ops)&&LI P (ops.toList.take (FO P cal ops)))with
   |false=>
    simp only[ht,cond_false]at ai
    cases hsz:bB (ops.toList.filter λo=> !ZJ o).length 12 with
    |false=>simp only[hsz,cond_false]at ai;exact ai.elim
    |true=>
     simp only[hsz,cond_true]at ai
     have qx:R w0 n ρ m tm bl a w.drew:=⟨h.t,h.d,h.b,h.bx.grow (LO (oi w))⟩
     refine aaW hm hd (wpAny_of_held (S:=λw=>Mem w0 ρ m (gN (FP ops bl) 0 bl) w) _ _ _ _ ?_)
     exact aeK cQ hg j3 (λc a w h=>h) (N:=FP ops bl) (by unfold FP;cases ops.toList.any Zj<;>simp) h.b ops.size qx (dO.refl _ _ _ _) (λ_ _ h=>h) ai Ot
   |true=>
    simp only[ht,cond_true]at ai
    simp only[aS]at ht
    have hle:FO P cal ops<=ops.toList.length:=by
     have h1:=ht.1
     simp only[DJ,aS]at h1
     simpa using eC h1.1.1.2
    generalize FO P cal ops=hl0 at*
    have qx:R w0 n ρ m tm bl a w.drew:=⟨h.t,h.d,h.b,h.bx.grow (LO (oi w))⟩
    have key:=ayj (P:=P) (Q:=pw Q) (a:=a) (w:=w) (l:=ops.toList) (C:=λw'=>Mem w0 ρ m bl w') hl0 (D7 P ops) hm (by rw[toL];exact ht.1) (λw' tK=>qx.bx.grow tK) (λj o hj ho dZ b w'=>by
     have:=azy (l:=ops.toList) (P:=P) ht.2 hj ho dZ b w'
     rw[toL]at this;exact this) (by
     rw[toL]
     refine Jw cQ hg h.b ⟨_,h.bx⟩ _ (br _) (agree.refl _ _) h.t h.d ai λn' ah ch an h1 h2 h3 h4 h5 fu b w' ve rj Gc=>?_
     have hl:dO n bl.length ρ m n' bl.length ah m:=⟨h1,h2,br _,λ_ _=>rfl⟩
     have aiX:=(qx.bx.grow rj).mZ h.b h2
     refine MK (S:=S) (L:=L) (w0:=w0) (P:=P) (K:=λb w'=>wpList P ops (calm (pw Q)) (ops.toList.drop hl0) b w') ve Gc qx.bx.ext.size qx.bx.e8 (ops.toList.take hl0) 0 (λj hj=>?_) (by simp;exact yq (by simpa using hle)) ⟨h3,h4,h.b.ext h2 h1 (br _),aiX⟩ (λaI p jN hp=> .inl ?_) rfl (λt=>⟨λ⟨j,o,hj,_⟩=>by omega,λ_=>rfl⟩) h5 (λDh rW aCP abZ aA0 Mk Vw n8 k1 k2 k3 k4=>KA cQ hg j3 _ k3 k4 ((Ot.later hl (eu.refl _ _)).later k1 k2)) h4
     ·have hj':j<hl0:=by simp at hj;omega
      rw[og,if_pos hj'];simp
     ·rw[qK (h.b _ (eh jN)) h2]at hp
      exact qx.bx.lt jN hp)
    rw[toL]at key
    exact aaW hm hd key
 |seq x y amA JY=>
  intro hd n tm bl k G ρ m a w Q h ai hk
  have zo:rd=none∨lB x=true:=hd.imp id λh=>by simp only[lB,aS]at h;exact h.1
  have zp:rd=none∨lB y=true:=hd.imp id λh=>by simp only[lB,aS]at h;exact h.2
  refine wpIn_seq (amA zo n tm bl _ G ρ m a w _ h ai λx n' ah m' ch a8 dU di w' h1 h2 h3 h4=>?_)
  cases x with
  |normal=>exact JY zp n' ch a8 k dU ah m' di w' Q h3 h4 (hk.later h1 h2)
  |exit id=>exact hk (.exit id) n' ah m' ch a8 dU di w' h1 h2 h3 h4
  |ret=>exact hk .ret n' ah m' ch a8 dU di w' h1 h2 h3 h4
 |cond x y z JY Za=>
  intro hd n tm bl k G ρ m a w Q h ai hk
  simp only[lV]at ai
  have hx:=cC h.t x
  split at ai
  ·rename_i b hb
   rw[hb]at hx
   have db:a.eval x= .bool (b.den ρ):=hx.2
   have zo:rd=none∨lB y=true:=hd.imp id λh=>by simp only[lB,aS]at h;exact h.1
   have zp:rd=none∨lB z=true:=hd.imp id λh=>by simp only[lB,aS]at h;exact h.2
   refine wpIn_cond db ?_
   split at ai
   ·rename_i v
    cases v with
    |true=>simp only[cond_true]at ai;exact JY zo n tm bl k G ρ m a w Q h ai hk
    |false=>simp only[cond_false]at ai;exact Za zp n tm bl k G ρ m a w Q h ai hk
   ·simp only[T.holds]at ai
    cases hd:bd.den ρ b with
    |true=>exact JY zo n _ bl k G ρ m a w Q ⟨DI hd h.t,h.d,h.b,h.bx⟩ (ai.1 (by simpa using hd)) hk
    |false=>exact Za zp n _ bl k G ρ m a w Q ⟨DI hd h.t,h.d,h.b,h.bx⟩ (ai.2 (by simpa using hd)) hk
  ·exact ai.elim
 |block id x ih=>
  intro hd n tm bl k G ρ m a w Q h ai hk
  refine wpIn_block (ih hd n tm bl _ G ρ m a w _ h ai λx n' ah m' ch a8 dU di w' h1 h2 h3 h4=>?_)
  cases x with
  |normal=>exact hk .normal n' ah m' ch a8 dU di w' h1 h2 h3 h4
  |ret=>exact hk .ret n' ah m' ch a8 dU di w' h1 h2 h3 h4
  |exit xq=>
   simp only at h4
   simp only[X.to,Exit.inBlock]
   cases hb:aG xq id with
   |true=>
    simp only[hb,cond_true]at h4
    rw[if_pos (bG hb)]
    exact hk .normal n' ah m' ch a8 dU di w' h1 h2 h3 h4
   |false=>
    simp only[hb,cond_false]at h4
    rw[if_neg (λe=>by subst e;rw[show aG xq xq=true from ym xq]at hb;cases hb)]
    exact hk (.exit xq) n' ah m' ch a8 dU di w' h1 h2 h3 h4
 |loop x ih=>
  intro hd n tm bl k G ρ m a w Q h ai hk
  simp only[lV]at ai
  split at ai
  ·exact aor (c:=x) hd ih h ai hk
  ·exact wpIn_loop_rounds rounds (aa7 (c:=x) hd ih rounds h ai hk)
 |_=>intro hd n tm bl k G ρ m a w Q h ai hk;exact ai.elim
def AK (a:Act):ResultVar->Sem aF
 | .tmp t=>A7 (a.tmps.getD t undef)
 | .cell x t=>do loadVar t (<-asAddr (a.tmps.getD x undef))
theorem atJ {n:Nat} {ρ:Env} {m:Nat->Nat} {bl:List ax} {tm:List V} {a:Act} {w:ar} {r:ResultVar} {u:W} (hg:fg gl w0) (h:R w0 n ρ m tm bl a w) (hr:Ha P gl bl tm r=some u):
 u.ok n bl.length ρ/\(AK a r).run P w= .ok (u.den ρ m) w:=by
 cases r with
 |tmp t=>
  simp only[Ha]at hr
  cases ht:tm[t]? with
  |none=>simp[ht]at hr
  |some v=>
   obtain⟨h1,x,h2,h3⟩:=h.t.2 t v ht
   simp only[ht]at hr
   cases v with
   |w avx=>
    simp only[aQ]at hr
    subst hr
    refine⟨h1,?_⟩
    have:a.tmps.getD t undef=avx.den ρ m:=by simp[h2];exact h3
    simp only[AK,this];rfl
   |_=>simp at hr
 |cell x t=>
  simp only[Ha]at hr
  cases ht:tm[x]? with
  |none=>simp[ht]at hr
  |some v=>
   obtain⟨h1,y,h2,h3⟩:=h.t.2 x v ht
   simp only[ht]at hr
   cases v with
   |fY l=>simp at hr
   |any=>simp at hr
   |n2 _ _ _=>simp at hr
   |oy _ _=>simp at hr
   |w q=>
    cases q with
    |agg l=>simp at hr
    |one p=>
     simp only at hr
     have hy:a.tmps.getD x undef=p.den ρ m:=by simp[h2];exact h3
     cases hc:BE bl gl p with
     |none=>simp[hc]at hr
     |some cs=>
      obtain⟨g,o,hp,bm,hcell⟩:=Nd h.bx h.b hg hc
      simp only[AK,hy,hp]
      cases nh:iF P t with
      |none=>simp[hc,nh]at hr
      |some b=>
       cases b with
       |true=>
        cases hs:eW P t with
        |none=>simp[hc,nh,hs]at hr
        |some k=>
         simp only[hc,nh,hs]at hr
         cases hk:bB k cs.length with
         |false=>simp[hk]at hr
         |true=>
          simp only[hk,cond_true,aQ]at hr
          subst hr
          have hk:=eC hk
          refine⟨λa h=>bm a (kv h),?_⟩
          have hl:=run_loadCells_list (P:=P) w ⟨g,o,none⟩ ((cs.take k).map (A.den ρ m)) λj v hj=>by
           rw[iy]
           rw[nE]at hj
           cases hq:(cs.take k)[j]? with
           |none=>simp[hq]at hj
           |some a=>
            simp only[hq,rO,aQ]at hj
            subst hj
            refine hcell j a ?_
            rw[og]at hq
            split at hq
            ·exact hq
            ·cases hq
          simp only[k8,m8,yq hk]at hl
          simp[asAddr,loadVar,pt nh,im hs,hl,W.den]
       |false=>
        cases cs with
        |nil=>simp[hc,nh]at hr
        |cons z r=>
         simp only[hc,nh,aQ]at hr
         subst hr
         refine⟨bm z (by simp),?_⟩
         have:=hcell 0 z rfl
         simp only[mv]at this
         simp[asAddr,loadVar,pt nh,this,W.den]
theorem aa0 {n:Nat} {ρ:Env} {m:Nat->Nat} {bl:List ax} {tm:List V} {a:Act} {w:ar} (hg:fg gl w0) (h:R w0 n ρ m tm bl a w):∀{rs:List ResultVar} {l:List W},AL P gl bl tm rs=some l->
 (∀u∈l,W.ok n bl.length ρ u)/\(rs.mapM (m:=Sem) (AK a)).run P w= .ok (l.map (W.den ρ m)) w
 |[],l,hr=>by simp[AL]at hr;subst hr;exact⟨by simp,by simp⟩
 |r::s,l,hr=>by
  simp only[AL]at hr
  cases h1:Ha P gl bl tm r with
  |none=>simp[h1]at hr
  |some u=>
   cases h2:AL P gl bl tm s with
   |none=>simp[h1,h2]at hr
   |some bQ=>
    simp only[h1,h2,aQ]at hr
    subst hr
    have e1:=atJ hg h h1
    have e2:=aa0 hg h h2
    refine⟨λx hx=>by rcases List.mem_cons.1 hx with rfl|hx;exact e1.1;exact e2.1 x hx,?_⟩
    rw[List.mapM_cons,gY]
    simp only[e1.2,e2.2,gH,gY,iw,cI]
theorem Rw {fn:Func} {n:Nat} {ρ:Env} {m:Nat->Nat} {bl:List ax} {tm:List V} {a:Act} {w:ar} {k:RK} {G:dT} (hg:fg gl w0) (h:R w0 n ρ m tm bl a w) (ai:(G8 P gl fn n tm bl k).holds S L G ρ):
 ∃v val,V.ok n bl.length ρ v/\v.rel ρ m val/\(results fn a.tmps).run P w= .ok val w/\(k n v bl).holds S L G ρ:=by
 unfold G8 at ai
 cases hr:AL P gl bl tm fn.results.toList with
 |none=>
  simp only[hr]at ai
  cases ho:Q9 tm fn.results.toList with
  |none=>simp[ho,T.holds]at ai
  |some v=>
   simp only[ho]at ai
   obtain⟨t,e,hv⟩:∃t,fn.results.toList=[.tmp t]/\tm[t]?=some v:=by
    unfold Q9 at ho
    split at ho
    ·rename_i t he
     refine⟨t,he,?_⟩
     split at ho<;>first|(cases ho;assumption)|cases ho
    ·cases ho
   obtain⟨h1,x,h2,h3⟩:=h.t.2 t v hv
   refine⟨v,x,h1,h3,?_,ai⟩
   have u6:fn.results=#[.tmp t]:=by rw[<-jF (xs:=fn.results),e]
   have ex:a.tmps.getD t undef=x:=by simp[h2]
   have e:results fn a.tmps=(do let vs<-fn.results.mapM (AK a);A7 (if h:vs.size=1 then vs[0]else .tuple vs)):=by
    unfold results
    congr 1
   rw[e,u6,azN]
   simp[gY,Sem.run_map,gH,AK,h2]
 |some l=>
  obtain⟨h1,h2⟩:=aa0 hg h hr
  have hL:(results fn a.tmps).run P w= .ok (if h:(l.map (W.den ρ m)).toArray.size=1 then(l.map (W.den ρ m)).toArray[0]else .tuple (l.map (W.den ρ m)).toArray) w:=by
   have e:results fn a.tmps=(do let vs<-fn.results.mapM (AK a);A7 (if h:vs.size=1 then vs[0]else .tuple vs)):=by
    unfold results
    congr 1
   rw[e,azN]
   simp only[gY,Sem.run_map,gH,h2,iw]
  simp only[hr]at ai
  split at ai
  ·rename_i u heq
   have heq:=hZ heq
   subst heq
   exact⟨.w u,_,h1 u (by simp),rfl,by rw[hL];simp,ai⟩
  ·rename_i bQ hne heq
   have heq:=hZ heq
   subst heq
   refine⟨.fY l,_,h1,rfl,?_,ai⟩
   rw[hL,dif_neg]
   intro hs
   simp at hs
   match l,hs,hne with
   |[u],_,hne=>exact hne u rfl
  ·rename_i heq;cases heq
theorem Mu {ρ:Env} {m:Nat->Nat}:∀{vs:List V} {xs:List aF},eD ρ m vs xs->vs.length=xs.length
 |[],[],_=>rfl
 |_::_,_::_,h=>by simp[Mu h.2]
 |[],_::_,h=>h.elim
 |_::_,[],h=>h.elim
theorem Ms {n nb:Nat} {ρ:Env} {m:Nat->Nat} (k:Nat):∀{vs:List V} {xs:List aF},(∀v∈vs,V.ok n nb ρ v)->eD ρ m vs xs->yL n nb ρ m (vs++Dy k) (xs++du k undef)
 |[],[],_,_=>by
  simp only[jr]
  induction k with
  |zero=>trivial
  |succ k ih=>exact⟨by intro x hx;simp at hx,rfl,ih⟩
 |v::r,x::s,h,hr=>⟨h v (by simp),hr.1,Ms k (λu hu=>h u (dn _ hu)) hr.2⟩
 |[],_::_,_,h=>h.elim
 |_::_,[],_,h=>h.elim
theorem VV (nQ:w0.ds=[]) {li:cw->Nat->Option c7} {rounds:Nat} {inl:js} (hm:P.follows .mixedOrders=true) (cQ:fS S P gl w0 cal) (hg:fg gl w0) (ih:m9 S L w0 P inl):m9 S L w0 P (IA P gl cal inl li rounds):=by
 intro f n vs bl k G ρ m w xs R' hb lu pU hrel ai hk
 unfold IA at ai
 cases hf:P.funcs[f]? with
 |none=>simp[hf,T.holds]at ai
 |some fn=>
  cases u9:fn.body with
  |none=>simp[hf,u9,T.holds]at ai
  |some c=>
   simp only[hf,u9]at ai
   cases hc:(!(fn.name== "runtime.NumGoroutine")&&bB vs.length fn.ntmps)with
   |false=>simp[hc,T.holds]at ai
   |true=>
    simp only[hc,cond_true]at ai
    simp only[aS,Bool.not_eq_true']at hc
    have hlen:=Mu hrel
    refine⟨?_,calls_of_wp hf u9 ?_⟩
    ·have h1:¬fn.name= "runtime.NumGoroutine" :=by have:=hc.1;simpa using this
     simp[callFunc,hf,u9,h1]
    ·have hR:R w0 n ρ m (vs++Dy (fn.ntmps-vs.length)) bl {tmps:=xs.toArray++uG (fn.ntmps-xs.toArray.size) undef,defers:=[]} w:=by
      refine⟨?_,nQ.symm,hb,lu⟩
      have:=Ih (Ms (fn.ntmps-vs.length) pU hrel)
      have e:(xs++du (fn.ntmps-vs.length) undef).toArray=xs.toArray++uG (fn.ntmps-xs.toArray.size) undef:=by
       simp[hlen]
      rw[e]at this
      exact this
     refine wpIn_wide.1 (BH (rd:=none) hm cQ hg ih c (.inl rfl) n _ bl _ G ρ m _ w _ hR ai λx n' ah m' ch a8 dU di w' h1 h2 h3 h4=>?_)
     cases x with
     |exit id=>exact h4.elim
     |normal=>
      obtain⟨v,val,p1,bJ,cP,ea⟩:=Rw hg h3 h4
      exact⟨h3.d.trans nQ,val,cP,hk n' v a8 dU ah m' w' val h1 h2 p1 bJ h3.b h3.bx ea⟩
     |ret=>
      obtain⟨v,val,p1,bJ,cP,ea⟩:=Rw hg h3 h4
      exact⟨h3.d.trans nQ,val,cP,hk n' v a8 dU ah m' w' val h1 h2 p1 bJ h3.b h3.bx ea⟩
theorem V6 (nQ:w0.ds=[]) {li:cw->Nat->Option c7} {rounds:Nat} (hm:P.follows .mixedOrders=true) (cQ:fS S P gl w0 cal) (hg:fg gl w0):∀d,m9 S L w0 P (II P gl cal li rounds d)
 |0=>λf n vs bl k G ρ m w xs R' _ _ _ _ ai _=>ai.elim
 |d+1=>VV nQ hm cQ hg (V6 nQ hm cQ hg d)
def pD (S:Nat->List Int->List Int->Prop) (L:V->Env->Prop) (w0:dK) (P:bH) (bc:kz):Prop:=
 ∀f g,bc f=some g->∀n vs bl k G ρ m w xs R',cK n (lN bl) ρ bl->Mem w0 ρ m bl w->(∀v∈vs,V.ok n bl.length ρ v)->eD ρ m vs xs->(g n vs bl k).holds S L G ρ->uS S L w0 k n bl.length ρ m G R'->
  (callFunc f xs.toArray).run P w= .ok (.enter f xs.toArray) w/\jY P f xs.toArray w R'
theorem ars {bc:kz} {inl:js} (jw:pD S L w0 P bc) (h:m9 S L w0 P inl):m9 S L w0 P (Rb bc inl):=by
 intro f n vs bl k G ρ m w xs R' h1 h2 h3 h4 h5 h6
 unfold Rb at h5
 cases hf:bc f with
 |none=>rw[hf]at h5;exact h f n vs bl k G ρ m w xs R' h1 h2 h3 h4 h5 h6
 |some g=>rw[hf]at h5;exact jw f g hf n vs bl k G ρ m w xs R' h1 h2 h3 h4 h5 h6
theorem EU (nQ:w0.ds=[]) {bc:kz} {li:cw->Nat->Option c7} {rounds:Nat} (hm:P.follows .mixedOrders=true) (cQ:fS S P gl w0 cal) (hg:fg gl w0) (jw:pD S L w0 P bc):∀d,m9 S L w0 P (wP bc P gl cal li rounds d)
 |0=>λf n vs bl k G ρ m w xs R' _ _ _ _ ai _=>ai.elim
 |d+1=>VV nQ hm cQ hg (ars jw (EU nQ hm cQ hg jw d))
theorem Mem.extends {b w w':ar} {ρ:Env} {m:Nat->Nat} {bl:List ax} (h:Mem ⟨b,w,λ_=>False,λ_=>False,[]⟩ ρ m bl w'):w.Extends w':=by
 have mE:∀i:Nat,i<w.heap.size->w'.heap[i]?=w.heap[i]?:=λi hi=>h.gz i hi id
 exact⟨h.gQ,h.jz,h.ic,h.e8,λa ha=>by simp only[jW,mE a.block ha],λa ha=>by simp only[uH,mE a.block ha],mE⟩
theorem V7 {b w:ar} {li:cw->Nat->Option c7} {rounds d:Nat} (hm:P.follows .mixedOrders=true) (cQ:fS S P gl ⟨b,w,λ_=>False,λ_=>False,[]⟩ cal) (hg:fg gl ⟨b,w,λ_=>False,λ_=>False,[]⟩) (f:cw) (n:Nat) (vs:List V) (ρ:Env) (xs:List aF) (he:b.Extends w)
 (pU:∀v∈vs,V.ok n 0 ρ v) (hrel:eD ρ (λ_=>0) vs xs) (ai:(II P gl cal li rounds d f n vs [] λn' v _=> .leaf v).holds S (λv ah=>L v ah) (λ_ _=>False) ρ):
 jY P f xs.toArray w λe w'=>∃v ah m val nb,e= .returned val/\v.rel ah m val/\(∃n',V.ok n' nb ah v)/\L v ah/\w.Extends w':=by
 have lu:Mem ⟨b,w,λ_=>False,λ_=>False,[]⟩ ρ (λ_=>0) [] w:=⟨he,rfl,rfl,rfl,br _,λ_ _ _=>rfl,λi cs t h=>by simp at h,λi sh off code cap kind t h=>by simp at h,λi j p q h=>by simp at h⟩
 refine(V6 rfl (L:=L) (li:=li) (rounds:=rounds) hm cQ hg d f n vs [] (λn' v _=> .leaf v) (λ_ _=>False) ρ (λ_=>0) w xs _ (λp hp=>by simp at hp) lu pU hrel ai ?_).2
 intro n' v a8 dU ah m' w' val h1 h2 h3 h4 h5 h6 h7
 exact⟨v,ah,m',val,_,rfl,h4,⟨n',h3⟩,h7,h6.extends⟩
end
end Go.bo
namespace Go.bo
open M
def aB.sym (s:Nat):aB->A
 |int k lo hi=> .int k ⟨.var s,lo,hi⟩
 |str=> .str (.var s)
 |bool=> .bool (.eq (.var s) (.const 1))
inductive D where
 |str
 |int (k:dp) (lo hi:Int)
 |bool
 |agg (k:dp) (n:Nat) (lo hi:Int)
 |mix (l:List aB)
 |kP (l:List UInt8)
 |qH (k:dp) (c:Int)
def da (lo hi:Int):Nat->List (Int×Int)
 |0=>[]
 |n+1=>(lo,hi)::da lo hi n
noncomputable def D.bds:D->List (Int×Int)
 |str=>[(0,bM)]
 |int _ lo hi=>[(lo,hi)]
 |bool=>[(0,1)]
 |agg _ n lo hi=>da lo hi n
 |mix l=>l.map aB.eL
 |kP _=>[]
 |qH .. =>[]
def D.num:D->Nat
 |str=>1
 |int .. =>1
 |bool=>1
 |agg _ n _ _=>n
 |mix l=>l.length
 |kP _=>0
 |qH .. =>0
def D.val:D->List Int->aF
 |str,zs=> .string (bw (U (zs.getD 0 0)))
 |int k _ _,zs=> .int k (zs.getD 0 0)
 |bool,zs=> .bool (decide (zs.getD 0 0=1))
 |agg k n _ _,zs=> .agg ((zs.take n).map (.int k)).toArray
 |mix l,zs=> .agg (pA aB.val l zs).toArray
 |kP l,_=> .string (bw (ru l))
 |qH k c,_=> .int k c
def Dx (k:dp) (lo hi:Int):Nat->Nat->List A
 |_,0=>[]
 |s,n+1=> .int k ⟨.var s,lo,hi⟩::Dx k lo hi (s+1) n
def Df:Nat->List aB->List A
 |_,[]=>[]
 |s,c::r=>c.sym s::Df (s+1) r
def D.sym (s:Nat):D->W
 |str=> .one (.str (.var s))
 |int k lo hi=> .one (.int k ⟨.var s,lo,hi⟩)
 |bool=> .one (.bool (.eq (.var s) (.const 1)))
 |agg k n lo hi=> .agg (Dx k lo hi s n)
 |mix l=> .agg (Df s l)
 |kP l=> .one (.str (.const (ev (ru l))))
 |qH k c=> .one (.int k (bF.const c))
noncomputable def dC:List D->List (Int×Int)
 |[]=>[]
 |d::r=>d.bds++dC r
def m2:List D->List Int->List aF
 |[],_=>[]
 |d::r,zs=>d.val zs::m2 r (zs.drop d.num)
def sQ:Nat->List D->List W
 |_,[]=>[]
 |s,d::r=>d.sym s::sQ (s+d.num) r
theorem gS:∀{b:List (Int×Int)} {l:List Int},aV b l->l.length=b.length
 |[],[],_=>rfl
 |_::_,_::_,h=>by simp[gS h.2.2]
 |[],_::_,h=>h.elim
 |_::_,[],h=>h.elim
theorem aaY (lo hi:Int):∀n,(da lo hi n).length=n
 |0=>rfl
 |n+1=>by simp[da,aaY lo hi n]
theorem D.EJ (d:D):d.bds.length=d.num:=by cases d<;>simp[D.bds,D.num,aaY]
theorem JZ:∀{b cp:List (Int×Int)} {l:List Int},aV (b++cp) l->aV b (l.take b.length)/\aV cp (l.drop b.length)
 |[],_,_,h=>⟨trivial,h⟩
 |_::_,_,_::_,h=>by
  have ih:=JZ h.2.2
  exact⟨⟨h.1,h.2.1,ih.1⟩,ih.2⟩
 |_::_,_,[],h=>h.elim
def gJ (ρ:Env) (s:Nat) (zs:List Int):Prop:=∀j,j<zs.length->ρ (s+j)=zs.getD j 0
theorem gJ.bL (ρ:Env) (s:Nat) (zs:List Int):gJ (bL ρ s zs) s zs:=λj hj=>DL zs s ρ j hj
theorem gJ.tail {ρ:Env} {s:Nat} {z:Int} {zs:List Int} (h:gJ ρ s (z::zs)):ρ s=z/\gJ ρ (s+1) zs:=by
 refine⟨by simpa using h 0 (by simp),λj hj=>?_⟩
 have:=h (j+1) (by simpa using hj)
 rw[show s+1+j=s+(j+1) by omega,this];simp
theorem gJ.drop {ρ:Env} {s:Nat} {zs:List Int} (h:gJ ρ s zs) (k:Nat):gJ ρ (s+k) (zs.drop k):=λj hj=>by
 have:=h (k+j) (by simp at hj;omega)
 rw[show s+k+j=s+(k+j) by omega,this]
 simp[ae]
theorem aaX {ρ:Env} {m:Nat->Nat} {N nb:Nat} {k:dp} {lo hi:Int}:∀(n s:Nat) (zs:List Int),aV (da lo hi n) (zs.take n)->gJ ρ s zs->s+n<=N->
 (∀a∈Dx k lo hi s n,A.ok N nb ρ a)/\(Dx k lo hi s n).map (A.den ρ m)=(zs.take n).map (.int k)
 |0,s,zs,_,_,_=>by simp[Dx]
 |n+1,s,[],h,_,_=>by simp[da,aV]at h
 |n+1,s,z::zs,h,ha,hN=>by
  have ht:=ha.tail
  simp only[da,A8,aV]at h
  obtain⟨h1,h2⟩:=aaX (m:=m) (nb:=nb) (k:=k) (N:=N) n (s+1) zs h.2.2 ht.2 (by omega)
  refine⟨λa hm=>?_,by simp only[Dx,cI,A.den,aa.cE,ht.1,h2,A8]⟩
  rcases List.mem_cons.1 hm with rfl|hm
  ·exact⟨aa.eV (by omega),by simp only[aa.cE,ht.1];exact h.1,by simp only[aa.cE,ht.1];exact h.2.1⟩
  ·exact h1 a hm
theorem aB.Hl {ρ:Env} {m:Nat->Nat} {N nb:Nat} (c:aB) {s:Nat} {z:Int} (h0:c.eL.1<=z) (h1:z<=c.eL.2) (hz:ρ s=z) (hN:s<N):(c.sym s).ok N nb ρ/\(c.sym s).den ρ m=c.val z:=by
 cases c with
 |int k lo hi=>exact⟨⟨aa.eV hN,by simp only[aa.cE,hz];exact h0,by simp only[aa.cE,hz];exact h1⟩,by simp[aB.sym,aB.val,A.den,aa.cE,hz]⟩
 |str=>exact⟨⟨aa.eV hN,by rw[aa.cE,hz];exact h0,by rw[aa.cE,hz];exact h1⟩,by simp[aB.sym,aB.val,A.den,aa.cE,hz]⟩
 |bool=>exact⟨⟨aa.eV hN,aa.cT _ _⟩,by simp[aB.sym,aB.val,A.den,bd.den,aa.cE,aa.aW,hz]⟩
theorem ZX {ρ:Env} {m:Nat->Nat} {N nb:Nat}:∀(l:List aB) (s:Nat) (zs:List Int),aV (l.map aB.eL) (zs.take l.length)->gJ ρ s zs->s+l.length<=N->
 (∀a∈Df s l,A.ok N nb ρ a)/\(Df s l).map (A.den ρ m)=pA aB.val l zs
 |[],s,zs,_,_,_=>by simp[Df]
 |_::_,s,[],h,_,_=>by simp[aV]at h
 |c::r,s,z::zs,h,ha,hN=>by
  have ht:=ha.tail
  simp only[cI,dv,A8,aV]at h
  obtain⟨h1,h2⟩:=ZX (m:=m) (nb:=nb) (N:=N) r (s+1) zs h.2.2 ht.2 (by simp at hN;omega)
  have hc:=c.Hl (m:=m) (nb:=nb) (N:=N) h.1 h.2.1 ht.1 (by simp at hN;omega)
  refine⟨λa hm=>?_,by simp only[Df,cI,hc.2,h2,LQ]⟩
  rcases List.mem_cons.1 hm with rfl|hm
  ·exact hc.1
  ·exact h1 a hm
theorem D.Hl {ρ:Env} {m:Nat->Nat} {N nb:Nat} (d:D) {s:Nat} {zs:List Int} (h:aV d.bds (zs.take d.num)) (ha:gJ ρ s zs) (hN:s+d.num<=N):(d.sym s).ok N nb ρ/\(d.sym s).den ρ m=d.val zs:=by
 cases d with
 |str=>
  cases zs with
  |nil=>simp[D.bds,aV]at h
  |cons z r=>
   have ht:=ha.tail
   simp only[D.bds,D.num,A8,aV]at h
   simp only[D.num]at hN
   exact⟨⟨aa.eV (by omega),by rw[aa.cE,ht.1];exact h.1,by rw[aa.cE,ht.1];exact h.2.1⟩,by simp[D.sym,W.den,A.den,D.val,aa.cE,ht.1]⟩
 |int k lo hi=>
  cases zs with
  |nil=>simp[D.bds,aV]at h
  |cons z r=>
   have ht:=ha.tail
   simp only[D.bds,D.num,A8,aV]at h
   simp only[D.num]at hN
   exact⟨⟨aa.eV (by omega),by simp only[aa.cE,ht.1];exact h.1,by simp only[aa.cE,ht.1];exact h.2.1⟩,by simp[D.sym,W.den,A.den,D.val,aa.cE,ht.1]⟩
 |bool=>
  cases zs with
  |nil=>simp[D.bds,aV]at h
  |cons z r=>
   have ht:=ha.tail
   simp only[D.num]at hN
   exact⟨⟨aa.eV (by omega),aa.cT _ _⟩,by simp[D.sym,W.den,A.den,D.val,bd.den,aa.cE,aa.aW,ht.1]⟩
 |agg k n lo hi=>
  have:=aaX (m:=m) (nb:=nb) (k:=k) n s zs h ha hN
  exact⟨this.1,by simp only[D.sym,W.den,D.val,this.2]⟩
 |mix l=>
  have:=ZX (m:=m) (nb:=nb) l s zs h ha hN
  exact⟨this.1,by simp only[D.sym,W.den,D.val,this.2]⟩
 |kP l=>exact⟨⟨aa.cT _ _,by rw[aa.aW];exact am2 l⟩,by simp[D.sym,W.den,A.den,D.val,aa.aW,fm]⟩
 |qH k c=>exact⟨bF.nd _ _ c,by simp[D.sym,W.den,A.den,D.val,bF.const,aa.aW]⟩
theorem Lh {ρ:Env} {m:Nat->Nat} {N nb:Nat}:∀(ds:List D) {s:Nat} {zs:List Int},aV (dC ds) zs->gJ ρ s zs->s+(dC ds).length<=N->(∀u∈sQ s ds,W.ok N nb ρ u)/\(sQ s ds).map (W.den ρ m)=m2 ds zs
 |[],s,zs,_,_,_=>by simp[sQ,m2]
 |d::r,s,zs,h,ha,hN=>by
  have hs:=JZ h
  rw[D.EJ]at hs
  simp only[dC,dN,D.EJ]at hN
  have h1:=d.Hl (m:=m) (nb:=nb) hs.1 ha (N:=N) (by omega)
  have h2:=Lh (m:=m) (nb:=nb) (N:=N) r hs.2 (ha.drop d.num) (by omega)
  exact⟨λu hu=>by rcases List.mem_cons.1 hu with rfl|hu;exact h1.1;exact h2.1 u hu,by simp[sQ,m2,h1.2,h2.2]⟩
def DA (ds:List D) (s:Nat):V:=match sQ s ds with|[u]=> .w u|l=> .fY l
def fb (ds:List D) (zs:List Int):aF:=match m2 ds zs with|[x]=>x|l=> .tuple l.toArray
def o7 (lo hi:Int) (x:bF):Bool:=decide (lo<=x.lo)&&decide (x.hi<=hi)
def l0 (k:dp) (lo hi:Int):List A->Option (List aa)
 |[]=>some []
 | .int a6 x::r=>cond (decide (k=a6)&&o7 lo hi x) (match l0 k lo hi r with|some l=>some (x.l::l)|none=>none) none
 |_::_=>none
def aB.fit:aB->A->Option aa
 |int k lo hi,.int a6 x=>cond (decide (k=a6)&&o7 lo hi x) (some x.l) none
 |str,.str l=>some l
 |bool,.bool (.lit b)=>some (.const (cond b 1 0))
 |_,_=>none
def pJ:List aB->List A->Option (List aa)
 |[],[]=>some []
 |c::r,a::s=>match c.fit a,pJ r s with|some x,some l=>some (x::l)|_,_=>none
 |_,_=>none
def y7:D->V->Option (List aa)
 | .int k lo hi,.w (.one (.int a6 x))=>cond (decide (k=a6)&&o7 lo hi x) (some [x.l]) none
 | .agg k n lo hi,.w (.agg l)=>cond (aG l.length n) (l0 k lo hi l) none
 | .mix l,.w (.agg s)=>pJ l s
 | .str,.w (.one (.str l))=>some [l]
 | .bool,.w (.one (.bool (.lit b)))=>some [.const (cond b 1 0)]
 | .kP l,.w (.one (.str x))=>match x.dM with|some c=>cond (decide (c=ev (ru l))) (some []) none|none=>none
 | .qH k c,.w (.one (.int a6 x))=>match x.l.dM with|some d=>cond (decide (k=a6)&&decide (d=c)) (some []) none|none=>none
 |_,_=>none
def qo:List D->List V->Option (List aa)
 |[],[]=>some []
 |d::r,v::s=>match y7 d v,qo r s with|some a,some b=>some (a++b)|_,_=>none
 |_,_=>none
theorem E4 {n:Nat} {ρ:Env} {lo hi:Int} {x:bF} (h:o7 lo hi x=true) (hx:x.ok n ρ):lo<=x.l.den ρ/\x.l.den ρ<=hi:=by
 simp only[o7,aS,decide_eq_true_eq]at h
 have:=hx.2;omega
theorem NW {n nb:Nat} {ρ:Env} {m:Nat->Nat} {k:dp} {lo hi:Int}:∀{l:List A} {r:List aa},l0 k lo hi l=some r->(∀a∈l,A.ok n nb ρ a)->r.length=l.length/\aV (da lo hi l.length) (r.map (·.den ρ))/\l.map (A.den ρ m)=(r.map (·.den ρ)).map (.int k)
 |[],r,h,_=>by simp[l0]at h;subst h;exact⟨rfl,trivial,rfl⟩
 | .int a6 x::s,r,h,bm=>by
  simp only[l0]at h
  cases hc:(decide (k=a6)&&o7 lo hi x)with
  |false=>simp[hc]at h
  |true=>
   simp only[hc,cond_true]at h
   simp only[aS,decide_eq_true_eq]at hc
   cases hr:l0 k lo hi s with
   |none=>simp[hr]at h
   |some r'=>
    simp only[hr,aQ]at h
    subst h
    obtain⟨h1,h2,h3⟩:=NW (m:=m) hr λa ha=>bm a (dn _ ha)
    have hx:x.ok n ρ:=bm (.int a6 x) (by simp)
    have hf:=E4 hc.2 hx
    exact⟨by simp[h1],⟨hf.1,hf.2,h2⟩,by simp only[cI,h3,A.den,hc.1]⟩
 | .bool _::_,_,h,_=>by simp[l0]at h
 | .ptr .. ::_,_,h,_=>by simp[l0]at h
 | .mU .. ::_,_,h,_=>by simp[l0]at h
 | .gptr .. ::_,_,h,_=>by simp[l0]at h
 | .slc .. ::_,_,h,_=>by simp[l0]at h
 | .con _::_,_,h,_=>by simp[l0]at h
 | .str _::_,_,h,_=>by simp[l0]at h
theorem aB.agH {n nb:Nat} {ρ:Env} {m:Nat->Nat} {c:aB} {a:A} {l:aa} (h:c.fit a=some l) (bm:a.ok n nb ρ):(c.eL.1<=l.den ρ/\l.den ρ<=c.eL.2)/\a.den ρ m=c.val (l.den ρ):=by
 unfold aB.fit at h
 split at h
 ·rename_i k lo hi a6 x
  cases hc:(decide (k=a6)&&o7 lo hi x)with
  |false=>simp[hc]at h
  |true=>
   simp only[hc,cond_true,aQ]at h
   subst h
   simp only[aS,decide_eq_true_eq]at hc
   exact⟨E4 hc.2 bm,by simp only[A.den,aB.val,hc.1]⟩
 ·simp only[aQ]at h;subst h
  exact⟨bm.2,rfl⟩
 ·rename_i b
  simp only[aQ]at h;subst h
  cases b<;>simp[aB.eL,aB.val,A.den,bd.den,aa.aW]
 ·cases h
theorem WX {n nb:Nat} {ρ:Env} {m:Nat->Nat}:∀{d:List aB} {l:List A} {r:List aa},pJ d l=some r->(∀a∈l,A.ok n nb ρ a)->r.length=d.length/\aV (d.map aB.eL) (r.map (·.den ρ))/\l.map (A.den ρ m)=pA aB.val d (r.map (·.den ρ))
 |[],[],r,h,_=>by simp[pJ]at h;subst h;exact⟨rfl,trivial,rfl⟩
 |c::d,a::s,r,h,bm=>by
  simp only[pJ]at h
  cases hx:c.fit a with
  |none=>simp[hx]at h
  |some x=>
   cases hr:pJ d s with
   |none=>simp[hx,hr]at h
   |some r'=>
    simp only[hx,hr,aQ]at h
    subst h
    obtain⟨h1,h2,h3⟩:=WX (m:=m) hr λa ha=>bm a (dn _ ha)
    have hf:=aB.agH (m:=m) hx (bm a (by simp))
    exact⟨by simp[h1],⟨hf.1.1,hf.1.2,h2⟩,by simp only[cI,h3,hf.2,LQ]⟩
 |[],_::_,_,h,_=>by simp[pJ]at h
 |_::_,[],_,h,_=>by simp[pJ]at h
theorem abR {n:Nat} {ρ:Env} {l:List UInt8} {x:aa} {c:Int} (hc:x.dM=some c) (h:c=ev (ru l)):U (x.den ρ)=ru l:=by rw[aa.ia hc,h,fm]
theorem WU {n nb:Nat} {ρ:Env} {m:Nat->Nat} {d:D} {v:V} {r:List aa} {x:aF} (h:y7 d v=some r) (bm:v.ok n nb ρ) (hx:v.rel ρ m x):r.length=d.num/\aV d.bds (r.map (·.den ρ))/\∀zs,d.val ((r.map (·.den ρ))++zs)=x:=by
 unfold y7 at h
 split at h
 ·rename_i k lo hi a6 y
  cases hc:(decide (k=a6)&&o7 lo hi y)with
  |false=>simp[hc]at h
  |true=>
   simp only[hc,cond_true,aQ]at h
   subst h
   simp only[aS,decide_eq_true_eq]at hc
   have hf:=E4 hc.2 bm
   simp only[V.rel,W.den,A.den]at hx
   exact⟨rfl,⟨hf.1,hf.2,trivial⟩,λzs=>by simp[D.val,hx,hc.1]⟩
 ·rename_i k n' lo hi l
  cases hc:aG l.length n' with
  |false=>simp[hc]at h
  |true=>
   simp only[hc,cond_true]at h
   have hl:=bG hc
   subst hl
   obtain⟨h1,h2,h3⟩:=NW (m:=m) h bm
   simp only[V.rel,W.den]at hx
   exact⟨h1,h2,λzs=>by rw[hx,h3];simp only[D.val];rw[HH (by simp[h1]),jd (by simp[h1])]⟩
 ·rename_i l s
  obtain⟨h1,h2,h3⟩:=WX (m:=m) h bm
  simp only[V.rel,W.den]at hx
  refine⟨h1,h2,λzs=>?_⟩
  rw[hx,h3]
  simp only[D.val]
  congr 2
  have key:∀(a:List aB) (b c:List Int),b.length=a.length->pA aB.val a (b++c)=pA aB.val a b:=by
   intro a
   induction a with
   |nil=>intro b c _;simp
   |cons p a ih=>
    intro b c hb
    cases b with
    |nil=>simp at hb
    |cons z b=>simp[ih b c (by simpa using hb)]
  exact key _ _ _ (by simp[h1])
 ·rename_i l
  simp only[aQ]at h;subst h
  simp only[V.rel,W.den,A.den]at hx
  exact⟨rfl,⟨bm.2.1,bm.2.2,trivial⟩,λzs=>by rw[hx];rfl⟩
 ·rename_i b
  simp only[aQ]at h;subst h
  simp only[V.rel,W.den,A.den,bd.den]at hx
  cases b<;>exact⟨rfl,by simp[D.bds,aV,aa.aW],λzs=>by rw[hx];simp[D.val,aa.aW]⟩
 ·rename_i l y
  cases hc:y.dM with
  |none=>simp[hc]at h
  |some c=>
   simp only[hc]at h
   cases hd:decide (c=ev (ru l))with
   |false=>simp[hd]at h
   |true=>
    simp only[hd,cond_true,aQ]at h
    subst h
    have hd:c=ev (ru l):=by simpa using hd
    refine⟨rfl,trivial,λzs=>?_⟩
    have hx:x= .string (bw (U (y.den ρ))):=hx
    rw[hx,abR (n:=n) hc hd];rfl
 ·rename_i k c a6 y
  cases hc:y.l.dM with
  |none=>simp[hc]at h
  |some d=>
   simp only[hc]at h
   cases hd:(decide (k=a6)&&decide (d=c))with
   |false=>simp[hd]at h
   |true=>
    simp only[hd,cond_true,aQ]at h
    subst h
    simp only[aS,decide_eq_true_eq]at hd
    refine⟨rfl,trivial,λzs=>?_⟩
    have hx:x= .int a6 (y.l.den ρ):=hx
    rw[hx,aa.ia hc,<-hd.1,hd.2];rfl
 ·cases h
theorem NZ {n nb:Nat} {ρ:Env} {m:Nat->Nat}:∀{ds:List D} {vs:List V} {r:List aa} {xs:List aF},qo ds vs=some r->(∀v∈vs,V.ok n nb ρ v)->eD ρ m vs xs->aV (dC ds) (r.map (·.den ρ))/\m2 ds (r.map (·.den ρ))=xs
 |[],[],r,[],h,_,_=>by simp[qo]at h;subst h;exact⟨trivial,rfl⟩
 |d::ds,v::vs,r,x::xs,h,bm,hr=>by
  simp only[qo]at h
  cases h1:y7 d v with
  |none=>simp[h1]at h
  |some a=>
   cases h2:qo ds vs with
   |none=>simp[h1,h2]at h
   |some b=>
    simp only[h1,h2,aQ]at h
    subst h
    obtain⟨p1,bJ,cP⟩:=WU (m:=m) h1 (bm v (by simp)) hr.1
    obtain⟨bq,bE⟩:=NZ h2 (λu hu=>bm u (dn _ hu)) hr.2
    refine⟨by rw[ft];exact sB bJ bq,?_⟩
    rw[ft]
    simp only[m2,cP]
    rw[show d.num=(a.map (·.den ρ)).length by simp[p1],Ee,bE]
 |[],_::_,_,_,h,_,_=>by simp[qo]at h
 |_::_,[],_,_,h,_,_=>by simp[qo]at h
 |[],[],_,_::_,_,_,hr=>hr.elim
 |_::_,_::_,_,[],_,_,hr=>hr.elim
structure bu where
 f:cw
 id:Nat
 args:List D
 res:List D
def bu.eY (P:bH) (wb:ar) (c:bu) (spec:List Int->List Int->Prop):Prop:=
 (∀args w,(callFunc c.f args).run P w= .ok (.enter c.f args) w)/\
 ∀zs,aV (dC c.args) zs->∃rs,aV (dC c.res) rs/\spec zs rs/\∀w,wb.Extends w->jY P c.f (m2 c.args zs).toArray w λe w'=>e= .returned (fb c.res rs)/\w.Extends w'
noncomputable def NX (d:D) (v:V):M (List aa):=
 match d,v with
 | .bool,.w (.one (.bool e))=>bind (zQ e) λl=>pure [l]
 | .mix l,.w (.agg s)=>vV l s
 | .int k lo hi,.w (.one (.int a6 x))=>cond (decide (k=a6)) (cond (o7 lo hi x) (pure [x.l]) (bind (fy 39 [x.l,.const lo,.const hi]) λ_=>pure [x.l])) fail
 |d,v=>match y7 d v with|some r=>pure r|none=>fail
noncomputable def Ja:List D->List V->M (List aa)
 |[],[]=>pure []
 |d::r,v::s=>bind (NX d v) λa=>bind (Ja r s) λb=>pure (a++b)
 |_,_=>fail
noncomputable def bu.M (c:bu):List ax->List V->M V:=λ_ vs n k=>
 match qo c.args vs with
 |some l=> .call c.id l n (dC c.res) (k (DA c.res n) (n+(dC c.res).length))
 |none=>Ja c.args vs n λl n=> .call c.id l n (dC c.res) (k (DA c.res n) (n+(dC c.res).length))
section
variable {S:Nat->List Int->List Int->Prop} {L:V->Env->Prop}
theorem NV {k:dp} {lo hi:Int} {n nb:Nat} {ρ:Env}:∀{l:List A} {r:List aa},l0 k lo hi l=some r->(∀a∈l,A.ok n nb ρ a)->∀x∈r,aa.bk n x
 |[],r,h,_=>by simp[l0]at h;subst h;intro x hx;simp at hx
 |a::s,r,h,bm=>by
  cases a with
  |int a6 x=>
   simp only[l0]at h
   cases hc:(decide (k=a6)&&o7 lo hi x)with
   |false=>simp[hc]at h
   |true=>
    cases hr:l0 k lo hi s with
    |none=>simp[hc,hr]at h
    |some r'=>
     simp only[hc,hr,cond_true,aQ]at h
     subst h
     intro y hy
     rcases List.mem_cons.1 hy with hy|hy
     ·rw[hy]
      have h0:A.ok n nb ρ (.int a6 x):=bm _ (List.mem_cons_self ..)
      have h0:x.ok n ρ:=h0
      exact h0.1
     ·exact NV hr (λa ha=>bm a (dn _ ha)) y hy
  |_=>simp[l0]at h
theorem WW {n nb:Nat} {ρ:Env}:∀{d:List aB} {l:List A} {r:List aa},pJ d l=some r->(∀a∈l,A.ok n nb ρ a)->∀x∈r,aa.bk n x
 |[],[],r,h,_=>by simp[pJ]at h;subst h;intro x hx;simp at hx
 |c::d,a::s,r,h,bm=>by
  simp only[pJ]at h
  cases hx:c.fit a with
  |none=>simp[hx]at h
  |some x=>
   cases hr:pJ d s with
   |none=>simp[hx,hr]at h
   |some r'=>
    simp only[hx,hr,aQ]at h
    subst h
    intro y hy
    rcases List.mem_cons.1 hy with hy|hy
    ·subst hy
     have h0:=bm a (by simp)
     unfold aB.fit at hx
     split at hx
     ·rename_i k lo hi a6 z
      cases hc:(decide (k=a6)&&o7 lo hi z)with
      |false=>simp[hc]at hx
      |true=>
       simp only[hc,cond_true,aQ]at hx
       subst hx
       have h0:z.ok n ρ:=h0
       exact h0.1
     ·simp only[aQ]at hx;subst hx
      exact h0.1
     ·simp only[aQ]at hx;subst hx
      exact aa.cT _ _
     ·cases hx
    ·exact WW hr (λa ha=>bm a (dn _ ha)) y hy
 |[],_::_,_,h,_=>by simp[pJ]at h
 |_::_,[],_,h,_=>by simp[pJ]at h
theorem agL {n nb:Nat} {ρ:Env} {d:D} {v:V} {r:List aa} (h:y7 d v=some r) (bm:v.ok n nb ρ):∀x∈r,aa.bk n x:=by
 unfold y7 at h
 split at h
 ·rename_i k lo hi a6 y
  cases hc:(decide (k=a6)&&o7 lo hi y)with
  |false=>simp[hc]at h
  |true=>
   simp only[hc,cond_true,aQ]at h
   subst h
   have h0:y.ok n ρ:=bm
   intro x hx
   simp at hx;subst hx
   exact h0.1
 ·rename_i k n' lo hi l
  cases hc:aG l.length n' with
  |false=>simp[hc]at h
  |true=>
   simp only[hc,cond_true]at h
   exact NV h bm
 ·exact WW h bm
 ·simp only[aQ]at h;subst h
  intro x hx
  simp at hx;subst hx
  exact bm.1
 ·simp only[aQ]at h;subst h
  intro x hx
  simp at hx;subst hx
  exact aa.cT _ _
 ·rename_i l y
  cases hc:y.dM with
  |none=>simp[hc]at h
  |some c=>
   simp only[hc]at h
   cases hd:decide (c=ev (ru l))with
   |false=>simp[hd]at h
   |true=>
    simp only[hd,cond_true,aQ]at h
    subst h
    intro x hx;simp at hx
 ·rename_i k c a6 y
  cases hc:y.l.dM with
  |none=>simp[hc]at h
  |some d=>
   simp only[hc]at h
   cases hd:(decide (k=a6)&&decide (d=c))with
   |false=>simp[hd]at h
   |true=>
    simp only[hd,cond_true,aQ]at h
    subst h
    intro x hx;simp at hx
 ·cases h
theorem cl.Qp:∀{sh:List aB} {zs:List Int},cl sh zs->aV (sh.map aB.eL) zs/\pA aB.val sh zs=de sh zs
 |[],[],_=>⟨trivial,rfl⟩
 |c::sh,z::zs,h=>⟨⟨h.1.1,h.1.2,(cl.Qp h.2).1⟩,by simp[de,(cl.Qp h.2).2]⟩
 |[],_::_,h=>h.elim
 |_::_,[],h=>h.elim
theorem acu {f:aB->Int->aF}:∀(a:List aB) (b c:List Int),b.length=a.length->pA f a (b++c)=pA f a b
 |[],b,c,_=>by simp
 |_::a,[],c,h=>by simp at h
 |_::a,z::b,c,h=>by simp[acu a b c (by simpa using h)]
theorem agJ {d:D} {v:V} {X:aF} {n nb:Nat} {ρ:Env} {m:Nat->Nat} (hv:v.ok n nb ρ) (bP:v.rel ρ m X):aw S L (NX d v) n ρ λah n' ls=>(∀x∈ls,aa.bk n' x)/\ls.length=d.num/\aV d.bds (ls.map (·.den ah))/\∀zs,d.val ((ls.map (·.den ah))++zs)=X:=by
 unfold NX
 split
 ·rename_i e
  have bP:X= .bool (e.den ρ):=bP
  exact J0.bind λaE n1 l hn ha ⟨g1,g2,g3⟩=>aw.pure ⟨λx hx=>by simp at hx;subst hx;exact g1,rfl,⟨g2.1,g2.2,trivial⟩,λzs=>by rw[bP,g3];rfl⟩
 ·rename_i l s
  have bP:X= .agg (s.map (A.den ρ m)).toArray:=bP
  refine(DB (nb:=nb) (m:=m) hv).mono λaE n1 ls hn ha ⟨g1,g2,g3⟩=>?_
  have h1:=cl.Qp g2
  have h2:=g2.len
  refine⟨g1,by simpa [D.num]using h2,h1.1,λzs=>?_⟩
  rw[bP,<-g3,<-h1.2]
  simp only[D.val]
  rw[acu _ _ _ (by simpa using h2)]
 ·rename_i k lo hi a6 x
  have bP:X= .int a6 (x.l.den ρ):=bP
  have hv:x.ok n ρ:=hv
  refine dV λhk=>?_
  have hk:=of_decide_eq_true hk
  subst hk
  cases hf:o7 lo hi x with
  |true=>
   have:=E4 hf hv
   exact aw.pure ⟨λy hy=>by simp at hy;subst hy;exact hv.1,rfl,⟨this.1,this.2,trivial⟩,λzs=>by rw[bP];rfl⟩
  |false=>
   refine gM λhc=>aw.pure ?_
   simp only[cI,eo,ab,aa.aW]at hc
   exact⟨λy hy=>by simp at hy;subst hy;exact hv.1,rfl,⟨hc.1,hc.2,trivial⟩,λzs=>by rw[bP];rfl⟩
 ·split
  ·rename_i hf
   obtain⟨p1,bJ,cP⟩:=WU (m:=m) hf hv bP
   exact aw.pure ⟨agL hf hv,p1,bJ,cP⟩
  ·exact aw.fail
theorem eD.ext {n nb:Nat} {ρ ah:Env} {m m':Nat->Nat}:∀{vs:List V} {xs:List aF},eD ρ m vs xs->(∀v∈vs,V.ok n nb ρ v)->agree n ρ ah->(∀b,b<nb->m' b=m b)->eD ah m' vs xs
 |[],[],_,_,_,_=>trivial
 |v::vs,x::xs,h,bm,ha,hm=>⟨V.rel.ext h.1 (bm v (by simp)) ha hm,eD.ext h.2 (λu hu=>bm u (dn _ hu)) ha hm⟩
 |[],_::_,h,_,_,_=>h.elim
 |_::_,[],h,_,_,_=>h.elim
theorem WV {nb:Nat} {m:Nat->Nat}:∀{ds:List D} {vs:List V} {xs:List aF} {n:Nat} {ρ:Env},(∀v∈vs,V.ok n nb ρ v)->eD ρ m vs xs->aw S L (Ja ds vs) n ρ λah n' ls=>(∀x∈ls,aa.bk n' x)/\aV (dC ds) (ls.map (·.den ah))/\m2 ds (ls.map (·.den ah))=xs
 |[],[],[],n,ρ,_,_=>aw.pure ⟨λ_ h=>by simp at h,trivial,rfl⟩
 |d::ds,v::vs,x::xs,n,ρ,bm,hr=>by
  unfold Ja
  refine(agJ (nb:=nb) (bm v (by simp)) hr.1).bind λaE n1 a fq dP ⟨p0,p1,bJ,cP⟩=>(WV (ds:=ds) (vs:=vs) (λu hu=>(bm u (dn _ hu)).ext dP fq (br _)) (eD.ext hr.2 (λu hu=>bm u (dn _ hu)) dP (λ_ _=>rfl))).bind λbT en b eN dD ⟨fJ,bq,bE⟩=>aw.pure ⟨λy hy=>?_,?_,?_⟩
  ·rcases List.mem_append.1 hy with hy|hy
   ·exact(p0 y hy).mono eN
   ·exact fJ y hy
  ·have e:a.map (·.den bT)=a.map (·.den aE):=h8 λy hy=>aa.bR dD (p0 y hy)
   rw[ft,e];exact sB bJ bq
  ·have e:a.map (·.den bT)=a.map (·.den aE):=h8 λy hy=>aa.bR dD (p0 y hy)
   rw[ft,e]
   simp only[m2,cP]
   rw[show d.num=(a.map (·.den aE)).length by simp[p1],Ee,bE]
 |[],_::_,_,_,_,_,_=>aw.fail
 |_::_,[],_,_,_,_,_=>aw.fail
 |[],[],_::_,_,_,_,hr=>hr.elim
 |_::_,_::_,[],_,_,_,hr=>hr.elim
end
section
variable {S:Nat->List Int->List Int->Prop} {P:bH} {gl:ei} {w0:dK}
theorem M5 {L:V->Env->Prop} {id:Nat} {l:List aa} {n:Nat} {bds:List (Int×Int)} {r:T} {G:dT} {ρ:Env} (h:(T.call id l n bds r).holds S L G ρ) {rs:List Int} (hi:aV bds rs) (hs:S id (l.map (·.den ρ)) rs):r.holds S L G (bL ρ n rs):=
 lT h hi hs
theorem Ry {ρ:Env} {m:Nat->Nat} {N nb:Nat} {ds:List D} {s:Nat} {zs:List Int} (h:aV (dC ds) zs) (ha:gJ ρ s zs) (hN:s+(dC ds).length<=N):(DA ds s).ok N nb ρ/\(DA ds s).rel ρ m (fb ds zs):=by
 have hs:=Lh (m:=m) (nb:=nb) ds h ha hN
 unfold DA fb
 rw[<-hs.2]
 split
 ·rename_i u heq
  rw[heq]at hs
  rw[heq]
  exact⟨hs.1 u (by simp),rfl⟩
 ·rename_i l hne
  refine⟨hs.1,?_⟩
  split
  ·rename_i x heq
   have:∃u,sQ s ds=[u]:=by
    cases hl:sQ s ds with
    |nil=>rw[hl]at heq;simp at heq
    |cons u r=>
     cases r with
     |nil=>exact⟨u,rfl⟩
     |cons _ _=>rw[hl]at heq;simp at heq
   obtain⟨u,hu⟩:=this
   exact absurd hu (hne u)
  ·rfl
def bu.dh (P:bH) (wb:ar) (c:bu) (spec:List Int->List Int->Prop):Prop:=
 ∀zs,aV (dC c.args) zs->∃rs,aV (dC c.res) rs/\spec zs rs/\∀w,wb.Extends w->yD P c.f (m2 c.args zs).toArray w (fb c.res rs)
theorem bu.eY.f {wb:ar} {c:bu} {spec:List Int->List Int->Prop} (h:c.eY P wb spec):c.dh P wb spec:=λzs hz=>by
 obtain⟨rs,h1,h2,h3⟩:=h.2 zs hz
 exact⟨rs,h1,h2,λw hw=> .inr ⟨h.1 _ _,h3 w hw⟩⟩
theorem bu.snd {c:bu} {spec:List Int->List Int->Prop} (hc:c.dh P w0.b spec) (cL:∀zs rs,spec zs rs->S c.id zs rs) (L:V->Env->Prop) (n:Nat) (ρ:Env) (m:Nat->Nat) (bl:List ax) (vs:List V) (xs:List aF)
 (pU:∀v∈vs,V.ok n bl.length ρ v) (hr:eD ρ m vs xs):aw S L (c.M bl vs) n ρ λah n' v=>v.ok n' bl.length ah/\∃val,v.rel ah m val/\∀w,Mem w0 ρ m bl w->yD P c.f xs.toArray w val:=by
 intro G k hk
 unfold bu.M at hk
 cases hl:qo c.args vs with
 |none=>
  simp only[hl]at hk
  obtain⟨aE,n1,l,fq,dP,⟨_,h1,h2⟩,hk⟩:=WV (S:=S) (L:=L) (nb:=bl.length) pU hr G _ hk
  obtain⟨rs,r1,r2,jm⟩:=hc _ h1
  have ai:=M5 hk r1 (cL _ _ r2)
  have hlen:=gS r1
  have lv:=Ry (m:=m) (nb:=bl.length) (N:=n1+(dC c.res).length) r1 (gJ.bL aE n1 rs) (br _)
  refine⟨_,_,_,iL fq (Eb _ _),dP.trans (agree.bL rs n1 aE) fq,⟨lv.1,_,lv.2,λw hw=>?_⟩,ai⟩
  rw[h2]at jm
  exact jm w hw.ext
 |some l=>
  simp only[hl]at hk
  obtain⟨h1,h2⟩:=NZ hl pU hr
  obtain⟨rs,r1,r2,jm⟩:=hc _ h1
  have ai:=M5 hk r1 (cL _ _ r2)
  have hlen:=gS r1
  have lv:=Ry (m:=m) (nb:=bl.length) (N:=n+(dC c.res).length) r1 (gJ.bL ρ n rs) (br _)
  refine⟨_,_,_,Eb _ _,agree.bL rs n ρ,⟨lv.1,_,lv.2,λw hw=>?_⟩,ai⟩
  rw[h2]at jm
  exact jm w hw.ext
def apm:List ax->List V->M V:=λ_ vs=>
 match vs with
 |[.w (.one (.int .u64 x)),.w (.one (.int .u64 y))]=>
  cond (decide (0<=x.lo)&&decide (x.hi<18446744073709551616)&&decide (0<=y.lo)&&decide (y.hi<18446744073709551616)) (bind (mulM x y) λp=>bind (tt p 18446744073709551616) λq=>
   pure (.fY [.one (.int .u64 q),.one (.int .u64 ⟨p.l.sub (q.l.smul 18446744073709551616),0,18446744073709551615⟩)])) fail
 |_=>fail
def aew:List ax->List V->M V:=λ_ vs=>
 match vs with
 |[.w (.one (.int .u64 x)),.w (.one (.int .u64 y)),.w (.one (.int .u64 c))]=>
  cond (decide (0<=x.lo)&&decide (0<=y.lo)&&decide (0<=c.lo)&&decide (c.hi<=1)) (bind (tt ⟨(x.l.add y.l).add c.l,x.lo+y.lo+c.lo,x.hi+y.hi+c.hi⟩ 18446744073709551616) λq=>
   pure (.fY [.one (.int .u64 ⟨((x.l.add y.l).add c.l).sub (q.l.smul 18446744073709551616),0,18446744073709551615⟩),.one (.int .u64 q)])) fail
 |_=>fail
def auX:List ax->List V->M V:=λ_ vs=>
 match vs with
 |[.w (.one (.int .u64 x)),.w (.one (.int .u64 y)),.w (.one (.int .u64 c))]=>
  cond (decide (0<=x.lo)&&decide (x.hi<18446744073709551616)&&decide (0<=y.lo)&&decide (y.hi<18446744073709551616)&&decide (0<=c.lo)&&decide (c.hi<=1)) (bind (tt ⟨(x.l.sub y.l).sub c.l,x.lo-y.hi-c.hi,x.hi-y.lo-c.lo⟩ 18446744073709551616) λq=>
   pure (.fY [.one (.int .u64 ⟨((x.l.sub y.l).sub c.l).sub (q.l.smul 18446744073709551616),0,18446744073709551615⟩),.one (.int .u64 ⟨q.l.smul (-1),0,1⟩)])) fail
 |_=>fail
def Vl (P:bH) (f:cw):Prop:=∀x y:Int,0<=x->x<18446744073709551616->0<=y->y<18446744073709551616->∀w,yD P f #[.int .u64 x,.int .u64 y] w (.tuple #[.int .u64 (x*y/18446744073709551616),.int .u64 (x*y% 18446744073709551616)])
def TD (P:bH) (f:cw):Prop:=∀x y c:Int,0<=x->0<=y->0<=c->c<=1->∀w,yD P f #[.int .u64 x,.int .u64 y,.int .u64 c] w (.tuple #[.int .u64 ((x+y+c)% 18446744073709551616),.int .u64 ((x+y+c)/18446744073709551616)])
variable {L:V->Env->Prop} {n:Nat} {ρ:Env} {m:Nat->Nat} {bl:List ax} {vs:List V} {xs:List aF}
end
end Go.bo
