/- The evaluator's soundness: operations and regions. -/
import Derived.Test.YtiljgcomigmidaaGreatDoorPaa
import Derived.Laws.Append
import Derived.Deep.AppendSrc
import Derived.Deep.Upon
import Derived.Laws.MakeOwn
import Derived.Lib.MakeNoZero
import Derived.Laws.Externs
import Derived.KernelRfl
import Derived.Lib.ConvBytes
import Derived.ArgAppend
import Derived.OrdersIn
import Derived.TacticsIn
import Derived.LoopNIn
import Derived.Sort.LoopGhostIn
open Array renaming toArray_toList->l6,replicate->rI,getElem?_eq_none->uO,toList_map->uT,eq_empty_of_size_eq_zero->uV,length_toList->wJ,getElem?_toList->FX,getElem?_eq_getElem->J5,ext'->Ry,setIfInBounds_comm->aav,size_append->aaO,mapM_eq_mapM_toList->auC,range->au2,toList_range->au3,getElem?_push_lt->au9
open Bool renaming and_eq_true->aO,not_eq_true'->fZ,or_eq_true->oA,false_eq_true->pU,not_true->FV
open Classical renaming byContradiction->aaM
open Function renaming comp->J4
open Go renaming World->ai,Value->aA,TypeId->aS,Program->bk,FuncId->cB,run_underlying->fh,Calls->gU,setRow_other->za,ready_mono->FW,run_loadCells_list->F1,setRow_heap->F7
open Go.Builtin renaming copy_->wK,firstCells->zb,zeroCells->Ga,append_->RA,lenOf->aa0
open Go.Code renaming region->avh
open Go.Extern renaming findNext->aaR,find->aaS
open Go.Extern.BytealgMakeNoZero renaming digits->te,makeNoZero->RB
open Go.Fence renaming wide->ze
open Go.Instr renaming sureAddr->l7,sliceAt->nP,loadAt->oD,fieldAt->Cn,extract->Rq,storeAt->Rx,buildSlice->aaN,alloc->au6
open Go.Lib renaming bytesWorld->Gb,bytesCells->Gc
open Go.Next renaming value->kU
open Go.Oper renaming wp->nh,uponIn->avf,wpIn_mono->avg
open Go.Region renaming ready->kV,binds->qz,wanted->tc,noSelect->y4,noSelect_spec->aaw,free_spec->auB
open Go.Result renaming andThen_ok->gz
open Go.Result.ok renaming injEq->aax
open Go.Sem renaming run_bind->gm,run_pure->hV
open Go.Value renaming int->rJ
open Go.Value.int renaming injEq->azM
open Go.World renaming cell?->jL,frozen?->s6,alloc->Cw,alloc_eq->Kh,drew->RC,drew_eq->aaT
open Go.World.Extends renaming refl->nf,drew->FZ
open Int renaming le_refl->bD,toNat_natCast->eZ,lt_or_le->hU,le_trans->pR,eq_ofNat_of_zero_le->s4,natCast_mul->auy,natCast_add->auz
open List renaming getD->aB,map_cons->ct,mem_cons_of_mem->cF,length_cons->cS,mem_of_getElem?->cZ,length_append->dm,map_nil->et,length_nil->eF,replicate->e4,map_append->ga,getElem?_eq_getElem->gy,map_congr_left->gI,append_assoc->gJ,take_append_drop->ju,nil_append->jK,mem_of_mem_take->j7,length_map->j8,take_of_length_le->ky,length->kA,mem_cons->kS,map_map->kT,append_nil->lr,getD_eq_getElem?_getD->mD,getElem?_cons_zero->nd,length_take->ng,mem_of_mem_drop->nQ,getElem?_map->oB,getElem?_set->oC,getElem?_take->o8,all_eq_true->pQ,length_drop->qC,getElem?_append_left->rO,cons_append->s9,size_toArray->ta,eq_nil_of_length_eq_zero->td,getElem?_append_right->uP,getD_cons_zero->wE,map_take->y2,map_drop->y3,mem_of_find?_eq_some->y5,drop_drop->Cq,getElem_mem->Cs,mem_or_eq_of_mem_set->Cu,replicate_succ->Cx,map_id->FR,getElem?_append->FU,find?_some->FY,take_append_of_le_length->F2,flatten_cons->F8,take_zero->F9,all_cons->J3,getD_cons_succ->J6,take_length->J9,getElem?_set_ne->Ro,getElem?_set_self->aas,ext_getElem?->aaQ,drop_append_of_le_length->au1
open List.cons renaming injEq->kz
open Nat renaming beq->aG,le_refl->aW,eq_of_beq_eq_true->bA,ble->bC,blt->b6,le_of_ble_eq_true->eE,le_trans->gk,le_succ->kB,add_zero->lu,lt_or_ge->mC,lt_succ_self->rP,succ_mul->rK,add_mul->uW,min_eq_left->wF,pow_succ->yZ,mul_comm->y0,beq_refl->Ck,sub_self->J7,mul_le_mul->aar,mul_le_mul_right->aaP,le_of_mul_le_mul_right->au8
open Option renaming getD_some->pS,isSome_none->rL,map_some->s3
open Option.some renaming injEq->aK,inj->gH
open Prod.mk renaming injEq->cv
open Pure renaming pure->Co
set_option linter.unusedVariables false
set_option linter.unusedSimpArgs false
namespace Go.bg
open M
structure cQ (n nb:Nat) (ρ:Env) (m:Nat->Nat) (n' jB:Nat) (ag:Env) (m':Nat->Nat):Prop where
 hn:n<=n'
 ha:agree n ρ ag
 hb:nb<=jB
 hm:∀b,b<nb->m' b=m b
theorem cQ.refl (n nb:Nat) (ρ:Env) (m:Nat->Nat):cQ n nb ρ m n nb ρ m:=⟨aW _,agree.refl _ _,aW _,λ_ _=>rfl⟩
theorem cQ.trans {n nb n1 vS n2 XM:Nat} {ρ aD bp:Env} {m fV m2:Nat->Nat} (h:cQ n nb ρ m n1 vS aD fV) (h':cQ n1 vS aD fV n2 XM bp m2):cQ n nb ρ m n2 XM bp m2:=
 ⟨gk h.hn h'.hn,h.ha.trans h'.ha h.hn,gk h.hb h'.hb,λb hb=>(h'.hm b (Nat.lt_of_lt_of_le hb h.hb)).trans (h.hm b hb)⟩
def dJ (n:Nat) (G dg:df):Prop:=∀l,l<n->dg l=G l
theorem dJ.refl (n:Nat) (G:df):dJ n G G:=λ_ _=>rfl
theorem dJ.trans {n n':Nat} {G dg Lc:df} (h:dJ n G dg) (h':dJ n' dg Lc) (hn:n<=n'):dJ n G Lc:=λl hl=>(h' l (by omega)).trans (h l hl)
structure R (w0:cN) (n:Nat) (ρ:Env) (m:Nat->Nat) (tm:List V) (bl:List ao) (a:Act) (w:ai):Prop where
 t:dq n bl.length ρ m tm a.tmps
 d:a.defers=w0.ds
 b:b9 n bl.length ρ bl
 a7:Mem w0 ρ m bl w
section
variable (S:Nat->List Int->List Int->Prop) (L:V->Env->Prop) (w0:cN)
def jO (k:fy) (n nb:Nat) (ρ:Env) (m:Nat->Nat) (G:df) (K:Act->ai->Prop):Prop:=
 ∀n' ag m' bz aI dg a' w',cQ n nb ρ m n' (kA aI) ag m'->dJ n G dg->R w0 n' ag m' bz aI a' w'->(k n' bz aI).holds S L dg ag->K a' w'
def pd (k:RK) (n nb:Nat) (ρ:Env) (m:Nat->Nat) (G:df) (R':Ending->ai->Prop):Prop:=
 ∀n' v aI dg ag m' w' val,cQ n nb ρ m n' (kA aI) ag m'->dJ n G dg->V.ok n' aI.length ag v->v.rel ag m' val->b9 n' aI.length ag aI->Mem w0 ag m' aI w'->(k n' v aI).holds S L dg ag->R' (.returned val) w'
def lx (P:bk) (inl:hX):Prop:=
 ∀f n vs bl k G ρ m w xs R',b9 n (kA bl) ρ bl->Mem w0 ρ m bl w->(∀v∈vs,V.ok n bl.length ρ v)->dh ρ m vs xs->(inl f n vs bl k).holds S L G ρ->pd S L w0 k n bl.length ρ m G R'->
  (callFunc f xs.toArray).run P w= .ok (.enter f xs.toArray) w/\gU P f xs.toArray w R'
end
section
variable {S:Nat->List Int->List Int->Prop} {L:V->Env->Prop} {w0:cN} {P:bk} {gl:dA} {cal:dY} {inl:hX}
theorem jO.later {k:fy} {n nb n1 vS:Nat} {ρ aD:Env} {m fV:Nat->Nat} {G G1:df} {K:Act->ai->Prop} (h:jO S L w0 k n nb ρ m G K) (hl:cQ n nb ρ m n1 vS aD fV) (hA:dJ n G G1):jO S L w0 k n1 vS aD fV G1 K:=
 λn' ag m' bz aI dg a' w' h1 h2 h3 h4=>h n' ag m' bz aI dg a' w' (hl.trans h1) (hA.trans h2 hl.hn) h3 h4
def fg (m:Nat->Nat) (nb g:Nat):Nat->Nat:=λb=>if b=nb then g else m b
theorem iF {m:Nat->Nat} {nb g b:Nat} (h:b<nb):fg m nb g b=m b:=by simp[fg];omega
theorem j2 (m:Nat->Nat) (nb g:Nat):fg m nb g nb=g:=by simp[fg]
theorem Je {bl:List ao} {x:ao} {i:Nat} {p:ao} (hi:(bl++[x])[i]?=some p):(i<bl.length/\bl[i]?=some p)∨(i=bl.length/\p=x):=by
 rw[FU]at hi;split at hi
 ·rename_i dw;exact .inl ⟨dw,hi⟩
 ·have:i=bl.length:=by
   have:=(List.getElem?_eq_some_iff.1 hi).1;simp at this;omega
  subst this;simp only[J7,nd,aK]at hi;exact .inr ⟨rfl,hi.symm⟩
theorem cc.push {ρ:Env} {m:Nat->Nat} {bl:List ao} {x:ao} {g ba:Nat} (h:cc w0 ρ m bl ba) (hx:aQ ρ x.1<=1∨ba≠g):cc w0 ρ (fg m bl.length g) (bl++[x]) ba:=
 ⟨h.1,λi p hi hk=>by
  rcases Je hi with⟨dw,h1⟩|⟨rfl,rfl⟩
  ·rw[iF dw];exact h.2 i p h1 hk
  ·rw[j2];rcases hx with hx|hx
   ·omega
   ·exactλe=>hx e.symm⟩
theorem Qt {bl:List ao} {b i:Nat} {x p:ao} (hi:(cM bl b x)[i]?=some p):(i=b/\p=x/\b<bl.length)∨(i≠b/\bl[i]?=some p):=by
 rw[iE,oC]at hi;split at hi
 ·rename_i eG;subst eG;split at hi
  ·rename_i hlt;exact .inl ⟨rfl,(gH hi).symm,hlt⟩
  ·cases hi
 ·rename_i eG;exact .inr ⟨λe=>eG e.symm,hi⟩
theorem cc.set {ρ:Env} {m:Nat->Nat} {bl:List ao} {b:Nat} {p x:ao} {ba:Nat} (h:cc w0 ρ m bl ba) (hbl:bl[b]?=some p) (hx:2<=aQ ρ x.1->2<=aQ ρ p.1):cc w0 ρ m (cM bl b x) ba:=
 ⟨h.1,λi q hi hk=>by
  rcases Qt hi with⟨rfl,rfl,_⟩|⟨_,h1⟩
  ·exact h.2 _ _ hbl (hx hk)
  ·exact h.2 _ _ h1 hk⟩
theorem cc.pn {ρ:Env} {m:Nat->Nat} {bl:List ao} {b:Nat} {p x:ao} {w:ai} {row:Array aA} (hbl:bl[b]?=some p) (hp:2<=aQ ρ p.1):Fr (cc w0 ρ m bl) w (cc w0 ρ m (cM bl b x)) (w.setRow (m b) row):=λba h o ho=>
 ⟨h.set hbl λ_=>hp,by rw[za w (m b) ba _ (λe=>h.2 _ _ hbl hp (by first|exact e|exact e.symm))];exact ho⟩
theorem Mem.Jv {ρ:Env} {m:Nat->Nat} {bl:List ao} {w:ai} {x:ao} {g:Nat} (h:Mem w0 ρ m bl w) (hx:aQ ρ x.1<=1) (i:Nat) (sh:List ay) (off code cap:aa) (kind:Nat) (t:aS×Bool) (hi:bl[i]?=some ([.rows sh off code cap kind],t)):gK w0 ρ (cc w0 ρ (fg m bl.length g) (bl++[x])) (m i) sh off code cap kind t.1 w:=
 (h.rws i sh off code cap kind t hi).mono λba h'=>h'.push (.inl hx)
theorem Mem.YX {ρ:Env} {m:Nat->Nat} {bl:List ao} {w:ai} {x:ao} {g:Nat} (h:Mem w0 ρ m bl w) (hx:∀ba,cc w0 ρ m bl ba->ba≠g) (i:Nat) (sh:List ay) (off code cap:aa) (kind:Nat) (t:aS×Bool) (hi:bl[i]?=some ([.rows sh off code cap kind],t)):gK w0 ρ (cc w0 ρ (fg m bl.length g) (bl++[x])) (m i) sh off code cap kind t.1 w:=
 (h.rws i sh off code cap kind t hi).mono λba h'=>h'.push (.inr (hx ba h'))
theorem Mem.apT {ρ:Env} {m:Nat->Nat} {bl:List ao} {w1 w:ai} {x:ao} {g:Nat} (h:Mem w0 ρ m bl w1) (he:w1.Extends w) (hg:w1.heap.size<=g) (i:Nat) (sh:List ay) (off code cap:aa) (kind:Nat) (t:aS×Bool) (hi:bl[i]?=some ([.rows sh off code cap kind],t)):gK w0 ρ (cc w0 ρ (fg m bl.length g) (bl++[x])) (m i) sh off code cap kind t.1 w:=
 (h.rws i sh off code cap kind t hi).grow (λba h' o ho=>by
   have hlt:=(Array.getElem?_eq_some_iff.1 ho).1;exact⟨h'.push (.inr (by omega)),by rw[he.block ba hlt];exact ho⟩) λhk hc=>he.block _ (h.lt hi (by simp only[iz hk hc];exact hk))
theorem Mem.push {n:Nat} {ρ:Env} {m:Nat->Nat} {bl:List ao} {w:ai} {x:ao} {g:Nat} (h:Mem w0 ρ m bl w) (hb:b9 n bl.length ρ bl) (hx:∀a∈x.1,A.ok n bl.length ρ a)
 (h1:bT x.1=true->w0.b.heap.size<=g/\(w0.ex g∨w0.r.heap.size<=g)/\∃r:List aA,(x.2.2=false->r=[])/\w.heap[g]?=some (.cells (x.1.map (A.den ρ m)++r).toArray x.2.1 (0,0)))
 (h2:∀sh off code cap kind,x.1=[.rows sh off code cap kind]->gK w0 ρ (cc w0 ρ (fg m bl.length g) (bl++[x])) g sh off code cap kind x.2.1 w)
 (h3:∀(i:Nat) (p:ao),bl[i]?=some p->m i=g->(aQ ρ p.1<=1/\aQ ρ x.1<=1)∨aQ ρ p.1=0∨aQ ρ x.1=0)
 (h4:∀(i:Nat) (sh:List ay) (off code cap:aa) (kind:Nat) (t:aS×Bool),bl[i]?=some ([.rows sh off code cap kind],t)->gK w0 ρ (cc w0 ρ (fg m bl.length g) (bl++[x])) (m i) sh off code cap kind t.1 w):
 Mem w0 ρ (fg m bl.length g) (bl++[x]) w:=by
 have hold:∀(i:Nat) (p:ao),(bl++[x])[i]?=some p->(i<bl.length/\bl[i]?=some p)∨(i=bl.length/\p=x):=λi p hi=>by
  rw[FU]at hi;split at hi
  ·rename_i dw;exact .inl ⟨dw,hi⟩
  ·have:i=bl.length:=by
    have:=(List.getElem?_eq_some_iff.1 hi).1;simp at this;omega
   subst this;simp only[J7,nd,aK]at hi;exact .inr ⟨rfl,hi.symm⟩
 refine⟨h.ext,h.jf,h.ji,h.iy,h.ew,h.gg,λi jb t' hi ho=>?_,λi sh off code cap kind t' hi=>?_,λi j p q hi hj he=>?_⟩
 ·rcases hold i _ hi with⟨dw,hi⟩|⟨rfl,cL⟩
  ·obtain⟨g1,kH,r,hr,g2⟩:=h.blk i jb t' hi ho;rw[iF dw];refine⟨g1,kH,r,hr,?_⟩;rw[qp (hb _ (cZ hi)) (agree.refl n ρ) (λb hb=>iF hb)];exact g2
  ·subst cL;rw[j2];obtain⟨g1,kH,r,hr,g2⟩:=h1 ho;refine⟨g1,kH,r,hr,?_⟩;rw[qp hx (agree.refl n ρ) (λb hb=>iF hb)];exact g2
 ·rcases hold i _ hi with⟨dw,hi⟩|⟨rfl,cL⟩
  ·rw[iF dw];exact h4 i sh off code cap kind t' hi
  ·subst cL;rw[j2];exact h2 sh off code cap kind rfl
 ·rcases hold i p hi with⟨dw,mS⟩|⟨rfl,cL⟩<;>rcases hold j q hj with⟨NU,xH⟩|⟨rfl,kl⟩
  ·rw[iF dw,iF NU]at he;exact h.inj i j p q mS xH he
  ·rw[iF dw,j2]at he;subst kl;exact .inr (h3 i p mS he)
  ·rw[iF NU,j2]at he;subst cL;rcases h3 j q xH he.symm with h|h|h
   ·exact .inr (.inl ⟨h.2,h.1⟩)
   ·exact .inr (.inr (.inr h))
   ·exact .inr (.inr (.inl h))
  ·exact .inl rfl
theorem Mem.alloc {n:Nat} {ρ:Env} {m:Nat->Nat} {bl:List ao} {w:ai} {cs:List A} {t:aS} {ex:List aA} {open_:Bool} (h:Mem w0 ρ m bl w) (hb:b9 n bl.length ρ bl) (hc:∀a∈cs,A.ok n bl.length ρ a) (hop:open_=false->ex=[]) (jz:bT cs=true):
 Mem w0 ρ (fg m bl.length w.heap.size) (bl++[(cs,(t,open_))]) (w.alloc (.cells (cs.map (A.den ρ m)++ex).toArray t)):=by
 refine(h.grow ((nf w).alloc _)).push hb hc (λ_=>⟨h.ext.size,.inr h.ew,ex,hop,heap_alloc_new w _⟩) (λsh off code cap kind e=>?_) (λi p hi he=>?_) (h.apT ((nf w).alloc _) (aW _))
 ·simp only at e;subst e;cases jz
 ·by_cases hk:aQ ρ p.1=0
  ·exact .inr (.inl hk)
  ·have:=h.lt hi hk;omega
theorem Mem.put {kd:Nat} {ρ:Env} {m:Nat->Nat} {bl:List ao} {w:ai} {b:Nat} {sh:List ay} {off code cap code':aa} {t:aS×Bool} {cells row:Array aA} {fz:Nat×Nat} (h:Mem w0 ρ m bl w) (fv:2<=kd) (hbl:bl[b]?=some ([.rows sh off code cap kd],t)) (cK:0<=cap.den ρ)
 (hr:gK w0 ρ (cc w0 ρ m (cM bl b ([.rows sh off code' cap kd],t))) (m b) sh off code' cap kd t.1 (w.setRow (m b) row)):Mem w0 ρ m (cM bl b ([.rows sh off code' cap kd],t)) (w.setRow (m b) row):=by
 have mO:b<bl.length:=(List.getElem?_eq_some_iff.1 hbl).1;have iw:∀c,aQ ρ [.rows sh off c cap kd]=kd:=λc=>iz (by omega) cK;obtain⟨_,hl⟩:=h.rws b sh off code cap kd t hbl (by omega);obtain⟨_,cells,gS,fz,_,_,h5⟩:=hl cK;obtain⟨_,_,_,_,h1,Hv⟩:=h5 fv;have dc:∀(i:Nat) (p:ao),(cM bl b ([.rows sh off code' cap kd],t))[i]?=some p->(i=b/\p=([.rows sh off code' cap kd],t))∨(i≠b/\bl[i]?=some p):=λi p hi=>by
  rw[iE,oC]at hi;split at hi
  ·rename_i eG;subst eG;simp only[mO,if_true,aK]at hi;exact .inl ⟨rfl,hi.symm⟩
  ·rename_i eG;exact .inr ⟨λe=>eG e.symm,hi⟩
 refine⟨h.ext.setRow (m b) _ h1,h.jf,h.ji,h.iy,by simp;exact h.ew,λi hi hx=>?_,λi jb t' hi ho=>?_,λi cP dV code' dT eW t' hi=>?_,λi j p q hi hj he=>?_⟩
 ·rw[za w (m b) i _ (λe=>by
   subst e;rcases Hv with h3|h3
   ·exact hx h3
   ·omega)]
  exact h.gg i hi hx
 ·rcases dc i _ hi with⟨rfl,cL⟩|⟨hne,hi⟩
  ·cases cL;cases ho
  ·obtain⟨g1,kH,g2⟩:=h.blk i jb t' hi ho;exact⟨g1,kH,by rw[za w (m b) (m i) _ (λe=>h.ne hbl hi (by rw[iw];exact fv) (by rw[hH ho];decide) (λe=>hne e.symm) (by first|exact e|exact e.symm))];exact g2⟩
 ·rcases dc i _ hi with⟨rfl,cL⟩|⟨hne,hi⟩
  ·cases cL;exact hr
  ·exact(h.rws i cP dV _ dT eW t' hi).grow (cc.pn hbl (by rw[iw];exact fv)) λhk hc=>za w (m b) (m i) _ (λe=>h.ne hbl hi (by rw[iw];exact fv) (by simp only[iz hk hc];exact hk) (λe=>hne e.symm) (by first|exact e|exact e.symm))
 ·have hk:∀(i:Nat) (p:ao),(cM bl b ([.rows sh off code' cap kd],t))[i]?=some p->∃p',bl[i]?=some p'/\aQ ρ p'.1=aQ ρ p.1:=λi p hi=>by
   rcases dc i _ hi with⟨rfl,cL⟩|⟨hne,hi⟩
   ·exact⟨_,hbl,by rw[cL];simp only[iw]⟩
   ·exact⟨p,hi,rfl⟩
  obtain⟨p',hp,ep⟩:=hk i p hi;obtain⟨q',hq,eq⟩:=hk j q hj;rw[<-ep,<-eq];exact h.inj i j p' q' hp hq he
theorem Mem.kill {ρ:Env} {m:Nat->Nat} {bl:List ao} {w:ai} {b k:Nat} {sh:List ay} {off code cap:aa} {t:aS×Bool} (h:Mem w0 ρ m bl w) (hbl:bl[b]?=some ([.rows sh off code cap k],t)):Mem w0 ρ m (cM bl b ([.rows sh off code cap 0],t)) w:=by
 have mO:b<bl.length:=(List.getElem?_eq_some_iff.1 hbl).1;have dc:∀(i:Nat) (p:ao),(cM bl b ([.rows sh off code cap 0],t))[i]?=some p->(i=b/\p=([.rows sh off code cap 0],t))∨(i≠b/\bl[i]?=some p):=λi p hi=>by
  rw[iE,oC]at hi;split at hi
  ·rename_i eG;subst eG;simp only[mO,if_true,aK]at hi;exact .inl ⟨rfl,hi.symm⟩
  ·rename_i eG;exact .inr ⟨λe=>eG e.symm,hi⟩
 have fB:aQ ρ [.rows sh off code cap 0]=0:=by simp[aQ]
 refine⟨h.ext,h.jf,h.ji,h.iy,h.ew,h.gg,λi jb t' hi ho=>?_,λi cP dV code' dT eW t' hi=>?_,λi j p q hi hj he=>?_⟩
 ·rcases dc i _ hi with⟨rfl,cL⟩|⟨hne,hi⟩
  ·cases cL;cases ho
  ·exact h.blk i jb t' hi ho
 ·rcases dc i _ hi with⟨rfl,cL⟩|⟨hne,hi⟩
  ·cases cL;exactλhk=>absurd rfl hk
  ·exact(h.rws i cP dV _ dT eW t' hi).mono λba h'=>h'.set hbl (by rw[fB];omega)
 ·rcases dc i _ hi with⟨rfl,cL⟩|⟨hne,hi⟩
  ·exact .inr (.inr (.inl (by rw[cL];exact fB)))
  ·rcases dc j _ hj with⟨rfl,kl⟩|⟨hne,hj⟩
   ·exact .inr (.inr (.inr (by rw[kl];exact fB)))
   ·exact h.inj i j p q hi hj he
theorem cQ.alloc (n:Nat) (ρ:Env) (m:Nat->Nat) (bl:List ao) (x:ao) (g:Nat):cQ n bl.length ρ m n (bl++[x]).length ρ (fg m bl.length g):=
 ⟨aW _,agree.refl _ _,by simp,λb hb=>iF hb⟩
theorem b9.alloc {n:Nat} {ρ:Env} {bl:List ao} {cs:List A} {t:aS×Bool} (hb:b9 n bl.length ρ bl) (hc:∀a∈cs,A.ok n bl.length ρ a):b9 n (bl++[(cs,t)]).length ρ (bl++[(cs,t)]):=by
 intro p hp a ha;rcases List.mem_append.1 hp with hp|hp
 ·exact(hb p hp a ha).ext (agree.refl n ρ) (aW _) (by simp)
 ·simp at hp;subst hp;exact(hc a ha).ext (agree.refl n ρ) (aW _) (by simp)
theorem R.alloc {n:Nat} {ρ:Env} {m:Nat->Nat} {tm:List V} {bl:List ao} {a:Act} {w:ai} {cs:List A} {t:aS} (h:R w0 n ρ m tm bl a w) (hc:∀x∈cs,A.ok n bl.length ρ x) (dst:Option Tmp) (jz:bT cs=true):
 R w0 n ρ (fg m bl.length w.heap.size) (ey tm dst (.w (.one (.ptr bl.length 0)))) (bl++[(cs,(t,false))]) (a.put dst (.pointer (some ⟨w.heap.size,0,none⟩))) (w.alloc (.cells (cs.map (A.den ρ m)).toArray t)):=by
 have hl:=cQ.alloc n ρ m bl (cs,(t,false)) w.heap.size;have lK:=h.a7.alloc (t:=t) (ex:=[]) (open_:=false) h.b hc (λ_=>rfl) jz;rw[lr]at lK;exact⟨dq.put (h.t.ext hl.ha hl.hn hl.hb hl.hm) dst (by simp[V.ok,W.ok,A.ok]) (by simp[V.rel,W.den,A.den,j2]),by rw[put_defers];exact h.d,h.b.alloc hc,lK⟩
theorem R.row {n:Nat} {ρ:Env} {m:Nat->Nat} {tm:List V} {bl:List ao} {a:Act} {w:ai} {cs:List A} {t:aS} {ex:List aA} {open_:Bool} (h:R w0 n ρ m tm bl a w) (hc:∀x∈cs,A.ok n bl.length ρ x) (hop:open_=false->ex=[]) (jz:bT cs=true) (dst:Option Tmp) {v:V} {x:aA}
 (hv:v.ok n (bl.length+1) ρ) (hx:v.rel ρ (fg m bl.length w.heap.size) x):
 R w0 n ρ (fg m bl.length w.heap.size) (ey tm dst v) (bl++[(cs,(t,open_))]) (a.put dst x) (w.alloc (.cells (cs.map (A.den ρ m)++ex).toArray t)):=by
 have hl:=cQ.alloc n ρ m bl (cs,(t,open_)) w.heap.size;exact⟨dq.put (h.t.ext hl.ha hl.hn hl.hb hl.hm) dst (by simpa using hv) hx,by rw[put_defers];exact h.d,h.b.alloc hc,h.a7.alloc h.b hc hop jz⟩
theorem Mem.storeCells {n:Nat} {ρ:Env} {m:Nat->Nat} {bl:List ao} {w:ai} {b off:Nat} {cs l:List A} {bX:aS×Bool} (h:Mem w0 ρ m bl w) (hb:b9 n bl.length ρ bl) (hl:∀a∈l,A.ok n bl.length ρ a)
 (hbl:bl[b]?=some (cs,bX)) (sj:off+l.length<=cs.length) (rb:bT cs=true) (nx:bT (cs.take off++l++cs.drop (off+l.length))=true):
 ∃w',(Go.storeCells ⟨m b,off,none⟩ (l.map (A.den ρ m))).run P w= .ok () w'/\Mem w0 ρ m (cM bl b (cs.take off++l++cs.drop (off+l.length),bX)) w':=by
 obtain⟨h1,Hv,r,hr,h2⟩:=h.blk b cs bX hbl rb;have hst:=run_storeCells_at P (m b) off bX.1 (l.map (A.den ρ m)) 0 (cs.map (A.den ρ m)++r).toArray w h2 (by simp;omega) (λx hx=>by
  obtain⟨a,ha,rfl⟩:=List.mem_map.1 hx;exact A.IZ (hl a ha))
 have qj:∀k,k<=cs.length->(cs.map (A.den ρ m)++r).take k=(cs.take k).map (A.den ρ m)/\(cs.map (A.den ρ m)++r).drop k=(cs.drop k).map (A.den ρ m)++r:=λk hk=>by
  refine⟨?_,?_⟩
  ·rw[F2 (by simpa using hk),y2]
  ·rw[au1 (by simpa using hk),y3]
 refine⟨w.setRow (m b) ((cs.take off++l++cs.drop (off+l.length)).map (A.den ρ m)++r).toArray,?_,?_⟩
 ·simp only[lu,j8]at hst;rw[hst]
  congr 3
  simp only[ga,gJ];rw[(qj off (by omega)).1,(qj (off+l.length) (by omega)).2]
 ·have mO:b<bl.length:=(List.getElem?_eq_some_iff.1 hbl).1;have dc:∀(i:Nat) (p:ao),(cM bl b (cs.take off++l++cs.drop (off+l.length),bX))[i]?=some p->(i=b/\p=(cs.take off++l++cs.drop (off+l.length),bX))∨(i≠b/\bl[i]?=some p):=λi p hi=>by
   rw[iE,oC]at hi;split at hi
   ·rename_i eG;subst eG;simp only[mO,if_true,aK]at hi;exact .inl ⟨rfl,hi.symm⟩
   ·rename_i eG;exact .inr ⟨λe=>eG e.symm,hi⟩
  have iw:aQ ρ cs=2:=hH rb;refine⟨h.ext.setRow (m b) _ h1,h.jf,h.ji,h.iy,by simp;exact h.ew,λi hi hx=>?_,λi jb t' hi ho=>?_,λi sh dV code cap kind t' hi=>?_,λi j p q hi hj he=>?_⟩
  ·rw[za w (m b) i _ (λe=>by
    subst e;rcases Hv with h3|h3
    ·exact hx h3
    ·omega)]
   exact h.gg i hi hx
  ·rcases dc i _ hi with⟨rfl,cL⟩|⟨hne,hi⟩
   ·cases cL;exact⟨h1,Hv,r,hr,F7 w (m i) _ _ _ _ h2⟩
   ·obtain⟨g1,kH,g2⟩:=h.blk i jb t' hi ho;exact⟨g1,kH,by rw[za w (m b) (m i) _ (λe=>h.ne hbl hi (by rw[iw];exact aW 2) (by rw[hH ho];decide) (λe=>hne e.symm) (by first|exact e|exact e.symm))];exact g2⟩
  ·rcases dc i _ hi with⟨rfl,cL⟩|⟨hne,hi⟩
   ·have hi:=(Prod.mk.inj cL).1;rw[<-hi]at nx;cases nx
   ·exact(h.rws i sh dV code cap kind t' hi).grow (cc.pn hbl (by rw[iw];exact aW 2)) λhk hc=>za w (m b) (m i) _ (λe=>h.ne hbl hi (by rw[iw];exact aW 2) (by simp only[iz hk hc];exact hk) (λe=>hne e.symm) (by first|exact e|exact e.symm))
  ·have hk:∀(i:Nat) (p:ao),(cM bl b (cs.take off++l++cs.drop (off+l.length),bX))[i]?=some p->∃p',bl[i]?=some p'/\aQ ρ p'.1=aQ ρ p.1:=λi p hi=>by
    rcases dc i _ hi with⟨rfl,cL⟩|⟨hne,hi⟩
    ·exact⟨_,hbl,by rw[cL];exact iw.trans (hH nx).symm⟩
    ·exact⟨p,hi,rfl⟩
   obtain⟨p',hp,ep⟩:=hk i p hi;obtain⟨q',hq,eq⟩:=hk j q hj;rw[<-ep,<-eq];exact h.inj i j p' q' hp hq he
theorem Mem.store {n:Nat} {ρ:Env} {m:Nat->Nat} {bl:List ao} {w:ai} {b off:Nat} {cs l:List A} {bX:aS×Bool} (h:Mem w0 ρ m bl w) (hb:b9 n bl.length ρ bl) (hl:∀a∈l,A.ok n bl.length ρ a)
 (hbl:bl[b]?=some (cs,bX)) (sj:off+l.length<=cs.length) (gO:0<l.length) (rb:bT cs=true) (nx:bT (cs.take off++l++cs.drop (off+l.length))=true) (ty:aS) (hs:eM P ty=some l.length) (v:aA) (hv:v.cells=(l.map (A.den ρ m)).toArray):
 ∃w',(Rx ty (.pointer (some ⟨m b,off,none⟩)) v).run P w= .ok () w'/\Mem w0 ρ m (cM bl b (cs.take off++l++cs.drop (off+l.length),bX)) w':=by
 obtain⟨w',hrun,tX⟩:=h.storeCells (P:=P) hb hl hbl sj rb nx;refine⟨w',?_,tX⟩;simp only[Rx,l7,gm,hV,gz,storeVar,iD hs,hv];simp only[ta,j8,ne_eq,not_true_eq_false,if_false,hV,gz];simp only[hV,gz,hrun]
theorem kr (bl:List ao) (b:Nat) (x:ao):(cM bl b x).length=bl.length:=by rw[iE];simp
theorem b9.set {n:Nat} {ρ:Env} {bl:List ao} {b:Nat} {cs:List A} {t:aS×Bool} (hb:b9 n bl.length ρ bl) (hc:∀a∈cs,A.ok n bl.length ρ a):b9 n (cM bl b (cs,t)).length ρ (cM bl b (cs,t)):=by
 intro p hp a ha;rw[kr];rw[iE]at hp;rcases Cu hp with h|h
 ·exact hb p h a ha
 ·subst h;exact hc a ha
theorem JZ {t:aS} {cs:List A} (h:l4 P t=some cs):∃i z,P.info? t=some i/\i.zero=some z/\tz z.cells.toList=some cs:=by
 unfold l4 at h;cases hi:P.info? t with
 |none=>simp[hi]at h
 |some i=>
  cases hz:i.zero with
  |none=>simp[hi,hz]at h
  |some z=>simp only[hi,hz]at h;exact⟨i,z,rfl,hz,h⟩
theorem aeo {Z:Array aA} {i:Nat} (h:i<Z.size):Z[i]! =Z[i]:=by simp[h]
theorem apg {z:List A} {Z:Array aA} {n nb:Nat} {ρ:Env} {m:Nat->Nat} (hz:z.map (A.den ρ m)=Z.toList) (aY:∀a∈z,A.ok n nb ρ a) (h0:0<z.length) (len:Nat):
 (∀a∈E8 z len,A.ok n nb ρ a)/\((E8 z len).map (A.den ρ m)).toArray=(au2 (len*Z.size)).map λi=>Z[i% Z.size]! :=by
 have hl:Z.size=z.length:=by have:=congrArg kA hz;simpa using this.symm
 have hi:∀i,i% z.length<z.length:=λi=>Nat.mod_lt _ h0;refine⟨λa ha=>?_,?_⟩
 ·obtain⟨i,_,rfl⟩:=List.mem_map.1 ha;rw[gy (hi i)];exact aY _ (Cs _)
 ·apply Ry;rw[uT,au3];simp only[E8,kT,hl];refine gI λi _=>?_;simp only[J4];have h1:i% z.length<Z.size:=by rw[hl];exact hi i
  rw[aeo h1,gy (hi i)];simp only[pS];have h2:=congrArg (λl=>l[i% z.length]?) hz;simp only[oB,gy (hi i),s3]at h2;rw[FX,J5 h1]at h2;simpa using h2
theorem acB {t:aS} {len n:Nat} {ρ:Env} {m:Nat->Nat} {bl:List ao} {parts:List (Nat×V)} {vals:Array (Nat×aA)} {cs:List A} {e:aS} (h:LN P t len parts=some (cs,e)) (hr:Gx n bl.length ρ m parts vals.toList):
 (∀a∈cs,A.ok n bl.length ρ a)/\∀w,(aaN t len vals).run P w= .ok (.slice (some ⟨w.heap.size,0,none⟩) len len) (w.alloc (.cells (cs.map (A.den ρ m)).toArray e)):=by
 unfold LN at h;cases h1:hL P t with
 |none=>simp[h1]at h
 |some p8=>
  simp only[h1]at h;cases h2:eM P p8 with
  |none=>simp[h2]at h
  |some s=>
   cases h3:l4 P p8 with
   |none=>simp[h2,h3]at h
   |some z=>
    simp only[h2,h3]at h;cases hc:(aG z.length s&&b6 0 s&&bC (len*s) 16777216)with
    |false=>simp[hc]at h
    |true=>
     simp only[hc,cond_true]at h;simp only[aO]at hc;have c1:=bA hc.1.1;have c2:=tr hc.1.2;have c3:=eE hc.2;cases h4:r8 (λi=>some (i*s,s)) (E8 z len) parts with
     |none=>simp[h4]at h
     |some l=>
      simp only[h4,aK,cv]at h;obtain⟨rfl,rfl⟩:=h;obtain⟨inf,tf,hi,oa,hh⟩:=JZ h3;have qg:=xb hh n bl.length ρ m;have V0:=apg (Z:=tf.cells) qg.2 qg.1 (by omega) len;have HE:tf.cells.size=s:=by have:=congrArg kA qg.2;simp at this;omega
      obtain⟨g1,g2⟩:=Hm (m:=m) h4 V0.1 hr;refine⟨g1,λw=>?_⟩;rw[V0.2,HE]at g2;have hn:¬(16777216<len*s):=by omega
      by_cases hl0:len=0
      ·subst hl0;have g3:Instr.fill (λi=>some (i*s,s)) ((au2 (0*s)).map λi=>(#[]:Array aA)[i% (#[]:Array aA).size]!) vals.toList=some (l.map (A.den ρ m)).toArray:=by
        rw[<-g2];congr 1;simp
       simp[aaN,fh (hO h1),iD h2]at g3⊢;simp[g3,newRow]
      ·have hne:¬(len*s=0):=by
        intro h0;rcases Nat.mul_eq_zero.1 h0 with h0|h0<;>omega
       have HR:¬(s=0):=by omega
       simp[aaN,fh (hO h1),iD h2,hn,hne,hl0,HR,zeroValue,typeInfo,hi,oa,HE,g2,newRow]
theorem NF {w:ai} {n:Nat} {ρ:Env} {m:Nat->Nat} {bl:List ao} {b off k:Nat} {cs:List A} (hm:Mem w0 ρ m bl w) (hb:b9 n bl.length ρ bl) (h:oU bl b off k=some cs):
 cs.length=k/\(∀a∈cs,A.ok n bl.length ρ a)/\∀j v,(cs.map (A.den ρ m))[j]?=some v->w.cell? ((⟨m b,off,none⟩:Addr).add j)=some v:=by
 unfold oU at h;cases hbl:bl[b]? with
 |none=>simp[hbl]at h
 |some q=>
  obtain⟨C,t⟩:=q;simp only[hbl]at h;cases hc:(bC (off+k) C.length&&bT C)with
  |false=>simp[hc]at h
  |true=>
   simp only[hc,cond_true,aK]at h;simp only[aO]at hc;have hle:=eE hc.1;subst h;obtain⟨_,_,r,_,h2⟩:=hm.blk b C t hbl hc.2;refine⟨by simp;omega,λa ha=>hb _ (cZ hbl) a (nQ (j7 ha)),λj v hj=>?_⟩;rw[jw];rw[oB,o8]at hj;split at hj
   ·rename_i py;rw[List.getElem?_drop]at hj;cases hq:C[off+j]? with
    |none=>simp[hq]at hj
    |some y=>
     simp only[hq,s3,aK]at hj;have hlt:off+j<C.length:=(List.getElem?_eq_some_iff.1 hq).1;simp only[jL,h2,rL,pU,if_false,List.getElem?_toArray];rw[rO (by simpa using hlt),oB,hq];simp[hj]
   ·simp at hj
theorem Jh {n:Nat} {ρ:Env} {m:Nat->Nat} {tm:List V} {bl:List ao} {a:Act} {w:ai} {G:df} {o:Oper} {K:Act->ai->Prop} {Q:Exit->Act->ai->Prop} {k:fy}
 (cy:fq S P gl w0 cal) (hg:eQ gl w0) (h:R w0 n ρ m tm bl a w) (ah:(sN P cal gl bl tm o n λv n'=>k n' (ey tm o.dst v) bl).holds S L G ρ) (hk:jO S L w0 k n bl.length ρ m G K):o.wp P a w K Q:=by
 obtain⟨ag,n',v,hn,ha,⟨hv,val,hr,hq⟩,sk⟩:=E5 (L:=L) cy h.b hg ⟨w,h.a7⟩ h.t o G _ ah;have hl:cQ n bl.length ρ m n' bl.length ag m:=⟨hn,ha,aW _,λ_ _=>rfl⟩;have hR:∀w',w.Extends w'->R w0 n' ag m (ey tm o.dst v) bl (a.put o.dst val) w':=λw' he=>
  ⟨dq.put (h.t.ext ha hn (aW _) (λ_ _=>rfl)) o.dst hv hr,by rw[put_defers];exact h.d,h.b.ext ha hn (aW _),(h.a7.grow he).dP h.b ha⟩
 unfold nh;rcases hq w h.a7 with hq|⟨f,args,hq,hc⟩
 ·rw[hq];exact hk n' ag m _ bl G _ w hl (dJ.refl _ _) (hR w (nf w)) sk
 ·rw[hq];refine hc.mono λe lp ⟨he,hx⟩=>?_;subst he;exact hk n' ag m _ bl G _ lp hl (dJ.refl _ _) (hR lp hx) sk
theorem ada {n nb:Nat} {ρ:Env} {m:Nat->Nat} {v:V} {f:Nat} {gY:List A} {x:aA} (h:L4 v=some (f,gY)) (hv:v.ok n nb ρ) (hr:v.rel ρ m x):
 (∀y∈gY,A.ok n nb ρ y)/\x= .func (.func f) #[] (gY.map (A.den ρ m)).toArray:=by
 unfold L4 at h;split at h
 ·simp only[aK,cv]at h;obtain⟨rfl,rfl⟩:=h;exact⟨hv,hr⟩
 ·rename_i nr a b;cases hc:(aG a.size 0&&aG b.size 0)with
  |false=>simp[hc]at h
  |true=>
   simp only[hc,cond_true,aK,cv]at h;obtain⟨rfl,rfl⟩:=h;simp only[aO]at hc;have e1:=uV (bA hc.1);have e2:=uV (bA hc.2);subst e1;subst e2;have hr:x= .func (.func nr) #[] #[]:=hr;exact⟨λy hy=>by simp at hy,by rw[hr];rfl⟩
 ·cases h
end
end Go.bg
namespace Go.bg
open M
theorem bO.row {sh:List ay} {row:List Int} (hs:ln sh=true) (h:bO sh row):P6 row:=by
 unfold ln at hs;simp only[aO]at hs;obtain⟨⟨h0,Dq⟩,h2⟩:=hs;refine⟨by rw[h.len];exact eE h0,?_⟩;have hp:=gb;have vD:=CD;clear h0 Dq;induction sh generalizing row with
 |nil=>
  cases row with
  |nil=>intro z hz;simp at hz
  |cons _ _=>exact h.elim
 |cons c sh ih=>
  cases row with
  |nil=>exact h.elim
  |cons x r=>
   simp only[J3,aO]at h2;intro z hz;rcases List.mem_cons.1 hz with rfl|hz
   ·have h3:=h.1;cases c with
    |int k lo hi=>
     have h4:=h2.1;simp only[aO,decide_eq_true_eq]at h4;simp only[ay.dS]at h3;omega
    |str=>simp only[ay.dS]at h3;omega
    |bool=>simp only[ay.dS]at h3;omega
    |sub k=>simp only[ay.dS]at h3;omega
    |nil=>simp only[ay.dS]at h3;omega
   ·exact ih h.2 h2.2 z hz
theorem u7 {sh:List ay} {rows:List (List Int)} (hs:ln sh=true) (hl:rows.length<=1073741824) (h:∀row∈rows,bO sh row):rc rows<=ch:=
 oI (by unfold maxLen;omega) λrow hr=>(h row hr).row hs
theorem Zr (k:Nat):iS (mx k)=true:=by
 unfold mx;split<;>rfl
theorem aqE {k:Nat} {row:List Int} (h:bO (mx k) row):P7 row:=by
 have hp:=gb;refine⟨by rw[h.len];unfold mx;split<;>decide,λz hz=>?_⟩;unfold mx at h;split at h
 ·match row,h,hz with
  |[x],h,hz=>
   simp at hz;subst hz;have h1:(0:Int)<=z/\z<=255:=h.1;omega
 ·match row,h,hz with
  |[a,b,c,d,e],h,hz=>
   obtain⟨h1,h2,h3,h4,h5,_⟩:=h;have h1:(4:Int)<=a/\a<=4:=h1;have h2:(0:Int)<=b/\b<=0:=h2;have h3:(0:Int)<=c/\c<=bx:=h3;have h4:(0:Int)<=d/\d<=0:=h4;have h5:(0:Int)<=e/\e<=0:=h5;simp only[kS,List.not_mem_nil,or_false]at hz;rcases hz with rfl|rfl|rfl|rfl|rfl<;>omega
 ·match row,h,hz with
  |[x],h,hz=>
   simp at hz;subst hz;have h1:(0:Int)<=z/\z<=bx:=h.1;omega
theorem SE {k:Nat} {rows:List (List Int)} (hl:(rows.length:Int)<=9223372036854775807) (h:∀row∈rows,bO (mx k) row):rc rows<=rT:=
 SC (by unfold maxLen;omega) λrow hr=>aqE (h row hr)
theorem Qj {P:bk} (w:ai) (size:Nat) (p:Option Addr) (l c:Nat):(zb size 0 (.slice p l c)).run P w= .ok #[] w:=by
 cases p with
 |none=>exact run_firstCells_none w size 0 l c
 |some a=>
  have:=F1 (P:=P) w a ([]:List aA) (λj v hj=>by simp at hj);simpa [zb]using this
theorem Src.alH {P:bk} (w:ai) {size:Nat} {m6 p8:aS} (hk:P.underlying m6=some (.slice p8)) (p:Option Addr) (c:Nat):Src P size m6 (.slice p 0 c) 0 [] w:=
 ⟨.inl ⟨p8,hk⟩,λ_=>rfl,Qj w size p 0 c,Qj w.drew size p 0 c,by simp,λ_ h=>by cases h⟩
theorem ac2 {F:Nat->Prop} {w:ai} {c:ay} {z:Int} {v:aA} (h:p6 F w c z v):v.oneCell'=true:=by
 cases c with
 |sub k=>
  rcases h with⟨⟨p,rfl⟩,_⟩|⟨g,o,cap,cells,t,fz,rfl,_⟩<;>rfl
 |_=>have h:v=_:=h;rw[h];rfl
theorem YA {F:Nat->Prop} {w:ai}:∀{sh:List ay} {row:List Int} {vs:List aA},dX F w sh row vs->∀u∈vs,u.oneCell'=true
 |[],[],[],_,u,h=>by simp at h
 |c::sh,z::r,v::vs,h,u,hu=>by
  rcases List.mem_cons.1 hu with rfl|hu
  ·exact ac2 h.1
  ·exact YA h.2 u hu
 |[],_::_,_,h,_,_=>h.elim
 |[],[],_::_,h,_,_=>h.elim
 |_::_,[],_,h,_,_=>h.elim
 |_::_,_::_,[],h,_,_=>h.elim
theorem YJ {F:Nat->Prop} {w:ai} {sh:List ay}:∀{rows:List (List Int)} {vs:List aA},eH F w sh rows vs->∀u∈vs,u.oneCell'=true
 |[],vs,h,u,hu=>by
  have h:vs=[]:=h;subst h;simp at hu
 |row::rows,vs,h,u,hu=>by
  obtain⟨a,b,rfl,h2,h3⟩:=h;rcases List.mem_append.1 hu with hu|hu
  ·exact YA h2 u hu
  ·exact YJ h3 u hu
theorem ay.val_one (c:ay) (z:Int):(c.val z).oneCell'=true:=by cases c<;>rfl
theorem YC:∀{sh:List ay} {row:List Int},∀u∈dp sh row,u.oneCell'=true
 |[],_,u,h=>by simp[dp]at h
 |_::_,[],u,h=>by simp[dp]at h
 |c::sh,z::r,u,h=>by
  simp only[dp,kS]at h;rcases h with rfl|h
  ·exact ay.val_one c z
  ·exact YC u h
theorem MD {sh:List ay} {rows:List (List Int)}:∀u∈bm sh rows,u.oneCell'=true:=λu h=>by
 obtain⟨row,_,h⟩:=List.mem_flatMap.1 h;exact YC u h
theorem pY.flat {cells:Array aA} {off:Nat} {sh:List ay} {rows:List (List Int)} (h:pY cells off sh rows) {j:Nat} {v:aA} (hj:(bm sh rows)[j]?=some v):cells[off+j]?=some v:=by
 obtain⟨h1,pre,post,h2,h3⟩:=h;have hlt:=(List.getElem?_eq_some_iff.1 hj).1;rw[<-FX,h2,gJ,uP (by omega),rO (by omega)];rw[show off+j-pre.length=j by omega];exact hj
theorem pY.sub {cells:Array aA} {off:Nat} {sh:List ay} {rows:List (List Int)} (h:pY cells off sh rows) (a k:Nat) (ha:a<=rows.length):pY cells (off+a*sh.length) sh ((rows.drop a).take k):=by
 obtain⟨h1,pre,post,h2,h3⟩:=h;refine⟨λrow hr=>h1 row (nQ (j7 hr)),pre++bm sh (rows.take a),bm sh ((rows.drop a).drop k)++post,?_,?_⟩
 ·rw[h2];have:rows=rows.take a++((rows.drop a).take k++(rows.drop a).drop k):=by rw[ju,ju]
  conv=>lhs;rw[this]
  simp only[qa,gJ]
 ·rw[dm,h3,mf λrow hr=>h1 row (j7 hr),ng,wF ha]
theorem ig.sub {F:Nat->Prop} {w:ai} {cells:Array aA} {off:Nat} {sh:List ay} {rows:List (List Int)} (h:ig F w cells off sh rows) (a k:Nat) (ha:a<=rows.length):ig F w cells (off+a*sh.length) sh ((rows.drop a).take k):=by
 obtain⟨h1,pre,vs,post,h2,h3,h4⟩:=h;obtain⟨k1,k2⟩:=h4.split a;obtain⟨k3,k4⟩:=k2.split k;refine⟨λrow hr=>h1 row (nQ (j7 hr)),pre++vs.take (a*sh.length),_,(vs.drop (a*sh.length)).drop (k*sh.length)++post,?_,?_,k3⟩
 ·rw[h2];have:vs=vs.take (a*sh.length)++((vs.drop (a*sh.length)).take (k*sh.length)++(vs.drop (a*sh.length)).drop (k*sh.length)):=by rw[ju,ju]
  conv=>lhs;rw[this]
  simp only[gJ]
 ·have:=k1.len;rw[dm,h3,this,ng,wF ha]
theorem ig.vs {F:Nat->Prop} {w:ai} {cells:Array aA} {off:Nat} {sh:List ay} {rows:List (List Int)} (h:ig F w cells off sh rows):∃vs,eH F w sh rows vs/\∀(j:Nat) (v:aA),vs[j]?=some v->cells[off+j]?=some v:=by
 obtain⟨h1,pre,vs,post,h2,h3,h4⟩:=h;refine⟨vs,h4,λj v hj=>?_⟩;have hlt:=(List.getElem?_eq_some_iff.1 hj).1;rw[<-FX,h2,gJ,uP (by omega),rO (by omega)];rw[show off+j-pre.length=j by omega];exact hj
section
variable {S:Nat->List Int->List Int->Prop} {L:V->Env->Prop} {n:Nat} {ρ:Env} {m:Nat->Nat} {bl:List ao} {gl:dA} {w0:cN} {P:bk}
theorem Il {e:bh}:ar S L (yd e) n ρ λag n' l=>l.aZ n'/\(0<=l.den ag/\l.den ag<=1)/\e.den ρ=decide (l.den ag=1):=by
 intro A k hk;cases h:e.den ρ with
 |true=>exact⟨_,n+1,_,kB _,agree.cV _ _ _,⟨aa.er (rP n),by simp[aa.cp,jG],by simp[aa.cp,jG]⟩,hk 1 (by decide) (by decide) (by simp[h])⟩
 |false=>exact⟨_,n+1,_,kB _,agree.cV _ _ _,⟨aa.er (rP n),by simp[aa.cp,jG],by simp[aa.cp,jG]⟩,hk 0 (by decide) (by decide) (by simp[h])⟩
theorem CY {nb:Nat} {c:ay} {a:A} (ha:a.ok n nb ρ):ar S L (G4 c a) n ρ λag n' l=>l.aZ n'/\(c.dS.1<=l.den ag/\l.den ag<=c.dS.2)/\c.val (l.den ag)=a.den ρ m:=by
 unfold G4;split
 ·refine ei λhc=>ar.pure ?_;simp only[aO,decide_eq_true_eq]at hc;obtain⟨⟨h1,h2⟩,h3⟩:=hc;have h4:=ha.2;refine⟨ha.1,⟨?_,?_⟩,?_⟩
  ·simp only[ay.dS];omega
  ·simp only[ay.dS];omega
  ·simp only[ay.val,A.den,h1]
 ·exact ar.pure ⟨ha.1,ha.2,rfl⟩
 ·split
  ·rename_i v;refine ar.pure ⟨aa.cH _ _,?_,?_⟩
   ·simp only[ay.dS,aa.aT];cases v<;>decide
   ·simp only[ay.val,A.den,bh.den,aa.aT];cases v<;>rfl
  ·rename_i e _;exact Il.mono λag n' l _ _ ⟨h1,h2,h3⟩=>⟨h1,h2,by simp only[ay.val,A.den,h3]⟩
 ·exact ar.pure ⟨aa.cH _ _,⟨by rw[aa.aT];exact bD _,by rw[aa.aT];exact bD _⟩,rfl⟩
 ·exact ar.fail
theorem Jq {nb:Nat}:∀{sh:List ay} {l:List A} {n:Nat} {ρ:Env},(∀a∈l,A.ok n nb ρ a)->ar S L (Fg sh l) n ρ λag n' ls=>(∀x∈ls,aa.aZ n' x)/\bO sh (ls.map (·.den ag))/\dp sh (ls.map (·.den ag))=l.map (A.den ρ m)
 |[],[],n,ρ,_=>ar.pure ⟨λ_ h=>by simp at h,trivial,rfl⟩
 |c::sh,a::r,n,ρ,h=>by
  have h0:=h a (by simp);refine(CY (m:=m) h0).bind λaD n1 x hn ha ⟨g1,g2,g3⟩=>(Jq (nb:=nb) (sh:=sh) (l:=r) λb hb=>(h b (cF _ hb)).ext ha hn (aW _)).bind λbp n2 ls ee db ⟨k1,k2,k3⟩=>ar.pure ⟨λy hy=>?_,?_,?_⟩
  ·rcases List.mem_cons.1 hy with rfl|hy
   ·exact g1.mono ee
   ·exact k1 y hy
  ·simp only[ct];exact⟨by rw[aa.bG db g1];exact g2,k2⟩
  ·simp only[ct,dp,aa.bG db g1,g3,k3];rw[qp (λb hb=>h b (cF _ hb)) ha (λ_ _=>rfl)]
 |[],_::_,_,_,_=>ar.fail
 |_::_,[],_,_,_=>ar.fail
theorem C1 {w:Nat}:∀{k:Nat} {l:List A},l.length=k*w->(mb w k l).length=k/\(mb w k l).flatten=l
 |0,l,h=>by
  have:l=[]:=td (by omega);subst this;exact⟨rfl,rfl⟩
 |k+1,l,h=>by
  rw[rK]at h;have ih:=C1 (w:=w) (k:=k) (l:=l.drop w) (by simp;omega);exact⟨by simp[mb,ih.1],by simp[mb,ih.2]⟩
theorem C2 {w:Nat}:∀{k:Nat} {l:List A},∀row∈mb w k l,∀a∈row,a∈l
 |0,l,row,h,a,ha=>by simp[mb]at h
 |k+1,l,row,h,a,ha=>by
  simp only[mb,kS]at h;rcases h with rfl|h
  ·exact j7 ha
  ·exact nQ (C2 row h a ha)
theorem LC {nb:Nat} {sh:List ay} (km:ln sh=true):∀{rs:List (List A)} {n:Nat} {ρ:Env} {c:aa},(∀row∈rs,∀a∈row,A.ok n nb ρ a)->c.aZ n->(0<=c.den ρ/\c.den ρ<=ch)->(∀row∈ab (c.den ρ),bO sh row)->(ab (c.den ρ)).length+rs.length<=1073741824->
 ar S L (zr sh rs c) n ρ λag n' c'=>c'.aZ n'/\(0<=c'.den ag/\c'.den ag<=ch)/\∃dy,ab (c'.den ag)=ab (c.den ρ)++dy/\dy.length=rs.length/\(∀row∈dy,bO sh row)/\bm sh dy=rs.flatten.map (A.den ρ m)
 |[],n,ρ,c,_,h1,h2,_,_=>ar.pure ⟨h1,h2,[],by simp,rfl,λ_ h=>by simp at h,rfl⟩
 |row::rs,n,ρ,c,h0,h1,h2,h3,h4=>by
  refine(Jq (nb:=nb) (m:=m) (sh:=sh) (l:=row) (h0 row (by simp))).bind λaD n1 ls hn ha ⟨g1,g2,g3⟩=>?_;have e1:c.den aD=c.den ρ:=aa.bG ha h1;have hf:aw 23 ((c::ls).map (·.den aD))=rc (ab (c.den ρ)++[ls.map (·.den aD)]):=by
   simp only[ct,aw,e1]
  simp only[cS]at h4;have k8:∀r∈ab (c.den ρ)++[ls.map (·.den aD)],bO sh r:=λr hr=>by
   rcases List.mem_append.1 hr with hr|hr
   ·exact h3 r hr
   ·simp at hr;subst hr;exact g2
  have hb:rc (ab (c.den ρ)++[ls.map (·.den aD)])<=ch:=u7 km (by simp;omega) k8;refine(gf (by rw[hf];exact fe _) (by rw[hf];exact hb)).bind λbp n2 c' ee db ⟨k1,k2⟩=>?_;rw[hf]at k2;have e2:ab (c'.den bp)=ab (c.den ρ)++[ls.map (·.den aD)]:=by rw[k2,dv]
  have hA:=ha.trans db hn;refine(LC (nb:=nb) (rs:=rs) (c:=c') km (λr hr a xy=>(h0 r (cF _ hr) a xy).ext hA (gk hn ee) (aW _)) k1 (by rw[k2];exact⟨fe _,hb⟩) (by rw[e2];exact k8) (by rw[e2];simp;omega)).mono λeO n3 c3 ra pr ⟨p1,bo,dy,bU,c6,dF,eD⟩=>⟨p1,bo,ls.map (·.den aD)::dy,?_,by simp[c6],λr hr=>?_,?_⟩
  ·rw[bU,e2];simp
  ·rcases List.mem_cons.1 hr with rfl|hr
   ·exact g2
   ·exact dF r hr
  ·show dp sh (ls.map (·.den aD))++bm sh dy=_;rw[eD,g3,F8,ga]
   congr 1
   refine gI λa Ac=>A.kf (n:=n) (nb:=nb) ?_ hA (λ_ _=>rfl);obtain⟨r,hr,xy⟩:=List.mem_flatten.1 Ac;exact h0 r (cF _ hr) a xy
theorem cc.dP {n nb:Nat} {ρ ag:Env} {m:Nat->Nat} {bl:List ao} (hb:b9 n nb ρ bl) (ha:agree n ρ ag) {g:Nat} (h:cc w0 ρ m bl g):cc w0 ag m bl g:=
 cc.mono (λi p hi hk=>⟨i,p,hi,by rw[mq (hb _ (cZ hi)) ha]at hk;exact hk,rfl⟩) g h
theorem cc.Jl {n nb:Nat} {ρ ag:Env} {m:Nat->Nat} {bl:List ao} (hb:b9 n nb ρ bl) (ha:agree n ρ ag) {g:Nat} (h:cc w0 ag m bl g):cc w0 ρ m bl g:=
 cc.mono (λi p hi hk=>⟨i,p,hi,by rw[mq (hb _ (cZ hi)) ha];exact hk,rfl⟩) g h
theorem Mem.alB {w:ai} (h:Mem w0 ρ m bl w) {b:Nat} {sh:List ay} {off code cap:aa} {t:aS×Bool} (hbl:bl[b]?=some ([.rows sh off code cap 1],t)) (hc:0<=cap.den ρ):cc w0 ρ m bl (m b):=by
 obtain⟨g1,_⟩:=(h.rws b sh off code cap 1 t hbl (by decide)).2 hc;refine⟨g1,λi p hi hk he=>?_⟩;have iw:aQ ρ [A.rows sh off code cap 1]=1:=iz (by decide) hc;rcases h.inj i b p _ hi hbl he with h1|h1|h1|h1
 ·subst h1;rw[hbl]at hi;cases hi;simp only[iw]at hk;omega
 ·omega
 ·omega
 ·simp only[iw]at h1;omega
theorem acR {cap cU:aa} {α:Type} {x:M α} {R:Env->Nat->α->Prop} (h:(0<=cap.den ρ->0<=cU.den ρ)->ar S L x n ρ R):ar S L (bind (zE cap cU) λ_=>x) n ρ R:=by
 unfold zE;cases hc:aa.beq cap cU with
 |true=>
  have:=aa.beq_eq hc;subst this;exact h λh=>h
 |false=>exact gD λhk=>h hk
theorem ac1 {w:ai} (hb:b9 n bl.length ρ bl) (hw:Mem w0 ρ m bl w) {c:ay} {a:A} (ha:a.ok n bl.length ρ):ar S L (LV bl c a) n ρ λag n' l=>l.aZ n'/\(c.dS.1<=l.den ag/\l.den ag<=c.dS.2)/\p6 (cc w0 ρ m bl) w c (l.den ag) (a.den ρ m):=by
 cases c with
 |sub k=>
  unfold LV;simp only;split
  ·rename_i b aM o ro len cap;split
   ·rename_i sh off code cU kind t hbl;refine ei λhc=>gD λhk=>gD λVJ=>acR λAk=>?_;have VJ:len.den ρ<=140737488351232:=by have h:len.den ρ<=(aa.const 140737488351232).den ρ:=VJ;rwa [aa.aT]at h
    simp only[aO]at hc;obtain⟨⟨⟨c1,c2⟩,c3⟩,c4⟩:=hc;have c1:=bA c1;have c2:=o4 c2;have c3:=aa.beq_eq c3;have c4:=bA c4
    subst c1;subst c2;subst c3;subst c4;have hk:0<=ro.den ρ/\ro.den ρ<=(ro.add len).den ρ/\(ro.add len).den ρ<=(ab (code.den ρ)).length:=hk;rw[aa.den_add]at hk;obtain⟨ptr,e1,e2,e3⟩:=oo (m:=m) ha;obtain⟨x1,⟨x2,x3,eT,iG⟩,⟨iW,ox,lq,nN⟩,⟨ov,ow⟩,fE,gT⟩:=ha;have gR:=hw.rws b _ o code cU 1 t hbl (by decide);have jh:∀row∈ab (code.den ρ),bO (mx k) row:=λrow hr=>by
     rcases hU (cU.den ρ) 0 with h|h
     ·rw[gR.1 h]at hr;simp at hr
     ·obtain⟨_,cells,gS,fz,_,⟨_,g3⟩,_⟩:=gR.2 h;exact g3.1 row hr
    have AB:∀row∈(((ab (code.den ρ)).drop (ro.den ρ).toNat).take (len.den ρ).toNat),bO (mx k) row:=λrow hr=>jh row (nQ (j7 hr));have hlen:(((ab (code.den ρ)).drop (ro.den ρ).toNat).take (len.den ρ).toNat).length=(len.den ρ).toNat:=by simp;omega
    have mR:aw 22 ([code,ro,ro.add len].map (·.den ρ))=rc (((ab (code.den ρ)).drop (ro.den ρ).toNat).take (len.den ρ).toNat):=by
     simp only[ct,et,aw,aa.den_add];have:(ro.den ρ+len.den ρ).toNat-(ro.den ρ).toNat=(len.den ρ).toNat:=by omega
     rw[this]
    have dQ:rc (((ab (code.den ρ)).drop (ro.den ρ).toNat).take (len.den ρ).toNat)<=rT:=SE (k:=k) (by rw[hlen];omega) AB;refine(gf (by rw[mR];exact fe _) (by rw[mR];exact dQ)).mono λaD n1 l fl dM ⟨g1,g2⟩=>⟨g1,?_,?_⟩
    ·rw[g2,mR];exact⟨fe _,dQ⟩
    ·rw[g2,mR];show qH _ _ _ (ab (rc _)) _;rw[dv,e1];by_cases cK:cap.den ρ<0
     ·have h0:=fE cK;rw[e2 cK,if_pos cK,h0];exact .inl ⟨⟨_,rfl⟩,by simp⟩
     ·have nu:=Ak (by omega);obtain⟨_,cells,gS,fz,q1,⟨q2,q3⟩,_⟩:=gR.2 nu;have dU:=gT (by omega);rw[e3 (by omega),if_neg cK];exact .inr ⟨m b,_,(cap.den ρ).toNat,cells,gS,fz,by rw[hlen],⟨by rw[hlen];omega,by omega,by rw[hlen];omega⟩,hw.alB hbl nu,q1,((mF (Zr k)).1 q3).sub _ _ (by omega)⟩
   ·exact ar.fail
  ·exact ar.pure ⟨aa.cH _ _,by simp only[ay.dS,aa.aT];exact⟨bD _,CD⟩,.inl ⟨⟨_,rfl⟩,by rw[aa.aT];exact dv []⟩⟩
  ·exact ar.pure ⟨aa.cH _ _,by simp only[ay.dS,aa.aT];exact⟨bD _,CD⟩,.inl ⟨⟨_,rfl⟩,by rw[aa.aT];exact dv []⟩⟩
  ·exact ar.fail
 |int k lo hi=>exact(CY (m:=m) ha).mono λ_ _ _ _ _ ⟨h1,h2,h3⟩=>⟨h1,h2,h3.symm⟩
 |str=>exact(CY (m:=m) ha).mono λ_ _ _ _ _ ⟨h1,h2,h3⟩=>⟨h1,h2,h3.symm⟩
 |bool=>exact(CY (m:=m) ha).mono λ_ _ _ _ _ ⟨h1,h2,h3⟩=>⟨h1,h2,h3.symm⟩
 |nil=>exact(CY (m:=m) ha).mono λ_ _ _ _ _ ⟨h1,h2,h3⟩=>⟨h1,h2,h3.symm⟩
theorem P5 {w:ai}:∀{sh:List ay} {l:List A} {n:Nat} {ρ:Env},b9 n bl.length ρ bl->Mem w0 ρ m bl w->(∀a∈l,A.ok n bl.length ρ a)->ar S L (Fh bl sh l) n ρ λag n' ls=>(∀x∈ls,aa.aZ n' x)/\bO sh (ls.map (·.den ag))/\dX (cc w0 ρ m bl) w sh (ls.map (·.den ag)) (l.map (A.den ρ m))
 |[],[],n,ρ,_,_,_=>ar.pure ⟨λ_ h=>by simp at h,trivial,trivial⟩
 |c::sh,a::r,n,ρ,hb,hw,h=>by
  have h0:=h a (by simp);refine(ac1 hb hw h0).bind λaD n1 x hn ha ⟨g1,g2,g3⟩=>(P5 (sh:=sh) (l:=r) (hb.ext ha hn (aW _)) (hw.dP hb ha) λb hb'=>(h b (cF _ hb')).ext ha hn (aW _)).bind λbp n2 ls ee db ⟨k1,k2,k3⟩=>ar.pure ⟨λy hy=>?_,?_,?_⟩
  ·rcases List.mem_cons.1 hy with rfl|hy
   ·exact g1.mono ee
   ·exact k1 y hy
  ·simp only[ct];exact⟨by rw[aa.bG db g1];exact g2,k2⟩
  ·simp only[ct,aa.bG db g1];refine⟨g3,?_⟩;rw[<-qp (m:=m) (λb hb'=>h b (cF _ hb')) ha (λ_ _=>rfl)];exact k3.mono (Fr.of w λg hg=>cc.Jl hb ha hg)
 |[],_::_,_,_,_,_,_=>ar.fail
 |_::_,[],_,_,_,_,_=>ar.fail
theorem LD {w:ai} {sh:List ay} (km:ln sh=true):∀{rs:List (List A)} {n:Nat} {ρ:Env} {c:aa},b9 n bl.length ρ bl->Mem w0 ρ m bl w->(∀row∈rs,∀a∈row,A.ok n bl.length ρ a)->c.aZ n->(0<=c.den ρ/\c.den ρ<=ch)->(∀row∈ab (c.den ρ),bO sh row)->(ab (c.den ρ)).length+rs.length<=1073741824->
 ar S L (GJ bl sh rs c) n ρ λag n' c'=>c'.aZ n'/\(0<=c'.den ag/\c'.den ag<=ch)/\∃dy,ab (c'.den ag)=ab (c.den ρ)++dy/\dy.length=rs.length/\(∀row∈dy,bO sh row)/\eH (cc w0 ρ m bl) w sh dy (rs.flatten.map (A.den ρ m))
 |[],n,ρ,c,_,_,_,h1,h2,_,_=>ar.pure ⟨h1,h2,[],by simp,rfl,λ_ h=>by simp at h,rfl⟩
 |row::rs,n,ρ,c,hb,hw,h0,h1,h2,h3,h4=>by
  refine(P5 (sh:=sh) (l:=row) hb hw (h0 row (by simp))).bind λaD n1 ls hn ha ⟨g1,g2,g3⟩=>?_;have e1:c.den aD=c.den ρ:=aa.bG ha h1;have hf:aw 23 ((c::ls).map (·.den aD))=rc (ab (c.den ρ)++[ls.map (·.den aD)]):=by
   simp only[ct,aw,e1]
  simp only[cS]at h4;have k8:∀r∈ab (c.den ρ)++[ls.map (·.den aD)],bO sh r:=λr hr=>by
   rcases List.mem_append.1 hr with hr|hr
   ·exact h3 r hr
   ·simp at hr;subst hr;exact g2
  have hb':rc (ab (c.den ρ)++[ls.map (·.den aD)])<=ch:=u7 km (by simp;omega) k8;refine(gf (by rw[hf];exact fe _) (by rw[hf];exact hb')).bind λbp n2 c' ee db ⟨k1,k2⟩=>?_;rw[hf]at k2;have e2:ab (c'.den bp)=ab (c.den ρ)++[ls.map (·.den aD)]:=by rw[k2,dv]
  have hA:=ha.trans db hn;refine(LD (rs:=rs) (c:=c') km (hb.ext hA (gk hn ee) (aW _)) (hw.dP hb hA) (λr hr a xy=>(h0 r (cF _ hr) a xy).ext hA (gk hn ee) (aW _)) k1 (by rw[k2];exact⟨fe _,hb'⟩) (by rw[e2];exact k8) (by rw[e2];simp;omega)).mono λeO n3 c3 ra pr ⟨p1,bo,dy,bU,c6,dF,eD⟩=>⟨p1,bo,ls.map (·.den aD)::dy,?_,by simp[c6],λr hr=>?_,?_⟩
  ·rw[bU,e2];simp
  ·rcases List.mem_cons.1 hr with rfl|hr
   ·exact g2
   ·exact dF r hr
  ·refine⟨row.map (A.den ρ m),rs.flatten.map (A.den ρ m),by rw[F8,ga],g3,?_⟩;rw[<-qp (m:=m) (n:=n) (nb:=bl.length) (λa Ac=>by
    obtain⟨r,hr,xy⟩:=List.mem_flatten.1 Ac;exact h0 r (cF _ hr) a xy) hA (λ_ _=>rfl)]
   exact eD.mono (Fr.of w λg hg=>cc.Jl hb hA hg)
def abO (P:bk) (m6:aS) (sh:List ay) (X:aA) (F:Nat->Prop) (w:ai) (old:List (List Int)) (ag:Env) (n':Nat) (p:aa×aa):Prop:=
 p.1.aZ n'/\p.2.aZ n'/\(0<=p.1.den ag/\p.1.den ag<=ch)/\∃dy fw,ab (p.1.den ag)=old++dy/\p.2.den ag=dy.length/\(∀row∈dy,bO sh row)/\old.length+dy.length<=1073741824/\eH F w sh dy fw/\Src P sh.length m6 X dy.length fw w
theorem Zm {sh:List ay} (km:ln sh=true) {w:ai} (hb:b9 n bl.length ρ bl) (hw:Mem w0 ρ m bl w) {m6:aS} {x:V} {X:aA} (hx:x.ok n bl.length ρ) (bL:x.rel ρ m X) {base:aa} (qe:base.aZ n)
 (qX:0<=base.den ρ/\base.den ρ<=ch) (sf:∀row∈ab (base.den ρ),bO sh row):ar S L (JD P m6 sh bl x base) n ρ (abO P m6 sh X (cc w0 ρ m bl) w (ab (base.den ρ))):=by
 unfold JD;split
 ·rename_i b off len cap;split
  ·rename_i cs p8 hcs H9;obtain⟨c1,c2,c3⟩:=NF hw hb hcs;refine gD λhk=>?_;simp only[ct,et,af,aa.aT]at hk;have jS:=C1 (w:=sh.length) (k:=len) c1;refine(LD km (rs:=mb sh.length len cs) (c:=base) hb hw (λrow hr a ha=>c2 a (C2 row hr a ha)) qe qX sf (by rw[jS.1];omega)).bind λaD n1 c' hn ha ⟨p1,bo,dy,bU,c6,dF,eD⟩=>ar.pure ⟨p1,aa.cH _ _,bo,dy,_,bU,?_,dF,by rw[c6,jS.1];omega,eD,?_⟩
   ·rw[aa.aT,c6,jS.1]
   ·have bL:X= .slice (some ⟨m b,off,none⟩) len cap:=bL;rw[bL,jS.2,c6,jS.1];exact Src.ofSlice w (hO H9) _ _ _ _ (by simpa using c1) c3 (λu hu=>by
     obtain⟨a,ha,rfl⟩:=List.mem_map.1 hu;exact A.IZ (c2 a ha))
  ·exact ar.fail
 ·rename_i b aM o ro len cap;split
  ·rename_i cP off code cU kind bX p8 hbl H9;refine ei λhc=>gD λiv=>gD λhk2=>?_;simp only[aO]at hc;obtain⟨⟨⟨c1,c2⟩,c3⟩,c4⟩:=hc;have c1:0<kind:=eE c1;have c2:=o4 c2;have c3:=aa.beq_eq c3;have c4:=bA c4;subst c2;subst c3;subst c4;simp only[ct,et,af,aa.den_add]at iv hk2;have pE:(A.sl b sh.length o ro len cap).ok n bl.length ρ:=hx;obtain⟨ptr,e1,e2,e3⟩:=oo (m:=m) pE;have bL:X=(A.sl b sh.length o ro len cap).den ρ m:=bL;rw[e1]at bL;obtain⟨x1,⟨x2,x3,eT,iG⟩,⟨iW,ox,lq,nN⟩,⟨ov,ow⟩,fE,gT⟩:=pE;have gR:=hw.rws b sh o code cU kind bX hbl (by omega);have jh:∀row∈ab (code.den ρ),bO sh row:=λrow hr=>by
    rcases hU (cU.den ρ) 0 with h|h
    ·rw[gR.1 h]at hr;simp at hr
    ·obtain⟨_,cells,gS,fz,_,⟨_,g3⟩,_⟩:=gR.2 h;exact g3.1 row hr
   have AB:∀row∈(((ab (code.den ρ)).drop (ro.den ρ).toNat).take (len.den ρ).toNat),bO sh row:=λrow hr=>jh row (nQ (j7 hr));have hlen:(((ab (code.den ρ)).drop (ro.den ρ).toNat).take (len.den ρ).toNat).length=(len.den ρ).toNat:=by simp;omega
   have mR:aw 22 ([code,ro,ro.add len].map (·.den ρ))=rc (((ab (code.den ρ)).drop (ro.den ρ).toNat).take (len.den ρ).toNat):=by
    simp only[ct,et,aw,aa.den_add];have:(ro.den ρ+len.den ρ).toNat-(ro.den ρ).toNat=(len.den ρ).toNat:=by omega
    rw[this]
   have HC:∃fw,eH (cc w0 ρ m bl) w sh (((ab (code.den ρ)).drop (ro.den ρ).toNat).take (len.den ρ).toNat) fw/\Src P sh.length m6 X (((ab (code.den ρ)).drop (ro.den ρ).toNat).take (len.den ρ).toNat).length fw w:=by
    rw[bL];by_cases cK:cap.den ρ<0
    ·have h0:=fE cK;rw[e2 cK,if_pos cK,h0];simp only[Int.toNat_zero,F9];exact⟨[],rfl,Src.alH w (hO H9) _ 0⟩
    ·rw[e3 (by omega),if_neg cK];have hv:∃fw,eH (cc w0 ρ m bl) w sh (((ab (code.den ρ)).drop (ro.den ρ).toNat).take (len.den ρ).toNat) fw/\∀(j:Nat) (u:aA),fw[j]?=some u->w.cell? ⟨m b,(o.den ρ).toNat+(ro.den ρ).toNat*sh.length+j,none⟩=some u:=by
      rcases hU (cU.den ρ) 0 with h|h
      ·rw[gR.1 h];exact⟨[],by simp[eH],λj u hu=>by simp at hu⟩
      ·obtain⟨_,cells,gS,fz,g1,⟨_,g3⟩,_⟩:=gR.2 h;obtain⟨fw,k1,k2⟩:=(g3.sub (ro.den ρ).toNat (len.den ρ).toNat (by omega)).vs;refine⟨fw,k1,λj u hu=>?_⟩;simp only[jL,g1,rL,pU,if_false];exact k2 j u hu
     obtain⟨fw,k1,k2⟩:=hv;refine⟨fw,k1,?_⟩;have hl2:=k1.len;rw[hlen]at hl2⊢;refine Src.ofSlice w (hO H9) _ _ _ _ hl2 (λj u hu=>?_) (YJ k1);rw[jw];exact k2 j u hu
   obtain⟨fw,Wc,HC⟩:=HC;generalize sr:(((ab (code.den ρ)).drop (ro.den ρ).toNat).take (len.den ρ).toNat)=mid at AB hlen mR HC Wc;have hb1:rc mid<=ch:=u7 km (by omega) AB;refine(gf (by rw[mR];exact fe _) (by rw[mR];exact hb1)).bind λaD n1 s fl dM ⟨g1,g2⟩=>?_;rw[mR]at g2;have r5:base.den aD=base.den ρ:=aa.bG dM qe;have kj:aw 24 ([base,s].map (·.den aD))=rc (ab (base.den ρ)++mid):=by
    simp only[ct,et,aw,r5,g2,dv]
   have hall:∀row∈ab (base.den ρ)++mid,bO sh row:=λrow hr=>(List.mem_append.1 hr).elim (sf row) (AB row);have hb2:rc (ab (base.den ρ)++mid)<=ch:=u7 km (by simp;omega) hall;refine(gf (by rw[kj];exact fe _) (by rw[kj];exact hb2)).bind λbp n2 c ee db ⟨k1,k2⟩=>ar.pure ⟨k1,eT.mono (gk fl ee),?_,mid,fw,?_,?_,AB,by omega,Wc,HC⟩
   ·rw[k2,kj];exact⟨fe _,hb2⟩
   ·rw[k2,kj,dv]
   ·rw[aa.bG (dM.trans db fl) eT,hlen];omega
  ·exact ar.fail
 ·exact ar.fail
theorem Qh (w:ai) (t m6 ty e:aS) (i:TypeInfo) (ht:P.underlying t=some (.slice e)) (hi:P.info? e=some i) (g kP uz:Nat) (cur:Array aA) (mM:aS) (hg:w.heap[g]?=some (.cells cur mM (0,0))) (x:aA) (k:Nat) (news:List aA) (hs:Src P i.size m6 x k news w)
 (hroom:kP+k<=uz) (sj:kP*i.size+news.length<=cur.size):
 (RA #[t,m6] ty #[.slice (some ⟨g,0,none⟩) kP uz,x]).run P w= .ok (.slice (some ⟨g,0,none⟩) (kP+k) uz) (w.setRow g (cur.toList.take (kP*i.size)++news++cur.toList.drop (kP*i.size+news.length)).toArray):=by
 have hst:=run_storeCells_at P g (kP*i.size) mM news 0 cur w hg (by simpa using sj) hs.one;simp only[lu]at hst;rcases hs.kind with⟨p8,hk⟩|hk<;>simp[RA,fh ht,fh hk,sizeOf,typeInfo,hi,hs.len,hroom,hs.cells,Addr.add_lit,hst]
theorem wC (Z:Array aA) (k:Nat):(Ga Z k).size=k*Z.size:=by simp[Ga]
theorem vr (w:ai) (Bw old:Nat) (e:aS) (h:Bw<=1073741824):Bw<=grownCap w Bw old e/\grownCap w Bw old e<=9223372036854775807:=by
 have hlt:=Nat.mod_lt (w.tape w.drawn (.appendCap Bw old e)) (show 0<2^63-Bw by omega);simp only[grownCap,Question.cut];omega
def ni (w0:cN) (ρ:Env) (m:Nat->Nat) (bl:List ao) (w:ai) (g:Nat):Prop:=
 ∀(i:Nat) (sh:List ay) (off code cap:aa) (kind:Nat) (t:aS×Bool),bl[i]?=some ([.rows sh off code cap kind],t)->gK w0 ρ (λba=>cc w0 ρ m bl ba/\ba≠g) (m i) sh off code cap kind t.1 w
def CF (w0:cN) (ρ:Env) (m:Nat->Nat) (bl:List ao) (w:ai) (aM:Nat):Prop:=
 ∀(i:Nat) (sh:List ay) (off code cap:aa) (kind:Nat) (t:aS×Bool),bl[i]?=some ([.rows sh off code cap kind],t)->gK w0 ρ (λba=>cc w0 ρ m bl ba/\ba<aM) (m i) sh off code cap kind t.1 w
theorem Mem.under {w1 w:ai} (h:Mem w0 ρ m bl w1) (he:w1.Extends w):CF w0 ρ m bl w w1.heap.size:=λi sh off code cap kind t hi=>
 (h.rws i sh off code cap kind t hi).grow (λba h' o ho=>by
   have hlt:=(Array.getElem?_eq_some_iff.1 ho).1;exact⟨⟨h',hlt⟩,by rw[he.block ba hlt];exact ho⟩) λhk hc=>he.block _ (h.lt hi (by simp only[iz hk hc];exact hk))
theorem CF.push {w:ai} {aM g:Nat} {x:ao} (h:CF w0 ρ m bl w aM) (hg:aM<=g) (hx:bT x.1=true):CF w0 ρ (fg m bl.length g) (bl++[x]) w aM:=λi sh off code cap kind t hi=>by
 rcases Je hi with⟨dw,h1⟩|⟨_,h1⟩
 ·rw[iF dw];exact(h i sh off code cap kind t h1).mono λba h'=>⟨h'.1.push (.inr (by omega)),h'.2⟩
 ·subst h1;cases hx
theorem Mem.ve {w1 w:ai} {g:Nat} (h:Mem w0 ρ m bl w1) (he:w1.Extends w) (hg:w1.heap.size<=g):ni w0 ρ m bl w g:=λi sh off code cap kind t hi=>
 (h.rws i sh off code cap kind t hi).grow (λba h' o ho=>by
   have hlt:=(Array.getElem?_eq_some_iff.1 ho).1;exact⟨⟨h',by omega⟩,by rw[he.block ba hlt];exact ho⟩) λhk hc=>he.block _ (h.lt hi (by simp only[iz hk hc];exact hk))
theorem Mem.S2 {w:ai} {b k:Nat} {sh:List ay} {off code cap:aa} {t:aS×Bool} (h:Mem w0 ρ m bl w) (hbl:bl[b]?=some ([.rows sh off code cap k],t)) (hk:2<=k) (hc:0<=cap.den ρ):ni w0 ρ m (cM bl b ([.rows sh off code cap 0],t)) w (m b):=λi cP dV code' dT eW t' hi=>by
 rcases Qt hi with⟨rfl,cL,_⟩|⟨_,h1⟩
 ·cases cL
  exactλh0=>absurd rfl h0
 ·refine(h.rws i cP dV code' dT eW t' h1).mono λba h'=>⟨h'.set hbl (by simp[aQ]),λe=>?_⟩;exact h'.2 b _ hbl (by rw[iz (by omega) hc];exact hk) e.symm
theorem ni.dP {w:ai} {ag:Env} {g n':Nat} (h:ni w0 ρ m bl w g) (hb:b9 n' bl.length ρ bl) (ha:agree n' ρ ag):ni w0 ag m bl w g:=λi sh off code cap kind t hi=>
 ((h i sh off code cap kind t hi).dP (hb _ (cZ hi) _ (by simp)) ha).mono λba h'=>⟨cc.dP hb ha h'.1,h'.2⟩
theorem Yj {kd:Nat} {tm:List V} {a:Act} {w:ai} {G:df} {K:Act->ai->Prop} {k:fy} {e:aS} {d:Option Tmp} {sh:List ay} {code len:aa} {c:Int} {g:Nat}
 (fv:2<=kd) (h:R w0 n ρ m tm bl a w) (hcs:code.aZ n) (vB:len.aZ n) (hc1:0<=code.den ρ/\code.den ρ<=ch) (hc:-2<=c/\c<=9223372036854775807) (n7:B0 0 0 (len.den ρ) c)
 (qh:c<0->ab (code.den ρ)=[])
 (D8:0<=c->∃(cells:Array aA) (fz:Nat×Nat),(w.heap[g]?=some (.cells cells e fz)/\ti kd fz cells.size)/\ig (λba=>cc w0 ρ m bl ba/\ba≠g) w cells 0 sh (ab (code.den ρ))/\cells.size=c.toNat*sh.length/\w0.b.heap.size<=g/\(w0.ex g∨w0.r.heap.size<=g))
 (ki:0<=c->ni w0 ρ m bl w g)
 (xF:∀(i:Nat) (p:ao),bl[i]?=some p->m i=g->aQ ρ p.1=0∨c<0)
 (ah:(k (n+1) (ey tm d (.w (.one (.sl bl.length sh.length (.const 0) (.const 0) len (.var n))))) (bl++[([.rows sh (.const 0) code (.var n) kd],(e,false))])).holds S L G (cV ρ n c)) (hk:jO S L w0 k n bl.length ρ m G K):
 K (a.put d (if c<0 then .slice (lZ c g) 0 0 else .slice (some ⟨g,0,none⟩) (len.den ρ).toNat c.toNat)) w:=by
 have ha:agree n ρ (cV ρ n c):=agree.cV _ _ _;have jd:=h.b;have hb1:b9 (n+1) bl.length (cV ρ n c) bl:=h.b.ext ha (kB _) (aW _);have N2:Mem w0 (cV ρ n c) m bl w:=h.a7.dP h.b ha;have e1:code.den (cV ρ n c)=code.den ρ:=aa.bG ha hcs;have e2:len.den (cV ρ n c)=len.den ρ:=aa.bG ha vB;have e3:(aa.var n).den (cV ρ n c)=c:=by simp[aa.cp,jG]
 have hA:(A.rows sh (.const 0) code (.var n) kd).ok (n+1) bl.length (cV ρ n c):=⟨⟨aa.cH _ _,hcs.mono (kB _),aa.er (rP n)⟩,by rw[e1];exact hc1,by rw[e3];omega⟩;have hM:=N2.push (x:=([.rows sh (.const 0) code (.var n) kd],(e,false))) (g:=g) hb1 (λy hy=>by simp at hy;subst hy;exact hA) (λho=>by cases ho) (λcP dV code' dT eW he=>by
  cases he;intro _;refine⟨λh=>by rw[e3]at h;rw[e1];exact qh h,λh=>?_⟩;rw[e3]at h;obtain⟨cells,fz,⟨g1,kH⟩,g2,g3,g4,g5⟩:=D8 h;exact⟨g5.elim .inl λh=> .inr (.inr h),cells,e,fz,g1,⟨by rw[aa.aT];exact bD _,by rw[e1,aa.aT];exact g2.mono (Fr.of w λba h'=>(cc.dP jd ha h'.1).push (.inr h'.2))⟩,λ_=>⟨rfl,aa.aT _ _,kH,by rw[e3];exact g3,g4,g5⟩⟩) (λi p hi he=>by
  rcases xF i p hi he with bb|bb
  ·exact .inr (.inl (by rw[mq (h.b _ (cZ hi)) ha];exact bb))
  ·refine .inr (.inr ?_);simp only[aQ,e3];rw[if_pos bb]) (λi cP dV code' dT eW t' hi=>by
  rcases hU c 0 with bb|bb
  ·exact N2.Jv (by simp only[aQ,e3];rw[if_pos bb];decide) i cP dV code' dT eW t' hi
  ·exact((ki bb).dP h.b ha i cP dV code' dT eW t' hi).mono λba h'=>h'.1.push (.inr h'.2))
 have bZ:cQ n bl.length ρ m (n+1) (bl++[([A.rows sh (.const 0) code (.var n) kd],(e,false))]).length (cV ρ n c) (fg m bl.length g):=⟨kB _,ha,by simp,λb hb=>iF hb⟩;refine hk _ _ _ _ _ G _ _ bZ (dJ.refl _ _) ⟨dq.put (h.t.ext bZ.ha bZ.hn bZ.hb bZ.hm) d ?_ ?_,by rw[put_defers];exact h.d,hb1.alloc (λy hy=>by simp at hy;subst hy;exact hA),hM⟩ ah
 ·refine⟨by simp,⟨aa.cH _ _,aa.cH _ _,vB.mono (kB _),aa.er (rP n)⟩,?_⟩;rw[aa.aT,e2,e3];exact n7
 ·simp only[V.rel,W.den,A.den,e2,e3,aa.aT,j2];split<;>simp
theorem PF {kd:Nat} {tm:List V} {a:Act} {w:ai} {G:df} {K:Act->ai->Prop} {k:fy} {e:aS} {d:Option Tmp} {sh:List ay} {code len:aa} {c:Int} {g:Nat}
 (fv:2<=kd) (h:R w0 n ρ m tm bl a w) (hcs:code.aZ n) (vB:len.aZ n) (hc1:0<=code.den ρ/\code.den ρ<=ch) (hc:-2<=c/\c<=9223372036854775807) (n7:B0 0 0 (len.den ρ) c)
 (qh:c<0->ab (code.den ρ)=[])
 (D8:0<=c->∃(cells:Array aA) (fz:Nat×Nat),(w.heap[g]?=some (.cells cells e fz)/\ti kd fz cells.size)/\ig (λba=>cc w0 ρ m bl ba/\ba≠g) w cells 0 sh (ab (code.den ρ))/\cells.size=c.toNat*sh.length/\w0.b.heap.size<=g/\(w0.ex g∨w0.r.heap.size<=g))
 (ki:0<=c->ni w0 ρ m bl w g)
 (xF:∀(i:Nat) (p:ao),bl[i]?=some p->m i=g->aQ ρ p.1=0∨c<0)
 (ah:(Dp kd e d sh code len n tm bl k).holds S L G ρ) (hk:jO S L w0 k n bl.length ρ m G K):
 K (a.put d (if c<0 then .slice (lZ c g) 0 0 else .slice (some ⟨g,0,none⟩) (len.den ρ).toNat c.toNat)) w:=by
 unfold Dp at ah;exact Yj fv h hcs vB hc1 hc n7 qh D8 ki xF (ah c (by omega) (by omega)) hk
theorem PG {tm:List V} {a:Act} {w:ai} {G:df} {K:Act->ai->Prop} {k:fy} {e:aS} {d:Option Tmp} {sh:List ay} {code len:aa} {c:Int} {g:Nat}
 (h:R w0 n ρ m tm bl a w) (hcs:code.aZ n) (vB:len.aZ n) (hc1:0<=code.den ρ/\code.den ρ<=ch) (hc:-2<=c/\c<=9223372036854775807) (n7:B0 0 0 (len.den ρ) c)
 (qh:c<0->ab (code.den ρ)=[])
 (D8:0<=c->∃cells:Array aA,w.heap[g]?=some (.cells cells e (0,0))/\ig (λba=>cc w0 ρ m bl ba/\ba≠g) w cells 0 sh (ab (code.den ρ))/\cells.size=c.toNat*sh.length/\w0.b.heap.size<=g/\(w0.ex g∨w0.r.heap.size<=g))
 (ki:0<=c->ni w0 ρ m bl w g)
 (xF:∀(i:Nat) (p:ao),bl[i]?=some p->m i=g->aQ ρ p.1=0∨c<0)
 (ah:(zX e d sh code len n tm bl k).holds S L G ρ) (hk:jO S L w0 k n bl.length ρ m G K):
 K (a.put d (if c<0 then .slice (lZ c g) 0 0 else .slice (some ⟨g,0,none⟩) (len.den ρ).toNat c.toNat)) w:=
 PF (kd:=2) (aW 2) h hcs vB hc1 hc n7 qh (λh0=>by
  obtain⟨cells,g1,g2⟩:=D8 h0;exact⟨cells,(0,0),⟨g1,.ER⟩,g2⟩) ki xF ah hk
theorem UN {tm:List V} {a:Act} {w:ai} {G:df} {K:Act->ai->Prop} {k:fy} {e:aS} {d:Option Tmp} {sh:List ay} {code len:aa} {rows:List (List Int)} {c:Nat} {cells:Array aA}
 (h:R w0 n ρ m tm bl a w) (hcs:code.aZ n) (vB:len.aZ n) (hc1:0<=code.den ρ/\code.den ρ<=ch) (k8:ab (code.den ρ)=rows) (aY:∀row∈rows,bO sh row) (hlen:len.den ρ=rows.length)
 (cK:rows.length<=c) (Ai:c<=9223372036854775807) (jR:cells.size=c*sh.length) (agU:∃vs post,cells.toList=vs++post/\eH (cc w0 ρ m bl) w sh rows vs)
 (ah:(zX e d sh code len n tm bl k).holds S L G ρ) (hk:jO S L w0 k n bl.length ρ m G K):
 K (a.put d (.slice (some ⟨w.heap.size,0,none⟩) rows.length c)) (w.drew.alloc (.cells cells e)):=by
 have pw:R w0 n ρ m tm bl a w.drew:=⟨h.t,h.d,h.b,h.a7.grow (FZ (nf w))⟩;have hR:R w0 n ρ m tm bl a (w.drew.alloc (.cells cells e)):=⟨h.t,h.d,h.b,pw.a7.grow ((nf w.drew).alloc _)⟩;have q7:w.Extends (w.drew.alloc (.cells cells e)):=(FZ (nf w)).alloc _;have key:=PG (c:=(c:Int)) (g:=w.heap.size) hR hcs vB hc1 ⟨by omega,by omega⟩ (by rw[hlen];exact⟨⟨by omega,by omega,by omega,by omega⟩,⟨by omega,by omega⟩,λh=>by omega,λ_=>by omega⟩) (λh=>by omega)
  (λ_=>⟨cells,heap_alloc_new w.drew _,by
    obtain⟨vs,post,hp,kn⟩:=agU;rw[k8];refine⟨aY,[],vs,post,by simpa using hp,rfl,kn.mono λba h' o ho=>?_⟩;have hlt:=(Array.getElem?_eq_some_iff.1 ho).1;exact⟨⟨h',by omega⟩,by rw[q7.block ba hlt];exact ho⟩,by simpa using jR,h.a7.ext.size,.inr h.a7.ew⟩) (λ_=>h.a7.ve q7 (aW _)) (λi p hi he=>by
    by_cases fB:aQ ρ p.1=0
    ·exact .inl fB
    ·have:=pw.a7.lt hi fB;have bb:w.drew.heap.size=w.heap.size:=rfl;omega) ah hk
 rw[if_neg (by omega),hlen]at key;simpa using key
theorem auh {nb:Nat} {v:V} {X:aA} (h:Re v=true) (hv:v.ok n nb ρ) (hr:v.rel ρ m X):∃base,X= .slice base 0 0:=by
 unfold Re at h;split at h
 ·rename_i b aM o ro len cap;split at h
  ·rename_i l c hl hc;simp only[aO,decide_eq_true_eq]at h;have e1:=aa.iO hl (ρ:=ρ);have e2:=aa.iO hc (ρ:=ρ);have hr:X=(A.sl b aM o ro len cap).den ρ m:=hr;simp only[A.den,e1,e2,h.1,h.2]at hr;exact⟨_,hr⟩
  ·cases h
 ·rename_i b off len cap;simp only[aO]at h;have e1:=bA h.1;have e2:=bA h.2;subst e1;subst e2;exact⟨_,hr⟩
 ·exact⟨none,hr⟩
 ·cases h
theorem Hn (w:ai) (size:Nat) (base:Option Addr) (c:Nat):(zb size 0 (.slice base 0 c)).run P w= .ok #[] w:=by
 cases base with
 |none=>exact run_firstCells_none w size 0 0 c
 |some b=>exact run_firstCells_some w size 0 b 0 c [] (by simp) (λj v h=>by simp at h)
theorem R.later {n':Nat} {ag:Env} {tm:List V} {a:Act} {w:ai} (h:R w0 n ρ m tm bl a w) (hn:n<=n') (ha:agree n ρ ag):R w0 n' ag m tm bl a w:=
 ⟨h.t.ext ha hn (aW _) (λ_ _=>rfl),h.d,h.b.ext ha hn (aW _),h.a7.dP h.b ha⟩
theorem fN:ab 0=[]:=dv []
theorem R.kill {tm:List V} {a:Act} {w:ai} {b k:Nat} {sh:List ay} {off code cap:aa} {t:aS×Bool} (h:R w0 n ρ m tm bl a w) (hbl:bl[b]?=some ([.rows sh off code cap k],t)):R w0 n ρ m tm (cM bl b ([.rows sh off code cap 0],t)) a w:=
 ⟨by rw[kr];exact h.t,h.d,h.b.set (λy hy=>by
  simp at hy;subst hy;exact h.b _ (cZ hbl) (.rows sh off code cap k) (by simp)),h.a7.kill hbl⟩
theorem ab5 {tm:List V} {a:Act} {w:ai} {G:df} {o:Oper} {K:Act->ai->Prop} {Q:Exit->Act->ai->Prop} {k:fy} {c:Call} {s x:Operand} {t t':aS} {qI:T}
 (h:R w0 n ρ m tm bl a w) (hop:o.op= .call c) (hh:c.callee= .builtin .append) (gE:c.args.toList=[s,x]) (pA:c.argTypes.toList=[t,t'])
 (bJ:LB P o.dst t t' (b8 tm s) (b8 tm x) n tm bl k=some qI) (ah:qI.holds S L G ρ) (hk:jO S L w0 k n bl.length ρ m G K):o.wp P a w K Q:=by
 have a1:c.args=#[s,x]:=by rw[<-l6 (xs:=c.args),gE]
 have a2:c.argTypes=#[t,t']:=by rw[<-l6 (xs:=c.argTypes),pA]
 have hex:execOp a.eval o=(do pure (kU (<-RA #[t,t'] o.type #[a.eval s,a.eval x]))):=by
  simp[execOp,hop,resolve,hh,a1,a2,invoke,builtin]
 have Ev:∀v w',(RA #[t,t'] o.type #[a.eval s,a.eval x]).run P w= .ok v w'->K (a.put o.dst v) w'->o.wp P a w K Q:=λv w' h1 h2=>by
  unfold nh;simp only[hex,gm,h1,gz,hV];exact h2
 have hs:=cu h.t s;have hx:=cu h.t x;unfold LB at bJ;split at bJ
 ·cases bJ
 rename_i e El;split at bJ
 rotate_left
 ·cases bJ
 rename_i i z hi hz;obtain⟨inf,tf,nv,oa,qg⟩:=JZ hz;rw[hi]at nv;simp only[aK]at nv;subst nv;have mU:tf.cells.size=z.length:=by
  have:=(xb qg n bl.length ρ m).2;have:=congrArg kA this;simpa using this.symm
 split at bJ
 ·
  rename_i ail;obtain⟨base,qk⟩:=auh ail hs.1 hs.2;split at bJ
  rotate_left
  ·cases bJ
  rename_i sh _;cases hgd:zV sh i z with
  |false=>simp[hgd]at bJ
  |true=>
  simp only[hgd,cond_true,aK]at bJ;subst bJ;unfold zV at hgd;simp only[aO]at hgd;obtain⟨⟨⟨d1,d2⟩,d3⟩,d4⟩:=hgd;have d2:=bA d2;have d3:=bA d3;have d4:=eE d4;unfold UC at ah;have e0:(aa.const 0).den ρ=0:=aa.aT _ _;obtain⟨ag,n',p,hn,ha,⟨q1,q2,q3,dy,fw,de,iT,lU,rA,sL,mv⟩,ah⟩:=(Zm (P:=P) d1 h.b h.a7 hx.1 hx.2 (aa.cH _ _) (by rw[e0];exact⟨bD _,by have:=oI (l:=[]) (by simp) (by simp);exact pR (fe []) this⟩) (by rw[e0,fN];simp)) G _ ah;rw[e0,fN,jK]at de;rw[e0,fN]at rA;simp only[eF,Nat.zero_add]at rA;have nX:=h.later hn ha;have iu:=hk.later (G1:=G) (⟨hn,ha,aW _,λ_ _=>rfl⟩:cQ n bl.length ρ m n' bl.length ag m) (dJ.refl _ _);rw[<-d2]at mv;have hnone:dy.length=0->(k n' (ey tm o.dst (b8 tm s)) bl).holds S L G ag->o.wp P a w K Q:=λh0 HN=>by
   have jg:dy=[]:=td h0;subst jg;have hv0:fw=[]:=sL;subst hv0;refine Ev _ _ (by rw[qk];exact run_append_nothing w t t' o.type e i (hO El) hi base 0 0 (aW _) _ mv) ?_;refine iu n' ag m _ bl G _ w (cQ.refl _ _ _ _) (dJ.refl _ _) ⟨dq.put nX.t o.dst (cu nX.t s).1 ?_,by rw[put_defers];exact h.d,nX.b,nX.a7⟩ HN;rw[<-qk];exact(cu nX.t s).2
  have hgrow:0<dy.length->(zX e o.dst sh p.1 p.2 n' tm bl k).holds S L G ag->o.wp P a w K Q:=λh0 HN=>by
   have DS:=vr w (0+dy.length) 0 e (by omega);refine Ev _ _ (by rw[qk];exact run_append_grow_src w t t' o.type e i tf (hO El) hi oa base 0 0 [] (Hn _ _ _ _) _ _ _ mv (by omega) (by omega) (growslice_fits (by omega) (by
    have:=aar (show 0+dy.length<=1073741824 by omega) d4;omega))) ?_
   have key:=UN (c:=grownCap w (0+dy.length) 0 e) (cells:=([]++fw).toArray++Ga tf.cells (grownCap w (0+dy.length) 0 e-(0+dy.length))) nX q1 q2 q3 de lU iT (by omega) DS.2 (by
    have:=mv.newsLen;rw[aaO,wC,mU,d3,ta,jK,this,d2,<-uW]
    congr 1;omega) ⟨fw,(Ga tf.cells (grownCap w (0+dy.length) 0 e-(0+dy.length))).toList,by simp,sL.mono (Fr.of w λg hg=>cc.dP h.b ha hg)⟩ HN iu
   simpa using key
  split at ah
  ·rename_i hc0;have:=aa.iO hc0 (ρ:=ag);exact hnone (by omega) ah
  ·rename_i acS hc0 hne;have:=aa.iO hne (ρ:=ag);exact hgrow (by
    have:acS≠0:=λe=>hc0 e;omega) ah
  ·simp only[T.holds,bh.den,aa.aT,decide_eq_true_eq,decide_eq_false_iff_not]at ah;by_cases h0:dy.length=0
   ·exact hnone h0 (ah.1 (by omega))
   ·exact hgrow (by omega) (ah.2 (by omega))
 ·split at bJ
  rotate_left
  ·cases bJ
  rename_i b aM off ro len cap mT;split at bJ
  rotate_left
  ·cases bJ
  rename_i sh dV code cU kind bX hbl;cases hgd:(zV sh i z&&aG kind 2&&aa.beq off (.const 0)&&aa.beq dV (.const 0)&&aa.beq ro (.const 0)&&aa.beq cap cU&&aG bX.1 e)with
  |false=>rw[hgd]at bJ;cases bJ
  |true=>
  rw[hgd]at bJ;simp only[cond_true,aK]at bJ;subst bJ;simp only[aO]at hgd;obtain⟨⟨⟨⟨⟨⟨hgd,k2⟩,b1⟩,b2⟩,b3⟩,b4⟩,p2⟩:=hgd;have p2:=bA p2;have k2:=bA k2;have b1:=aa.beq_eq b1;have b2:=aa.beq_eq b2;have b3:=aa.beq_eq b3;have b4:=aa.beq_eq b4;subst k2;subst b1;subst b2;subst b3;subst b4;unfold zV at hgd;simp only[aO]at hgd;obtain⟨⟨⟨d1,d2⟩,d3⟩,d4⟩:=hgd;have d2:=bA d2;have d3:=bA d3;have d4:=eE d4;obtain⟨D6,ah⟩:=ah;simp only[ct,et,af]at D6;rw[mT]at hs;have ss:(A.sl b aM (.const 0) (.const 0) len cap).ok n bl.length ρ:=hs.1;obtain⟨ptr,e1,e2,e3⟩:=oo (m:=m) ss;have qk:a.eval s=(A.sl b aM (.const 0) (.const 0) len cap).den ρ m:=hs.2;rw[e1]at qk;obtain⟨x1,⟨x2,x3,eT,iG⟩,⟨iW,ox,lq,nN⟩,⟨ov,ow⟩,fE,gT⟩:=ss;rw[aa.aT]at ow;have gR:=h.a7.rws b sh (.const 0) code cap 2 bX hbl (by decide);have e6:(A.rows sh (.const 0) code cap 2).ok n bl.length ρ:=h.b _ (cZ hbl) _ (by simp);obtain⟨⟨r1,r2,r3⟩,fM,cR⟩:=e6;have jh:∀row∈ab (code.den ρ),bO sh row:=λrow hr=>by
   rcases hU (cap.den ρ) 0 with h|h
   ·rw[gR.1 h]at hr;simp at hr
   ·obtain⟨_,cells,gS,fz,_,⟨_,g3⟩,_⟩:=gR.2 h;exact g3.1 row hr
  obtain⟨ag,n',p,hn,ha,⟨q1,q2,q3,dy,fw,de,iT,lU,rA,sL,mv⟩,ah⟩:=(Zm (P:=P) d1 h.b h.a7 hx.1 hx.2 r2 fM jh) G _ ah;rw[<-d2]at mv;generalize k8:ab (code.den ρ)=rows at*;have tV:=h.kill hbl;have nX:=tV.later hn ha;have hb1:=kr bl b ([.rows sh (.const 0) code cap 0],bX);have iu:jO S L w0 k n' (cM bl b ([.rows sh (.const 0) code cap 0],bX)).length ag m G K:=by
   rw[hb1];exact hk.later (⟨hn,ha,aW _,λ_ _=>rfl⟩:cQ n bl.length ρ m n' bl.length ag m) (dJ.refl _ _)
  have HT:(len.add p.2).den ag=(rows++dy).length:=by
   rw[aa.den_add,aa.bG ha eT,iT,D6];simp
  have hall:∀row∈rows++dy,bO sh row:=λrow hr=>(List.mem_append.1 hr).elim (jh row) (lU row);have e8:=mv.newsLen;have HU:(len.den ρ).toNat=rows.length:=by omega
  have gL:cap.den ag=cap.den ρ:=aa.bG ha iG;have At:(len.add p.2).aZ n':=aa.rE (eT.mono hn) q2;have HP:(rows++dy).length=rows.length+dy.length:=dm;have DD:∀ba,cc w0 ρ m bl ba->cc w0 ag m (cM bl b ([.rows sh (.const 0) code cap 0],bX)) ba:=λba h'=>cc.dP (h.kill hbl).b ha (h'.set hbl (by simp[aQ]));by_cases hroom:((rows.length+dy.length:Nat):Int)<=cap.den ρ∨(cap.den ρ<0/\dy.length=0)
  ·by_cases hc0:cap.den ρ<0
   ·
    have jg:dy.length=0:=by rcases hroom with h|h<;>omega
    have jg:dy=[]:=td jg;subst jg;have hv0:fw=[]:=sL;subst hv0;have Oj:rows=[]:=gR.1 hc0;subst Oj;have hl0:=fE hc0;refine Ev _ _ (by rw[qk,e2 hc0,if_pos hc0,hl0];exact run_append_nothing w t t' o.type e i (hO El) hi (lZ (cap.den ρ) (m b)) 0 0 (aW _) _ mv) ?_;have key:=PG (c:=cap.den ρ) (g:=m b) nX q1 At q3 ⟨by omega,by omega⟩ (by rw[HT];exact⟨⟨by omega,by omega,by omega,by omega⟩,⟨by omega,by omega⟩,λh=>by simp,λh=>by omega⟩) (λ_=>by rw[de];rfl) (λh=>by omega) (λh=>by omega) (λ_ _ _ _=> .inr (by omega)) ah iu;rw[if_pos hc0]at key;exact key
   ·
    obtain⟨_,cells,gS,fz,g1,⟨g2,g3⟩,g4⟩:=gR.2 (by omega);obtain⟨g0,g5,g6,g7,g8,g9⟩:=g4 (by decide);subst g0;have g6:=g6.two;subst g6;rw[aa.aT]at g3;obtain⟨_,pre,vs,post,g10,g11,g12⟩:=g3;have hZ:vs.length=rows.length*i.size:=by rw[g12.len,d2]
    have gP:pre=[]:=td (by simpa using g11);subst gP;simp only[jK]at g10;have hsz:cells.size=vs.length+post.length:=by rw[<-wJ,g10,dm]
    have V1:rows.length+dy.length<=(cap.den ρ).toNat:=by rcases hroom with h|h<;>omega
    have sj:rows.length*i.size+fw.length<=cells.size:=by
     rw[e8,g7,<-uW,d2];exact aaP _ V1
    have hrun:=Qh w t t' o.type e i (hO El) hi (m b) rows.length (cap.den ρ).toNat cells bX.1 g1 _ _ _ mv V1 sj;have ahX:a.eval s= .slice (some ⟨m b,0,none⟩) rows.length (cap.den ρ).toNat:=by
     rw[qk,e3 (by omega),if_neg hc0,HU,aa.aT];simp
    refine Ev _ _ (by rw[ahX];exact hrun) ?_;have ix:(cells.toList.take (rows.length*i.size)++fw++cells.toList.drop (rows.length*i.size+fw.length))=(vs++fw)++cells.toList.drop (rows.length*i.size+fw.length):=by
     rw[g10,F2 (by omega),<-hZ,J9]
    rw[ix];have HW:=h.a7.put (kd:=2) (cells:=cells) (fz:=(0,0)) (code':=code) (by decide) hbl (by omega) (row:=((vs++fw)++cells.toList.drop (rows.length*i.size+fw.length)).toArray) (λ_=>⟨λh=>by omega,λ_=>⟨g9.elim .inl λh=> .inr (.inr h),_,_,(0,0),F7 w (m b) _ _ _ _ g1,⟨g2,by
     rw[k8,aa.aT];exact⟨jh,[],vs,fw++cells.toList.drop (rows.length*i.size+fw.length),by simp,rfl,g12.mono (cc.pn hbl (by rw[iz (by decide) (by omega)];exact aW 2))⟩⟩,λ_=>⟨rfl,g5,.ER,by
     rw[<-g7];simp only[ta,dm,qC,wJ];omega,g8,g9⟩⟩⟩)
    have ahV:cM bl b ([.rows sh (.const 0) code cap 2],bX)=bl:=by
     rw[iE];exact aaQ λj=>by
      rw[oC];split
      ·rename_i hj;subst hj
       first|exact hbl.symm|(rw[if_pos (List.getElem?_eq_some_iff.1 hbl).1];exact hbl.symm)
      ·rfl
    rw[ahV]at HW;have tM:R w0 n ρ m tm bl a (w.setRow (m b) ((vs++fw)++cells.toList.drop (rows.length*i.size+fw.length)).toArray):=⟨h.t,h.d,h.b,HW⟩;have afg:=(tM.kill hbl).later hn ha;have DZ:Fr (cc w0 ρ m bl) w (λba=>cc w0 ag m (cM bl b ([A.rows sh (.const 0) code cap 0],bX)) ba/\ba≠m b) (w.setRow (m b) (vs++fw++cells.toList.drop (rows.length*i.size+fw.length)).toArray):=λba h' o ho=>by
     have hne:m b≠ba:=h'.2 b _ hbl (by rw[iz (by decide) (by omega)];exact aW 2);exact⟨⟨DD ba h',λe=>hne e.symm⟩,by rw[za w (m b) ba _ (by first|exact hne|exactλe=>hne e.symm)];exact ho⟩
    have key:=PG (e:=e) (d:=o.dst) (c:=cap.den ρ) (g:=m b) afg q1 At q3 ⟨by omega,by omega⟩ (by rw[HT,HP];exact⟨⟨by omega,by omega,by omega,by omega⟩,⟨by omega,by omega⟩,λh=>by omega,λh=>by omega⟩) (λh=>by omega)
     (λ_=>⟨_,by rw[<-p2];exact F7 w (m b) _ _ _ _ g1,by
       rw[de];refine⟨hall,[],vs++fw,cells.toList.drop (rows.length*i.size+fw.length),by simp,rfl,Qf (g12.mono DZ) (sL.mono DZ)⟩,by
       rw[<-g7];simp only[ta,dm,qC,wJ];omega,g8,g9⟩) (λ_=>((tM.a7.S2 hbl (by decide) (by omega)).dP (tM.kill hbl).b ha)) (λj q hj he=>by
       by_cases D5:j=b
       ·subst D5;rw[iE,aas (List.getElem?_eq_some_iff.1 hbl).1]at hj;simp only[aK]at hj;subst hj;exact .inl (by simp[aQ])
       ·rw[iE,Ro (λe=>D5 e.symm)]at hj;have iw:aQ ρ [A.rows sh (.const 0) code cap 2]=2:=iz (by decide) (by omega);have ahc:aQ ρ q.1=0:=by
         rcases h.a7.inj j b q _ hj hbl he with bb|bb|bb|bb
         ·exact absurd bb D5
         ·have:=bb.2;simp only[iw]at this;omega
         ·exact bb
         ·simp only[iw]at bb;omega
        exact .inl (by rw[mq (h.b _ (cZ hj)) ha];exact ahc)) ah iu
    rw[if_neg hc0,HT,HP,eZ]at key;exact key
  ·
   have HM:(if cap.den ρ<0 then 0 else(cap.den ρ).toNat)<rows.length+dy.length:=by
    split
    ·rename_i hc;have:¬dy.length=0:=λe=>hroom (.inr ⟨hc,e⟩);omega
    ·omega
   have hold:∃vs,eH (cc w0 ρ m bl) w sh rows vs/\(zb i.size rows.length (.slice ptr rows.length (if cap.den ρ<0 then 0 else(cap.den ρ).toNat))).run P w.drew= .ok vs.toArray w.drew:=by
    by_cases hc:cap.den ρ<0
    ·have Oj:rows=[]:=gR.1 hc;subst Oj;exact⟨[],rfl,Hn _ _ _ _⟩
    ·obtain⟨_,cells,gS,fz,g1,⟨g2,g3⟩,g4⟩:=gR.2 (by omega);obtain⟨vs,kn,ah7⟩:=g3.vs;refine⟨vs,kn,?_⟩;rw[e3 (by omega)];refine run_firstCells_some w.drew i.size rows.length _ rows.length _ vs (by rw[kn.len,d2]) λj v hv=>?_;rw[jw,aa.aT];have:=ah7 j v hv;rw[aa.aT]at this;have kH:w.drew.heap[m b]?=some (.cells cells gS fz):=g1;simp only[jL,kH,rL,pU,if_false];simpa using this
   obtain⟨vs,kn,hold⟩:=hold;have hZ:vs.length=rows.length*i.size:=by rw[kn.len,d2]
   have DS:=vr w (rows.length+dy.length) (if cap.den ρ<0 then 0 else(cap.den ρ).toNat) e rA;refine Ev _ _ (by rw[qk,HU];exact run_append_grow_src w t t' o.type e i tf (hO El) hi oa ptr rows.length _ vs hold _ _ _ mv HM (by omega) (growslice_fits HM (by
    have:=aar rA d4;omega))) ?_
   have key:=UN (e:=e) (d:=o.dst) (c:=grownCap w (rows.length+dy.length) (if cap.den ρ<0 then 0 else(cap.den ρ).toNat) e) (cells:=(vs++fw).toArray++Ga tf.cells (grownCap w (rows.length+dy.length) (if cap.den ρ<0 then 0 else(cap.den ρ).toNat) e-(rows.length+dy.length))) nX q1 At q3 de hall HT (by rw[HP];exact DS.1) DS.2 (by
    rw[aaO,wC,mU,d3,ta,dm,hZ,e8,<-uW,d2,<-uW]
    congr 1;omega) ⟨vs++fw,(Ga tf.cells (grownCap w (rows.length+dy.length) (if cap.den ρ<0 then 0 else(cap.den ρ).toNat) e-(rows.length+dy.length))).toList,by simp,Qf (kn.mono (Fr.of w DD)) (sL.mono (Fr.of w DD))⟩ ah iu
   rw[HP]at key;exact key
theorem Mem.low {ρ:Env} {m:Nat->Nat} {bl:List ao} {w:ai} {b k:Nat} {sh:List ay} {off code cap:aa} {t:aS×Bool} (h:Mem w0 ρ m bl w) (hbl:bl[b]?=some ([.rows sh off code cap (k+1)],t)):Mem w0 ρ m (cM bl b ([.rows sh off code cap 1],t)) w:=by
 have mO:b<bl.length:=(List.getElem?_eq_some_iff.1 hbl).1;have dc:∀(i:Nat) (p:ao),(cM bl b ([.rows sh off code cap 1],t))[i]?=some p->(i=b/\p=([.rows sh off code cap 1],t))∨(i≠b/\bl[i]?=some p):=λi p hi=>by
  rw[iE,oC]at hi;split at hi
  ·rename_i eG;subst eG;simp only[mO,if_true,aK]at hi;exact .inl ⟨rfl,hi.symm⟩
  ·rename_i eG;exact .inr ⟨λe=>eG e.symm,hi⟩
 have hk:∀(i:Nat) (p:ao),(cM bl b ([.rows sh off code cap 1],t))[i]?=some p->∃p',bl[i]?=some p'/\aQ ρ p.1<=aQ ρ p'.1/\(aQ ρ p'.1≠0->True):=λi p hi=>by
  rcases dc i p hi with⟨rfl,rfl⟩|⟨hne,hi⟩
  ·refine⟨_,hbl,?_,λ_=>trivial⟩;simp only[aQ];split<;>omega
  ·exact⟨p,hi,aW _,λ_=>trivial⟩
 have iv:2<=aQ ρ [A.rows sh off code cap 1]->2<=aQ ρ [A.rows sh off code cap (k+1)]:=λh2=>by
  simp only[aQ]at h2;split at h2<;>omega
 refine⟨h.ext,h.jf,h.ji,h.iy,h.ew,h.gg,λi jb t' hi ho=>?_,λi cP dV code' dT eW t' hi=>?_,λi j p q hi hj he=>?_⟩
 ·rcases dc i _ hi with⟨rfl,cL⟩|⟨hne,hi⟩
  ·cases cL;cases ho
  ·exact h.blk i jb t' hi ho
 ·rcases dc i _ hi with⟨rfl,cL⟩|⟨hne,hi⟩
  ·cases cL;intro _;obtain⟨g1,g2⟩:=h.rws i _ _ _ _ (k+1) _ hbl (by omega);refine⟨g1,λhc=>?_⟩;obtain⟨g3,cells,gS,fz,g4,⟨g5,g6⟩,_⟩:=g2 hc;exact⟨g3,cells,gS,fz,g4,⟨g5,g6.mono (Fr.of w λba h'=>h'.set hbl iv)⟩,λh2=>by omega⟩
  ·exact(h.rws i cP dV _ dT eW t' hi).mono λba h'=>h'.set hbl iv
 ·obtain⟨p',h1,h2,_⟩:=hk i p hi;obtain⟨q',h3,h4,_⟩:=hk j q hj;rcases h.inj i j p' q' h1 h3 he with h5|h5|h5|h5
  ·exact .inl h5
  ·exact .inr (.inl ⟨by omega,by omega⟩)
  ·exact .inr (.inr (.inl (by omega)))
  ·exact .inr (.inr (.inr (by omega)))
theorem R.low {tm:List V} {a:Act} {w:ai} {b k:Nat} {sh:List ay} {off code cap:aa} {t:aS×Bool} (h:R w0 n ρ m tm bl a w) (hbl:bl[b]?=some ([.rows sh off code cap (k+1)],t)):R w0 n ρ m tm (cM bl b ([.rows sh off code cap 1],t)) a w:=
 ⟨by rw[kr];exact h.t,h.d,h.b.set (λy hy=>by
  simp at hy;subst hy;exact h.b _ (cZ hbl) (.rows sh off code cap (k+1)) (by simp)),h.a7.low hbl⟩
theorem Xr {tm:List V} {a:Act} {w:ai} (h:R w0 n ρ m tm bl a w) (x:A):R w0 n ρ m tm (EM bl x) a w/\(EM bl x).length=bl.length:=by
 unfold EM;split
 ·split
  ·rename_i hbl;exact⟨h.low (k:=1) hbl,by rw[kr]⟩
  ·exact⟨h,rfl⟩
 ·exact⟨h,rfl⟩
theorem Pk {tm:List V} {a:Act} {w:ai}:∀(l:List A) {bl:List ao},R w0 n ρ m tm bl a w->R w0 n ρ m tm (vR bl l) a w/\(vR bl l).length=bl.length
 |[],bl,h=>⟨h,rfl⟩
 |x::r,bl,h=>by
  obtain⟨h1,h2⟩:=Xr h x;obtain⟨h3,h4⟩:=Pk r h1;exact⟨h3,h4.trans h2⟩
theorem akA {tm:List V} {a:Act} {w:ai} (h:R w0 n ρ m tm bl a w) (x:V):R w0 n ρ m tm (IG bl x) a w/\(IG bl x).length=bl.length:=by
 unfold IG;split
 ·split
  ·exact Pk _ h
  ·exact⟨h,rfl⟩
 ·exact⟨h,rfl⟩
theorem aqr {tm:List V} {a:Act} {w:ai} {G:df} {o:Oper} {K:Act->ai->Prop} {Q:Exit->Act->ai->Prop} {k:fy} {qI:T}
 (h:R w0 n ρ m tm bl a w) (bJ:QF P o n tm bl k=some qI) (ah:qI.holds S L G ρ) (hk:jO S L w0 k n bl.length ρ m G K):o.wp P a w K Q:=by
 unfold QF at bJ;split at bJ
 ·rename_i c ho;split at bJ
  ·rename_i hc;split at bJ
   ·rename_i s x t t' gE pA;obtain⟨h',hlen⟩:=akA h (b8 tm x);exact ab5 h' ho hc gE pA bJ ah (by rw[hlen];exact hk)
   ·cases bJ
  ·cases bJ
 ·cases bJ
end
end Go.bg
namespace Go.bg
open M
theorem Fj:∀{s1 s2:List ay} {l1 l2:List Int},l1.length=s1.length->dp (s1++s2) (l1++l2)=dp s1 l1++dp s2 l2
 |[],_,[],_,_=>rfl
 |c::s1,s2,z::l1,l2,h=>by
  simp only[s9,dp,Fj (s1:=s1) (s2:=s2) (l1:=l1) (l2:=l2) (by simpa using h)]
 |[],_,_::_,_,h=>by simp at h
 |_::_,_,[],_,h=>by simp at h
theorem CE:∀{s1 s2:List ay} {l1 l2:List Int},l1.length=s1.length->(bO (s1++s2) (l1++l2)↔bO s1 l1/\bO s2 l2)
 |[],_,[],_,_=>by simp[bO]
 |c::s1,s2,z::l1,l2,h=>by
  simp only[s9,bO,CE (s1:=s1) (s2:=s2) (l1:=l1) (l2:=l2) (by simpa using h),and_assoc]
 |[],_,_::_,_,h=>by simp at h
 |_::_,_,[],_,h=>by simp at h
theorem YG {sh:List ay} {row ls:List Int} {j s:Nat} (h:bO sh row) (hl:bO ((sh.drop j).take s) ls) (hj:j+s<=sh.length):
 bO sh (row.take j++ls++row.drop (j+ls.length))/\dp sh (row.take j++ls++row.drop (j+ls.length))=(dp sh row).take j++dp ((sh.drop j).take s) ls++(dp sh row).drop (j+s):=by
 have hlen:=h.len;have D9:ls.length=s:=by rw[hl.len];simp;omega
 have e:sh=sh.take j++((sh.drop j).take s++sh.drop (j+s)):=by
  rw[<-Cq,ju,ju]
 have tE:row=row.take j++((row.drop j).take s++row.drop (j+s)):=by
  rw[<-Cq,ju,ju]
 have l1:(row.take j).length=(sh.take j).length:=by simp[hlen]
 have l2:((row.drop j).take s).length=((sh.drop j).take s).length:=by simp[hlen]
 have l3:ls.length=((sh.drop j).take s).length:=hl.len;have h0:bO (sh.take j++((sh.drop j).take s++sh.drop (j+s))) (row.take j++((row.drop j).take s++row.drop (j+s))):=by rw[<-e,<-tE];exact h
 rw[CE l1,CE l2]at h0;have hv:dp sh row=dp (sh.take j) (row.take j)++(dp ((sh.drop j).take s) ((row.drop j).take s)++dp (sh.drop (j+s)) (row.drop (j+s))):=by
  conv=>lhs;rw[e,tE]
  rw[Fj l1,Fj l2]
 have k1:(dp (sh.take j) (row.take j)).length=j:=by rw[Fk h0.1];simp;omega
 have k2:(dp ((sh.drop j).take s) ((row.drop j).take s)).length=s:=by rw[Fk h0.2.1];simp;omega
 rw[D9];refine⟨?_,?_⟩
 ·rw[gJ]
  conv=>lhs;rw[e]
  rw[CE l1,CE l3];exact⟨h0.1,hl,h0.2.2⟩
 ·rw[gJ]
  conv=>lhs;rw[e]
  have ht:(dp sh row).take j=dp (sh.take j) (row.take j):=by rw[hv];exact List.take_left' k1
  have hd:(dp sh row).drop (j+s)=dp (sh.drop (j+s)) (row.drop (j+s)):=by
   rw[hv,<-gJ];exact List.drop_left' (by rw[dm,k1,k2])
  rw[Fj l1,Fj l3,ht,hd,gJ]
theorem Qa {F:Nat->Prop} {w:ai}:∀{s1 s2:List ay} {l1 l2:List Int} {v1 v2:List aA},dX F w s1 l1 v1->dX F w s2 l2 v2->dX F w (s1++s2) (l1++l2) (v1++v2)
 |[],_,[],_,[],_,_,h=>h
 |c::s1,s2,z::l1,l2,v::v1,v2,h1,h2=>⟨h1.1,Qa h1.2 h2⟩
 |[],_,_::_,_,_,_,h,_=>h.elim
 |[],_,[],_,_::_,_,h,_=>h.elim
 |_::_,_,[],_,_,_,h,_=>h.elim
 |_::_,_,_::_,_,[],_,h,_=>h.elim
theorem dX.split {F:Nat->Prop} {w:ai}:∀(j:Nat) {sh:List ay} {row:List Int} {vs:List aA},dX F w sh row vs->dX F w (sh.take j) (row.take j) (vs.take j)/\dX F w (sh.drop j) (row.drop j) (vs.drop j)
 |0,sh,row,vs,h=>⟨trivial,h⟩
 |j+1,[],[],[],h=>⟨trivial,trivial⟩
 |j+1,c::sh,z::r,v::vs,h=>⟨⟨h.1,(dX.split j h.2).1⟩,(dX.split j h.2).2⟩
 |_+1,[],_::_,_,h=>h.elim
 |_+1,[],[],_::_,h=>h.elim
 |_+1,_::_,[],_,h=>h.elim
 |_+1,_::_,_::_,[],h=>h.elim
theorem dX.Xi {F:Nat->Prop} {w:ai}:∀{sh:List ay} {row:List Int} {vs:List aA},dX F w sh row vs->row.length=sh.length
 |[],[],[],_=>rfl
 |c::sh,z::r,v::vs,h=>by simp[dX.Xi h.2]
 |[],_::_,_,h=>h.elim
 |[],[],_::_,h=>h.elim
 |_::_,[],_,h=>h.elim
 |_::_,_::_,[],h=>h.elim
theorem apy {F:Nat->Prop} {w:ai} {sh:List ay} {row ls:List Int} {vs us:List aA} {j s:Nat} (h:dX F w sh row vs) (hl:dX F w ((sh.drop j).take s) ls us) (hj:j+s<=sh.length):dX F w sh (row.take j++ls++row.drop (j+ls.length)) (vs.take j++us++vs.drop (j+us.length)):=by
 have e:sh=sh.take j++(sh.drop j).take s++sh.drop (j+s):=by
  rw[gJ,<-Cq,ju,ju]
 have hs:((sh.drop j).take s).length=s:=by simp;omega
 have h1:=hl.Xi;have h2:=hl.len;rw[hs]at h1 h2;rw[h1,h2];have key:=Qa (Qa (h.split j).1 hl) (h.split (j+s)).2;rw[<-e]at key;exact key
theorem eH.cut {F:Nat->Prop} {w:ai} {sh:List ay}:∀{rows:List (List Int)} {vs:List aA} {i:Nat} {row:List Int},eH F w sh rows vs->rows[i]?=some row->∃A B C,vs=A++(B++C)/\A.length=i*sh.length/\dX F w sh row B/\∀wc rQ,dX F w sh wc rQ->eH F w sh (rows.set i wc) (A++(rQ++C))
 |r::rs,vs,0,row,h,hi=>by
  simp only[nd,aK]at hi;subst hi;obtain⟨a,b,rfl,h2,h3⟩:=h;exact⟨[],a,b,rfl,by simp,h2,λwc rQ h'=>⟨rQ,b,rfl,h',h3⟩⟩
 |r::rs,vs,i+1,row,h,hi=>by
  obtain⟨a,b,rfl,h2,h3⟩:=h;obtain⟨A,B,C,rfl,k1,k2,k3⟩:=eH.cut (i:=i) h3 (by simpa using hi);exact⟨a++A,B,C,by simp,by rw[dm,h2.len,k1,rK,Nat.add_comm],k2,λwc rQ h'=>⟨a,A++(rQ++C),by simp,h2,k3 wc rQ h'⟩⟩
 |[],_,_,_,_,hi=>by simp at hi
theorem Qk {P:bk} (g o:Nat) (t:aS) (fz:Nat×Nat) (kd:Nat):∀(vs:List aA) (i:Nat) (cur:Array aA) (w:ai),ti kd fz cur.size->w.heap[g]?=some (.cells cur t fz)->o+i+vs.length<=cur.size->(∀v∈vs,v.oneCell'=true)->
 (storeCells ⟨g,o,none⟩ vs i).run P w= .ok () (w.setRow g (cur.toList.take (o+i)++vs++cur.toList.drop (o+i+vs.length)).toArray)
 |[],i,cur,w,_,hg,_,_=>by
  simp only[storeCells,lr,eF,lu,ju,l6];rw[setRow_self w g cur t fz hg];rfl
 |v::rest,i,cur,w,HL,hg,hl,h1=>by
  have hi:o+i<cur.size:=by simp at hl;omega
  have hcell:w.cell? ⟨g,o+i,none⟩=some cur[o+i]:=by simp[jL,hg,hi]
  have agW:w.frozen? ⟨g,o+i,none⟩=false:=by
   rcases HL with⟨_,rfl⟩|⟨_,rfl⟩
   ·simp[s6,hg]
   ·simp[s6,hg];omega
  have hst:(store ((⟨g,o,none⟩:Addr).add i) v).run P w= .ok () (w.setRow g (cur.setIfInBounds (o+i) v)):=by
   rw[jw,run_store P w _ v _ (h1 v (by simp)),hcell];simp[agW,setCell_eq_setRow w g (o+i) cur t fz v hg]
  have ih:=Qk (P:=P) g o t fz kd rest (i+1) (cur.setIfInBounds (o+i) v) (w.setRow g (cur.setIfInBounds (o+i) v)) (by simpa using HL) (F7 w g cur _ t _ hg) (by simp at hl⊢;omega) (λx hx=>h1 x (by simp[hx]));simp only[storeCells,gm,hst,gz,ih,setRow_setRow]
  congr 3
  have e:=list_seg_step cur.toList (o+i) v rest (by simp at hl⊢;omega);simpa [Array.toList_setIfInBounds,Nat.add_assoc]using e
section
variable {S:Nat->List Int->List Int->Prop} {L:V->Env->Prop} {n:Nat} {ρ:Env} {m:Nat->Nat} {bl:List ao} {gl:dA} {w0:cN} {P:bk}
theorem WM {tm:List V} {a:Act} (h:dq n bl.length ρ m tm a.tmps) {x:Operand} {l:aa} (hl:mX (b8 tm x)=some l):∃k,a.eval x= .int k (l.den ρ)/\l.aZ n:=by
 have hx:=cu h x;unfold mX at hl;split at hl
 ·rename_i k ye hv;simp only[aK]at hl;subst hl;rw[hv]at hx;exact⟨k,hx.2,hx.1.1⟩
 ·cases hl
theorem TV:∀(n t:Nat) (acc:Array aA),∃l:List (List Int),l.length=n/\(∀r∈l,bO jx r)/\(te n t acc).toList=acc.toList++bm jx l
 |0,_,_=>⟨[],rfl,by simp,by simp[te,bm]⟩
 |n+1,t,acc=>by
  obtain⟨l,h1,h2,h3⟩:=TV n (t/256) (acc.push (.int .u8 (Int.ofNat (t% 256))));refine⟨[((t% 256:Nat):Int)]::l,by simp[h1],λr hr=>?_,?_⟩
  ·rcases List.mem_cons.1 hr with rfl|hr
   ·exact⟨⟨by simp only[ay.dS];omega,by simp only[ay.dS];omega⟩,trivial⟩
   ·exact h2 r hr
  ·rw[te,h3];simp[bm,jx,dp,ay.val]
theorem apN {P:bk} (w:ai) (ps:Array aS) (t e:aS) (ht:P.underlying t=some (.slice e)) (n:Nat) (hn:n<=281474976710656):
 ∃(c d:Nat),(RB ps #[t] #[.int .i64 n]).run P w= .ok (.slice (some ⟨w.heap.size,0,none⟩) n c) (w.drew.drew.alloc (.cells (te c d #[]) e))/\n<=c/\(n<=maxLen->c<=maxLen):=by
 have DT:RB ps #[t] #[.int .i64 n]=
  (do
    let .slice elem<-underlying t|stuck "bytealg.MakeNoZero: slice type expected"
    if(n:Int)<0||(n:Int)>2^48 then runtimePanic (.error "makeslice: len out of range")
    let cap<-choose (.appendCap (n:Int).toNat 0 elem)
    askRoom cap
    let bytes<-choose (.extern "internal/bytealg.MakeNoZero.bytes" 0);let a<-newRow elem (te cap bytes #[])
    pure (.slice (some a) (n:Int).toNat cap)):=rfl
 have h1:¬(n:Int)<0:=by omega
 have h2:¬(281474976710656:Int)<(n:Int):=by omega
 exact⟨grownCap w n 0 e,_,by
  rw[DT];simp[fh ht,h1,h2,Question.forced,newRow,grownCap];rfl,by simpa using grownCap_ge w n 0 e,λhm=>by simpa using grownCap_le_maxLen w n 0 e hm⟩
theorem ad6 {fn:Func} (h:Im fn=true):fn.body.isNone=true/\(fn.name== "runtime.NumGoroutine")=false/\aaR fn=none/\aaS fn=some (RB fn.params fn.resultTypes):=by
 unfold Im at h;simp only[aO,beq_iff_eq]at h;obtain⟨⟨h1,h2⟩,h3⟩:=h;have g1:Extern.allNextRows.lookup "internal/bytealg.MakeNoZero" =none:=by kernel_rfl
 have g2:Extern.allNextRows.lookup "" =none:=by kernel_rfl
 have g3:Extern.allGenericRows.lookup "internal/bytealg.MakeNoZero" =none:=by kernel_rfl
 have g4:Extern.allTypedRows.lookup "internal/bytealg.MakeNoZero" =some RB:=by kernel_rfl
 refine⟨h2,by rw[h1];decide,?_,?_⟩
 ·unfold aaR;simp only[h1,h3,g1,g2];rfl
 ·unfold aaS;simp only[h1,g3,g4];rfl
theorem aqt {tm:List V} {a:Act} {w:ai} {G:df} {o:Oper} {K:Act->ai->Prop} {Q:Exit->Act->ai->Prop} {k:fy} {qI:T}
 (h:R w0 n ρ m tm bl a w) (bJ:uB P o n tm bl k=some qI) (ah:qI.holds S L G ρ) (hk:jO S L w0 k n bl.length ρ m G K):o.wp P a w K Q:=by
 unfold uB at bJ;split at bJ
 ·rename_i t p x ho;have hp:=cu h.t p;have hx:=cu h.t x;split at bJ
  ·rename_i b aM cm i j u Og Ey;rw[Og]at hp;rw[Ey]at hx;obtain⟨h,ahi⟩:=Pk u.cells h;rw[<-ahi]at hp hx hk;generalize awG:vR bl u.cells=bl at*;split at bJ
   ·rename_i sh off code cap kind bX s hbl hs;cases hc:(bC 2 kind&&aG aM sh.length&&aa.beq cm off&&aG u.cells.length s&&b6 0 s&&bC (j+s) sh.length&&ln sh)with
    |false=>rw[hc]at bJ;cases bJ
    |true=>
     rw[hc]at bJ;simp only[cond_true,aK]at bJ;subst bJ;simp only[aO]at hc;obtain⟨⟨⟨⟨⟨⟨c1,c2⟩,c3⟩,c4⟩,c5⟩,fi⟩,ke⟩:=hc;have c1:=eE c1;have c2:=bA c2;have c3:=aa.beq_eq c3;have c4:=bA c4;have c5:=tr c5;have fi:=eE fi
     subst c2;subst c3;subst c4;have Oe:a.eval p= .pointer (some ⟨m b,(cm.den ρ).toNat+(i.den ρ).toNat*sh.length+j,none⟩):=hp.2;have dt:a.eval x=u.den ρ m:=hx.2;have ahF:(A.ep b sh.length cm i j).ok n bl.length ρ:=hp.1;have e6:(A.rows sh cm code cap kind).ok n bl.length ρ:=h.b _ (cZ hbl) _ (by simp);have hcs:ar S L (bind (fj 21 [code,i]) λ_=>bind (zu 67 [code,i,.const sh.length]) λ_=>bind (Fh bl ((sh.drop j).take u.cells.length) u.cells) λls=>bind (eB 42 (code::i:: .const j::ls) 0 ch) λcode'=>pure code') n ρ λag n' code'=>code'.aZ n'/\(0<=code'.den ag/\code'.den ag<=ch)/\(0<=i.den ρ/\i.den ρ<(ab (code.den ρ)).length)/\
      ∃ls:List Int,bO ((sh.drop j).take u.cells.length) ls/\dX (cc w0 ρ m bl) w ((sh.drop j).take u.cells.length) ls (u.cells.map (A.den ρ m))/\
       ab (code'.den ag)=(ab (code.den ρ)).set (i.den ρ).toNat (((ab (code.den ρ)).getD (i.den ρ).toNat []).take j++ls++((ab (code.den ρ)).getD (i.den ρ).toNat []).drop (j+ls.length)):=by
      refine gD λiv=>?_;have iv:0<=i.den ρ/\i.den ρ<(ab (code.den ρ)).length:=iv;have hlt:(i.den ρ).toNat<(ab (code.den ρ)).length:=by omega
      have cK:0<=cap.den ρ:=by
       rcases hU (cap.den ρ) 0 with iP|iP
       ·have:=(h.a7.rws b sh cm code cap kind bX hbl (by omega)).1 iP;rw[this]at hlt;simp at hlt
       ·exact iP
      obtain⟨_,cells,gS,fz,q1,⟨q2,q3⟩,de⟩:=(h.a7.rws b sh cm code cap kind bX hbl (by omega)).2 cK;have oV:(ab (code.den ρ)).getD (i.den ρ).toNat []=(ab (code.den ρ))[(i.den ρ).toNat]:=by simp[aB,hlt]
      have hrow:bO sh ((ab (code.den ρ)).getD (i.den ρ).toNat []):=by rw[oV];exact q3.1 _ (Cs hlt)
      refine(GM (op:=67) (ls:=[code,i,.const sh.length]) (by simp only[ct,et,af,aa.aT,eZ];exact hrow.len)).bind λbY n0 _ _ _ ⟨x9,n4⟩=>?_;have x9:=x9.symm;have n4:=n4.symm
      subst x9;subst n4;refine(P5 h.b h.a7 (λy hy=>W.zG hx.1 y hy)).bind λaD n1 ls fl dM ⟨g1,g2,g3⟩=>?_;have hf:aw 42 ((code::i::aa.const j::ls).map (·.den aD))=rc ((ab (code.den ρ)).set (i.den ρ).toNat (((ab (code.den ρ)).getD (i.den ρ).toNat []).take j++ls.map (·.den aD)++((ab (code.den ρ)).getD (i.den ρ).toNat []).drop (j+(ls.map (·.den aD)).length))):=by
       simp only[ct,aw,aa.aT,eZ,aa.bG dM e6.1.2.1,aa.bG dM ahF.2.1.2]
      have hput:=YG hrow g2 fi;have k8:∀r∈(ab (code.den ρ)).set (i.den ρ).toNat (((ab (code.den ρ)).getD (i.den ρ).toNat []).take j++ls.map (·.den aD)++((ab (code.den ρ)).getD (i.den ρ).toNat []).drop (j+(ls.map (·.den aD)).length)),bO sh r:=λr hr=>by
       rcases Cu hr with hr|hr
       ·exact q3.1 r hr
       ·subst hr;exact hput.1
      have gO:0<sh.length:=by omega
      have hlen:(ab (code.den ρ)).length<=maxLen:=by
       have yC:=q3;obtain⟨_,pre,vs,post,p1,bo,bU⟩:=yC;have h4:=congrArg kA p1;simp only[dm,bU.len,wJ]at h4;obtain⟨_,_,_,h5,_⟩:=de c1;rw[h5]at h4;have h6:(ab (code.den ρ)).length*sh.length<=(cap.den ρ).toNat*sh.length:=by omega
       have h7:=au8 h6 gO;have:=e6.2.2.2;unfold maxLen;omega
      have dQ:=oI (l:=(ab (code.den ρ)).set (i.den ρ).toNat (((ab (code.den ρ)).getD (i.den ρ).toNat []).take j++ls.map (·.den aD)++((ab (code.den ρ)).getD (i.den ρ).toNat []).drop (j+(ls.map (·.den aD)).length))) (by simpa using hlen) λr hr=>(k8 r hr).row ke;refine(gf (by rw[hf];exact fe _) (by rw[hf];exact dQ)).bind λbp n2 code' ee db ⟨k1,k2⟩=>ar.pure ?_;rw[hf]at k2;exact⟨k1,by rw[k2];exact⟨fe _,dQ⟩,iv,ls.map (·.den aD),g2,g3,by rw[k2,dv]⟩
     obtain⟨ag,n',code',hn,ha,⟨g1,g2,g3,ls,g4,g5,g6⟩,ah⟩:=hcs G _ ah;have hR:=h.later hn ha;have hlt:(i.den ρ).toNat<(ab (code.den ρ)).length:=by omega
     have cK:0<=cap.den ρ:=by
      rcases hU (cap.den ρ) 0 with iP|iP
      ·have:=(h.a7.rws b sh cm code cap kind bX hbl (by omega)).1 iP;rw[this]at hlt;simp at hlt
      ·exact iP
     obtain⟨q0,cells,gS,fz,q1,⟨q2,q3⟩,de⟩:=(h.a7.rws b sh cm code cap kind bX hbl (by omega)).2 cK;obtain⟨r0,r1,r2,r3,fM,cR⟩:=de c1;subst r0;obtain⟨yD,pre,vs,post,BH,E1,Yk⟩:=q3;have Oi:(ab (code.den ρ))[(i.den ρ).toNat]?=some ((ab (code.den ρ)).getD (i.den ρ).toNat []):=by simp[aB,hlt]
     generalize aw3:(ab (code.den ρ)).getD (i.den ρ).toNat []=row at g6 Oi;have Az:=yD row (cZ Oi);have p1:=(YG Az g4 fi).1;obtain⟨pW,uZ,wO,rfl,ae,z2,z3⟩:=Yk.cut Oi;have bo:=z3 _ _ (apy z2 g5 fi);rw[<-g6]at bo;have ah9:u.cells.length=(u.cells.map (A.den ρ m)).length:=by simp
     have Vm:cells.toList=(pre++pW)++(uZ++(wO++post)):=by
      rw[BH];simp only[gJ]
     have hA:(pre++pW).length=(cm.den ρ).toNat+(i.den ρ).toNat*sh.length:=by
      rw[dm,E1,ae]
     have hB:=z2.len;have agS:(cm.den ρ).toNat+(i.den ρ).toNat*sh.length+j+0+(u.cells.map (A.den ρ m)).length<=cells.size:=by
      have:=congrArg kA Vm;simp only[dm,wJ,hB]at this hA;simp;omega
     have hst:=Qk (P:=P) (m b) ((cm.den ρ).toNat+(i.den ρ).toNat*sh.length+j) _ fz kind (u.cells.map (A.den ρ m)) 0 cells w r2 q1 agS (λv hv=>by
      obtain⟨y,hy,rfl⟩:=List.mem_map.1 hv;exact A.IZ (W.zG hx.1 y hy))
     simp only[lu]at hst;have ix:cells.toList.take ((cm.den ρ).toNat+(i.den ρ).toNat*sh.length+j)++u.cells.map (A.den ρ m)++cells.toList.drop ((cm.den ρ).toNat+(i.den ρ).toNat*sh.length+j+(u.cells.map (A.den ρ m)).length)=pre++(pW++((uZ.take j++u.cells.map (A.den ρ m)++uZ.drop (j+(u.cells.map (A.den ρ m)).length))++wO))++post:=by
      rw[Vm,<-hA];rw[List.take_append,ky (by omega),Nat.add_sub_cancel_left,F2 (by omega)];rw[List.drop_append,List.drop_of_length_le (by omega),jK];rw[show(pre++pW).length+j+(u.cells.map (A.den ρ m)).length-(pre++pW).length=j+(u.cells.map (A.den ρ m)).length by omega];rw[au1 (by simp;omega)];simp only[gJ]
     generalize awD:pW++((uZ.take j++u.cells.map (A.den ρ m)++uZ.drop (j+(u.cells.map (A.den ρ m)).length))++wO)=JO at ix bo;rw[ix]at hst;have ahR:∀r∈ab (code'.den ag),bO sh r:=λr hr=>by
      rw[g6]at hr;rcases Cu hr with hr|hr
      ·exact yD r hr
      ·subst hr;exact p1
     have sq:(ab (code'.den ag)).length=(ab (code.den ρ)).length:=by rw[g6];simp
     have hsz:(pre++JO++post).length=cells.size:=by
      have e1:=congrArg kA BH;have e2:=bo.len;have e3:=Yk.len;rw[sq]at e2;simp only[dm,wJ]at e1 e3⊢;omega
     have d1:cap.den ag=cap.den ρ:=aa.bG ha e6.1.2.2;have d2:cm.den ag=cm.den ρ:=aa.bG ha e6.1.1;have HW:=hR.a7.put (kd:=kind) (cells:=cells) (fz:=fz) (code':=code') c1 hbl (by rw[d1];exact cK) (row:=(pre++JO++post).toArray) (λ_=>⟨λbb=>by rw[d1]at bb;omega,λ_=>⟨q0,_,_,fz,F7 w (m b) _ _ _ _ q1,⟨by rw[d2];exact q2,by
      rw[d2];exact⟨ahR,pre,JO,post,rfl,E1,bo.mono ((Fr.of w λba h'=>cc.dP h.b ha h').trans (cc.pn hbl (by rw[iz (by omega) (by rw[d1];exact cK)];exact c1)))⟩⟩,λ_=>⟨rfl,by rw[d2];exact r1,by simp only[ta,hsz];exact r2,by rw[d1];simp only[ta,hsz];exact r3,fM,cR⟩⟩⟩)
     unfold nh;have hrun:(Rx t (.pointer (some ⟨m b,(cm.den ρ).toNat+(i.den ρ).toNat*sh.length+j,none⟩)) (u.den ρ m)).run P w= .ok () (w.setRow (m b) (pre++JO++post).toArray):=by
      simp only[Rx,l7,gm,hV,gz,storeVar,iD hs,W.G5 (m:=m) u hx.1];simp only[ta,j8,ne_eq,not_true_eq_false,if_false,hV,gz];simp only[hV,gz,hst]
     simp only[execOp,ho,gm,Oe,dt,hrun,gz,hV];refine hk n' ag m _ _ G _ _ ⟨hn,ha,by rw[kr];exact aW _,λ_ _=>rfl⟩ (dJ.refl _ _) ⟨?_,by rw[put_defers];exact h.d,hR.b.set (λy hy=>by
      simp at hy;subst hy;exact⟨⟨e6.1.1.mono hn,g1,e6.1.2.2.mono hn⟩,g2,by rw[d1];exact e6.2.2⟩),HW⟩ ah
     rw[kr];exact dq.put hR.t o.dst (by intro x hx;simp at hx) rfl
   ·cases bJ
  ·cases bJ
 ·rename_i s d x ho;have hx:=cu h.t x;split at bJ
  ·rename_i l Ey;rw[Ey]at hx;split at bJ
   ·rename_i e hs hd;split at bJ
    ·rename_i he;simp only[aK]at bJ;subst bJ;have pz:(A.str l).ok n bl.length ρ:=hx.1;have dt:a.eval x= .string (aL (U (l.den ρ))):=hx.2;have hcs:ar S L (bind (eB 27 [l] 0 ch) λcode=>bind (eB 0 [l] 0 9223372036854775807) λlen=>pure (code,len)) n ρ λag n' p=>(p.1.aZ n'/\p.2.aZ n')/\(0<=p.1.den ag/\p.1.den ag<=ch)/\(U (l.den ρ)).length<=9223372036854775807/\ab (p.1.den ag)=(U (l.den ρ)).map (λb=>[(b.toNat:Int)])/\p.2.den ag=(U (l.den ρ)).length:=by
      have iv:(U (l.den ρ)).length<=9223372036854775807:=by have:=rR pz.2.2;unfold eK at this;omega
      have dQ:rc ((U (l.den ρ)).map λb=>[(b.toNat:Int)])<=ch:=oI (by simp;unfold maxLen;omega) λr hr=>by
       obtain⟨b,_,rfl⟩:=List.mem_map.1 hr;have hp:=gb;have vD:=CD;have:=b.toNat_lt;exact⟨by simp,λz hz=>by simp at hz;subst hz;omega⟩
      refine(gf (op:=27) (args:=[l]) (fe _) dQ).bind λaD n1 code fl dM ⟨g1,g2⟩=>?_;have g2:code.den aD=rc ((U (l.den ρ)).map λb=>[(b.toNat:Int)]):=g2;have kK:l.den aD=l.den ρ:=aa.bG dM pz.1;refine(gf (op:=0) (args:=[l]) (lo:=0) (hi:=9223372036854775807) (Int.natCast_nonneg _) (by
       show((U (l.den aD)).length:Int)<=_;rw[kK];omega)).bind λbp n2 len ee db ⟨k1,k2⟩=>ar.pure ?_
      have k2:len.den bp=((U (l.den aD)).length:Nat):=k2;have e3:code.den bp=code.den aD:=aa.bG db g1;refine⟨⟨g1.mono ee,k1⟩,by rw[e3,g2];exact⟨fe _,dQ⟩,iv,by rw[e3,g2,dv],by rw[k2,kK]⟩
     obtain⟨ag,n',p,hn,ha,⟨⟨g1,kH⟩,g2,g3,g4,g5⟩,ah⟩:=hcs G (λp n=>Dp 3 e o.dst jx p.1 p.2 n tm bl k) ah;have hR:=h.later hn ha;have hrun:=Lib.run_convert_string_bytes (P:=P) w s d e (aL (U (l.den ρ))) hs (hO hd) he;generalize cK:grownCap w (aL (U (l.den ρ))).size 0 e=c at hrun;have eR:(aL (U (l.den ρ))).size<=c:=by rw[<-cK];exact grownCap_ge w _ 0 e
     have hle:c<=9223372036854775807:=by rw[<-cK];exact grownCap_le_maxLen w _ 0 e (by rw[nV];exact g3)
     have sm:(Gb w e (aL (U (l.den ρ)))).heap[w.heap.size]?=some (.cells (Gc w e (aL (U (l.den ρ)))) e ((Gc w e (aL (U (l.den ρ)))).size,(Gc w e (aL (U (l.den ρ)))).size+1)):=Lib.bytesWorld_at_new w e _;have agF:(Gc w e (aL (U (l.den ρ)))).size=c:=by
      have agZ:=eR;rw[nV]at agZ;simp only[Gc,aaO,Array.size_map,Array.size_replicate,cK];show(aL (U (l.den ρ))).size+_=_;omega
     have q7:w.Extends (Gb w e (aL (U (l.den ρ)))):=by
      have hb:∀i:Nat,i<w.heap.size->(Gb w e (aL (U (l.den ρ)))).heap[i]?=w.heap[i]?:=λi hi=>Lib.bytesWorld_at_old w e _ i hi;exact⟨rfl,rfl,rfl,by simp[Gb,World.freeze,Cw,RC,-Kh,-aaT],λy hy=>by simp only[jL,hb y.block hy],λy hy=>by simp only[s6,hb y.block hy],hb⟩
     have tM:R w0 n' ag m tm bl a (Gb w e (aL (U (l.den ρ)))):=⟨hR.t,hR.d,hR.b,hR.a7.grow q7⟩;unfold nh;simp only[execOp,ho,gm,dt,hrun,gz,hV];have iu:jO S L w0 k n' bl.length ag m G K:=hk.later ⟨hn,ha,aW _,λ_ _=>rfl⟩ (dJ.refl _ _);have ew:(aL (U (l.den ρ))).size=(U (l.den ρ)).length:=nV _;have key:=PF (kd:=3) (c:=(c:Int)) (g:=w.heap.size) (by omega) tM g1 kH g2 ⟨by omega,by omega⟩ (by rw[g5];exact⟨⟨by omega,by omega,by omega,by omega⟩,⟨by omega,by omega⟩,λh=>by omega,λ_=>by omega⟩) (λh=>by omega)
      (λ_=>⟨_,_,⟨sm,.inr ⟨by decide,rfl⟩⟩,by
        rw[g4];refine(mF (sh:=jx) (by decide)).2 ⟨λr hr=>?_,[],e4 (c-(U (l.den ρ)).length) (.int .u8 0),?_,rfl⟩
        ·obtain⟨b,_,rfl⟩:=List.mem_map.1 hr;have:=b.toNat_lt;exact⟨⟨by simp[ay.dS],by simp only[ay.dS];omega⟩,trivial⟩
        ·simp only[Gc,cK,Array.toList_append,uT,Array.toList_replicate,jK]
         congr 1
         ·show(U (l.den ρ)).map _=_;simp only[bm,List.flatMap_map];induction U (l.den ρ)with
          |nil=>rfl
          |cons b r ih=>simp[dp,ay.val,jx,ih],by
        rw[agF];simp[jx],h.a7.ext.size,.inr h.a7.ew⟩) (λ_=>hR.a7.ve q7 (aW _)) (λi p hi he=>by
         by_cases fB:aQ ag p.1=0
         ·exact .inl fB
         ·have:=hR.a7.lt hi fB;omega) ah iu
     rw[if_neg (by omega),g5]at key;have key:K (a.put o.dst (.slice (some ⟨w.heap.size,0,none⟩) (U (l.den ρ)).length c)) (Gb w e (aL (U (l.den ρ)))):=by simpa using key
     rw[ew];exact key
    ·cases bJ
   ·cases bJ
  ·cases bJ
 ·rename_i t x y ho;split at bJ
  ·rename_i e lS lj hd ahk ahl;cases hi:P.info? e with
   |none=>simp[hi]at bJ
   |some i=>
    simp only[hi]at bJ;split at bJ
    ·rename_i z hz;cases hc:(aG i.size 1&&bC i.bytes 1024&&decide (z=0))with
     |false=>rw[hc]at bJ;cases bJ
     |true=>
      rw[hc]at bJ;simp only[cond_true,aK]at bJ;subst bJ;simp only[aO,decide_eq_true_eq]at hc;have c1:=bA hc.1.1;have c2:=eE hc.1.2;have c3:=hc.2;subst c3;obtain⟨ajn,hx,gE⟩:=WM h.t ahk;obtain⟨ajo,hy,Ic⟩:=WM h.t ahl;obtain⟨NW,ah⟩:=ah;have NW:0<=lS.den ρ/\lS.den ρ<=lj.den ρ/\lj.den ρ<=1073741824:=NW;obtain⟨q1,q2,q3⟩:=NW;have q0:0<=lj.den ρ:=by omega
      have hrow:∀r∈e4 (lS.den ρ).toNat [(0:Int)],bO jx r:=λr hr=>by
       rw[List.eq_of_mem_replicate hr];exact⟨⟨by simp[ay.dS],by simp[ay.dS]⟩,trivial⟩
      have dQ:rc (e4 (lS.den ρ).toNat [(0:Int)])<=ch:=u7 (sh:=jx) (by decide) (by simp;omega) hrow;have hf:aw 26 ([lS,aa.const 0].map (·.den ρ))=rc (e4 (lS.den ρ).toNat [(0:Int)]):=by
       simp only[ct,et,aw,aa.aT]
      obtain⟨ag,n',code,hn,ha,⟨g1,g2⟩,ah⟩:=gf (S:=S) (L:=L) (n:=n) (op:=26) (args:=[lS,.const 0]) (lo:=0) (hi:=ch) (by rw[hf];exact fe _) (by rw[hf];exact dQ) G _ ah;rw[hf]at g2;have hR:=h.later hn ha;have d1:lS.den ag=lS.den ρ:=aa.bG ha gE;have hrun:=run_make (P:=P) w t e i (.int .u8 0) (hO hd) hi hz ajn ajo (lS.den ρ) (lj.den ρ) q1 q2 (by
       have h0:(i.bytes:Int)<=1024:=by omega
       have h2:(i.bytes:Int)*lj.den ρ<=1024*1073741824:=Int.mul_le_mul h0 q3 q0 (by decide);omega) (by omega)
      have VQ:(madeCells (rJ .u8 0).cells ((lj.den ρ).toNat*i.size)).toList=e4 (lj.den ρ).toNat (.int .u8 0):=by
       rw[c1,Nat.mul_one];refine aaQ λj=>?_;simp only[madeCells,Value.cells,uT,au3];rw[oB,List.getElem?_replicate];by_cases hj:j<(lj.den ρ).toNat
       ·rw[if_pos hj,List.getElem?_range hj];simp[Nat.mod_one]
       ·rw[if_neg hj,List.getElem?_eq_none (by simp;omega)];rfl
      have hsz:(madeCells (rJ .u8 0).cells ((lj.den ρ).toNat*i.size)).size=(lj.den ρ).toNat:=by
       have:=congrArg kA VQ;simpa using this
      have sm:(w.alloc (.cells (madeCells (rJ .u8 0).cells ((lj.den ρ).toNat*i.size)) e)).heap[w.heap.size]?=some (.cells (madeCells (rJ .u8 0).cells ((lj.den ρ).toNat*i.size)) e (0,0)):=by simp[Cw,-Kh]
      have q7:w.Extends (w.alloc (.cells (madeCells (rJ .u8 0).cells ((lj.den ρ).toNat*i.size)) e)):=by
       have hb:∀j:Nat,j<w.heap.size->(w.alloc (.cells (madeCells (rJ .u8 0).cells ((lj.den ρ).toNat*i.size)) e)).heap[j]?=w.heap[j]?:=λj hj=>by
        simp only[Cw];rw[au9 hj,J5 hj]
       exact⟨rfl,rfl,rfl,by simp[Cw,-Kh],λy hy=>by simp only[jL,hb y.block hy],λy hy=>by simp only[s6,hb y.block hy],hb⟩
      generalize DF:w.alloc (.cells (madeCells (rJ .u8 0).cells ((lj.den ρ).toNat*i.size)) e)=W at*;have tM:R w0 n' ag m tm bl a W:=⟨hR.t,hR.d,hR.b,hR.a7.grow q7⟩;unfold nh;simp only[execOp,ho,gm,hx,hy,hrun,gz,hV];have iu:jO S L w0 k n' bl.length ag m G K:=hk.later ⟨hn,ha,aW _,λ_ _=>rfl⟩ (dJ.refl _ _);have key:=PF (kd:=2) (c:=lj.den ρ) (g:=w.heap.size) (aW _) tM g1 (gE.mono hn) (by rw[g2];exact⟨fe _,dQ⟩) ⟨by omega,by omega⟩ (by rw[d1];exact⟨⟨by omega,by omega,by omega,by omega⟩,⟨by omega,by omega⟩,λh=>by omega,λ_=>by omega⟩) (λh=>by omega)
       (λ_=>⟨_,_,⟨sm,.inl ⟨rfl,rfl⟩⟩,by
         rw[g2,dv];refine(mF (sh:=jx) (by decide)).2 ⟨hrow,[],e4 ((lj.den ρ).toNat-(lS.den ρ).toNat) (.int .u8 0),?_,rfl⟩;rw[VQ,jK];have e1:bm jx (e4 (lS.den ρ).toNat [(0:Int)])=e4 (lS.den ρ).toNat (.int .u8 0):=by
          generalize (lS.den ρ).toNat=q;induction q with
          |zero=>rfl
          |succ q ih=>
           rw[Cx,Cx];simp only[bm,List.flatMap_cons]at ih⊢;rw[ih];rfl
         rw[e1,List.replicate_append_replicate]
         congr 1;omega,by rw[hsz];simp[jx],h.a7.ext.size,.inr h.a7.ew⟩) (λ_=>hR.a7.ve q7 (aW _)) (λj p hj he=>by
         by_cases fB:aQ ag p.1=0
         ·exact .inl fB
         ·have:=hR.a7.lt hj fB;omega) ah iu
      rw[if_neg (by omega),d1]at key;have key:K (a.put o.dst (.slice (some ⟨w.heap.size,0,none⟩) (lS.den ρ).toNat (lj.den ρ).toNat)) W:=key;exact key
    ·cases bJ
  ·cases bJ
 ·rename_i c ho;split at bJ
  ·rename_i f hc;split at bJ
   ·rename_i fn x hf nt;split at bJ
    ·rename_i y t hx jA;split at bJ
     ·rename_i e hd;split at bJ
      ·rename_i he;cases hm:Im fn with
       |false=>rw[hm]at bJ;cases bJ
       |true=>
        rw[hm]at bJ;simp only[cond_true,aK]at bJ;subst bJ;obtain⟨fV,m2,m3,yn⟩:=ad6 hm;have gE:=cu h.t x;rw[hx]at gE;have Ic:y.l.aZ n:=gE.1.1;obtain⟨NV,ah⟩:=ah;have NV:0<=y.l.den ρ/\y.l.den ρ<=1073741824:=NV;obtain⟨q1,q2⟩:=NV;obtain⟨N,hN⟩:∃N:Nat,y.l.den ρ=N:=⟨(y.l.den ρ).toNat,by omega⟩;have dt:a.eval x= .int .i64 (N:Int):=by rw[<-hN];exact gE.2
        have ahO:fn.resultTypes=#[t]:=Ry (by rw[jA]);obtain⟨ja,xc,hrun,hle,oW⟩:=apN (P:=P) w fn.params t e (hO hd) N (by omega);have oW:=oW (by unfold maxLen;omega);unfold maxLen at oW;obtain⟨l,l1,l2,l3⟩:=TV ja xc #[];have nY:(execOp a.eval o).run P w= .ok (.value (.slice (some ⟨w.heap.size,0,none⟩) N ja)) (w.drew.drew.alloc (.cells (te ja xc #[]) e)):=by
         rw[Qi hc o ho,run_callFunc_extern hf m2 fV m3 yn];have:c.args.map a.eval=#[.int .i64 (N:Int)]:=Ry (by rw[uT,nt];simp[dt]);rw[this,ahO,hrun];rfl
        have OF:∀r∈l.take N,bO jx r:=λr hr=>l2 r (j7 hr);have mU:(l.take N).length=N:=by rw[ng,l1];omega
        have Wt:rc (l.take N)<=ch:=u7 (sh:=jx) (by decide) (by rw[mU];omega) OF;have ah:=ah (rc (l.take N)) (fe _) Wt;have dM:agree n ρ (cV ρ n (rc (l.take N))):=agree.cV _ _ _;have aJ:y.l.den (cV ρ n (rc (l.take N)))=N:=by rw[aa.bG dM Ic,hN]
        have Mb:(aa.var n).den (cV ρ n (rc (l.take N)))=rc (l.take N):=by simp[aa.cp,jG]
        have ah:=ah (by
         show y.l.den (cV ρ n (rc (l.take N)))=((ab ((aa.var n).den (cV ρ n (rc (l.take N))))).length:Int);rw[aJ,Mb,dv,mU])
        have ah:=ah (ja:Int) (by omega) (by omega);have ah:=ah (by
         have db:agree (n+1) (cV ρ n (rc (l.take N))) (cV (cV ρ n (rc (l.take N))) (n+1) (ja:Int)):=agree.cV _ _ _;show y.l.den (cV (cV ρ n (rc (l.take N))) (n+1) (ja:Int))<=(aa.var (n+1)).den (cV (cV ρ n (rc (l.take N))) (n+1) (ja:Int));rw[aa.bG db (Ic.mono (kB _)),aJ];simp only[aa.cp,jG];omega)
        have hR:=h.later (kB n) dM;have sm:(w.drew.drew.alloc (.cells (te ja xc #[]) e)).heap[w.heap.size]?=some (.cells (te ja xc #[]) e (0,0)):=by simp[Cw,RC,-Kh,-aaT]
        have q7:w.Extends (w.drew.drew.alloc (.cells (te ja xc #[]) e)):=by
         have hb:∀j:Nat,j<w.heap.size->(w.drew.drew.alloc (.cells (te ja xc #[]) e)).heap[j]?=w.heap[j]?:=λj hj=>by
          simp only[Cw,RC];rw[au9 hj,J5 hj]
         exact⟨rfl,rfl,rfl,by simp[Cw,RC,-Kh,-aaT],λy hy=>by simp only[jL,hb y.block hy],λy hy=>by simp only[s6,hb y.block hy],hb⟩
        generalize DF:w.drew.drew.alloc (.cells (te ja xc #[]) e)=W at*;have tM:R w0 (n+1) (cV ρ n (rc (l.take N))) m tm bl a W:=⟨hR.t,hR.d,hR.b,hR.a7.grow q7⟩;unfold nh;simp only[nY];have iu:jO S L w0 k (n+1) bl.length (cV ρ n (rc (l.take N))) m G K:=hk.later ⟨kB n,dM,aW _,λ_ _=>rfl⟩ (dJ.refl _ _);have key:=Yj (kd:=2) (c:=(ja:Int)) (g:=w.heap.size) (code:= .var n) (len:=y.l) (e:=e) (d:=o.dst) (sh:=jx) (aW _) tM (aa.er (rP n)) (Ic.mono (kB _)) (by rw[Mb];exact⟨fe _,Wt⟩) ⟨by omega,by omega⟩ (by rw[aJ];exact⟨⟨by omega,by omega,by omega,by omega⟩,⟨by omega,by omega⟩,λh=>by omega,λ_=>by omega⟩) (λh=>by omega)
         (λ_=>⟨_,_,⟨sm,.inl ⟨rfl,rfl⟩⟩,by
           rw[Mb,dv];refine(mF (sh:=jx) (by decide)).2 ⟨OF,[],bm jx (l.drop N),?_,rfl⟩;rw[l3];show bm jx l=bm jx (l.take N)++bm jx (l.drop N);rw[<-qa,ju],by
           have e1:=congrArg kA l3;simp only[dm,mf l2,l1]at e1;simpa [jx]using e1,h.a7.ext.size,.inr h.a7.ew⟩) (λ_=>hR.a7.ve q7 (aW _)) (λj p hj he=>by
           by_cases fB:aQ (cV ρ n (rc (l.take N))) p.1=0
           ·exact .inl fB
           ·have:=hR.a7.lt hj fB;omega) ah iu
        rw[if_neg (by omega),aJ]at key;have key:K (a.put o.dst (.slice (some ⟨w.heap.size,0,none⟩) N ja)) W:=by simpa using key
        exact key
      ·cases bJ
     ·cases bJ
    ·cases bJ
   ·cases bJ
  ·cases bJ
 ·cases bJ
end
end Go.bg
namespace Go.bg
open M
section
variable {S:Nat->List Int->List Int->Prop} {L:V->Env->Prop} {n:Nat} {ρ:Env} {m:Nat->Nat} {bl:List ao} {gl:dA} {w0:cN} {P:bk}
theorem Mem.rewrite {w:ai} {b:Nat} {sh:List ay} {off code cap code':aa} {kind:Nat} {bX:aS×Bool} (h:Mem w0 ρ m bl w) (hbl:bl[b]?=some ([.rows sh off code cap kind],bX)) (hk:2<=kind) (cK:0<=cap.den ρ)
 (hp:iS sh=true) (k8:∀r∈ab (code'.den ρ),bO sh r) (hlen:(ab (code'.den ρ)).length=(ab (code.den ρ)).length):
 ∃(cells:Array aA) (post:List aA) (fz:Nat×Nat),w.heap[m b]?=some (.cells cells bX.1 fz)/\ti kind fz cells.size/\off.den ρ=0/\(∀r∈ab (code.den ρ),bO sh r)/\cells.toList=bm sh (ab (code.den ρ))++post/\cells.size=(cap.den ρ).toNat*sh.length/\
  Mem w0 ρ m (cM bl b ([.rows sh off code' cap kind],bX)) (w.setRow (m b) (bm sh (ab (code'.den ρ))++post).toArray):=by
 obtain⟨q0,cells,gS,fz,q1,⟨q2,q3⟩,de⟩:=(h.rws b sh off code cap kind bX hbl (by omega)).2 cK;obtain⟨r0,r1,r2,r3,fM,cR⟩:=de hk;subst r0;obtain⟨yD,pre,post,BH,E1⟩:=(mF hp).1 q3;rw[r1]at E1;have gP:pre=[]:=td (by simpa using E1);subst gP;rw[jK]at BH;have hsz:(bm sh (ab (code'.den ρ))++post).length=cells.size:=by
  have e1:=congrArg kA BH;simp only[dm,mf k8,mf yD,wJ,hlen]at e1⊢;omega
 refine⟨cells,post,fz,q1,r2,r1,yD,BH,r3,?_⟩;exact h.put (kd:=kind) (cells:=cells) (fz:=fz) (code':=code') hk hbl cK (row:=(bm sh (ab (code'.den ρ))++post).toArray) (λ_=>⟨λbb=>by omega,λ_=>⟨q0,_,_,fz,F7 w (m b) _ _ _ _ q1,⟨by rw[r1];exact bD _,by
  rw[r1];exact(mF hp).2 ⟨k8,[],post,by simp,rfl⟩⟩,λ_=>⟨rfl,r1,by simp only[ta,hsz];exact r2,by simp only[ta,hsz];exact r3,fM,cR⟩⟩⟩)
theorem alg {sh:List ay} {rows mid:List (List Int)} {post:List aA} {cells:List aA} {a:Nat} (hr:∀r∈rows,bO sh r) (hm:∀r∈mid,bO sh r) (hc:cells=bm sh rows++post) (ha:a+mid.length<=rows.length):
 cells.take (a*sh.length)++bm sh mid++cells.drop (a*sh.length+(bm sh mid).length)=bm sh (rows.take a++mid++rows.drop (a+mid.length))++post:=by
 have h1:bm sh rows=bm sh (rows.take a)++bm sh (rows.drop a):=by rw[<-qa,ju]
 have h2:bm sh rows=bm sh (rows.take (a+mid.length))++bm sh (rows.drop (a+mid.length)):=by rw[<-qa,ju]
 have l1:(bm sh (rows.take a)).length=a*sh.length:=by rw[mf λr h=>hr r (j7 h),ng,wF (by omega)]
 have l2:(bm sh (rows.take (a+mid.length))).length=a*sh.length+(bm sh mid).length:=by rw[mf λr h=>hr r (j7 h),mf hm,ng,wF (by omega),uW]
 have e1:cells.take (a*sh.length)=bm sh (rows.take a):=by
  rw[hc,h1,gJ,F2 (by omega),ky (by omega)]
 have e2:cells.drop (a*sh.length+(bm sh mid).length)=bm sh (rows.drop (a+mid.length))++post:=by
  rw[hc,h2,gJ,<-l2,List.drop_left]
 rw[e1,e2,qa,qa];simp only[gJ]
theorem Xz {sh:List ay} {rows mid:List (List Int)} {a k:Nat} (hr:∀r∈rows,bO sh r) (hm:∀r∈mid,bO sh r):∀r∈rows.take a++mid++rows.drop k,bO sh r:=λr h=>by
 rcases List.mem_append.1 h with h|h
 ·rcases List.mem_append.1 h with h|h
  ·exact hr r (j7 h)
  ·exact hm r h
 ·exact hr r (nQ h)
theorem Xy {rows mid:List (List Int)} {a:Nat} (ha:a+mid.length<=rows.length):(rows.take a++mid++rows.drop (a+mid.length)).length=rows.length:=by
 simp only[dm,ng,qC];omega
theorem YK {w:ai} {b:Nat} {sh:List ay} {off code cap:aa} {kind:Nat} {bX:aS×Bool} (h:Mem w0 ρ m bl w) (hbl:bl[b]?=some ([.rows sh off code cap kind],bX)) (hk:2<=kind) (cK:0<=cap.den ρ) (sg:cap.den ρ<=9223372036854775807) (gO:0<sh.length):(ab (code.den ρ)).length<=maxLen/\∀r∈ab (code.den ρ),bO sh r:=by
 obtain⟨q0,cells,gS,fz,q1,⟨q2,q3⟩,de⟩:=(h.rws b sh off code cap kind bX hbl (by omega)).2 cK;obtain⟨_,_,_,h5,_⟩:=de hk;obtain⟨yD,pre,vs,post,p1,bo,bU⟩:=q3;refine⟨?_,yD⟩;have h4:=congrArg kA p1;simp only[dm,bU.len,wJ]at h4;rw[h5]at h4;have h6:(ab (code.den ρ)).length*sh.length<=(cap.den ρ).toNat*sh.length:=by omega
 have h7:=au8 h6 gO;unfold maxLen;omega
theorem ap7 {sh:List ay} (h:ln sh=true):0<sh.length:=by
 unfold ln at h;simp only[aO]at h;exact tr h.1.2
theorem apE {w:ai} {b:Nat} {sh:List ay} {off code cap:aa} {kind:Nat} {bX:aS×Bool} (h:Mem w0 ρ m bl w) (hbl:bl[b]?=some ([.rows sh off code cap kind],bX)) (hk:2<=kind) (sg:cap.den ρ<=9223372036854775807) (gO:0<sh.length):(ab (code.den ρ)).length<=maxLen/\∀r∈ab (code.den ρ),bO sh r:=by
 rcases hU (cap.den ρ) 0 with hc|hc
 ·rw[(h.rws b sh off code cap kind bX hbl (by omega)).1 hc];exact⟨Nat.zero_le _,λr hr=>by simp at hr⟩
 ·exact YK h hbl hk hc sg gO
theorem Mem.apc {w:ai} {b:Nat} {sh:List ay} {off code cap code':aa} {kind:Nat} {bX:aS×Bool} (h:Mem w0 ρ m bl w) (hbl:bl[b]?=some ([.rows sh off code cap kind],bX)) (he:ab (code'.den ρ)=ab (code.den ρ)):Mem w0 ρ m (cM bl b ([.rows sh off code' cap kind],bX)) w:=by
 rw[iE];have hlt:=(List.getElem?_eq_some_iff.1 hbl).1;have hg:∀(i:Nat) (p:ao),(bl.set b ([.rows sh off code' cap kind],bX))[i]?=some p->(i=b/\p=([.rows sh off code' cap kind],bX))∨(i≠b/\bl[i]?=some p):=λi p hi=>by
  rw[oC]at hi;by_cases gN:b=i
  ·subst gN;rw[if_pos rfl,if_pos hlt]at hi;exact .inl ⟨rfl,(gH hi).symm⟩
  ·rw[if_neg gN]at hi;exact .inr ⟨λe=>gN e.symm,hi⟩
 have fv:∀(i:Nat) (p:ao),(bl.set b ([.rows sh off code' cap kind],bX))[i]?=some p->∃q:ao,bl[i]?=some q/\aQ ρ p.1=aQ ρ q.1:=λi p hi=>by
  rcases hg i p hi with⟨rfl,rfl⟩|⟨_,h2⟩
  ·exact⟨_,hbl,rfl⟩
  ·exact⟨_,h2,rfl⟩
 have n5:∀ba,cc w0 ρ m bl ba->cc w0 ρ m (bl.set b ([.rows sh off code' cap kind],bX)) ba:=λba h'=>⟨h'.1,λi p hi hk=>by
  obtain⟨q,h1,h2⟩:=fv i p hi;exact h'.2 i q h1 (by rw[<-h2];exact hk)⟩
 refine⟨h.ext,h.jf,h.ji,h.iy,h.ew,h.gg,λi cs t hi ho=>?_,λi cP dV fk dT eW t hi=>?_,λi j p q hi hj hm=>?_⟩
 ·rcases hg i _ hi with⟨_,h2⟩|⟨_,h2⟩
  ·cases h2;exact absurd ho (by simp[bT])
  ·exact h.blk i cs t h2 ho
 ·rcases hg i _ hi with⟨rfl,h2⟩|⟨_,h2⟩
  ·cases h2;have:=(h.rws _ sh off code cap kind bX hbl).mono n5;unfold gK at this⊢;rw[he];exact this
  ·exact(h.rws i _ _ _ _ _ t h2).mono n5
 ·obtain⟨p',hp,ep⟩:=fv i p hi;obtain⟨q',hq,eq⟩:=fv j q hj;rw[ep,eq];exact h.inj i j p' q' hp hq hm
theorem aqu {tm:List V} {a:Act} {w:ai} {G:df} {o:Oper} {K:Act->ai->Prop} {Q:Exit->Act->ai->Prop} {k:fy} {qI:T}
 (h:R w0 n ρ m tm bl a w) (bJ:QG P o n tm bl k=some qI) (ah:qI.holds S L G ρ) (hk:jO S L w0 k n bl.length ρ m G K):o.wp P a w K Q:=by
 unfold QG at bJ;split at bJ
 rotate_left
 ·cases bJ
 rename_i c ho;split at bJ
 ·rename_i hh;split at bJ
  rotate_left
  ·cases bJ
  rename_i x y t t' gE pA;have hx:=cu h.t x;have hy:=cu h.t y;split at bJ
  rotate_left
  ·rename_i b aM cm ro len cap e hv lP he;rw[hv]at hx;rw[lP]at hy;split at bJ
   rotate_left
   ·cases bJ
   rename_i s hs;simp only[aK]at bJ;subst bJ;have a1:c.args=#[x,y]:=by rw[<-l6 (xs:=c.args),gE]
   have a2:c.argTypes=#[t,t']:=by rw[<-l6 (xs:=c.argTypes),pA]
   have pE:(A.sl b aM cm ro len cap).ok n bl.length ρ:=hx.1;obtain⟨ptr,e1,e2,e3⟩:=oo (m:=m) pE;have dt:a.eval x=(A.sl b aM cm ro len cap).den ρ m:=hx.2;rw[e1]at dt;have rk:a.eval y= .slice none 0 0:=hy.2;obtain⟨pW,uZ,wO,bL⟩:∃A B C,a.eval x= .slice A B C:=⟨_,_,_,dt⟩;have hrun:(wK #[t,t'] o.type #[.slice pW uZ wO,.slice none 0 0]).run P w= .ok (goInt 0) w:=by
    cases pW<;>simp[wK,fh (hO he),aa0,iD hs,zb,storeCells]
   unfold nh;have hex:execOp a.eval o=(do pure (kU (<-wK #[t,t'] o.type #[a.eval x,a.eval y]))):=by
    simp[execOp,ho,resolve,hh,a1,a2,invoke,builtin]
   simp only[hex,bL,rk,gm,hrun,gz,hV];exact hk n ρ m _ _ G _ _ (cQ.refl _ _ _ _) (dJ.refl _ _) ⟨dq.put (v:= .w (.one (.int .i64 ⟨.const 0,0,0⟩))) h.t o.dst ⟨aa.cH _ _,by simp[aa.aT],by simp[aa.aT]⟩ rfl,by rw[put_defers];exact h.d,h.b,h.a7⟩ ah
  ·cases bJ
  rename_i b aM cm ro len cap b2 QL o2 fo iQ CX e hv lP he;rw[hv]at hx;rw[lP]at hy;split at bJ
  rotate_left
  ·cases bJ
  rename_i sh off code cU kind bX JB IW fk tx sz GY s hbl tP hs;cases hc:(bC 2 kind&&b6 0 sz&&aa.beq cm off&&aa.beq o2 IW&&iU sh JB&&aG aM sh.length&&aG QL sh.length&&aG s sh.length&&ln sh&&iS sh)with
  |false=>rw[hc]at bJ;cases bJ
  |true=>
   rw[hc]at bJ;simp only[cond_true,aK]at bJ;subst bJ;simp only[aO]at hc;obtain⟨⟨⟨⟨⟨⟨⟨⟨⟨c1,c2⟩,c3⟩,c4⟩,c5⟩,fi⟩,ke⟩,mI⟩,p5⟩,ja⟩:=hc;have c1:=eE c1;have c2:0<sz:=eE c2;have c3:=aa.beq_eq c3;have c4:=aa.beq_eq c4;have c5:=o4 c5;have fi:=bA fi;have ke:=bA ke;have mI:=bA mI
   subst c3;subst c4;subst c5;subst fi;subst ke;subst mI;have a1:c.args=#[x,y]:=by rw[<-l6 (xs:=c.args),gE]
   have a2:c.argTypes=#[t,t']:=by rw[<-l6 (xs:=c.argTypes),pA]
   have pE:(A.sl b sh.length cm ro len cap).ok n bl.length ρ:=hx.1;have Wk:(A.sl b2 sh.length o2 fo iQ CX).ok n bl.length ρ:=hy.1;obtain⟨ptr,e1,e2,e3⟩:=oo (m:=m) pE;obtain⟨aoO,f1,f2,f3⟩:=oo (m:=m) Wk;have dt:a.eval x=(A.sl b sh.length cm ro len cap).den ρ m:=hx.2;have rk:a.eval y=(A.sl b2 sh.length o2 fo iQ CX).den ρ m:=hy.2;rw[e1]at dt;rw[f1]at rk;obtain⟨x1,⟨x2,x3,eT,iG⟩,⟨iW,ox,lq,nN⟩,⟨ov,ow⟩,fE,gT⟩:=pE;obtain⟨kR,⟨na,wy,FA,FB⟩,⟨FC,Q4,Q5,Q6⟩,⟨Q1,Q3⟩,JS,Q2⟩:=Wk;have e6:(A.rows sh cm code cU kind).ok n bl.length ρ:=h.b _ (cZ hbl) _ (by simp);have ae2:(A.rows sh o2 fk tx sz).ok n bl.length ρ:=h.b _ (cZ tP) _ (by simp);have gO:=ap7 p5;have hcs:ar S L (bind (fj 80 [code,ro,len]) λ_=>bind (fj 22 [fk,fo,fo.add iQ]) λ_=>bind (eB 62 [iQ,len] 0 9223372036854775807) λq=>bind (eB 22 [fk,fo,fo.add q] 0 ch) λsrc=>bind (eB 63 [code,ro,src] 0 ch) λcode'=>pure (q,code')) n ρ λag n' p=>(p.1.aZ n'/\p.2.aZ n')/\(0<=p.2.den ag/\p.2.den ag<=ch)/\(0<=ro.den ρ/\0<=len.den ρ/\ro.den ρ+len.den ρ<=(ab (code.den ρ)).length)/\
    p.1.den ag=min (iQ.den ρ) (len.den ρ)/\(0<=fo.den ρ/\fo.den ρ+iQ.den ρ<=(ab (fk.den ρ)).length)/\ab (p.2.den ag)=(ab (code.den ρ)).take (ro.den ρ).toNat++((ab (fk.den ρ)).drop (fo.den ρ).toNat).take (min (iQ.den ρ) (len.den ρ)).toNat++(ab (code.den ρ)).drop ((ro.den ρ).toNat+(((ab (fk.den ρ)).drop (fo.den ρ).toNat).take (min (iQ.den ρ) (len.den ρ)).toNat).length)/\∀r∈ab (fk.den ρ),bO sh r:=by
    refine gD λiv=>gD λhk2=>?_;have iv:0<=ro.den ρ/\0<=len.den ρ/\ro.den ρ+len.den ρ<=(ab (code.den ρ)).length:=iv;have hk2:0<=fo.den ρ/\fo.den ρ<=(fo.add iQ).den ρ/\(fo.add iQ).den ρ<=(ab (fk.den ρ)).length:=hk2;rw[aa.den_add]at hk2;obtain⟨oW,jh⟩:=apE h.a7 hbl c1 e6.2.2.2 gO;have Ei:∀r∈ab (fk.den ρ),bO sh r:=by
     rcases hU (tx.den ρ) 0 with iP|iP
     ·have:=(h.a7.rws b2 sh o2 fk tx sz GY tP (by omega)).1 iP;rw[this];intro _ h;simp at h
     ·obtain⟨_,_,_,_,_,⟨_,q3⟩,_⟩:=(h.a7.rws b2 sh o2 fk tx sz GY tP (by omega)).2 iP;exact q3.1
    have Au:aw 62 ([iQ,len].map (·.den ρ))=min (iQ.den ρ) (len.den ρ):=rfl;refine(gf (by rw[Au];omega) (by rw[Au];omega)).bind λaD n1 q fl dM ⟨q1,q2⟩=>?_;rw[Au]at q2;have b1:fk.den aD=fk.den ρ:=aa.bG dM ae2.1.2.1;have qL:fo.den aD=fo.den ρ:=aa.bG dM wy;have hf:aw 22 ([fk,fo,fo.add q].map (·.den aD))=rc (((ab (fk.den ρ)).drop (fo.den ρ).toNat).take (min (iQ.den ρ) (len.den ρ)).toNat):=by
     simp only[ct,et,aw,aa.den_add,b1,qL,q2]
     congr 2;omega
    have dQ:rc (((ab (fk.den ρ)).drop (fo.den ρ).toNat).take (min (iQ.den ρ) (len.den ρ)).toNat)<=ch:=oI (by
     simp only[ng,qC];have:(ab (code.den ρ)).length<=maxLen:=oW;omega) λr hr=>(Ei r (nQ (j7 hr))).row p5
    refine(gf (by rw[hf];exact fe _) (by rw[hf];exact dQ)).bind λbp n2 src ee db ⟨s1,s2⟩=>?_;rw[hf]at s2;have Va:=dM.trans db fl;have NI:aw 63 ([code,ro,src].map (·.den bp))=rc ((ab (code.den ρ)).take (ro.den ρ).toNat++((ab (fk.den ρ)).drop (fo.den ρ).toNat).take (min (iQ.den ρ) (len.den ρ)).toNat++(ab (code.den ρ)).drop ((ro.den ρ).toNat+(((ab (fk.den ρ)).drop (fo.den ρ).toNat).take (min (iQ.den ρ) (len.den ρ)).toNat).length)):=by
     simp only[ct,et,aw,aa.bG Va e6.1.2.1,aa.bG Va x3,s2,dv]
    have sr:∀r∈((ab (fk.den ρ)).drop (fo.den ρ).toNat).take (min (iQ.den ρ) (len.den ρ)).toNat,bO sh r:=λr hr=>Ei r (nQ (j7 hr));have Vf:rc ((ab (code.den ρ)).take (ro.den ρ).toNat++((ab (fk.den ρ)).drop (fo.den ρ).toNat).take (min (iQ.den ρ) (len.den ρ)).toNat++(ab (code.den ρ)).drop ((ro.den ρ).toNat+(((ab (fk.den ρ)).drop (fo.den ρ).toNat).take (min (iQ.den ρ) (len.den ρ)).toNat).length))<=ch:=oI (by
     rw[Xy (by simp only[ng,qC];omega)];exact oW) λr hr=>(Xz jh sr r hr).row p5
    refine(gf (by rw[NI];exact fe _) (by rw[NI];exact Vf)).bind λeO n3 code' ra pr ⟨k1,k2⟩=>ar.pure ?_;rw[NI]at k2;refine⟨⟨q1.mono (gk ee ra),k1⟩,by rw[k2];exact⟨fe _,Vf⟩,iv,?_,⟨hk2.1,hk2.2.2⟩,by rw[k2,dv],Ei⟩;rw[aa.bG (db.trans pr ee) q1,q2]
   obtain⟨ag,n',p,hn,ha,⟨⟨g1,kH⟩,g2,g3,g4,g5,g6,Ei⟩,ah⟩:=hcs G (λp n=>k n (ey tm o.dst (.w (.one (.int .i64 ⟨p.1,0,9223372036854775807⟩)))) (cM bl b ([.rows sh cm p.2 cU kind],bX))) ah;have hR:=h.later hn ha;have d1:code.den ag=code.den ρ:=aa.bG ha e6.1.2.1;have d2:cU.den ag=cU.den ρ:=aa.bG ha e6.1.2.2;rcases hU 0 (len.den ρ)with tY|tY
   rotate_left
   ·have hl0:len.den ρ=0:=by omega
    have qi:p.1.den ag=0:=by rw[g4];omega
    have lK:min (iQ.den ρ) (len.den ρ)=0:=by omega
    have vE:ab (p.2.den ag)=ab (code.den ag):=by
     rw[g6,lK,d1];simp
    obtain⟨pW,uZ,wO,bL⟩:∃A B C,a.eval x= .slice A B C/\B=0:=⟨_,_,_,dt,by rw[hl0];rfl⟩;obtain⟨bL,rfl⟩:=bL;obtain⟨Kp,RM,Sk,hY⟩:∃A B C,a.eval y= .slice A B C:=⟨_,_,_,rk⟩;have HK:(zb sh.length 0 (.slice Kp RM Sk)).run P w= .ok #[] w:=by
     cases Kp<;>simp[zb,loadCells,loadCellsFrom]
    have hrun:(wK #[t,t'] o.type #[.slice pW 0 wO,.slice Kp RM Sk]).run P w= .ok (goInt 0) w:=by
     cases pW<;>simp[wK,fh (hO he),aa0,iD hs,HK,storeCells]
    unfold nh;have hex:execOp a.eval o=(do pure (kU (<-wK #[t,t'] o.type #[a.eval x,a.eval y]))):=by
     simp[execOp,ho,resolve,hh,a1,a2,invoke,builtin]
    simp only[hex,bL,hY,gm,hrun,gz,hV];refine hk n' ag m _ _ G _ _ ⟨hn,ha,by rw[kr];exact aW _,λ_ _=>rfl⟩ (dJ.refl _ _) ⟨?_,by rw[put_defers];exact h.d,hR.b.set (λy hy=>by
     simp at hy;subst hy;exact⟨⟨e6.1.1.mono hn,kH,e6.1.2.2.mono hn⟩,g2,by rw[d2];exact e6.2.2⟩),hR.a7.apc hbl vE⟩ ah
    rw[kr];refine dq.put hR.t o.dst ⟨g1,by show(0:Int)<=p.1.den ag;omega,by show p.1.den ag<=9223372036854775807;omega⟩ ?_;show goInt 0=rJ .i64 (p.1.den ag);rw[qi];rfl
   have cK:0<=cU.den ρ:=by
    rcases hU (cU.den ρ) 0 with iP|iP
    ·have:=(h.a7.rws b sh cm code cU kind bX hbl (by omega)).1 iP;rw[this]at g3;simp at g3;omega
    ·exact iP
   generalize hq:(min (iQ.den ρ) (len.den ρ)).toNat=q at*;have sr:∀r∈((ab (fk.den ρ)).drop (fo.den ρ).toNat).take q,bO sh r:=λr hr=>Ei r (nQ (j7 hr));have VR:(((ab (fk.den ρ)).drop (fo.den ρ).toNat).take q).length=q:=by simp only[ng,qC];omega
   have hle:(ro.den ρ).toNat+(((ab (fk.den ρ)).drop (fo.den ρ).toNat).take q).length<=(ab (code.den ρ)).length:=by rw[VR];omega
   have k8:∀r∈ab (code.den ρ),bO sh r:=(YK h.a7 hbl c1 cK e6.2.2.2 gO).2;obtain⟨cells,post,fz,p1,bo,bU,c6,dF,eD,o0⟩:=hR.a7.rewrite (code':=p.2) hbl c1 (by rw[d2];exact cK) ja (by rw[g6];exact Xz k8 sr) (by rw[g6,d1];exact Xy hle);rw[d1]at c6 dF;have bU:cm.den ρ=0:=by rw[<-aa.bG ha x2];exact bU
   have Nx:0<=cap.den ρ:=by
    rcases hU (cap.den ρ) 0 with iP|iP
    ·have:=fE iP;omega
    ·exact iP
   have bL:a.eval x= .slice (some ⟨m b,(ro.den ρ).toNat*sh.length,none⟩) (len.den ρ).toNat (cap.den ρ).toNat:=by
    rw[dt,e3 Nx,if_neg (by omega),bU];simp
   have hZ:(bm sh (((ab (fk.den ρ)).drop (fo.den ρ).toNat).take q)).length=q*sh.length:=by rw[mf sr,VR]
   have agA:=congrArg kA dF;simp only[dm,wJ,mf c6]at agA;have sj:(ro.den ρ).toNat*sh.length+0+(bm sh (((ab (fk.den ρ)).drop (fo.den ρ).toNat).take q)).length<=cells.size:=by
    rw[hZ];have:((ro.den ρ).toNat+q)*sh.length<=(ab (code.den ρ)).length*sh.length:=aaP _ (by omega);rw[uW]at this;omega
   have hst:=Qk (P:=P) (m b) ((ro.den ρ).toNat*sh.length) bX.1 fz kind (bm sh (((ab (fk.den ρ)).drop (fo.den ρ).toNat).take q)) 0 cells w bo p1 sj MD;rw[lu,alg c6 sr dF hle]at hst;rw[<-g6]at hst;have ahJ:Nat.min (iQ.den ρ).toNat (len.den ρ).toNat=q:=by show min _ _=q;omega
   have HK:(zb sh.length q (a.eval y)).run P w= .ok (bm sh (((ab (fk.den ρ)).drop (fo.den ρ).toNat).take q)).toArray w:=by
    rcases hU (CX.den ρ) 0 with iP|iP
    ·have h0:=JS iP;have qi:q=0:=by omega
     rw[rk,f2 iP,qi,F9];exact Qj w sh.length _ _ _
    ·rw[rk,f3 iP];have nu:0<=tx.den ρ∨q=0:=by
      rcases hU (tx.den ρ) 0 with sg|sg
      ·have:=(h.a7.rws b2 sh o2 fk tx sz GY tP (by omega)).1 sg;rw[this]at g5;simp at g5;right;omega
      ·exact .inl sg
     refine run_firstCells_some w sh.length q _ _ _ _ hZ λj v hj=>?_;rcases nu with nu|nu
     ·obtain⟨_,awk,gS,awv,q1,⟨q2,q3⟩,_⟩:=(h.a7.rws b2 sh o2 fk tx sz GY tP (by omega)).2 nu;have:=(((mF ja).1 q3).sub (fo.den ρ).toNat q (by omega)).flat hj;rw[jw];simp only[jL,q1,rL,pU,if_false];exact this
     ·rw[nu,F9]at hj;simp[bm]at hj
   obtain⟨ajE,awj,hY⟩:∃B C,a.eval y= .slice aoO B C:=⟨_,_,rk⟩;have vA:ajE=(iQ.den ρ).toNat:=by rw[rk]at hY;injection hY with _ h2 _;exact h2.symm
   subst vA;have hrun:(wK #[t,t'] o.type #[.slice (some ⟨m b,(ro.den ρ).toNat*sh.length,none⟩) (len.den ρ).toNat (cap.den ρ).toNat,a.eval y]).run P w= .ok (goInt q) (w.setRow (m b) (bm sh (ab (p.2.den ag))++post).toArray):=by
    rw[hY]at HK⊢;simp[wK,fh (hO he),aa0,iD hs,ahJ,HK,hst]
   unfold nh;have hex:execOp a.eval o=(do pure (kU (<-wK #[t,t'] o.type #[a.eval x,a.eval y]))):=by
    simp[execOp,ho,resolve,hh,a1,a2,invoke,builtin]
   simp only[hex,bL,gm,hrun,gz,hV];refine hk n' ag m _ _ G _ _ ⟨hn,ha,by rw[kr];exact aW _,λ_ _=>rfl⟩ (dJ.refl _ _) ⟨?_,by rw[put_defers];exact h.d,hR.b.set (λy hy=>by
    simp at hy;subst hy;exact⟨⟨e6.1.1.mono hn,kH,e6.1.2.2.mono hn⟩,g2,by rw[d2];exact e6.2.2⟩),o0⟩ ah
   rw[kr];refine dq.put hR.t o.dst ⟨g1,by show(0:Int)<=p.1.den ag;rw[g4];omega,by show p.1.den ag<=9223372036854775807;rw[g4];omega⟩ ?_;show goInt q=rJ .i64 (p.1.den ag);have oQ:((q:Nat):Int)=p.1.den ag:=by rw[g4,<-hq];omega
   rw[<-oQ];rfl
 ·cases bJ
end
end Go.bg
namespace Go.bg
open M
section
variable {S:Nat->List Int->List Int->Prop} {L:V->Env->Prop} {w0:cN} {P:bk} {gl:dA} {cal:dY} {inl:hX}
theorem cond_holds {c:Bool} {t:T} {G:df} {ρ:Env} (h:(cond c t .stuck).holds S L G ρ):c=true/\t.holds S L G ρ:=by
 cases c with
 |true=>exact⟨rfl,h⟩
 |false=>exact h.elim
theorem aqq {n:Nat} {ρ:Env} {m:Nat->Nat} {tm:List V} {bl:List ao} {a:Act} {w:ai} {G:df} {o:Oper} {K:Act->ai->Prop} {Q:Exit->Act->ai->Prop} {k:fy}
 (cy:fq S P gl w0 cal) (hg:eQ gl w0) (ir:lx S L w0 P inl) (h:R w0 n ρ m tm bl a w) (ah:(QD P gl cal inl o n tm bl k).holds S L G ρ) (hk:jO S L w0 k n bl.length ρ m G K):o.wp P a w K Q:=by
 unfold QD at ah;split at ah
 ·rename_i t ho;cases hz:l4 P t with
  |none=>simp[hz,T.holds]at ah
  |some cs=>
   simp only[hz]at ah;unfold l4 at hz;cases hi:P.info? t with
   |none=>simp[hi]at hz
   |some i=>
    cases oa:i.zero with
    |none=>simp[hi,oa]at hz
    |some z=>
     simp only[hi,oa]at hz;have hc:=xb hz n bl.length ρ m;obtain⟨jz,ah⟩:=cond_holds ah;have hw:=hk n ρ _ _ _ G _ _ (cQ.alloc n ρ m bl (cs,(t,false)) w.heap.size) (dJ.refl _ _) (h.alloc (t:=t) hc.1 o.dst jz) ah;unfold nh;simp only[execOp,ho,au6,gm,zeroValue,typeInfo,run_program,gz,hi,oa,hV,newVar,newRow,run_newObj];have e:(cs.map (A.den ρ m)).toArray=z.cells:=by rw[hc.2]
     rw[e]at hw;exact hw
 ·rename_i t x ho;have hx:=cu h.t x;split at ah
  ·rename_i u hu;rw[hu]at hx;have dt:a.eval x=u.den ρ m:=hx.2;obtain⟨jz,ah⟩:=cond_holds ah;have hw:=hk n ρ _ _ _ G _ _ (cQ.alloc n ρ m bl (u.cells,(t,false)) w.heap.size) (dJ.refl _ _) (h.alloc (t:=t) (W.zG hx.1) o.dst jz) ah;unfold nh;simp only[execOp,ho,Instr.box,gm,gz,hV,newVar,newRow,run_newObj,dt];rw[<-W.G5 u hx.1]at hw;exact hw
  ·exact ah.elim
 ·rename_i t len parts ho;split at ah
  ·rename_i cs e qe;obtain⟨g1,g2⟩:=acB (m:=m) (vals:=parts.map λ(i,x)=>(i,a.eval x)) qe (by
    rw[uT];generalize parts.toList=ps;induction ps with
    |nil=>exact trivial
    |cons p r ih=>exact⟨⟨rfl,cu h.t p.2⟩,ih⟩)
   obtain⟨jz,ah⟩:=cond_holds ah;have hR:=R.row (t:=e) (cs:=cs) (ex:=[]) (open_:=false) h g1 (λ_=>rfl) jz o.dst (v:= .w (.one (.slc bl.length 0 len len))) (x:= .slice (some ⟨w.heap.size,0,none⟩) len len) (by simp[V.ok,W.ok,A.ok]) (by
    show Value.slice (some ⟨w.heap.size,0,none⟩) _ _=_;simp[W.den,A.den,j2])
   have hw:=hk n ρ _ _ _ G _ _ (cQ.alloc n ρ m bl (cs,(e,false)) w.heap.size) (dJ.refl _ _) hR ah;rw[lr]at hw;unfold nh;simp only[execOp,ho,gm,g2,gz,hV];exact hw
  ·exact ah.elim
 ·rename_i t p x ho;have hp:=cu h.t p;have hx:=cu h.t x;split at ah
  ·rename_i b off u Og Ey;rw[Og]at hp;rw[Ey]at hx;have Oe:a.eval p= .pointer (some ⟨m b,off,none⟩):=hp.2;have dt:a.eval x=u.den ρ m:=hx.2;split at ah
   ·rename_i cs bX s hbl hs;cases hc:(aG u.cells.length s&&bC (off+s) cs.length&&b6 0 s&&bT cs&&bT (cs.take off++u.cells++cs.drop (off+s)))with
    |false=>rw[hc]at ah;exact ah.elim
    |true=>
     simp only[hc,cond_true]at ah;simp only[aO]at hc;obtain⟨⟨hc,rb⟩,nx⟩:=hc;have e1:=bA hc.1.1;have e2:=eE hc.1.2;have e3:=tr hc.2;subst e1;obtain⟨w',hrun,tX⟩:=h.a7.store h.b (W.zG hx.1) hbl e2 e3 rb nx t hs (u.den ρ m) (W.G5 u hx.1);have aY:∀a∈cs.take off++u.cells++cs.drop (off+u.cells.length),A.ok n bl.length ρ a:=λa ha=>by
      have hcs:=h.b _ (cZ hbl);rcases List.mem_append.1 ha with ha|ha
      ·rcases List.mem_append.1 ha with ha|ha
       ·exact hcs a (j7 ha)
       ·exact W.zG hx.1 a ha
      ·exact hcs a (nQ ha)
     unfold nh;simp only[execOp,ho,gm,Oe,dt,hrun,gz,hV];refine hk n ρ m _ _ G _ w' ⟨aW _,agree.refl _ _,by rw[kr];exact aW _,λ_ _=>rfl⟩ (dJ.refl _ _) ⟨?_,by rw[put_defers];exact h.d,h.b.set aY,tX⟩ ah;rw[kr];exact dq.put h.t o.dst (by intro x hx;simp at hx) rfl
   ·exact ah.elim
  ·exact ah.elim
 ·rename_i c ho;split at ah
  ·rename_i f hc;split at ah
   ·exact Jh cy hg h ah hk
   ·have nt:∀v∈c.args.toList.map (b8 tm),V.ok n bl.length ρ v:=λv hv=>by
     obtain⟨x,_,rfl⟩:=List.mem_map.1 hv;exact(cu h.t x).1
    have hr:=ir f n _ bl _ G ρ m w _ (λe lp=>match e with
     | .returned v=>K (a.put o.dst v) lp
     | .panicked chain=>Q (.panic chain) a lp
     | .outgrown=>LetsOut Q) h.b h.a7 nt (Gr (xs:=c.args.toList) h.t) ah (by
     intro n' v aI dg ag m' w' val h1 h2 h3 h4 h5 h6 h7;exact hk n' ag m' _ aI dg _ w' h1 h2 ⟨dq.put (h.t.ext h1.ha h1.hn h1.hb h1.hm) o.dst h3 h4,by rw[put_defers];exact h.d,h5,h6⟩ h7)
    have ha:(c.args.toList.map a.eval).toArray=c.args.map a.eval:=by rw[<-uT]
    rw[ha]at hr;unfold nh;rw[Qi hc o ho,hr.1];refine hr.2.mono λe lp he=>?_;cases e<;>exact he
  ·rename_i x hc;split at ah
   ·exact Jh cy hg h ah hk
   split at ah
   ·rename_i f gY agG;have hx:=cu h.t (.tmp x);obtain⟨hx1,dt⟩:(∀y∈gY,A.ok n bl.length ρ y)/\a.eval (.tmp x)= .func (.func f) #[] (gY.map (A.den ρ m)).toArray:=ada agG hx.1 hx.2;have nt:∀v∈c.args.toList.map (b8 tm)++gY.map (λy=>V.w (.one y)),V.ok n bl.length ρ v:=λv hv=>by
     rcases List.mem_append.1 hv with hv|hv
     ·obtain⟨x,_,rfl⟩:=List.mem_map.1 hv;exact(cu h.t x).1
     ·obtain⟨y,hy,rfl⟩:=List.mem_map.1 hv;exact hx1 y hy
    have hrel:dh ρ m (c.args.toList.map (b8 tm)++gY.map λy=>V.w (.one y)) (c.args.toList.map a.eval++gY.map (A.den ρ m)):=by
     generalize c.args.toList=l;induction l with
     |nil=>
      simp only[et,jK];generalize gY=q;induction q with
      |nil=>trivial
      |cons y r ih=>exact⟨rfl,ih⟩
     |cons x r ih=>exact⟨(cu h.t x).2,ih⟩
    have hr:=ir f n _ bl _ G ρ m w _ (λe lp=>match e with
     | .returned v=>K (a.put o.dst v) lp
     | .panicked chain=>Q (.panic chain) a lp
     | .outgrown=>LetsOut Q) h.b h.a7 nt hrel ah (by
     intro n' v aI dg ag m' w' val h1 h2 h3 h4 h5 h6 h7;exact hk n' ag m' _ aI dg _ w' h1 h2 ⟨dq.put (h.t.ext h1.ha h1.hn h1.hb h1.hm) o.dst h3 h4,by rw[put_defers];exact h.d,h5,h6⟩ h7)
    have hex:execOp a.eval o=callFunc f (c.args.toList.map a.eval++gY.map (A.den ρ m)).toArray:=by
     have e:(c.args.toList.map a.eval++gY.map (A.den ρ m)).toArray=#[]++c.args.map a.eval++(gY.map (A.den ρ m)).toArray:=by
      apply Ry;simp
     rw[e];simp only[execOp,ho,resolve,hc,dt,Deferred.ofValue,pure_bind,invoke]
    unfold nh;rw[hex,hr.1];refine hr.2.mono λe lp he=>?_;cases e<;>exact he
   ·exact ah.elim
  ·exact Jh cy hg h ah hk
 ·exact Jh cy hg h ah hk
theorem QE {n:Nat} {ρ:Env} {m:Nat->Nat} {tm:List V} {bl:List ao} {a:Act} {w:ai} {G:df} {o:Oper} {K:Act->ai->Prop} {Q:Exit->Act->ai->Prop} {k:fy}
 (cy:fq S P gl w0 cal) (hg:eQ gl w0) (ir:lx S L w0 P inl) (h:R w0 n ρ m tm bl a w) (ah:(Fq P gl cal inl o n tm bl k).holds S L G ρ) (hk:jO S L w0 k n bl.length ρ m G K):o.wp P a w K Q:=by
 unfold Fq at ah;split at ah
 ·rename_i t ht;exact aqr h ht ah hk
 ·split at ah
  ·rename_i t ht;exact aqt h ht ah hk
  ·split at ah
   ·rename_i t ht;exact aqu h ht ah hk
   ·exact aqq cy hg ir h ah hk
theorem Te {ρ:Env}:∀{b:bh} {v:Bool} {r:aa×Option Int×Option Int},b.den ρ=v->p4 b v=some r->(∀c,r.2.1=some c->c<=r.1.den ρ)/\(∀c,r.2.2=some c->r.1.den ρ<=c)
 | .le p q,true,r,hb,h| .le p q,false,r,hb,h| .lt p q,true,r,hb,h| .lt p q,false,r,hb,h=>by
  simp only[bh.den,decide_eq_true_eq,decide_eq_false_iff_not]at hb;simp only[p4]at h;split at h
  ·rename_i c h1 h2;have e:=aa.iO h1 (ρ:=ρ);simp only[aK]at h;subst h;constructor<;>intro c' hc<;>simp only[aK,reduceCtorEq]at hc<;>subst hc<;>simp only<;>omega
  ·rename_i c h1 h2;have e:=aa.iO h2 (ρ:=ρ);simp only[aK]at h;subst h;constructor<;>intro c' hc<;>simp only[aK,reduceCtorEq]at hc<;>subst hc<;>simp only<;>omega
  ·cases h
 | .not b,v,r,hb,h=>by
  simp only[p4]at h;refine Te (b:=b) (v:= !v) ?_ h;simp only[bh.den]at hb;rw[<-hb,Bool.not_not]
 | .lit _,_,_,_,h=>by simp[p4]at h
 | .eq _ _,_,_,_,h=>by simp[p4]at h
 | .and _ _,_,_,_,h=>by simp[p4]at h
 | .iff _ _,_,_,_,h=>by simp[p4]at h
theorem adk {n nb:Nat} {ρ:Env} {m:Nat->Nat} {b:bh} {v:Bool} (hb:b.den ρ=v) (u:V) (hu:u.ok n nb ρ):(Ha b v (p4 b v) u).ok n nb ρ/\∀x,u.rel ρ m x->(Ha b v (p4 b v) u).rel ρ m x:=by
 unfold Ha;split
 ·rename_i e;cases hc:bh.beq e b with
  |false=>simp only[cond_false];exact⟨hu,λ_ h=>h⟩
  |true=>
   have:=bh.beq_eq hc;subst this;simp only[cond_true];refine⟨trivial,λx hx=>?_⟩;simp only[V.rel,W.den,A.den,bh.den]at hx⊢;rw[hx,hb]
 ·rename_i k y;cases hr:p4 b v with
  |none=>exact⟨hu,λ_ h=>h⟩
  |some r=>
   obtain⟨l,lo,hi⟩:=r;simp only;cases hc:aa.beq y.l l with
   |false=>simp only[cond_false];exact⟨hu,λ_ h=>h⟩
   |true=>
    have:=aa.beq_eq hc;have hs:=Te hb hr;have hy:y.ok n ρ:=hu;simp only[cond_true];have b1:Bq y.lo lo<=y.l.den ρ:=by
     unfold Bq;cases lo with
     |none=>exact hy.2.1
     |some c=>
      simp only;have:=hs.1 c rfl;have:=hy.2.1;cases decide (y.lo<=c)with
      |true=>simp only[cond_true];rw[‹y.l=l›];assumption
      |false=>simp only[cond_false];assumption
    have b2:y.l.den ρ<=EP y.hi hi:=by
     unfold EP;cases hi with
     |none=>exact hy.2.2
     |some c=>
      simp only;have:=hs.2 c rfl;have:=hy.2.2;cases decide (c<=y.hi)with
      |true=>simp only[cond_true];rw[‹y.l=l›];assumption
      |false=>simp only[cond_false];assumption
    cases hd:decide (Bq y.lo lo=EP y.hi hi)with
    |true=>
     simp only[cond_true];have hd:=of_decide_eq_true hd;refine⟨bK.np _ _ _,λx h=>?_⟩;have h:x= .int k (y.l.den ρ):=h;rw[h];simp only[V.rel,W.den,A.den,bK.const,aa.aT]
     congr 1;omega
    |false=>simp only[cond_false];exact⟨⟨hy.1,b1,b2⟩,λx h=>h⟩
 ·exact⟨hu,λ_ h=>h⟩
theorem B3 {n nb:Nat} {ρ:Env} {m:Nat->Nat} {b:bh} {v:Bool} (hb:b.den ρ=v) {tm:List V} {xs:Array aA} (h:dq n nb ρ m tm xs):dq n nb ρ m (pL b v tm) xs:=by
 refine⟨by simp[pL,h.1],λi u hu=>?_⟩;simp only[pL,oB,Option.map_eq_some_iff]at hu;obtain⟨u0,h0,rfl⟩:=hu;obtain⟨h1,x,h2,h3⟩:=h.2 i u0 h0;have:=adk (m:=m) hb u0 h1;exact⟨this.1,x,h2,this.2 x h3⟩
theorem vt {n nb:Nat} {ρ:Env} {m:Nat->Nat} {tm:List V} {a:Act} {G:df} {ops:Array Oper} {o:Oper} {yes no:List V->T} (ht:dq n nb ρ m tm a.tmps) (h:(tI ops tm o yes no).holds S L G ρ):
 ∃bz,dq n nb ρ m bz a.tmps/\((tc o (yielded ops a.tmps)=true/\(yes bz).holds S L G ρ)∨(tc o (yielded ops a.tmps)=false/\(no bz).holds S L G ρ)):=by
 unfold tI at h;unfold tc;cases hgd:o.guard with
 |none=>simp only[hgd]at h;exact⟨tm,ht,.inl ⟨rfl,h⟩⟩
 |some MI=>
  obtain⟨g,want⟩:=MI;simp only[hgd]at h⊢;unfold yielded;cases hd:(ops[g]?).bind (·.dst)with
  |none=>simp[hd,T.holds]at h
  |some d=>
   simp only[hd]at h;simp only[Option.bind_some];cases On:tm[d]? with
   |none=>simp[On,T.holds]at h
   |some v=>
    obtain⟨_,x,hx,hr⟩:=ht.2 d v On;simp only[On]at h;revert hr h;cases v with
    |any=>intro hr h;exact h.elim
    |oY _ _ _=>intro hr h;exact h.elim
    |mK _ _=>intro hr h;exact h.elim
    |eX l=>
     cases l with
     |nil=>
      intro hr h;have hr:x= .tuple #[]:=hr;subst hr;simp only[hx];exact⟨tm,ht,.inr ⟨by simp,h⟩⟩
     |cons _ _=>intro hr h;exact h.elim
    |w y=>
     cases y with
     |agg l=>intro hr h;exact h.elim
     |one c=>
      cases c with
      |bool b=>
       intro hr h;have hr:x= .bool (b.den ρ):=hr;subst hr;simp only[hx];have key:∀b:bh,(T.tv b (cond want (yes (pL b true tm)) (no (pL b true tm))) (cond want (no (pL b false tm)) (yes (pL b false tm)))).holds S L G ρ->∃bz,dq n nb ρ m bz a.tmps/\(((some (b.den ρ)==some want)=true/\(yes bz).holds S L G ρ)∨((some (b.den ρ)==some want)=false/\(no bz).holds S L G ρ)):=λb hb=>by
        simp only[T.holds]at hb;cases hq:b.den ρ with
        |true=>
         have:=hb.1 hq;cases want with
         |true=>exact⟨_,B3 hq ht,.inl ⟨by simp,this⟩⟩
         |false=>exact⟨_,B3 hq ht,.inr ⟨by simp,this⟩⟩
        |false=>
         have:=hb.2 hq;cases want with
         |true=>exact⟨_,B3 hq ht,.inr ⟨by simp,this⟩⟩
         |false=>exact⟨_,B3 hq ht,.inl ⟨by simp,this⟩⟩
       cases b with
       |lit v=>
        simp only[bh.den];cases hv:(v==want)with
        |true=>simp only[hv,cond_true]at h;exact⟨tm,ht,.inl ⟨by simpa using hv,h⟩⟩
        |false=>simp only[hv,cond_false]at h;exact⟨tm,ht,.inr ⟨by simpa using hv,h⟩⟩
       |eq _ _=>exact key _ h
       |lt _ _=>exact key _ h
       |le _ _=>exact key _ h
       |not _=>exact key _ h
       |and _ _=>exact key _ h
       |iff _ _=>exact key _ h
      |_=>intro hr h;exact h.elim
theorem R.skip {n:Nat} {ρ:Env} {m:Nat->Nat} {tm:List V} {bl:List ao} {a:Act} {w:ai} (h:R w0 n ρ m tm bl a w) (d:Option Tmp):R w0 n ρ m (ey tm d (.eX [])) bl (a.put d undef) w:=
 ⟨dq.put h.t d (by intro x hx;simp at hx) rfl,by rw[put_defers];exact h.d,h.b,h.a7⟩
theorem I1 {ops:Array Oper} {Q:Exit->Act->ai->Prop} (cy:fq S P gl w0 cal) (hg:eQ gl w0) (ir:lx S L w0 P inl):∀(l:List Oper) {n:Nat} {ρ:Env} {m:Nat->Nat} {tm:List V} {bl:List ao} {a:Act} {w:ai} {G:df} {k:fy},
 R w0 n ρ m tm bl a w->(BB P gl cal inl ops l n tm bl k).holds S L G ρ->jO S L w0 k n bl.length ρ m G (Q .normal)->wpList P ops Q l a w
 |[],n,ρ,m,tm,bl,a,w,G,k,h,ah,hk=>hk n ρ m tm bl G a w (cQ.refl _ _ _ _) (dJ.refl _ _) h ah
 |o::r,n,ρ,m,tm,bl,a,w,G,k,h,ah,hk=>by
  unfold BB at ah;unfold wpList;obtain⟨bz,hE,hgd⟩:=vt h.t ah;have h:R w0 n ρ m bz bl a w:=⟨hE,h.d,h.b,h.a7⟩;rcases hgd with⟨hw,ah⟩|⟨hw,ah⟩
  ·rw[if_pos hw];refine .inl (QE cy hg ir h ah λn' ag m' bz aI dg a' w' h1 h2 h3 h4=>?_);exact I1 cy hg ir r h3 h4 (hk.later h1 h2)
  ·rw[if_neg (by simp[hw])];exact I1 cy hg ir r (h.skip o.dst) ah hk
theorem allT_holds {g:Nat->T} {L:V->Env->Prop} {G:df} {ρ:Env}:∀{l:List Nat},(GH g l).holds S L G ρ->∀i∈l,(g i).holds S L G ρ
 |[],ah,_,hi=>by cases hi
 |[j],ah,i,hi=>by simp at hi;subst hi;exact ah
 |j::OP::r,ah,i,hi=>by
  rcases List.mem_cons.1 hi with rfl|hi
  ·exact ah.1
  ·exact allT_holds (l:=OP::r) ah.2 i hi
theorem HJ {ops:Array Oper} {bl:List ao} {m:Nat->Nat} {n0:Nat} {bY:Env} (cy:fq S P gl w0 cal) (hg:eQ gl w0) (jd:b9 n0 bl.length bY bl) (hex:∃w,Mem w0 bY m bl w) {F:Act->Prop} {G:df}:∀(l:List Oper) {n:Nat} {ρ:Env} {tm:List V} {a:Act} {k:Nat->List V->T},
 n0<=n->agree n0 bY ρ->dq n bl.length ρ m tm a.tmps->a.defers=w0.ds->(Am P gl cal ops l n tm bl k).holds S L G ρ->
 (∀n' ag bz a',n<=n'->agree n ρ ag->dq n' bl.length ag m bz a'.tmps->a'.defers=w0.ds->(k n' bz).holds S L G ag->F a')->wP P ops (λw=>Mem w0 bY m bl w) F l a
 |[],n,ρ,tm,a,k,hn,ha,ht,hd,ah,hk=>hk n ρ tm a (aW _) (agree.refl _ _) ht hd ah
 |o::r,n,ρ,tm,a,k,hn,ha,ht,hd,ah,hk=>by
  unfold Am at ah;unfold wP;obtain⟨uJ,ri⟩:=hex;cases dj:e5 o with
  |true=>
   simp only[dj,cond_true]at ah⊢;exact HJ cy hg jd ⟨uJ,ri⟩ r hn ha ht hd ah hk
  |false=>
   simp only[dj,cond_false]at ah⊢;obtain⟨bz,ht,hgd⟩:=vt ht ah;rcases hgd with⟨hw,ah⟩|⟨hw,ah⟩
   ·have hb:b9 n bl.length ρ bl:=jd.ext ha hn (aW _);obtain⟨ag,n',v,mj,fu,⟨hv,val,hr,hq⟩,sk⟩:=E5 (L:=L) cy hb hg ⟨uJ,ri.dP jd ha⟩ ht o G _ ah;refine⟨val,.inl ⟨hw,λw aie=>hq w (aie.dP jd ha)⟩,?_⟩;exact HJ cy hg jd ⟨uJ,ri⟩ r (gk hn mj) (ha.trans fu hn) (dq.put (ht.ext fu mj (aW _) (λ_ _=>rfl)) o.dst hv hr) (by rw[put_defers];exact hd) sk
     λBv pV Zx SM h1 h2 h3 h4 h5=>hk Bv pV Zx SM (gk mj h1) (fu.trans h2 mj) h3 h4 h5
   ·exact⟨undef,.inr ⟨hw,rfl⟩,HJ cy hg jd ⟨uJ,ri⟩ r hn ha (dq.put (v:= .eX []) ht o.dst (by intro x hx;simp at hx) rfl) (by rw[put_defers];exact hd) ah hk⟩
def Cj (P:bk) (ops:Array Oper) (j:Nat):Obj:=
 match ops[j]? with
 |some o=>match o.op with
  | .alloc t=>match P.info? t with
   |some i=>match i.zero with
    |some z=> .cells z.cells t
    |none=>default
   |none=>default
  |_=>default
 |none=>default
theorem aui {l:List Oper} {h j:Nat} {o:Oper} (hz:J0 P (l.take h)=true) (hj:j<h) (ho:l.toArray[j]?=some o) (dj:e5 o=true) (b:Act) (w:ai):
 (execOp b.eval o).run P w= .ok (.value (.pointer (some ⟨w.heap.size,0,none⟩))) (w.alloc (Cj P l.toArray j)):=by
 have gh:l[j]?=some o:=by simpa using ho
 have hm:o∈l.take h:=cZ (i:=j) (by rw[o8,if_pos hj];exact gh);have h1:=List.all_eq_true.1 hz o hm;simp only[dj,FV,Bool.false_or]at h1;unfold Cj;simp only[ho];cases hop:o.op with
 |alloc t=>
  simp only[hop]at h1;obtain⟨cs,hcs⟩:=Option.isSome_iff_exists.1 h1;obtain⟨i,z,hi,oa,_⟩:=JZ hcs;simp only[execOp,hop,au6,gm,zeroValue,typeInfo,run_program,gz,hi,oa,hV,newVar,newRow,run_newObj];rfl
 |_=>simp[hop]at h1
theorem Lz {ops:Array Oper} {h:Nat} {an b:Act} {eN:Nat->Nat} {aM:Nat} {w:ai} {n:Nat} {ρ:Env} {G:df} {k:fy} {K:Act->ai->Prop} (tT:Fin ops h an b eN) (ix:u3 ops h (λ_=>True) (Cj P ops) eN aM w) (hsz:w0.b.heap.size<=aM) (Wa:w0.r.heap.size<=aM):
 ∀(l:List Oper) (i:Nat) {m:Nat->Nat} {tm:List V} {bl:List ao} {c:Act},(∀j,j<l.length->ops[i+j]?=l[j]?)->i+l.length=h->R w0 n ρ m tm bl c w->CF w0 ρ m bl w aM->
  (∀(aU:Nat) (p:ao),bl[aU]?=some p->aQ ρ p.1≠0->m aU<aM∨∃j,j<i/\pg ops j=true/\m aU=eN j)->c.tmps.size=an.tmps.size->
  (∀t:Nat,((∃j o,j<i/\ops[j]?=some o/\e5 o=true/\o.dst=some t)->c.tmps[t]?=b.tmps[t]?)/\((∀j o,j<i->ops[j]?=some o->e5 o=true->o.dst≠some t)->c.tmps[t]?=an.tmps[t]?))->
  (CG P l n tm bl k).holds S L G ρ->jO S L w0 k n bl.length ρ m G K->an.defers=w0.ds->K b w
 |[],i,m,tm,bl,c,hl,hi,hR,mi,hm,hcs,hc,ah,hk,hd=>by
  simp only[eF,lu]at hi;subst hi;have fS:c=b:=abS (by rw[hR.d,tT.d,hd]) λt=>by
   by_cases ht:∃j o,j<i/\ops[j]?=some o/\e5 o=true/\o.dst=some t
   ·exact(hc t).1 ht
   ·have hno:∀j o,j<i->ops[j]?=some o->e5 o=true->o.dst≠some t:=λj o h1 h2 h3 h4=>ht ⟨j,o,h1,h2,h3,h4⟩;rw[(hc t).2 hno,tT.no t hno]
  subst fS;exact hk n ρ m tm bl G c w (cQ.refl _ _ _ _) (dJ.refl _ _) hR ah
 |o::r,i,m,tm,bl,c,hl,hi,hR,mi,hm,hcs,hc,ah,hk,hd=>by
  have ho:ops[i]?=some o:=by have:=hl 0 (by simp);simpa using this
  have hr:∀j,j<r.length->ops[i+1+j]?=r[j]?:=λj hj=>by
   have:=hl (j+1) (by simp;omega);rw[show i+1+j=i+(j+1) by omega,this];simp
  have nv:i+1+r.length=h:=by simp at hi;omega
  unfold CG at ah;cases dj:e5 o with
  |false=>
   simp only[dj,cond_false]at ah;refine Lz tT ix hsz Wa r (i+1) hr nv hR mi (λaU p je hp=>(hm aU p je hp).imp id λ⟨j,h1,h2⟩=>⟨j,by omega,h2⟩) hcs (λt=>⟨λ⟨j,cm,h1,h2,h3,h4⟩=>?_,λhno=>(hc t).2 λj cm h1=>hno j cm (by omega)⟩) ah hk hd;by_cases e7:j=i
   ·subst e7;have:cm=o:=gH (h2.symm.trans ho);subst this;rw[dj]at h3;cases h3
   ·exact(hc t).1 ⟨j,cm,by omega,h2,h3,h4⟩
  |true=>
   simp only[dj,cond_true]at ah;cases hop:o.op with
   |alloc ty=>
    simp only[hop]at ah;cases hz:l4 P ty with
    |none=>simp[hz,T.holds]at ah
    |some cs=>
     simp only[hz]at ah;obtain⟨jz,ah⟩:=cond_holds ah;obtain⟨inf,z,ag3,oa,hh⟩:=JZ hz;have Nz:=xb hh n bl.length ρ m;have gN:pg ops i=true:=by simp[pg,ho,dj]
     have NS:i<h:=by simp at hi;omega
     obtain⟨g1,g2⟩:=ix.1 i NS trivial gN;have ain:Cj P ops i= .cells (cs.map (A.den ρ m)).toArray ty (0,0):=by
      unfold Cj;simp only[ho,hop,ag3,oa,Nz.2]
     rw[ain]at g2;have hne:∀(aU:Nat) (p:ao),bl[aU]?=some p->aQ ρ p.1≠0->m aU≠eN i:=λaU p je hp e=>by
      rcases hm aU p je hp with h1|⟨j,h1,h2,h3⟩
      ·omega
      ·have:=ix.2 j i (by omega) NS trivial trivial h2 gN (h3.symm.trans e);omega
     have hM:=hR.a7.push (x:=(cs,(ty,false))) hR.b Nz.1 (λ_=>⟨by omega,.inr (by omega),[],λ_=>rfl,by rw[lr];exact g2⟩) (λsh off code cap kind e=>by simp only at e;subst e;cases jz) (λi p hi he=> .inr (.inl (aaM λhk=>hne i p hi hk he))) (λya sh off code cap kind t hi=>(mi ya sh off code cap kind t hi).mono λba h'=>h'.1.push (.inr (by omega)));have bZ:=cQ.alloc n ρ m bl (cs,(ty,false)) (eN i);have nX:R w0 n ρ (fg m bl.length (eN i)) (ey tm o.dst (.w (.one (.ptr bl.length 0)))) (bl++[(cs,(ty,false))]) (c.put o.dst (.pointer (some ⟨eN i,0,none⟩))) w:=
      ⟨dq.put (hR.t.ext bZ.ha bZ.hn bZ.hb bZ.hm) o.dst (by simp[V.ok,W.ok,A.ok]) (by simp[V.rel,W.den,A.den,j2]),by rw[put_defers];exact hR.d,hR.b.alloc Nz.1,hM⟩
     refine Lz tT ix hsz Wa r (i+1) hr nv nX (mi.push (by omega) jz) (λaU p je hp=>?_) ((yA _ _ _).trans hcs) (λt=>⟨λ⟨j,cm,h1,h2,h3,h4⟩=>?_,λhno=>?_⟩) ah (hk.later bZ (dJ.refl _ _)) hd
     ·by_cases iw:aU<bl.length
      ·rw[iF iw];rw[rO iw]at je;exact(hm aU p je hp).imp id λ⟨j,h1,h2⟩=>⟨j,by omega,h2⟩
      ·have:aU=bl.length:=by have:=(List.getElem?_eq_some_iff.1 je).1;simp at this;omega
       subst this;rw[j2];exact .inr ⟨i,by omega,gN,rfl⟩
     ·by_cases ht:o.dst=some t
      ·rw[ht];simp only[Act.put];rcases mC t c.tmps.size with h5|h5
       ·have qe:t<b.tmps.size:=by rw[tT.aM,<-hcs];exact h5
        rw[tT.al t i o NS ho dj ht qe];simp[h5]
       ·rw[uO (by simpa using h5),uO (by rw[tT.aM,<-hcs];exact h5)]
      ·rw[sK ht];by_cases e7:j=i
       ·subst e7;have:cm=o:=gH (h2.symm.trans ho);subst this;exact absurd h4 ht
       ·exact(hc t).1 ⟨j,cm,by omega,h2,h3,h4⟩
     ·have ht:o.dst≠some t:=hno i o (by omega) ho dj;rw[sK ht];exact(hc t).2 λj cm h1=>hno j cm (by omega)
   |_=>simp[hop,T.holds]at ah
end
end Go.bg
namespace Go.bg
open M
theorem ade {a b:aA} (h:L7 a b=true):a=b:=by
 unfold L7 at h;split at h
 ·rfl
 ·rfl
 ·rename_i f a b nr a' b';simp only[aO]at h;obtain⟨⟨⟨⟨h1,h2⟩,h3⟩,h4⟩,h5⟩:=h;rw[bA h1,uV (bA h2),uV (bA h3),uV (bA h4),uV (bA h5)]
 ·cases h
theorem A.beq_eq {a b:A} (h:A.beq a b=true):a=b:=by
 cases a<;>cases b<;>simp only[A.beq]at h<;>(try(cases h;done))
 case int.int k x a6 y=>
  simp only[aO,decide_eq_true_eq,beq_iff_eq]at h;obtain⟨⟨⟨h1,h2⟩,h3⟩,h4⟩:=h;cases x;cases y;simp only at h2 h3 h4;rw[h1,aa.beq_eq h2,h3,h4]
 case bool.bool x y=>
  rw[bh.beq_eq h]
 case con.con=>rw[ade h]
 case ptr.ptr=>simp only[aO]at h;rw[bA h.1,bA h.2]
 case gptr.gptr=>simp only[aO]at h;rw[bA h.1,bA h.2]
 case slc.slc=>
  simp only[aO]at h;rw[bA h.1.1.1,bA h.1.1.2,bA h.1.2,bA h.2]
 case str.str=>rw[aa.beq_eq h]
 case rows.rows=>
  simp only[aO]at h;rw[o4 h.1.1.1.1,aa.beq_eq h.1.1.1.2,aa.beq_eq h.1.1.2,aa.beq_eq h.1.2,bA h.2]
 case sl.sl=>
  simp only[aO]at h;rw[bA h.1.1.1.1.1,bA h.1.1.1.1.2,aa.beq_eq h.1.1.1.2,aa.beq_eq h.1.1.2,aa.beq_eq h.1.2,aa.beq_eq h.2]
 case ep.ep=>
  simp only[aO]at h;rw[bA h.1.1.1.1,bA h.1.1.1.2,aa.beq_eq h.1.1.2,aa.beq_eq h.1.2,bA h.2]
theorem zx:∀{a b:List A},nn a b=true->a=b
 |[],[],_=>rfl
 |x::r,y::s,h=>by
  simp only[nn,aO]at h;rw[A.beq_eq h.1,zx h.2]
 |[],_::_,h=>by simp[nn]at h
 |_::_,[],h=>by simp[nn]at h
theorem V.beq_eq {a b:V} (h:V.beq a b=true):a=b:=by
 cases a with
 |any=>cases b<;>simp[V.beq]at h
 |eX l=>cases l<;>cases b<;>simp[V.beq]at h;rename_i bV;cases bV<;>simp[V.beq]at h;rfl
 |w x=>
  cases b with
  |w y=>cases x<;>cases y<;>simp[V.beq]at h;rw[A.beq_eq h];rw[zx h]
  |_=>cases x<;>simp[V.beq]at h
 |oY _ _ _=>simp[V.beq]at h
 |mK f l=>
  cases b with
  |mK nr bV=>
   simp only[V.beq,aO]at h;rw[bA h.1,zx h.2]
  |_=>simp[V.beq]at h
theorem B9:∀(zs:List Int) (n:Nat) (ρ:Env) (j:Nat),j<zs.length->bf ρ n zs (n+j)=zs.getD j 0
 |[],_,_,_,h=>by simp at h
 |z::zs,n,ρ,0,_=>by
  show bf (cV ρ n z) (n+1) zs (n+0)=z;rw[agree.bf zs (n+1) _ (n+0) (by omega)];exact jG ρ n z
 |z::zs,n,ρ,j+1,h=>by
  show bf (cV ρ n z) (n+1) zs (n+(j+1))=_;rw[show n+(j+1)=n+1+j by omega,B9 zs (n+1) _ j (by simpa using h)];rfl
def wU (n nb:Nat) (ρ:Env) (m:Nat->Nat):List V->List aA->Prop
 |[],[]=>True
 |v::r,x::s=>v.ok n nb ρ/\v.rel ρ m x/\wU n nb ρ m r s
 |_,_=>False
theorem Su {n nb:Nat} {ρ:Env} {m:Nat->Nat}:∀{tm:List V} {xs:List aA},dq n nb ρ m tm xs.toArray->wU n nb ρ m tm xs
 |[],[],_=>trivial
 |v::r,x::s,h=>by
  have h0:=h.2 0 v rfl;obtain⟨h1,y,h2,h3⟩:=h0;simp at h2;subst h2;refine⟨h1,h3,Su (tm:=r) (xs:=s) ⟨by simpa using h.1,λi u hu=>?_⟩⟩;have:=h.2 (i+1) u (by simpa using hu);simpa using this
 |[],_::_,h=>by have:=h.1;simp at this
 |_::_,[],h=>by have:=h.1;simp at this
theorem GA {n nb:Nat} {ρ:Env} {m:Nat->Nat}:∀{tm:List V} {xs:List aA},wU n nb ρ m tm xs->dq n nb ρ m tm xs.toArray
 |[],[],_=>⟨rfl,λi v h=>by simp at h⟩
 |v::r,x::s,h=>by
  have ih:=GA h.2.2;refine⟨by simpa using ih.1,λi u hu=>?_⟩;cases i with
  |zero=>simp at hu;subst hu;exact⟨h.1,x,by simp,h.2.1⟩
  |succ i=>have:=ih.2 i u (by simpa using hu);simpa using this
 |[],_::_,h=>h.elim
 |_::_,[],h=>h.elim
theorem rl:∀{b b':List (Int×Int)} {l bV:List Int},bd b l->bd b' bV->bd (b++b') (l++bV)
 |[],_,[],_,_,h=>h
 |_::_,_,_::_,_,h,h'=>⟨h.1,h.2.1,rl h.2.2 h'⟩
 |[],_,_::_,_,h,_=>h.elim
 |_::_,_,[],_,h,_=>h.elim
theorem agree.symm {n:Nat} {ρ ag:Env} (h:agree n ρ ag):agree n ag ρ:=λi hi=>(h i hi).symm
theorem V.back {n nb:Nat} {bY ag bp:Env} {m0 m':Nat->Nat} {v:V} {x:aA} (h0:v.ok n nb bY) (ha:agree n bY ag) (h2:agree n bY bp) (hm:∀b,b<nb->m' b=m0 b) (hr:v.rel ag m' x):v.ok n nb bp/\v.rel bp m0 x:=by
 have ahy:v.ok n nb ag:=h0.ext ha (aW _) (aW _);exact⟨h0.ext h2 (aW _) (aW _),hr.ext ahy (ha.symm.trans h2 (aW _)) λb hb=>(hm b hb).symm⟩
section
variable {eC:List Nat} {ints:List (Nat×Int×Int)}
theorem AA:∀{tm:List V} {i s:Nat} {t:List V} {l:List aa} {b:List (Int×Int)},hs eC ints i s tm=some (t,l,b)->l.length=b.length/\t.length=tm.length
 |[],i,s,t,l,b,h=>by simp[hs]at h;obtain⟨rfl,rfl,rfl⟩:=h;exact⟨rfl,rfl⟩
 |v::r,i,s,t,l,b,h=>by
  unfold hs at h;cases hk:eC.any (aG i)with
  |true=>
   simp only[hk,cond_true]at h;cases hr:hs eC ints (i+1) s r with
   |none=>simp[hr]at h
   |some q=>
    obtain⟨t',bV,b'⟩:=q;simp only[hr,aK,cv]at h;obtain⟨rfl,rfl,rfl⟩:=h;have:=AA hr;simp[this]
  |false=>
   simp only[hk,cond_false]at h;cases hf:vo i ints with
   |none=>
    simp only[hf]at h;cases hr:hs eC ints (i+1) s r with
    |none=>simp[hr]at h
    |some q=>
     obtain⟨t',bV,b'⟩:=q;simp only[hr,aK,cv]at h;obtain⟨rfl,rfl,rfl⟩:=h;have:=AA hr;simp[this]
   |some q=>
    obtain⟨lo,hi⟩:=q;simp only[hf]at h;split at h
    ·rename_i k x;cases hc:(decide (lo<=x.lo)&&decide (x.hi<=hi))with
     |false=>simp[hc]at h
     |true=>
      simp only[hc,cond_true]at h;cases hr:hs eC ints (i+1) (s+1) r with
      |none=>simp[hr]at h
      |some q=>
       obtain⟨t',bV,b'⟩:=q;simp only[hr,aK,cv]at h;obtain⟨rfl,rfl,rfl⟩:=h;have:=AA hr;simp[this]
    ·cases hr:hs eC ints (i+1) (s+1) r with
     |none=>simp[hr]at h
     |some q=>
      obtain⟨t',bV,b'⟩:=q;simp only[hr,aK,cv]at h;obtain⟨rfl,rfl,rfl⟩:=h;have:=AA hr;simp[this]
    ·cases h
theorem Ek {n nb N:Nat} {bY ag bp:Env} {m0 m':Nat->Nat} {n' jB:Nat} (ha:agree n bY ag) (h2:agree n bY bp) (hm:∀b,b<nb->m' b=m0 b) (nw:n<=N):
 ∀{tm bz:List V} {xs:List aA} {i s:Nat} {t t':List V} {l bV:List aa} {b b':List (Int×Int)},
 (∀v∈tm,V.ok n nb bY v)->wU n' jB ag m' bz xs->hs eC ints i s tm=some (t,l,b)->hs eC ints i s bz=some (t',bV,b')->kZ t t'=true->
 (∀j,j<bV.length->bp (s+j)=(bV.getD j (.const 0)).den ag)->s+bV.length<=N->wU N nb bp m0 t xs/\bd b (bV.map (·.den ag))/\bV.length=l.length
 |[],[],[],i,s,t,t',l,bV,b,b',h0,hr,e1,e2,hf,hv,hN=>by
  simp[hs]at e1 e2;obtain⟨rfl,rfl,rfl⟩:=e1;obtain⟨rfl,rfl,rfl⟩:=e2;exact⟨trivial,trivial,rfl⟩
 |v::r,v'::r',x::xs,i,s,t,t',l,bV,b,b',h0,hr,e1,e2,hf,hv,hN=>by
  obtain⟨aY,hrel,xX⟩:=hr;have xl:∀v∈r,V.ok n nb bY v:=λu hu=>h0 u (cF _ hu);unfold hs at e1 e2;cases hk:eC.any (aG i)with
  |true=>
   simp only[hk,cond_true]at e1 e2;cases eJ:hs eC ints (i+1) s r with
   |none=>simp[eJ]at e1
   |some q1=>
    obtain⟨t1,l1,b1⟩:=q1;cases fK:hs eC ints (i+1) s r' with
    |none=>simp[fK]at e2
    |some q2=>
     obtain⟨t2,l2,b2⟩:=q2;simp only[eJ,aK,cv]at e1;simp only[fK,aK,cv]at e2;obtain⟨rfl,rfl,rfl⟩:=e1;obtain⟨rfl,rfl,rfl⟩:=e2;have hv0:=h0 v (by simp);have key:kZ t1 t2=true/\(v= .any∨v=v'):=by
      unfold kZ at hf;split at hf
      ·rename_i heq _;cases heq
      ·rename_i h1 h2;cases h1;cases h2;exact⟨hf,.inl rfl⟩
      ·rename_i h1 h2;cases h1;cases h2;simp only[aO]at hf;exact⟨hf.2,.inr (V.beq_eq hf.1)⟩
      ·cases hf
     obtain⟨p1,bo,bU⟩:=Ek ha h2 hm nw xl xX eJ fK key.1 hv hN;refine⟨⟨?_,?_,p1⟩,bo,bU⟩
     ·exact hv0.ext h2 nw (aW _)
     ·rcases key.2 with rfl|rfl
      ·trivial
      ·exact(V.back hv0 ha h2 hm hrel).2
  |false=>
   simp only[hk,cond_false]at e1 e2;cases kj:vo i ints with
   |none=>
    simp only[kj]at e1 e2;cases eJ:hs eC ints (i+1) s r with
    |none=>simp[eJ]at e1
    |some q1=>
     obtain⟨t1,l1,b1⟩:=q1;cases fK:hs eC ints (i+1) s r' with
     |none=>simp[fK]at e2
     |some q2=>
      obtain⟨t2,l2,b2⟩:=q2;simp only[eJ,aK,cv]at e1;simp only[fK,aK,cv]at e2;obtain⟨rfl,rfl,rfl⟩:=e1;obtain⟨rfl,rfl,rfl⟩:=e2;obtain⟨p1,bo,bU⟩:=Ek ha h2 hm nw xl xX eJ fK (by simpa [kZ]using hf) hv hN;exact⟨⟨trivial,trivial,p1⟩,bo,bU⟩
   |some q=>
    obtain⟨lo,hi⟩:=q;simp only[kj]at e1 e2;split at e1
    ·rename_i k y;split at e2
     ·rename_i a6 jI;cases hc1:(decide (lo<=y.lo)&&decide (y.hi<=hi))with
      |false=>simp[hc1]at e1
      |true=>
       cases hc2:(decide (lo<=jI.lo)&&decide (jI.hi<=hi))with
       |false=>simp[hc2]at e2
       |true=>
        simp only[hc1,cond_true]at e1;simp only[hc2,cond_true]at e2;cases eJ:hs eC ints (i+1) (s+1) r with
        |none=>simp[eJ]at e1
        |some q1=>
         obtain⟨t1,l1,b1⟩:=q1;cases fK:hs eC ints (i+1) (s+1) r' with
         |none=>simp[fK]at e2
         |some q2=>
          obtain⟨t2,l2,b2⟩:=q2;simp only[eJ,aK,cv]at e1;simp only[fK,aK,cv]at e2;obtain⟨rfl,rfl,rfl⟩:=e1;obtain⟨rfl,rfl,rfl⟩:=e2;simp only[kZ,aO]at hf;have je:=V.beq_eq hf.1;simp only[V.w.injEq,W.one.injEq,A.int.injEq]at je;simp only[aO,decide_eq_true_eq]at hc2;obtain⟨p1,bo,bU⟩:=Ek ha h2 hm nw xl xX eJ fK hf.2 (λj hj=>by
           have:=hv (j+1) (by simpa using hj);rw[show s+1+j=s+(j+1) by omega];simpa using this) (by simp at hN;omega)
          have hv0:=hv 0 (by simp);simp only[lu,wE]at hv0;have hb:=aY.2;simp only[V.rel,W.den,A.den]at hrel;refine⟨⟨⟨aa.er (by simp at hN;omega),?_,?_⟩,?_,p1⟩,⟨?_,?_,bo⟩,by simp[bU]⟩
          ·simp only[aa.cp,hv0];omega
          ·simp only[aa.cp,hv0];omega
          ·simp only[V.rel,W.den,A.den,aa.cp,hv0,je.1];exact hrel
          ·simp only;omega
          ·simp only;omega
     ·cases eJ:hs eC ints (i+1) (s+1) r' with
      |none=>simp[eJ]at e2
      |some q2=>
       obtain⟨t2,l2,b2⟩:=q2;simp only[eJ,aK,cv]at e2;obtain⟨rfl,rfl,rfl⟩:=e2;cases hc1:(decide (lo<=y.lo)&&decide (y.hi<=hi))with
       |false=>simp[hc1]at e1
       |true=>
        simp only[hc1,cond_true]at e1;cases fK:hs eC ints (i+1) (s+1) r with
        |none=>simp[fK]at e1
        |some q1=>
         obtain⟨t1,l1,b1⟩:=q1;simp only[fK,aK,cv]at e1;obtain⟨rfl,rfl,rfl⟩:=e1;simp[kZ,V.beq,A.beq]at hf
     ·cases e2
    ·rename_i y;split at e2
     ·rename_i a6 jI;cases eJ:hs eC ints (i+1) (s+1) r with
      |none=>simp[eJ]at e1
      |some q1=>
       obtain⟨t1,l1,b1⟩:=q1;simp only[eJ,aK,cv]at e1;obtain⟨rfl,rfl,rfl⟩:=e1;cases hc2:(decide (lo<=jI.lo)&&decide (jI.hi<=hi))with
       |false=>simp[hc2]at e2
       |true=>
        simp only[hc2,cond_true]at e2;cases fK:hs eC ints (i+1) (s+1) r' with
        |none=>simp[fK]at e2
        |some q2=>
         obtain⟨t2,l2,b2⟩:=q2;simp only[fK,aK,cv]at e2;obtain⟨rfl,rfl,rfl⟩:=e2;simp[kZ,V.beq,A.beq]at hf
     ·rename_i jI;cases eJ:hs eC ints (i+1) (s+1) r with
      |none=>simp[eJ]at e1
      |some q1=>
       obtain⟨t1,l1,b1⟩:=q1;cases fK:hs eC ints (i+1) (s+1) r' with
       |none=>simp[fK]at e2
       |some q2=>
        obtain⟨t2,l2,b2⟩:=q2;simp only[eJ,aK,cv]at e1;simp only[fK,aK,cv]at e2;obtain⟨rfl,rfl,rfl⟩:=e1;obtain⟨rfl,rfl,rfl⟩:=e2;simp only[kZ,aO]at hf;obtain⟨p1,bo,bU⟩:=Ek ha h2 hm nw xl xX eJ fK hf.2 (λj hj=>by
         have:=hv (j+1) (by simpa using hj);rw[show s+1+j=s+(j+1) by omega];simpa using this) (by simp at hN;omega)
        have hv0:=hv 0 (by simp);simp only[lu,wE]at hv0;have hb:0<=jI.den ag/\jI.den ag<=bx:=aY.2;have hrel:x= .string (aL (U (jI.den ag))):=hrel;refine⟨⟨⟨aa.er (by simp at hN;omega),?_⟩,?_,p1⟩,⟨hb.1,hb.2,bo⟩,by simp[bU]⟩
        ·simp only[aa.cp,hv0];exact hb
        ·simp only[V.rel,W.den,A.den,aa.cp,hv0];exact hrel
     ·cases e2
    ·cases e1
 |[],_::_,_,i,s,t,t',l,bV,b,b',h0,hr,e1,e2,hf,hv,hN=>by
  simp[hs]at e1;obtain⟨rfl,_,_⟩:=e1;have:=(AA e2).2;cases t' with
  |nil=>simp at this
  |cons _ _=>simp[kZ]at hf
 |_::_,[],_,i,s,t,t',l,bV,b,b',h0,hr,e1,e2,hf,hv,hN=>by
  simp[hs]at e2;obtain⟨rfl,_,_⟩:=e2;have:=(AA e1).2;cases t with
  |nil=>simp at this
  |cons y z=>cases y<;>simp[kZ]at hf
 |_::_,_::_,[],i,s,t,t',l,bV,b,b',h0,hr,e1,e2,hf,hv,hN=>hr.elim
 |[],[],_::_,i,s,t,t',l,bV,b,b',h0,hr,e1,e2,hf,hv,hN=>hr.elim
end
def CB (n nb:Nat) (ρ:Env) (m:Nat->Nat):List A->List aA->Prop
 |[],[]=>True
 |a::r,x::s=>A.ok n nb ρ a/\x=a.den ρ m/\CB n nb ρ m r s
 |_,_=>False
theorem Sr {n nb:Nat} {ρ:Env} {m:Nat->Nat}:∀{l:List A},(∀a∈l,A.ok n nb ρ a)->CB n nb ρ m l (l.map (A.den ρ m))
 |[],_=>trivial
 |a::r,h=>⟨h a (by simp),rfl,Sr λx hx=>h x (cF _ hx)⟩
theorem Ss {n nb:Nat} {ρ:Env} {m:Nat->Nat}:∀{l:List A} {xs:List aA},CB n nb ρ m l xs->(∀a∈l,A.ok n nb ρ a)/\xs=l.map (A.den ρ m)
 |[],[],_=>⟨by simp,rfl⟩
 |a::r,x::s,h=>by
  have ih:=Ss h.2.2;exact⟨λy hy=>by rcases List.mem_cons.1 hy with rfl|hy;exact h.1;exact ih.1 y hy,by rw[h.2.1,ih.2];rfl⟩
 |[],_::_,h=>h.elim
 |_::_,[],h=>h.elim
theorem A.back {n nb:Nat} {bY ag bp:Env} {m0 m':Nat->Nat} {v:A} (h0:v.ok n nb bY) (ha:agree n bY ag) (h2:agree n bY bp) (hm:∀b,b<nb->m' b=m0 b):v.den ag m'=v.den bp m0:=by
 rw[A.kf h0 ha hm,A.kf (m':=m0) h0 h2 (λ_ _=>rfl)]
section
variable {ints:List (Nat×Int×Int)}
theorem Ab:∀{cs:List A} {i s:Nat} {t:List A} {l:List aa} {b:List (Int×Int)},ha ints i s cs=some (t,l,b)->l.length=b.length/\t.length=cs.length
 |[],i,s,t,l,b,h=>by simp[ha]at h;obtain⟨rfl,rfl,rfl⟩:=h;exact⟨rfl,rfl⟩
 |v::r,i,s,t,l,b,h=>by
  unfold ha at h;cases hf:vo i ints with
  |none=>
   simp only[hf]at h;cases hr:ha ints (i+1) s r with
   |none=>simp[hr]at h
   |some q=>
    obtain⟨t',bV,b'⟩:=q;simp only[hr,aK,cv]at h;obtain⟨rfl,rfl,rfl⟩:=h;have:=Ab hr;simp[this]
  |some q=>
   obtain⟨lo,hi⟩:=q;simp only[hf]at h;cases hc:iZ lo hi s v with
   |none=>simp[hc]at h
   |some p=>
    obtain⟨a,x,dS⟩:=p;simp only[hc]at h;cases hr:ha ints (i+1) (s+1) r with
    |none=>simp[hr]at h
    |some q=>
     obtain⟨t',bV,b'⟩:=q;simp only[hr,aK,cv]at h;obtain⟨rfl,rfl,rfl⟩:=h;have:=Ab hr;simp[this]
theorem ac0 {n nb N:Nat} {bY ag bp:Env} {m0 m':Nat->Nat} {n' jB:Nat} {lo hi:Int} {s:Nat} {v v' a a':A} {x j3:aa} {dS acn:Int×Int} (jc:agree n bY ag) (h2:agree n bY bp) (nw:n<=N)
 (h0:v.ok n nb bY) (h':v'.ok n' jB ag) (e1:iZ lo hi s v=some (a,x,dS)) (e2:iZ lo hi s v'=some (a',j3,acn)) (hf:a=a') (hv:bp s=j3.den ag) (hN:s<N):
 a.ok N nb bp/\a.den bp m0=v'.den ag m'/\dS.1<=j3.den ag/\j3.den ag<=dS.2:=by
 subst hf;have mT:(aa.var s).den bp=j3.den ag:=by rw[aa.cp,hv]
 cases v with
 |int k y=>
  simp only[iZ]at e1;cases hc1:(decide (lo<=y.lo)&&decide (y.hi<=hi))with
  |false=>simp[hc1]at e1
  |true=>
   simp only[hc1,cond_true,aK,cv]at e1;obtain⟨rfl,rfl,rfl⟩:=e1;cases v' with
   |int a6 jI=>
    simp only[iZ]at e2;cases hc2:(decide (lo<=jI.lo)&&decide (jI.hi<=hi))with
    |false=>simp[hc2]at e2
    |true=>
     simp only[hc2,cond_true,aK,cv,A.int.injEq]at e2;obtain⟨⟨rfl,_⟩,rfl,rfl⟩:=e2;simp only[aO,decide_eq_true_eq]at hc2;have h':jI.ok n' ag:=h';have hb:=h'.2;refine⟨⟨aa.er hN,by simp only[mT];omega,by simp only[mT];omega⟩,by simp only[A.den,mT],by simp only;omega,by simp only;omega⟩
   |str _=>simp[iZ]at e2
   |rows _ _ _ _ _=>simp[iZ]at e2
   |_=>simp[iZ]at e2
 |str y=>
  simp only[iZ,aK,cv]at e1;obtain⟨rfl,rfl,rfl⟩:=e1;cases v' with
  |str jI=>
   simp only[iZ,aK,cv]at e2;obtain⟨_,rfl,rfl⟩:=e2;have hb:0<=jI.den ag/\jI.den ag<=bx:=h'.2;exact⟨⟨aa.er hN,by rw[mT];exact hb⟩,by simp only[A.den,mT],hb.1,hb.2⟩
  |int a6 jI=>
   simp only[iZ]at e2;cases hc2:(decide (lo<=jI.lo)&&decide (jI.hi<=hi))<;>simp[hc2]at e2
  |rows _ _ _ _ _=>simp[iZ]at e2
  |_=>simp[iZ]at e2
 |rows sh off code cap k=>
  simp only[iZ,aK,cv]at e1;obtain⟨rfl,rfl,rfl⟩:=e1;cases v' with
  |rows cP dV code' dT a6=>
   simp only[iZ,aK,cv,A.rows.injEq]at e2;obtain⟨_,rfl,rfl⟩:=e2;obtain⟨⟨s1,s2,eS⟩,_,b3⟩:=h0;obtain⟨_,b2,_⟩:=h';refine⟨⟨⟨s1.mono nw,aa.er hN,eS.mono nw⟩,by rw[mT];exact b2,by rw[aa.bG h2 eS];exact b3⟩,by simp only[A.den,mT],b2.1,b2.2⟩
  |int a6 jI=>
   simp only[iZ]at e2;cases hc2:(decide (lo<=jI.lo)&&decide (jI.hi<=hi))<;>simp[hc2]at e2
  |str _=>simp[iZ]at e2
  |_=>simp[iZ]at e2
 |_=>simp[iZ]at e1
theorem Nn {n nb N:Nat} {bY ag bp:Env} {m0 m':Nat->Nat} {n' jB:Nat} (jc:agree n bY ag) (h2:agree n bY bp) (hm:∀b,b<nb->m' b=m0 b) (nw:n<=N):
 ∀{cs jb:List A} {xs:List aA} {i s:Nat} {t t':List A} {l bV:List aa} {b b':List (Int×Int)},
 (∀v∈cs,A.ok n nb bY v)->CB n' jB ag m' jb xs->ha ints i s cs=some (t,l,b)->ha ints i s jb=some (t',bV,b')->nn t t'=true->
 (∀j,j<bV.length->bp (s+j)=(bV.getD j (.const 0)).den ag)->s+bV.length<=N->CB N nb bp m0 t xs/\bd b (bV.map (·.den ag))/\bV.length=l.length
 |[],[],[],i,s,t,t',l,bV,b,b',h0,hr,e1,e2,hf,hv,hN=>by
  simp[ha]at e1 e2;obtain⟨rfl,rfl,rfl⟩:=e1;obtain⟨rfl,rfl,rfl⟩:=e2;exact⟨trivial,trivial,rfl⟩
 |v::r,v'::r',x::xs,i,s,t,t',l,bV,b,b',h0,hr,e1,e2,hf,hv,hN=>by
  obtain⟨aY,hrel,xX⟩:=hr;have xl:∀v∈r,A.ok n nb bY v:=λu hu=>h0 u (cF _ hu);unfold ha at e1 e2;cases kj:vo i ints with
  |none=>
   simp only[kj]at e1 e2;cases eJ:ha ints (i+1) s r with
   |none=>simp[eJ]at e1
   |some q1=>
    obtain⟨t1,l1,b1⟩:=q1;cases fK:ha ints (i+1) s r' with
    |none=>simp[fK]at e2
    |some q2=>
     obtain⟨t2,l2,b2⟩:=q2;simp only[eJ,aK,cv]at e1;simp only[fK,aK,cv]at e2;obtain⟨rfl,rfl,rfl⟩:=e1;obtain⟨rfl,rfl,rfl⟩:=e2;simp only[nn,aO]at hf;have pD:=A.beq_eq hf.1;subst pD;have hv0:=h0 v (by simp);obtain⟨p1,bo,bU⟩:=Nn jc h2 hm nw xl xX eJ fK hf.2 hv hN;exact⟨⟨hv0.ext h2 nw (aW _),by rw[hrel,A.back hv0 jc h2 hm],p1⟩,bo,bU⟩
  |some q=>
   obtain⟨lo,hi⟩:=q;simp only[kj]at e1 e2;cases hc1:iZ lo hi s v with
   |none=>simp[hc1]at e1
   |some p1=>
    obtain⟨a1,x1,d1⟩:=p1;cases hc2:iZ lo hi s v' with
    |none=>simp[hc2]at e2
    |some bo=>
     obtain⟨a2,x2,d2⟩:=bo;simp only[hc1]at e1;simp only[hc2]at e2;cases eJ:ha ints (i+1) (s+1) r with
     |none=>simp[eJ]at e1
     |some q1=>
      obtain⟨t1,l1,b1⟩:=q1;cases fK:ha ints (i+1) (s+1) r' with
      |none=>simp[fK]at e2
      |some q2=>
       obtain⟨t2,l2,b2⟩:=q2;simp only[eJ,aK,cv]at e1;simp only[fK,aK,cv]at e2;obtain⟨rfl,rfl,rfl⟩:=e1;obtain⟨rfl,rfl,rfl⟩:=e2;simp only[nn,aO]at hf;obtain⟨p1,bo,bU⟩:=Nn jc h2 hm nw xl xX eJ fK hf.2 (λj hj=>by
        have:=hv (j+1) (by simpa using hj);rw[show s+1+j=s+(j+1) by omega];simpa using this) (by simp at hN;omega)
       have hv0:=hv 0 (by simp);simp only[lu,wE]at hv0;obtain⟨c1,c2,c3,c4⟩:=ac0 (m0:=m0) (m':=m') jc h2 nw (h0 v (by simp)) aY hc1 hc2 (A.beq_eq hf.1) hv0 (by simp at hN;omega);exact⟨⟨c1,by rw[hrel,c2],p1⟩,⟨c3,c4,bo⟩,by simp[bU]⟩
 |[],_::_,_,i,s,t,t',l,bV,b,b',h0,hr,e1,e2,hf,hv,hN=>by
  simp[ha]at e1;obtain⟨rfl,_,_⟩:=e1;have:=(Ab e2).2;cases t' with
  |nil=>simp at this
  |cons _ _=>simp[nn]at hf
 |_::_,[],_,i,s,t,t',l,bV,b,b',h0,hr,e1,e2,hf,hv,hN=>by
  simp[ha]at e2;obtain⟨rfl,_,_⟩:=e2;have:=(Ab e1).2;cases t with
  |nil=>simp at this
  |cons y z=>simp[nn]at hf
 |_::_,_::_,[],i,s,t,t',l,bV,b,b',h0,hr,e1,e2,hf,hv,hN=>hr.elim
 |[],[],_::_,i,s,t,t',l,bV,b,b',h0,hr,e1,e2,hf,hv,hN=>hr.elim
end
section
variable {cells:List (Nat×Nat×Int×Int)}
theorem DL:∀{bl:List ao} {i s:Nat} {t:List ao} {l:List aa} {b:List (Int×Int)},hb cells i s bl=some (t,l,b)->l.length=b.length/\t.length=bl.length
 |[],i,s,t,l,b,h=>by simp[hb]at h;obtain⟨rfl,rfl,rfl⟩:=h;exact⟨rfl,rfl⟩
 |(cs,ty)::r,i,s,t,l,b,h=>by
  unfold hb at h;cases hc:ha (cellsOf i cells) 0 s cs with
  |none=>simp[hc]at h
  |some q=>
   obtain⟨c,l1,b1⟩:=q;simp only[hc]at h;cases hr:hb cells (i+1) (s+l1.length) r with
   |none=>simp[hr]at h
   |some q=>
    obtain⟨t',bV,b'⟩:=q;simp only[hr,aK,cv]at h;obtain⟨rfl,rfl,rfl⟩:=h;have h1:=Ab hc;have h2:=DL hr;simp[h1,h2]
theorem UF {l bV:List aa} {j:Nat} (h:j<l.length) (d:aa):(l++bV).getD j d=l.getD j d:=by
 simp[aB,rO h]
theorem UG {l bV:List aa} {j:Nat} (d:aa):(l++bV).getD (l.length+j) d=bV.getD j d:=by
 simp only[aB];rw[uP (by omega)];simp
theorem Ve {n nb N:Nat} {bY ag bp:Env} {m0 m':Nat->Nat} {n' jB:Nat} (jc:agree n bY ag) (h2:agree n bY bp) (hm:∀b,b<nb->m' b=m0 b) (nw:n<=N):
 ∀{bl aI:List ao} {i s:Nat} {t t':List ao} {l bV:List aa} {b b':List (Int×Int)},
 b9 n nb bY bl->b9 n' jB ag aI->hb cells i s bl=some (t,l,b)->hb cells i s aI=some (t',bV,b')->kY t t'=true->
 (∀j,j<bV.length->bp (s+j)=(bV.getD j (.const 0)).den ag)->s+bV.length<=N->
 b9 N nb bp t/\bd b (bV.map (·.den ag))/\bV.length=l.length/\∀(j:Nat) (c:List A) (ty:aS×Bool),t[j]?=some (c,ty)->∃c':List A,aI[j]?=some (c',ty)/\c.map (A.den bp m0)=c'.map (A.den ag m')
 |[],[],i,s,t,t',l,bV,b,b',h0,hr,e1,e2,hf,hv,hN=>by
  simp[hb]at e1 e2;obtain⟨rfl,rfl,rfl⟩:=e1;obtain⟨rfl,rfl,rfl⟩:=e2;exact⟨λp hp=>by simp at hp,trivial,rfl,λj c ty h=>by simp at h⟩
 |(cs,ty)::r,(jb,aq4)::r',i,s,t,t',l,bV,b,b',h0,hr,e1,e2,hf,hv,hN=>by
  unfold hb at e1 e2;cases hc1:ha (cellsOf i cells) 0 s cs with
  |none=>simp[hc1]at e1
  |some q1=>
   obtain⟨c1,l1,b1⟩:=q1;cases hc2:ha (cellsOf i cells) 0 s jb with
   |none=>simp[hc2]at e2
   |some q2=>
    obtain⟨c2,l2,b2⟩:=q2;simp only[hc1]at e1;simp only[hc2]at e2;cases eJ:hb cells (i+1) (s+l1.length) r with
    |none=>simp[eJ]at e1
    |some q1=>
     obtain⟨t1,W8,zv⟩:=q1;cases fK:hb cells (i+1) (s+l2.length) r' with
     |none=>simp[fK]at e2
     |some q2=>
      obtain⟨t2,Xb,qL⟩:=q2;simp only[eJ,aK,cv]at e1;simp only[fK,aK,cv]at e2;obtain⟨rfl,rfl,rfl⟩:=e1;obtain⟨rfl,rfl,rfl⟩:=e2;simp only[kY,aO]at hf;have Es:ty=aq4:=Prod.ext (bA hf.1.1.2) (by simpa using hf.1.2);subst Es;have M9:s+l2.length+Xb.length<=N:=by simp at hN;omega
      obtain⟨p1,bo,bU⟩:=Nn jc h2 hm nw (λv hv=>h0 (cs,ty) (by simp) v hv) (Sr (m:=m') λv hv=>hr (jb,ty) (by simp) v hv) hc1 hc2 hf.1.1.1 (λj hj=>by
       have:=hv j (by simp;omega)
       rwa [UF hj]at this) (by omega)
      rw[<-bU]at eJ;obtain⟨q1,q2,q3,de⟩:=Ve jc h2 hm nw (λp hp=>h0 p (cF _ hp)) (λp hp=>hr p (cF _ hp)) eJ fK hf.2 (λj hj=>by
       have:=hv (l2.length+j) (by simp;omega);rw[UG]at this;rw[<-this];congr 1;omega) M9
      have hp:=Ss p1;refine⟨λp Od a Vd=>?_,by rw[ga];exact rl bo q2,by simp[bU,q3],λj c aq5 hj=>?_⟩
      ·rcases List.mem_cons.1 Od with rfl|Od
       ·exact hp.1 a Vd
       ·exact q1 p Od a Vd
      ·cases j with
       |zero=>simp at hj;obtain⟨rfl,rfl⟩:=hj;exact⟨jb,rfl,hp.2.symm⟩
       |succ j=>simp at hj;obtain⟨c',h1,h2⟩:=de j c aq5 hj;exact⟨c',by simpa using h1,h2⟩
 |[],_::_,i,s,t,t',l,bV,b,b',h0,hr,e1,e2,hf,hv,hN=>by
  simp[hb]at e1;obtain⟨rfl,_,_⟩:=e1;have:=(DL e2).2;cases t' with
  |nil=>simp at this
  |cons _ _=>simp[kY]at hf
 |_::_,[],i,s,t,t',l,bV,b,b',h0,hr,e1,e2,hf,hv,hN=>by
  simp[hb]at e2;obtain⟨rfl,_,_⟩:=e2;have:=(DL e1).2;cases t with
  |nil=>simp at this
  |cons y z=>simp[kY]at hf
def BY (p q:List A):Prop:=∃sh off code code' cap k,p=[.rows sh off code cap k]/\q=[.rows sh off code' cap k]
theorem BY.refl {p:List A} (h:bT p=false):BY p p:=by
 unfold bT at h;split at h
 ·exact⟨_,_,_,_,_,_,rfl,rfl⟩
 ·cases h
theorem acZ {lo hi:Int} {s:Nat} {v a:A} {x:aa} {dS:Int×Int} (h:iZ lo hi s v=some (a,x,dS)):bT [a]=bT [v]/\(bT [a]=false->BY [a] [v]):=by
 unfold iZ at h;split at h
 ·rename_i k x;cases hc:(decide (lo<=x.lo)&&decide (x.hi<=hi))with
  |false=>simp[hc]at h
  |true=>
   simp only[hc,cond_true,aK,cv]at h;obtain⟨rfl,_,_⟩:=h;exact⟨rfl,λh=>by cases h⟩
 ·simp only[aK,cv]at h;obtain⟨rfl,_,_⟩:=h;exact⟨rfl,λh=>by cases h⟩
 ·simp only[aK,cv]at h;obtain⟨rfl,_,_⟩:=h;exact⟨rfl,λ_=>⟨_,_,_,_,_,_,rfl,rfl⟩⟩
 ·cases h
theorem ON (a b:A) (l:List A):bT (a::b::l)=true:=by cases a<;>rfl
theorem agf {ints:List (Nat×Int×Int)} {i s:Nat} {cs:List A} {l:List aa} {b:List (Int×Int)} {t:List A} (h:ha ints i s cs=some (t,l,b)):(bT t=bT cs)/\(bT t=false->BY t cs):=by
 have hl:=(Ab h).2
 match cs,t,hl with
 |[],[],_=>exact⟨rfl,λh=>by cases h⟩
 |a::b::r,a'::b'::r',_=>exact⟨by rw[ON,ON],λh=>by rw[ON]at h;cases h⟩
 |[v],[a],_=>
  unfold ha at h;cases hf:vo i ints with
  |none=>
   simp[hf,ha]at h;obtain⟨rfl,_,_⟩:=h;exact⟨rfl,λh=>BY.refl h⟩
  |some q=>
   obtain⟨lo,hi⟩:=q;simp only[hf]at h;cases hc:iZ lo hi s v with
   |none=>simp[hc]at h
   |some p=>
    obtain⟨a',x,dS⟩:=p;simp[hc,ha]at h;obtain⟨rfl,_,_⟩:=h;exact acZ hc
theorem Ns:∀{bl:List ao} {i s:Nat} {t:List ao} {l:List aa} {b:List (Int×Int)},hb cells i s bl=some (t,l,b)->∀(k:Nat) (p:ao),t[k]?=some p->∃q:ao,bl[k]?=some q/\bT p.1=bT q.1/\p.2=q.2/\(bT p.1=false->BY p.1 q.1)
 |[],i,s,t,l,b,h=>by simp[hb]at h;obtain⟨rfl,rfl,rfl⟩:=h;intro k p hp;simp at hp
 |(cs,ty)::r,i,s,t,l,b,h=>by
  unfold hb at h;cases hc1:ha (cellsOf i cells) 0 s cs with
  |none=>simp[hc1]at h
  |some q1=>
   obtain⟨c1,l1,b1⟩:=q1;simp only[hc1]at h;cases eJ:hb cells (i+1) (s+l1.length) r with
   |none=>simp[eJ]at h
   |some q1=>
    obtain⟨t1,W8,zv⟩:=q1;simp only[eJ,aK,cv]at h;obtain⟨rfl,rfl,rfl⟩:=h;intro k p hp;cases k with
    |zero=>
     simp only[nd,aK]at hp;subst hp;have:=agf hc1;exact⟨(cs,ty),rfl,this.1,rfl,this.2⟩
    |succ k=>obtain⟨q,h1,h2⟩:=Ns eJ k p (by simpa using hp);exact⟨q,by simpa using h1,h2⟩
theorem Uo:∀{a b:List ao},kY a b=true->∀(k:Nat) (p:ao),a[k]?=some p->b[k]?=some p
 |[],[],_,k,p,h=>by simp at h
 |(c,t)::r,(c',t')::s,hf,k,p,h=>by
  simp only[kY,aO]at hf;have Es:t=t':=Prod.ext (bA hf.1.1.2) (by simpa using hf.1.2);have hc:=zx hf.1.1.1;subst Es;subst hc;cases k with
  |zero=>simpa using h
  |succ k=>have:=Uo hf.2 k p (by simpa using h);simpa using this
 |[],_::_,h,_,_,_=>by simp[kY]at h
 |_::_,[],h,_,_,_=>by simp[kY]at h
end
end Go.bg
namespace Go.bg
variable {P:bk} {rd:Option Nat}
def oH (rd:Option Nat):Fence:={ze with round:=rd}
def oq (Q:Exit->Act->ai->Prop):Exit->Act->ai->Prop
 | .normal,a,w=>Q .normal a w
 |_,_,_=>False
theorem oq.imp {Q:Exit->Act->ai->Prop}:∀(e:Exit) (a:Act) (w:ai),calm (oq Q) e a w->Q e a w:=λe a w h=>by
 cases e<;>first|exact h|exact(h:False).elim
theorem oq.let {Q:Exit->Act->ai->Prop}:¬LetsOut (oq Q):=λ⟨a,w,h⟩=>h
theorem oq.ajM {Q:Exit->Act->ai->Prop}:¬LetsOut (calm (oq Q)):=λ⟨a,w,h⟩=>h
def rv (o:Oper):Bool:=match o.op with| .defer _=>false|_=>true
def ko:Code->Bool
 | .region _ ops _=>ops.toList.all rv
 | .seq a b=>ko a&&ko b
 | .cond _ a b=>ko a&&ko b
 | .block _ c=>ko c
 | .loop c=>ko c
 |_=>true
theorem alE {o:Oper} (h:rv o=true):∀c,o.op≠ .defer c:=λc e=>by simp[rv,e]at h
theorem acO {n:Nat} {f:cB} {args:Array aA} {w:ai} {R:Ending->ai->Prop} (h:gU P f args w R):CallsIn (oH rd) n P f args w R:=callsIn_wide.2 h
theorem apA {n:Nat} {row:String} {args:Array aA} {w:ai} {R:aA->ai->Prop} (h:Rows P row args w R):RowsIn (oH rd) n P row args w R:=
 λc cs _=>let⟨v,w',r,s⟩:=h c cs;⟨v,w',r,stepsIn_wide.2 s⟩
theorem XZ {o:Oper} {a:Act} {w:ai} {K:Act->ai->Prop} {Q:Exit->Act->ai->Prop} (hd:rd=none∨rv o=true) (h:o.wp P a w K Q):o.wpIn (oH rd) 0 P a w K Q:=by
 refine⟨λ_ _=>trivial,?_⟩;have e:o.semAt (oH rd).round a.eval=execOp a.eval o:=by
  rcases hd with h|h
  ·subst h;rfl
  ·exact o.semAt_eq _ _ (alE h)
 rw[e];unfold nh at h;generalize (execOp a.eval o).run P w=r at*;cases r with
 |ok n w'=>
  cases n<;>simp only[Oper.upon,avf]at h⊢
  case value u=>exact h
  case skip=>exact h
  case defer d=>exact h
  case enter f args=>exact⟨λhs=>by simp[oH,ze]at hs,acO h⟩
  case row row args=>exact⟨λhs=>by simp[oH,ze]at hs,apA h⟩
 |halt x w'=>
  cases x<;>simp only[Oper.upon,avf]at h⊢
  case panic u=>exact h
variable {ops:Array Oper} {Q:Exit->Act->ai->Prop}
theorem QZ (bZ:¬LetsOut Q):∀{l:List Oper} {a:Act} {w:ai},(rd=none∨l.all rv=true)->wpList P ops Q l a w->wpListIn (oH rd) 0 P ops Q l a w
 |[],_,_,_,h=>h
 |o::r,a,w,hd,h=>by
  have h1:rd=none∨rv o=true:=hd.imp id λh=>by simp only[J3,aO]at h;exact h.1
  have h2:rd=none∨r.all rv=true:=hd.imp id λh=>by simp only[J3,aO]at h;exact h.2
  unfold wpList at h;unfold wpListIn;split
  ·rename_i hw;rw[if_pos hw]at h;rcases h with h|h
   ·exact avg (λa w h=>QZ bZ h2 h) (XZ h1 h)
   ·exact absurd h.2 bZ
  ·rename_i hw;rw[if_neg hw]at h;exact⟨λ_ _=>trivial,QZ bZ h2 h⟩
theorem JQ {md:Region.Mode} (hd:rd=none∨ops.toList.all rv=true) (bZ:¬LetsOut Q):∀{f:Nat} {listed:Array Bool} {a:Act} {w:ai},wpAny P md ops Q f listed a w->wpAnyIn (oH rd) 0 P md ops Q f listed a w
 |0,_,_,_,h=>h
 |f+1,listed,a,w,h=>by
  refine⟨h.1,λi hi=>?_⟩;have h2:=h.2 i hi;unfold wpOp at h2;unfold wpOpIn;cases ho:ops[i]? with
  |none=>simp only[ho]at h2⊢;exact JQ hd bZ h2
  |some o=>
   simp only[ho]at h2⊢;have h1:rd=none∨rv o=true:=hd.imp id λh=>List.all_eq_true.1 h o (by simpa using Array.mem_of_getElem? ho);split
   ·rename_i hw;rw[if_pos hw]at h2;rcases h2 with h2|h2
    ·exact avg (λa w h=>JQ hd bZ h) (XZ h1 h2)
    ·exact absurd h2.2 bZ
   ·rename_i hw;rw[if_neg hw]at h2;exact⟨λ_ _=>trivial,JQ hd bZ h2⟩
theorem apd {id:Nat} {a:Act} {w:ai} (hd:rd=none∨ops.toList.all rv=true) (h:wpList P ops (oq Q) ops.toList a w):(avh id ops false).wpIn (oH rd) 0 P Q a w:=
 wpIn_mono (wpIn_region_list (QZ oq.let hd h)) λe a w h=>oq.imp e a w (by cases e<;>first|exact h|exact(h:False).elim)
theorem PY {id:Nat} {a:Act} {w:ai} (hm:P.follows .mixedOrders=true) (hd:rd=none∨ops.toList.all rv=true)
 (h:wpAny P .any ops (calm (oq Q)) ops.size (rI ops.size false) a {w with drawn:=w.drawn+1}):(avh id ops true).wpIn (oH rd) 0 P Q a w:=
 wpIn_mono (wpIn_region_any hm (JQ hd oq.ajM h)) oq.imp
end Go.bg
namespace Go.bg
open M
section
variable {S:Nat->List Int->List Int->Prop} {L:V->Env->Prop} {w0:cN} {P:bk} {gl:dA} {cal:dY} {rd:Option Nat}
def wQ (S:Nat->List Int->List Int->Prop) (L:V->Env->Prop) (w0:cN) (k:nj) (n nb:Nat) (ρ:Env) (m:Nat->Nat) (G:df) (Q:Exit->Act->ai->Prop):Prop:=
 ∀x n' ag m' bz aI dg a' w',cQ n nb ρ m n' (kA aI) ag m'->dJ n G dg->R w0 n' ag m' bz aI a' w'->(k x n' bz aI).holds S L dg ag->Q x.to a' w'
theorem wQ.later {k:nj} {n nb n1 vS:Nat} {ρ aD:Env} {m fV:Nat->Nat} {G G1:df} {Q:Exit->Act->ai->Prop} (h:wQ S L w0 k n nb ρ m G Q) (hl:cQ n nb ρ m n1 vS aD fV) (hA:dJ n G G1):wQ S L w0 k n1 vS aD fV G1 Q:=
 λx n' ag m' bz aI dg a' w' h1 h2 h3 h4=>h x n' ag m' bz aI dg a' w' (hl.trans h1) (hA.trans h2 hl.hn) h3 h4
def Gi (rd:Option Nat) (S:Nat->List Int->List Int->Prop) (L:V->Env->Prop) (w0:cN) (P:bk) (c:Code) (e:Nat->List V->List ao->nj->T):Prop:=(rd=none∨ko c=true)->
 ∀n tm bl k G ρ m a w Q,R w0 n ρ m tm bl a w->(e n tm bl k).holds S L G ρ->wQ S L w0 k n bl.length ρ m G Q->c.wpIn (oH rd) 0 P Q a w
theorem Yy {c:Code} {e:Nat->List V->List ao->nj->T} (hd:rd=none∨ko c=true) (he:Gi rd S L w0 P c e) {Q:Exit->Act->ai->Prop}:∀(r:Nat) {n:Nat} {ρ:Env} {m:Nat->Nat} {tm:List V} {bl:List ao} {a:Act} {w:ai} {G:df} {k:nj},
 R w0 n ρ m tm bl a w->(P4 e r n tm bl k).holds S L G ρ->wQ S L w0 k n bl.length ρ m G Q->Code.roundsIn (oH rd) 0 P c Q r a w
 |0,_,_,_,_,_,_,_,_,_,_,ah,_=>ah.elim
 |r+1,n,ρ,m,tm,bl,a,w,G,k,h,ah,hk=>by
  rw[roundsIn_succ];refine he hd n tm bl _ G ρ m a w _ h ah λx n' ag m' bz aI dg a' w' h1 h2 h3 h4=>?_;cases x with
  |normal=>exact Yy hd he r h3 h4 (hk.later h1 h2)
  |exit id=>exact hk (.exit id) n' ag m' bz aI dg a' w' h1 h2 h3 h4
  |ret=>exact hk .ret n' ag m' bz aI dg a' w' h1 h2 h3 h4
theorem abg {n nb:Nat} {ρ:Env} {m:Nat->Nat} {tm:List V} {xs:Array aA} (h:dq n nb ρ m tm xs):wU n nb ρ m tm xs.toList:=Su (by simpa using h)
def qG (w0:cN) (ρ:Env) (m:Nat->Nat) (bl:List ao) (w:ai) (D:Nat->Prop):Prop:=
 ∀(i:Nat) (sh:List ay) (off code cap:aa) (kind:Nat) (t:aS×Bool),bl[i]?=some ([.rows sh off code cap kind],t)->gK w0 ρ D (m i) sh off code cap kind t.1 w
theorem Vs {D:Nat->Prop} {li:cX} {n:Nat} {bY ag:Env} {m0 m':Nat->Nat} {tm bz ks uC:List V} {bl aI dr mH:List ao} {l1 l2 v1 v2 ext:List aa} {b1 b2 zv qL:List (Int×Int)} {n':Nat} {a:Act} {w:ai}
 (hlen:bl.length<=aI.length)
 (ha:agree n bY ag) (hm:∀b,b<bl.length->m' b=m0 b) (ht:∀v∈tm,V.ok n bl.length bY v) (jd:b9 n bl.length bY bl)
 (h:R w0 n' ag m' bz aI a w) (e1:hs li.eC li.ints 0 (n+1) tm=some (ks,l1,b1)) (e2:hb li.cells 0 (n+1+l1.length) bl=some (dr,l2,b2))
 (e3:hs li.eC li.ints 0 (n+1) bz=some (uC,v1,zv)) (fr:hb li.cells 0 (n+1+v1.length) (aI.take bl.length)=some (mH,v2,qL))
 (f1:kZ ks uC=true) (f2:kY dr mH=true) (tL:∀g,D g->cc w0 ag m' aI g) (mi:qG w0 ag m' aI w D):
 v1.length+v2.length=l1.length+l2.length/\bd (b1++b2) ((v1++v2).map (·.den ag))/\R w0 (n+1+l1.length+l2.length+ext.length) (bf bY (n+1) ((v1++v2++ext).map (·.den ag))) m0 ks dr a w/\dr.length=bl.length/\(∀(i:Nat) (p:ao),dr[i]?=some p->i<bl.length/\∃p':ao,aI[i]?=some p'/\aQ (bf bY (n+1) ((v1++v2++ext).map (·.den ag))) p.1=aQ ag p'.1)/\(∀g,D g->cc w0 (bf bY (n+1) ((v1++v2++ext).map (·.den ag))) m0 dr g)/\qG w0 (bf bY (n+1) ((v1++v2++ext).map (·.den ag))) m0 dr w D:=by
 have No:agree n bY (bf bY (n+1) ((v1++v2++ext).map (·.den ag))):=(agree.bf _ (n+1) bY).mono (by omega);have oV:∀j,j<(v1++v2).length->bf bY (n+1) ((v1++v2++ext).map (·.den ag)) (n+1+j)=((v1++v2).getD j (.const 0)).den ag:=λj hj=>by
  rw[B9 _ _ _ j (by simp at hj⊢;omega)];have kl:j<(v1++v2++ext).length:=by simp at hj⊢;omega
  have e:(v1++v2++ext)[j]=(v1++v2)[j]:=List.getElem_append_left hj;simp only[aB,oB,gy hj,gy kl,s3,pS,e]
 have HS:v1.length+v2.length=(v1++v2).length:=by simp
 obtain⟨p1,bo,bU⟩:=Ek (N:=n+1+v1.length+v2.length+ext.length) ha No hm (by omega) ht (abg h.t) e1 e3 f1 (λj hj=>by
  rw[oV j (by simp;omega),UF hj]) (by omega)
 rw[<-bU]at e2;have DP:b9 n' aI.length ag (aI.take bl.length):=λp hp=>h.b p (j7 hp);obtain⟨q1,q2,q3,de⟩:=Ve (N:=n+1+v1.length+v2.length+ext.length) ha No hm (by omega) jd DP e2 fr f2 (λj hj=>by
  rw[show n+1+v1.length+j=n+1+(v1.length+j) by omega,oV (v1.length+j) (by simp;omega),UG]) (by omega)
 have hbl:dr.length=bl.length:=(DL e2).2;refine⟨by omega,by rw[ga];exact rl bo q2,?_⟩;rw[<-bU,<-q3];have jQ:∀(i:Nat) (p:ao),dr[i]?=some p->i<bl.length/\∃p':ao,aI[i]?=some p'/\bT p.1=bT p'.1/\p.2=p'.2/\(bT p.1=false->∃sh off code code' cap k,p.1=[.rows sh off code cap k]/\p'.1=[.rows sh off code' cap k]/\off.aZ n/\cap.aZ n):=λi p hi=>by
  have gN:i<bl.length:=by rw[<-hbl];exact(List.getElem?_eq_some_iff.1 hi).1
  obtain⟨p',h1,h2,xo,h3⟩:=Ns fr i p (Uo f2 i p hi);rw[o8,if_pos gN]at h1;obtain⟨p0,g1,_,_,g3⟩:=Ns e2 i p hi;refine⟨gN,p',h1,h2,xo,λho=>?_⟩;obtain⟨sh,off,code,code',cap,k,s1,s2⟩:=h3 ho;obtain⟨cP,dV,c1,c2,dT,a6,eS,BS⟩:=g3 ho;rw[s1]at eS;cases eS;have aY:A.ok n bl.length bY (.rows sh off c2 cap k):=jd _ (cZ g1) _ (by rw[BS];simp);exact⟨sh,off,code,code',cap,k,s1,s2,aY.1.1,aY.1.2.2⟩
 have Np:agree n ag (bf bY (n+1) ((v1++v2++ext).map (·.den ag))):=ha.sym.trans No (aW _);have hk2:∀(p p':ao),bT p.1=bT p'.1->(bT p.1=false->∃sh off code code' cap k,p.1=[.rows sh off code cap k]/\p'.1=[.rows sh off code' cap k]/\off.aZ n/\cap.aZ n)->aQ (bf bY (n+1) ((v1++v2++ext).map (·.den ag))) p.1=aQ ag p'.1:=λp p' h1 h2=>by
  cases ho:bT p.1 with
  |true=>rw[hH ho,hH (h1▸ho)]
  |false=>
   obtain⟨sh,off,code,code',cap,k,s1,s2,eS,BS⟩:=h2 ho;rw[s1,s2];simp only[aQ];rw[aa.bG Np BS]
 have hrel:∀(F:Nat->Prop),qG w0 ag m' aI w F->qG w0 (bf bY (n+1) ((v1++v2++ext).map (·.den ag))) m0 dr w F:=λF hF i sh off code cap kind t hi=>by
  obtain⟨gN,p',k1,_,k2,k3⟩:=jQ i _ hi;obtain⟨cP,dV,c1,c2,dT,a6,s1,s2,eS,BS⟩:=k3 rfl;cases s1;obtain⟨C,t'⟩:=p';simp only at s2 k2;subst s2;subst k2;obtain⟨c',h1,h2⟩:=de i _ t hi;rw[o8,if_pos gN,k1]at h1;cases h1;simp only[ct,et,A.den,kz,azM,and_true,true_and]at h2;rw[<-hm i gN];have hR:=hF i sh off c2 cap kind t k1;unfold gK at hR⊢;rw[aa.bG Np eS,aa.bG Np BS,h2];exact hR
 have n5:∀g,cc w0 ag m' aI g->cc w0 (bf bY (n+1) ((v1++v2++ext).map (·.den ag))) m0 dr g:=cc.mono λi p hi hk=>by
  obtain⟨g1,p',g2,g3,_,g4⟩:=jQ i p hi;exact⟨i,p',g2,by rw[<-hk2 p p' g3 g4];exact hk,hm i g1⟩
 refine⟨?_,hbl,λi p hi=>by
  obtain⟨g1,p',g2,g3,_,g4⟩:=jQ i p hi;exact⟨g1,p',g2,hk2 p p' g3 g4⟩,λg hg=>n5 g (tL g hg),hrel D mi⟩
 refine⟨?_,h.d,by rw[hbl];exact q1,⟨h.a7.ext,h.a7.jf,h.a7.ji,h.a7.iy,h.a7.ew,h.a7.gg,λi cs t hi ho=>?_,λi sh off code cap kind t hi=>?_,λi j p q hi hj he=>?_⟩⟩
 ·rw[hbl];have:=GA p1;simpa using this
 ·obtain⟨c',h1,h2⟩:=de i cs t hi;obtain⟨gN,p',k1,k2,_⟩:=jQ i _ hi;rw[o8,if_pos gN,k1]at h1;have h1:=gH h1;subst h1;obtain⟨g1,kH,r,hr,g2⟩:=h.a7.blk i c' t k1 (k2▸ho);rw[<-hm i gN];exact⟨g1,kH,r,hr,by rw[h2];exact g2⟩
 ·exact(hrel _ h.a7.rws i sh off code cap kind t hi).mono n5
 ·obtain⟨gN,p',k1,k2,_,k3⟩:=jQ i p hi;obtain⟨D5,q',l1,l2,_,l3⟩:=jQ j q hj;rw[hk2 p p' k2 k3,hk2 q q' l2 l3];rw[<-hm i gN,<-hm j D5]at he;exact h.a7.inj i j p' q' k1 l1 he
theorem dq.set {n nb:Nat} {ρ:Env} {m:Nat->Nat} {tm:List V} {xs:Array aA} {s:Nat} {v:V} (h:dq n nb ρ m tm xs) (hv:v.ok n nb ρ) (hr:∀x,xs[s]?=some x->v.rel ρ m x):dq n nb ρ m (om tm s v) xs:=by
 rw[Qu];refine⟨by simp[h.1],λi u hu=>?_⟩;rw[oC]at hu;split at hu
 ·rename_i En;subst En;split at hu
  ·rename_i hlt;cases hu;rw[h.1]at hlt;exact⟨hv,_,J5 hlt,hr _ (J5 hlt)⟩
  ·cases hu
 ·exact h.2 i u hu
def zh (tmps:Array aA):List Nat->List Int->Prop
 |[],[]=>True
 |s::r,z::zs=>(0<=z/\z<=1)/\(∀x,tmps[s]?=some x->x= .bool (decide (z=1)))/\zh tmps r zs
 |_,_=>False
def wL (w0:cN) (w:ai) (tmps:Array aA) (D:Nat->Prop) (F:Nat->Prop):List (Nat×List ay×aS)->List Int->Prop
 |[],[]=>True
 |(s,sh,e)::r,code::len::cap::zs=>∃g:Nat,(∀x,tmps[s]?=some x->x=if cap<0 then .slice (lZ cap g) 0 0 else .slice (some ⟨g,0,none⟩) len.toNat cap.toNat)/\B0 0 0 len cap/\(0<=code/\code<=ch)/\(cap<0->ab code=[])/\
    (0<=cap->∃cells:Array aA,w.heap[g]?=some (.cells cells e (0,0))/\ig D w cells 0 sh (ab code)/\cells.size=cap.toNat*sh.length/\w0.b.heap.size<=g/\(w0.ex g∨w0.r.heap.size<=g)/\∀ba,D ba->ba≠g)/\
    (0<=cap->F g)/\wL w0 w tmps D (λba=>F ba/\(0<=cap->ba≠g)) r zs
 |_,_=>False
theorem LL {nb:Nat} {tm:List V} {m:Nat->Nat} {tmps:Array aA}:∀{l:List Nat} {n:Nat} {ρ:Env},dq n nb ρ m tm tmps->ar S L (CS tm l) n ρ λag n' ls=>(∀x∈ls,aa.aZ n' x)/\ls.length=l.length/\zh tmps l (ls.map (·.den ag))
 |[],n,ρ,ht=>ar.pure ⟨λ_ h=>by simp at h,rfl,trivial⟩
 |s::r,n,ρ,ht=>by
  unfold CS;split
  ·rename_i e hs;obtain⟨h1,x,h2,h3⟩:=ht.2 s _ hs;have h3:x= .bool (e.den ρ):=h3;have key:ar S L (match e with| .lit v=>pure (aa.const (cond v 1 0))|e=>yd e) n ρ λag n' l=>l.aZ n'/\(0<=l.den ag/\l.den ag<=1)/\e.den ρ=decide (l.den ag=1):=by
    cases e with
    |lit v=>cases v<;>exact ar.pure ⟨aa.cH _ _,by simp only[aa.aT];decide,by simp only[aa.aT,bh.den];rfl⟩
    |_=>exact Il
   refine key.bind λaD n1 l hn ha ⟨g1,g2,g3⟩=>(LL (l:=r) (ht.ext ha hn (aW _) (λ_ _=>rfl))).bind λbp n2 ls ee db ⟨k1,k2,k3⟩=>ar.pure ⟨λy hy=>?_,by simp[k2],?_⟩
   ·rcases List.mem_cons.1 hy with rfl|hy
    ·exact g1.mono ee
    ·exact k1 y hy
   ·have e1:=aa.bG db g1;simp only[ct,zh,e1];refine⟨g2,λy hy=>?_,k3⟩;rw[h2]at hy;cases hy;rw[h3,g3]
  ·exact ar.fail
theorem Df {nb:Nat} {m:Nat->Nat} {tmps:Array aA}:∀{l:List (Nat×Int×Int)} {tm:List V} {n:Nat} {ρ:Env},dq n nb ρ m tm tmps->ar S L (xi l tm) n ρ λag n' bz=>dq n' nb ag m bz tmps
 |[],tm,n,ρ,ht=>ar.pure ht
 |(s,lo,hi)::r,tm,n,ρ,ht=>by
  unfold xi;split
  ·rename_i k x hs;cases hc:(decide (lo<=x.lo)&&decide (x.hi<=hi))with
   |true=>simp only[cond_true];exact Df ht
   |false=>
    simp only[cond_false];refine gD λhk=>?_;simp only[ct,et,af,aa.aT]at hk;obtain⟨h1,y,h2,h3⟩:=ht.2 s _ hs;have h1:x.ok n ρ:=h1;exact Df (ht.set (v:= .w (.one (.int k ⟨x.l,lo,hi⟩))) ⟨h1.1,hk.1,hk.2⟩ λz hz=>by
     rw[h2]at hz;cases hz;exact h3)
  ·exact Df ht
theorem GD {n lo:Nat} {ρ:Env} {m:Nat->Nat} {tm:List V} {bl:List ao} {a:Act} {w:ai} (h:R w0 n ρ m tm bl a w):∀{l:List (Nat×List ay×aS)} {used:List Nat} {ls:List aa} {u:List Nat},rW lo l tm bl used=some (ls,u)->
 (∀x∈ls,aa.aZ n x)/\ls.length=(wY l).length/\(∀b∈used,b∈u)/\(∀b∈u,b∈used∨lo<=b)/\∀F:Nat->Prop,(∀(b:Nat) (p:ao),b∈u->b∉used->bl[b]?=some p->aQ ρ p.1=2->bT p.1=false->F (m b))->wL w0 w a.tmps (cc w0 ρ m bl) F l (ls.map (·.den ρ))
 |[],used,ls,u,he=>by
  simp only[rW,aK,cv]at he;obtain⟨rfl,rfl⟩:=he;exact⟨λ_ h=>by simp at h,rfl,λ_ h=>h,λ_ h=> .inl h,λ_ _=>trivial⟩
 |(s,sh,e)::r,used,ls,u,he=>by
  unfold rW at he;split at he
  ·rename_i hs;split at he
   ·rename_i l1 ib hr;simp only[aK,cv]at he;obtain⟨rfl,rfl⟩:=he;obtain⟨g1,g2,g3,g4,g5⟩:=GD h hr;refine⟨λx hx=>?_,by simp[wY]at g2⊢;omega,g3,g4,λF hF=>⟨0,λx hx=>?_,?_,?_,?_,?_,?_,?_⟩⟩
    ·simp only[kS]at hx;rcases hx with rfl|rfl|rfl|hx
     ·exact aa.cH _ _
     ·exact aa.cH _ _
     ·exact aa.cH _ _
     ·exact g1 x hx
    ·obtain⟨_,y,h2,h3⟩:=h.t.2 s _ hs;rw[h2]at hx;cases hx;have oQ:(aa.const (-1)).den ρ<0:=by rw[aa.aT];decide
     simp only[oQ,if_true];exact h3
    ·simp only[aa.aT];exact⟨⟨by omega,by omega,by omega,by omega⟩,⟨by omega,by omega⟩,λ_=>rfl,λh=>by omega⟩
    ·simp only[aa.aT];exact⟨bD _,pR (fe []) (oI (l:=[]) (by simp) (by simp))⟩
    ·intro _;simp only[aa.aT];exact fN
    ·simp only[aa.aT];intro h;omega
    ·simp only[aa.aT];intro h;omega
    ·refine g5 _ λb p hb hu hbl hk ho=>⟨hF b p hb hu hbl hk ho,?_⟩;simp only[aa.aT];intro h;omega
   ·cases he
  ·rename_i b aM o ro len cap hs;split at he
   ·rename_i cP off code cU kind t hbl;cases hc:(iU sh cP&&aG kind 2&&aa.beq o (.const 0)&&aa.beq off (.const 0)&&aa.beq ro (.const 0)&&aa.beq cap cU&&aG t.1 e&&aG aM sh.length&&bC lo b&& !(used.any (aG b)))with
    |false=>rw[hc]at he;cases he
    |true=>
     rw[hc]at he;simp only[cond_true]at he;split at he
     ·rename_i l1 ib hr;simp only[aK,cv]at he;obtain⟨rfl,rfl⟩:=he;simp only[aO]at hc;obtain⟨⟨⟨⟨⟨⟨⟨⟨⟨c1,c2⟩,c3⟩,c4⟩,c5⟩,fi⟩,ke⟩,mI⟩,p5⟩,w9⟩:=hc;have c1:=o4 c1;have c2:=bA c2;have c3:=aa.beq_eq c3;have c4:=aa.beq_eq c4;have c5:=aa.beq_eq c5;have fi:=aa.beq_eq fi
      have ke:=bA ke;have mI:=bA mI;have p5:=eE p5
      have ahv:b∉used:=λhb=>by
       have:used.any (aG b)=true:=List.any_eq_true.2 ⟨b,hb,Ck b⟩;rw[this]at w9;cases w9
      subst c1;subst c2;subst c3;subst c4;subst c5;subst fi;subst ke;subst mI;obtain⟨g1,g2,g3,g4,g5⟩:=GD h hr;obtain⟨aY,y,h2,h3⟩:=h.t.2 s _ hs;have aY:(A.sl b sh.length (.const 0) (.const 0) len cap).ok n bl.length ρ:=aY;obtain⟨x1,⟨x2,x3,eT,iG⟩,iW⟩:=aY;simp only[aa.aT]at iW;have e6:(A.rows sh (.const 0) code cap 2).ok n bl.length ρ:=h.b _ (cZ hbl) _ (by simp);obtain⟨⟨r1,r2,r3⟩,fM,cR⟩:=e6;have gR:=h.a7.rws b sh (.const 0) code cap 2 t hbl (by decide);refine⟨λx hx=>?_,by simp[wY]at g2⊢;omega,λb' hb'=>g3 b' (cF _ hb'),λb' hb'=>?_,λF hF=>⟨m b,λx hx=>?_,iW,fM,gR.1,λh0=>?_,λh0=>?_,?_⟩⟩
      ·simp only[kS]at hx;rcases hx with rfl|rfl|rfl|hx
       ·exact r2
       ·exact eT
       ·exact iG
       ·exact g1 x hx
      ·rcases g4 b' hb' with h5|h5
       ·rcases List.mem_cons.1 h5 with rfl|h5
        ·exact .inr p5
        ·exact .inl h5
       ·exact .inr h5
      ·have Ez:y=x:=gH (h2.symm.trans hx);subst Ez;have h3:y=(A.sl b sh.length (.const 0) (.const 0) len cap).den ρ m:=h3;rw[h3];simp only[A.den,aa.aT];split<;>simp
      ·obtain⟨_,cells,gS,fz,k1,⟨k2,k3⟩,k4⟩:=gR.2 h0;obtain⟨e9,oe,mY,ai1,ai2,ai3⟩:=k4 (by decide);subst e9;have mY:=mY.two;subst mY;rw[aa.aT]at k3;exact⟨cells,k1,k3,ai1,ai2,ai3,λba ed e=>ed.2 b _ hbl (by rw[iz (by decide) h0];exact aW 2) e.symm⟩
      ·exact hF b _ (g3 b (by simp)) ahv hbl (iz (by decide) h0) rfl
      ·refine g5 _ λb' p hb' hu Vh hk ho=>⟨hF b' p hb' (λh=>hu (cF _ h)) Vh hk ho,λh0=>?_⟩;have iw:aQ ρ [A.rows sh (.const 0) code cap 2]=2:=iz (by decide) h0;exact h.a7.ne Vh hbl (by rw[hk];exact aW 2) (by simp only[iw];decide) λe=>hu (by simp[e])
     ·cases he
   ·cases he
  ·cases he
theorem I3 {c:List A} (h:bT c=false):∃sh off code cap k,c=[.rows sh off code cap k]:=by
 unfold bT at h;split at h
 ·exact⟨_,_,_,_,_,rfl⟩
 ·cases h
theorem OX {n:Nat} {ρ:Env} {m:Nat->Nat} {tm:List V} {a:Act} {w:ai}:∀{us:List Nat} {bl:List ao},R w0 n ρ m tm bl a w->R w0 n ρ m tm (lf us bl) a w/\(lf us bl).length=bl.length/\∀(i:Nat) (p:ao),(lf us bl)[i]?=some p->(bl[i]?=some p/\(i∈us->bT p.1=true∨aQ ρ p.1=0))∨aQ ρ p.1=0
 |[],bl,h=>⟨h,rfl,λi p hp=> .inl ⟨hp,λh=>by simp at h⟩⟩
 |b::r,bl,h=>by
  unfold lf;split
  ·rename_i sh off code cap k t hbl;obtain⟨g1,g2,g3⟩:=OX (us:=r) (h.kill hbl);refine⟨g1,by rw[g2,kr],λi p hp=>?_⟩;rcases g3 i p hp with⟨g4,g5⟩|g4
   ·by_cases gN:i=b
    ·subst gN;rw[iE,aas (List.getElem?_eq_some_iff.1 hbl).1]at g4;cases g4;exact .inr (by simp[aQ])
    ·rw[iE,Ro (λe=>gN e.symm)]at g4;exact .inl ⟨g4,λhi=>g5 (by simpa [gN]using hi)⟩
   ·exact .inr g4
  ·rename_i hno;obtain⟨g1,g2,g3⟩:=OX (us:=r) h;refine⟨g1,g2,λi p hp=>?_⟩;rcases g3 i p hp with⟨g4,g5⟩|g4
   ·refine .inl ⟨g4,λhi=>?_⟩;rcases List.mem_cons.1 hi with rfl|hi
    ·cases ho:bT p.1 with
     |true=>exact .inl rfl
     |false=>
      exfalso;obtain⟨c,t⟩:=p;obtain⟨sh,off,code,cap,k,rfl⟩:=I3 ho;exact hno _ _ _ _ _ _ g4
    ·exact g5 hi
   ·exact .inr g4
theorem Vq {N:Nat} {bp:Env} {m:Nat->Nat} {bl:List ao} {a:Act} {w:ai}:∀{l:List Nat} {zs:List Int} {v:Nat} {tm:List V},R w0 N bp m tm bl a w->zh a.tmps l zs->(∀j,j<zs.length->bp (v+j)=zs.getD j 0)->v+zs.length<=N->R w0 N bp m (q6 l v tm) bl a w
 |[],[],v,tm,h,_,_,_=>h
 |s::r,z::zs,v,tm,h,hb,hv,hN=>by
  unfold q6;have h0:=hv 0 (by simp);simp only[lu,wE]at h0;simp only[cS]at hN;refine Vq (l:=r) (zs:=zs) ⟨dq.set h.t ?_ λx hx=>?_,h.d,h.b,h.a7⟩ hb.2.2 (λj hj=>by
   have:=hv (j+1) (by simpa using hj);rw[show v+1+j=v+(j+1) by omega];simpa using this) (by omega)
  ·exact⟨aa.er (by omega),aa.cH _ _⟩
  ·rw[hb.2.1 x hx];simp[V.rel,W.den,A.den,bh.den,aa.cp,aa.aT,h0]
 |[],_::_,_,_,_,h,_,_=>h.elim
 |_::_,[],_,_,_,h,_,_=>h.elim
theorem Vp {N:Nat} {bp:Env} {a:Act} {w:ai}:∀{l:List (Nat×List ay×aS)} {zs:List Int} {v:Nat} {tm:List V} {bl:List ao} {m:Nat->Nat} {D F:Nat->Prop},R w0 N bp m tm bl a w->(∀g,D g->cc w0 bp m bl g)->qG w0 bp m bl w D->wL w0 w a.tmps D F l zs->(∀g,F g->∀(i:Nat) (p:ao),bl[i]?=some p->m i=g->aQ bp p.1=0)->
 (∀j,j<zs.length->bp (v+j)=zs.getD j 0)->v+zs.length<=N->∃m2,(∀b,b<bl.length->m2 b=m b)/\bl.length<=(px l v tm bl).2.length/\R w0 N bp m2 (px l v tm bl).1 (px l v tm bl).2 a w
 |[],[],v,tm,bl,m,D,F,h,_,_,_,_,_,_=>⟨m,λ_ _=>rfl,aW _,h⟩
 |(s,sh,e)::r,code::len::cap::zs,v,tm,bl,m,D,F,h,tL,mi,hf,hF,hv,hN=>by
  obtain⟨g,f1,f2,f3,f4,f5,f6,f7⟩:=hf;have v0:=hv 0 (by simp);have v1:=hv 1 (by simp);have v2:=hv 2 (by simp);simp only[wE,J6,lu]at v0 v1 v2;simp only[cS]at hN;have hc:(-2:Int)<=cap/\cap<=9223372036854775807:=⟨f2.2.1.1,by have:=f2.2.1.2;omega⟩;have hA:(A.rows sh (.const 0) (.var v) (.var (v+2)) 2).ok N bl.length bp:=⟨⟨aa.cH _ _,aa.er (by omega),aa.er (by omega)⟩,by rw[aa.cp,v0];exact f3,by rw[aa.cp,v2];exact hc⟩;have xt:∀ba,D ba->cc w0 bp (fg m bl.length g) (bl++[([.rows sh (.const 0) (.var v) (.var (v+2)) 2],(e,false))]) ba:=λba ed=>(tL ba ed).push (by
   rcases hU cap 0 with h0|h0
   ·refine .inl ?_;simp only[aQ,aa.cp,v2];rw[if_pos h0];decide
   ·obtain⟨_,_,_,_,_,_,mY⟩:=f5 h0;exact .inr (mY ba ed))
  have ix:gK w0 bp D g sh (.const 0) (.var v) (.var (v+2)) 2 e w:=by
   intro _;simp only[aa.cp,v0,v2,aa.aT];refine⟨f4,λh0=>?_⟩;obtain⟨cells,k1,k2,k3,k4,oe,_⟩:=f5 h0;exact⟨oe.elim .inl λh=> .inr (.inr h),cells,e,(0,0),k1,⟨bD _,k2⟩,λ_=>⟨rfl,by trivial,.ER,k3,k4,oe⟩⟩
  have Nb:qG w0 bp (fg m bl.length g) (bl++[([.rows sh (.const 0) (.var v) (.var (v+2)) 2],(e,false))]) w D:=λi cP dV code' dT eW t' hi=>by
   rcases Je hi with⟨dw,h1⟩|⟨rfl,h1⟩
   ·rw[iF dw];exact mi i cP dV code' dT eW t' h1
   ·cases h1;rw[j2];exact ix
  have hM:=h.a7.push (x:=([.rows sh (.const 0) (.var v) (.var (v+2)) 2],(e,false))) (g:=g) h.b (λy hy=>by simp at hy;subst hy;exact hA) (λho=>by cases ho) (λcP dV code' dT eW he=>by
   cases he;exact ix.mono xt) (λi p hi he=>by
   rcases hU cap 0 with h0|h0
   ·refine .inr (.inr ?_);simp only[aQ,aa.cp,v2];rw[if_pos h0]
   ·exact .inr (.inl (hF g (f6 h0) i p hi he))) (λi cP dV code' dT eW t' hi=>(mi i cP dV code' dT eW t' hi).mono xt)
  have bZ:=cQ.alloc N bp m bl ([A.rows sh (.const 0) (.var v) (.var (v+2)) 2],(e,false)) g;have hR:R w0 N bp (fg m bl.length g) (om tm s (.w (.one (.sl bl.length sh.length (.const 0) (.const 0) (.var (v+1)) (.var (v+2)))))) (bl++[([.rows sh (.const 0) (.var v) (.var (v+2)) 2],(e,false))]) a w:=by
   refine⟨dq.set (h.t.ext bZ.ha bZ.hn bZ.hb bZ.hm) ?_ λx hx=>?_,h.d,h.b.alloc (λy hy=>by simp at hy;subst hy;exact hA),hM⟩
   ·refine⟨by simp,⟨aa.cH _ _,aa.cH _ _,aa.er (by omega),aa.er (by omega)⟩,?_⟩;simp only[aa.aT,aa.cp,v1,v2];exact f2
   ·rw[f1 x hx];simp only[V.rel,W.den,A.den,aa.aT,aa.cp,v1,v2,j2];split<;>simp
  obtain⟨m2,q1,q2,q3⟩:=Vp (l:=r) (zs:=zs) (v:=v+3) hR xt Nb f7 (λba ed i p hi he=>by
   rw[FU]at hi;split at hi
   ·rename_i dw;rw[iF dw]at he;exact hF ba ed.1 i p hi he
   ·have dw:=(List.getElem?_eq_some_iff.1 hi).1;have:i=bl.length:=by simp at dw;omega
    subst this;simp only[J7,nd,aK]at hi;subst hi;rw[j2]at he;rcases hU cap 0 with h0|h0
    ·simp only[aQ,aa.cp,v2];rw[if_pos h0]
    ·exact absurd he.symm (ed.2 h0)) (λj hj=>by
   have:=hv (j+3) (by simp only[cS];omega);rw[show v+3+j=v+(j+3) by omega];simpa using this) (by omega)
  simp only[dm,cS,eF]at q1 q2;exact⟨m2,λb hb=>by rw[q1 b (by omega)];exact iF hb,by unfold px;omega,by unfold px;exact q3⟩
 |[],_::_,_,_,_,_,_,_,_,_,_,h,_,_,_=>h.elim
 |_::_,[],_,_,_,_,_,_,_,_,_,h,_,_,_=>h.elim
 |_::_,[_],_,_,_,_,_,_,_,_,_,h,_,_,_=>h.elim
 |_::_,[_,_],_,_,_,_,_,_,_,_,_,h,_,_,_=>h.elim
theorem WE {tmps:Array aA}:∀{l:List Nat} {zs:List Int},zh tmps l zs->bd (GX l) zs
 |[],[],_=>trivial
 |s::r,z::zs,h=>⟨h.1.1,h.1.2,WE h.2.2⟩
 |[],_::_,h=>h.elim
 |_::_,[],h=>h.elim
theorem WC {w:ai} {tmps:Array aA}:∀{l:List (Nat×List ay×aS)} {zs:List Int} {D F:Nat->Prop},wL w0 w tmps D F l zs->bd (wY l) zs
 |[],[],_,_,_=>trivial
 |(s,sh,e)::r,code::len::cap::zs,D,F,⟨g,f1,f2,f3,f4,f5,f6,f7⟩=>⟨f3.1,f3.2,f2.1.2.2.1,f2.1.2.2.2,f2.2.1.1,by have:=f2.2.1.2;omega,WC f7⟩
 |[],_::_,_,_,h=>h.elim
 |_::_,[],_,_,h=>h.elim
 |_::_,[_],_,_,h=>h.elim
 |_::_,[_,_],_,_,h=>h.elim
theorem Mem.YM {n:Nat} {ρ:Env} {m:Nat->Nat} {bl:List ao} {w:ai} {b c:Nat} {C:List A} {sh:List ay} {code:aa} {t:aS×Bool} (h:Mem w0 ρ m bl w) (hbl:bl[b]?=some (C,t)) (ho:bT C=true) (ht:t.2=false)
 (hp:iS sh=true) (jh:∀row∈ab (code.den ρ),bO sh row) (hZ:bm sh (ab (code.den ρ))=C.map (A.den ρ m)) (hlen:C.length=c*sh.length):Mem w0 ρ m (cM bl b ([.rows sh (.const 0) code (.const c) 2],t)) w:=by
 have mO:b<bl.length:=(List.getElem?_eq_some_iff.1 hbl).1;obtain⟨q1,q2,r,hr,q3⟩:=h.blk b C t hbl ho;have hr:=hr ht;subst hr;rw[lr]at q3;have dc:∀(i:Nat) (p:ao),(cM bl b ([.rows sh (.const 0) code (.const c) 2],t))[i]?=some p->(i=b/\p=([.rows sh (.const 0) code (.const c) 2],t))∨(i≠b/\bl[i]?=some p):=λi p hi=>by
  rw[iE,oC]at hi;split at hi
  ·rename_i eG;subst eG;simp only[mO,if_true,aK]at hi;exact .inl ⟨rfl,hi.symm⟩
  ·rename_i eG;exact .inr ⟨λe=>eG e.symm,hi⟩
 have hk2:aQ ρ [.rows sh (.const 0) code (.const c) 2]=2:=iz (by decide) (by rw[aa.aT];omega);refine⟨h.ext,h.jf,h.ji,h.iy,h.ew,h.gg,λi jb t' hi gh=>?_,λi cP dV code' dT eW t' hi=>?_,λi j p q hi hj he=>?_⟩
 ·rcases dc i _ hi with⟨rfl,cL⟩|⟨hne,hi⟩
  ·cases cL;cases gh
  ·exact h.blk i jb t' hi gh
 ·rcases dc i _ hi with⟨rfl,cL⟩|⟨hne,hi⟩
  ·cases cL;intro _;simp only[aa.aT];refine⟨λh0=>by omega,λ_=>⟨q2.elim .inl λh=> .inr (.inr h),_,_,_,q3,⟨bD _,(mF hp).2 ⟨jh,[],[],by simp[hZ],rfl⟩⟩,λ_=>⟨rfl,by trivial,.ER,by simp[hlen],q1,q2⟩⟩⟩
  ·exact(h.rws i cP dV _ dT eW t' hi).mono λba h'=>h'.set hbl λ_=>by rw[hH ho];exact aW 2
 ·have hk:∀(i:Nat) (p:ao),(cM bl b ([.rows sh (.const 0) code (.const c) 2],t))[i]?=some p->∃p',bl[i]?=some p'/\aQ ρ p'.1=aQ ρ p.1:=λi p hi=>by
   rcases dc i _ hi with⟨rfl,cL⟩|⟨hne,hi⟩
   ·exact⟨_,hbl,by rw[cL];simp only[hk2,hH ho]⟩
   ·exact⟨p,hi,rfl⟩
  obtain⟨p',hp,ep⟩:=hk i p hi;obtain⟨q',hq,eq⟩:=hk j q hj;rw[<-ep,<-eq];exact h.inj i j p' q' hp hq he
theorem natsM_holds {G:df} {zf:Unit->Nat->T}:∀{k n:Nat} {ρ:Env} {offs:List Int},(IQ k n zf).holds S L G ρ->offs.length=k->(∀z∈offs,0<=z)->(zf () (n+k)).holds S L G (bf ρ n offs)
 |0,n,ρ,[],h,_,_=>h
 |k+1,n,ρ,z::zs,h,hl,h0=>by
  have h1:(IQ k (n+1) zf).holds S L G (cV ρ n z):=h z (h0 z (by simp));have:=natsM_holds (offs:=zs) h1 (by simpa using hl) λy hy=>h0 y (cF _ hy);rw[show n+(k+1)=n+1+k by omega];exact this
 |0,_,_,_::_,_,hl,_=>by simp at hl
 |_+1,_,_,[],_,hl,_=>by simp at hl
def pe (w0:cN) (w:ai) (tmps:Array aA) (D:Nat->Prop) (F:Nat->Prop):List (Nat×List ay)->List Nat->List Int->List Int->Prop
 |[],[],[],[]=>True
 |(s,sh)::r,g::gs,o::os,code::len::cap::zs=>(∀x,tmps[s]?=some x->x=if cap<0 then .slice (lZ cap g) 0 0 else .slice (some ⟨g,o.toNat,none⟩) len.toNat cap.toNat)/\B0 o 0 len cap/\(0<=code/\code<=ch)/\(cap<0->ab code=[])/\
    (0<=cap->(w0.ex g∨w0.ro g∨w0.r.heap.size<=g)/\∃(cells:Array aA) (t:aS) (fz:Nat×Nat),w.heap[g]?=some (.cells cells t fz)/\ig D w cells o.toNat sh (ab code))/\
    (0<=cap->F g)/\pe w0 w tmps D F r gs os zs
 |_,_,_,_=>False
theorem pe.len {w:ai} {tmps:Array aA} {D F:Nat->Prop}:∀{l:List (Nat×List ay)} {gs:List Nat} {os zs:List Int},pe w0 w tmps D F l gs os zs->os.length=l.length/\∀z∈os,0<=z
 |[],[],[],[],_=>⟨rfl,λ_ h=>by simp at h⟩
 |(s,sh)::r,g::gs,o::os,code::len::cap::zs,h=>by
  obtain⟨_,h2,_,_,_,_,h7⟩:=h;obtain⟨i1,i2⟩:=pe.len h7;exact⟨by simp[i1],λz hz=>by
   rcases List.mem_cons.1 hz with rfl|hz
   ·exact h2.1.1
   ·exact i2 z hz⟩
 |_::_,[],_,_,h=>h.elim
 |_::_,_::_,[],_,h=>h.elim
 |_::_,_::_,_::_,[],h=>h.elim
 |_::_,_::_,_::_,[_],h=>h.elim
 |_::_,_::_,_::_,[_,_],h=>h.elim
 |[],_::_,_,_,h=>h.elim
 |[],[],_::_,_,h=>h.elim
 |[],[],[],_::_,h=>h.elim
theorem WH {w:ai} {tmps:Array aA} {D F:Nat->Prop}:∀{l:List (Nat×List ay)} {gs:List Nat} {os zs:List Int},pe w0 w tmps D F l gs os zs->bd (vZ l) zs
 |[],[],[],[],_=>trivial
 |(s,sh)::r,g::gs,o::os,code::len::cap::zs,⟨f1,f2,f3,f4,f5,f6,f7⟩=>⟨f3.1,f3.2,f2.1.2.2.1,f2.1.2.2.2,f2.2.1.1,by have:=f2.2.1.2;omega,WH f7⟩
 |_::_,[],_,_,h=>h.elim
 |_::_,_::_,[],_,h=>h.elim
 |_::_,_::_,_::_,[],h=>h.elim
 |_::_,_::_,_::_,[_],h=>h.elim
 |_::_,_::_,_::_,[_,_],h=>h.elim
 |[],_::_,_,_,h=>h.elim
 |[],[],_::_,_,h=>h.elim
 |[],[],[],_::_,h=>h.elim
theorem E7 {n:Nat} {ρ:Env} {m:Nat->Nat} {tm:List V} {bl:List ao} {a:Act} {w:ai} (h:R w0 n ρ m tm bl a w):∀{l:List (Nat×List ay)} {ls:List aa},v7 l tm bl=some ls->
 (∀x∈ls,aa.aZ n x)/\ls.length=(vZ l).length/\∃gs os,pe w0 w a.tmps (cc w0 ρ m bl) (λg=>∃(i:Nat) (p:ao),bl[i]?=some p/\m i=g/\aQ ρ p.1=1) l gs os (ls.map (·.den ρ))
 |[],ls,he=>by
  simp only[v7,aK]at he;subst he;exact⟨λ_ h=>by simp at h,rfl,[],[],trivial⟩
 |(s,sh)::r,ls,he=>by
  unfold v7 at he;split at he
  ·rename_i hs;split at he
   ·rename_i l1 hr;simp only[aK]at he;subst he;obtain⟨g1,g2,gs,os,g3⟩:=E7 h hr;refine⟨λx hx=>?_,by simp[vZ]at g2⊢;omega,0::gs,0::os,λx hx=>?_,?_,?_,?_,?_,?_,g3⟩
    ·simp only[kS]at hx;rcases hx with rfl|rfl|rfl|hx
     ·exact aa.cH _ _
     ·exact aa.cH _ _
     ·exact aa.cH _ _
     ·exact g1 x hx
    ·obtain⟨_,y,h2,h3⟩:=h.t.2 s _ hs;rw[h2]at hx;cases hx;have oQ:(aa.const (-1)).den ρ<0:=by rw[aa.aT];decide
     simp only[oQ,if_true];exact h3
    ·simp only[aa.aT];exact⟨⟨by omega,by omega,by omega,by omega⟩,⟨by omega,by omega⟩,λ_=>rfl,λh=>by omega⟩
    ·simp only[aa.aT];exact⟨bD _,pR (fe []) (oI (l:=[]) (by simp) (by simp))⟩
    ·intro _;simp only[aa.aT];exact fN
    ·simp only[aa.aT];intro h;omega
    ·simp only[aa.aT];intro h;omega
   ·cases he
  ·rename_i b off hs;split at he
   ·rename_i l1 hr;simp only[aK]at he;subst he;obtain⟨g1,g2,gs,os,g3⟩:=E7 h hr;obtain⟨c,g,⟨hc1,hc2⟩,oa⟩:=Rd (some ⟨m b,off,none⟩);have sg:c=-2:=by
     by_cases hc:c=-1
     ·have:=aaj c g;rw[oa,decide_eq_true hc]at this;cases this
     ·omega
    subst sg;refine⟨λx hx=>?_,by simp[vZ]at g2⊢;omega,g::gs,0::os,λx hx=>?_,?_,?_,?_,?_,?_,g3⟩
    ·simp only[kS]at hx;rcases hx with rfl|rfl|rfl|hx
     ·exact aa.cH _ _
     ·exact aa.cH _ _
     ·exact aa.cH _ _
     ·exact g1 x hx
    ·obtain⟨_,y,h2,h3⟩:=h.t.2 s _ hs;rw[h2]at hx;cases hx;have oQ:(aa.const (-2)).den ρ<0:=by rw[aa.aT];decide
     simp only[oQ,if_true];rw[aa.aT,oa];exact h3
    ·simp only[aa.aT];exact⟨⟨by omega,by omega,by omega,by omega⟩,⟨by omega,by omega⟩,λ_=>rfl,λh=>by omega⟩
    ·simp only[aa.aT];exact⟨bD _,pR (fe []) (oI (l:=[]) (by simp) (by simp))⟩
    ·intro _;simp only[aa.aT];exact fN
    ·simp only[aa.aT];intro h;omega
    ·simp only[aa.aT];intro h;omega
   ·cases he
  ·rename_i b aM o ro len cap hs;split at he
   ·rename_i cP off code cU kind t hbl;cases hc:(iU sh cP&&aG kind 1&&aa.beq o off&&aa.beq ro (.const 0)&&aa.beq cap cU&&aG aM sh.length)with
    |false=>rw[hc]at he;cases he
    |true=>
     rw[hc]at he;simp only[cond_true]at he;split at he
     ·rename_i l1 hr;simp only[aK]at he;subst he;simp only[aO]at hc;obtain⟨⟨⟨⟨⟨c1,c2⟩,c3⟩,c4⟩,c5⟩,fi⟩:=hc;have c1:=o4 c1;have c2:=bA c2;have c3:=aa.beq_eq c3;have c4:=aa.beq_eq c4;have c5:=aa.beq_eq c5;have fi:=bA fi
      subst c1;subst c2;subst c3;subst c4;subst c5;subst fi;obtain⟨g1,g2,gs,os,g3⟩:=E7 h hr;obtain⟨aY,y,h2,h3⟩:=h.t.2 s _ hs;have aY:(A.sl b sh.length o (.const 0) len cap).ok n bl.length ρ:=aY;obtain⟨x1,⟨x2,x3,eT,iG⟩,iW⟩:=aY;simp only[aa.aT]at iW;have e6:(A.rows sh o code cap 1).ok n bl.length ρ:=h.b _ (cZ hbl) _ (by simp);obtain⟨⟨r1,r2,r3⟩,fM,cR⟩:=e6;have gR:=h.a7.rws b sh o code cap 1 t hbl (by decide);refine⟨λx hx=>?_,by simp[vZ]at g2⊢;omega,m b::gs,o.den ρ::os,λx hx=>?_,iW,fM,gR.1,λh0=>?_,λh0=>?_,g3⟩
      ·simp only[kS]at hx;rcases hx with rfl|rfl|rfl|hx
       ·exact r2
       ·exact eT
       ·exact iG
       ·exact g1 x hx
      ·have Ez:y=x:=gH (h2.symm.trans hx);subst Ez;have h3:y=(A.sl b sh.length o (.const 0) len cap).den ρ m:=h3;rw[h3];simp only[A.den,aa.aT];split<;>simp
      ·obtain⟨q0,cells,gS,fz,k1,⟨k2,k3⟩,k4⟩:=gR.2 h0;exact⟨q0,cells,gS,fz,k1,k3⟩
      ·exact⟨b,_,hbl,rfl,iz (by decide) h0⟩
     ·cases he
   ·cases he
  ·cases he
theorem pe.mono {w:ai} {tmps:Array aA} {D F F':Nat->Prop} (hF:∀g,F g->F' g):∀{l:List (Nat×List ay)} {gs:List Nat} {os zs:List Int},pe w0 w tmps D F l gs os zs->pe w0 w tmps D F' l gs os zs
 |[],[],[],[],_=>trivial
 |(s,sh)::r,g::gs,o::os,code::len::cap::zs,⟨f1,f2,f3,f4,f5,f6,f7⟩=>⟨f1,f2,f3,f4,f5,λh=>hF g (f6 h),pe.mono hF f7⟩
 |_::_,[],_,_,h=>h.elim
 |_::_,_::_,[],_,h=>h.elim
 |_::_,_::_,_::_,[],h=>h.elim
 |_::_,_::_,_::_,[_],h=>h.elim
 |_::_,_::_,_::_,[_,_],h=>h.elim
 |[],_::_,_,_,h=>h.elim
 |[],[],_::_,_,h=>h.elim
 |[],[],[],_::_,h=>h.elim
theorem Ls {lo:Nat} {tm:List V} {bl:List ao}:∀{l:List (Nat×List ay×aS)} {used:List Nat} {ls:List aa} {u:List Nat},rW lo l tm bl used=some (ls,u)->∀b∈u,b∈used∨∃sh off code cap t,bl[b]?=some ([.rows sh off code cap 2],t)
 |[],used,ls,u,he=>by
  simp only[rW,aK,cv]at he;obtain⟨rfl,rfl⟩:=he
  exactλb hb=> .inl hb
 |(s,sh,e)::r,used,ls,u,he=>by
  unfold rW at he;split at he
  ·split at he
   ·rename_i l1 ib hr;simp only[aK,cv]at he;obtain⟨rfl,rfl⟩:=he;exact Ls hr
   ·cases he
  ·rename_i b aM o ro len cap hs;split at he
   ·rename_i cP off code cU kind t hbl;cases hc:(iU sh cP&&aG kind 2&&aa.beq o (.const 0)&&aa.beq off (.const 0)&&aa.beq ro (.const 0)&&aa.beq cap cU&&aG t.1 e&&aG aM sh.length&&bC lo b&& !(used.any (aG b)))with
    |false=>rw[hc]at he;cases he
    |true=>
     rw[hc]at he;simp only[cond_true]at he;split at he
     ·rename_i l1 ib hr;simp only[aK,cv]at he;obtain⟨rfl,rfl⟩:=he;simp only[aO]at hc;obtain⟨⟨⟨⟨⟨⟨⟨⟨⟨c1,c2⟩,c3⟩,c4⟩,c5⟩,fi⟩,ke⟩,mI⟩,p5⟩,w9⟩:=hc;have c2:=bA c2;subst c2;intro b' hb';rcases Ls hr b' hb' with h5|h5
      ·rcases List.mem_cons.1 h5 with rfl|h5
       ·exact .inr ⟨_,_,_,_,_,hbl⟩
       ·exact .inl h5
      ·exact .inr h5
     ·cases he
   ·cases he
  ·cases he
theorem OW {i:Nat} {p:ao}:∀{us:List Nat} {bl:List ao},bl[i]?=some p->i∉us->(lf us bl)[i]?=some p
 |[],bl,h,_=>h
 |b::r,bl,h,hi=>by
  unfold lf;split
  ·refine OW ?_ λh=>hi (cF _ h);rw[iE,Ro (λe=>hi (by simp[e]))];exact h
  ·exact OW h λh=>hi (cF _ h)
theorem Vr {N:Nat} {bp:Env} {a:Act} {w:ai} {D F:Nat->Prop}:∀{l:List (Nat×List ay)} {gs:List Nat} {os zs:List Int} {v u:Nat} {tm:List V} {bl:List ao} {m:Nat->Nat},R w0 N bp m tm bl a w->(∀g,D g->cc w0 bp m bl g)->qG w0 bp m bl w D->pe w0 w a.tmps D F l gs os zs->(∀g,F g->∀(i:Nat) (p:ao),bl[i]?=some p->m i=g->aQ bp p.1<=1)->
 (∀j,j<zs.length->bp (v+j)=zs.getD j 0)->(∀j,j<os.length->bp (u+j)=os.getD j 0)->v+zs.length<=N->u+os.length<=N->
 ∃m2,(∀b,b<bl.length->m2 b=m b)/\bl.length<=(headD l v u tm bl).2.length/\R w0 N bp m2 (headD l v u tm bl).1 (headD l v u tm bl).2 a w/\(∀(i:Nat) (p:ao),(headD l v u tm bl).2[i]?=some p->(i<bl.length/\bl[i]?=some p)∨(aQ bp p.1≠0->F (m2 i)))/\(∀g,D g->cc w0 bp m2 (headD l v u tm bl).2 g)/\qG w0 bp m2 (headD l v u tm bl).2 w D
 |[],[],[],[],v,u,tm,bl,m,h,tL,mi,_,_,_,_,_,_=>⟨m,λ_ _=>rfl,aW _,h,λi p hp=> .inl ⟨(List.getElem?_eq_some_iff.1 hp).1,hp⟩,tL,mi⟩
 |(s,sh)::r,g::gs,o::os,code::len::cap::zs,v,u,tm,bl,m,h,tL,mi,hf,hF,hv,hu,hN,M9=>by
  obtain⟨f1,f2,f3,f4,f5,f6,f7⟩:=hf;have v0:=hv 0 (by simp);have v1:=hv 1 (by simp);have v2:=hv 2 (by simp);have u0:=hu 0 (by simp);simp only[wE,J6,lu]at v0 v1 v2 u0;simp only[cS]at hN M9;have hc:(-2:Int)<=cap/\cap<=9223372036854775807:=⟨f2.2.1.1,by have:=f2.2.1.2;omega⟩;have hA:(A.rows sh (.var u) (.var v) (.var (v+2)) 1).ok N bl.length bp:=⟨⟨aa.er (by omega),aa.er (by omega),aa.er (by omega)⟩,by rw[aa.cp,v0];exact f3,by rw[aa.cp,v2];exact hc⟩;have xM:aQ bp [A.rows sh (.var u) (.var v) (.var (v+2)) 1]<=1:=by
   simp only[aQ];split<;>omega
  have xt:∀ba,D ba->cc w0 bp (fg m bl.length g) (bl++[([.rows sh (.var u) (.var v) (.var (v+2)) 1],(0,false))]) ba:=λba ed=>(tL ba ed).push (.inl xM);have ix:gK w0 bp D g sh (.var u) (.var v) (.var (v+2)) 1 0 w:=by
   intro _;simp only[aa.cp,v0,v2,u0];refine⟨f4,λh0=>?_⟩;obtain⟨e9,cells,t,fz,k1,k2⟩:=f5 h0;exact⟨e9,cells,t,fz,k1,⟨f2.1.1,k2⟩,λbb=>by omega⟩
  have Nb:qG w0 bp (fg m bl.length g) (bl++[([.rows sh (.var u) (.var v) (.var (v+2)) 1],(0,false))]) w D:=λi cP dV code' dT eW t' hi=>by
   rcases Je hi with⟨dw,h1⟩|⟨rfl,h1⟩
   ·rw[iF dw];exact mi i cP dV code' dT eW t' h1
   ·cases h1;rw[j2];exact ix
  have hM:=h.a7.push (x:=([.rows sh (.var u) (.var v) (.var (v+2)) 1],(0,false))) (g:=g) h.b (λy hy=>by simp at hy;subst hy;exact hA) (λho=>by cases ho) (λcP dV code' dT eW he=>by
   cases he;exact ix.mono xt) (λi p hi he=>by
   rcases hU cap 0 with h0|h0
   ·refine .inr (.inr ?_);simp only[aQ,aa.cp,v2];rw[if_pos h0]
   ·exact .inl ⟨hF g (f6 h0) i p hi he,xM⟩) (λi cP dV code' dT eW t' hi=>(mi i cP dV code' dT eW t' hi).mono xt)
  have bZ:=cQ.alloc N bp m bl ([A.rows sh (.var u) (.var v) (.var (v+2)) 1],(0,false)) g;have hR:R w0 N bp (fg m bl.length g) (om tm s (.w (.one (.sl bl.length sh.length (.var u) (.const 0) (.var (v+1)) (.var (v+2)))))) (bl++[([.rows sh (.var u) (.var v) (.var (v+2)) 1],(0,false))]) a w:=by
   refine⟨dq.set (h.t.ext bZ.ha bZ.hn bZ.hb bZ.hm) ?_ λx hx=>?_,h.d,h.b.alloc (λy hy=>by simp at hy;subst hy;exact hA),hM⟩
   ·refine⟨by simp,⟨aa.er (by omega),aa.cH _ _,aa.er (by omega),aa.er (by omega)⟩,?_⟩;simp only[aa.aT,aa.cp,v1,v2,u0];exact f2
   ·rw[f1 x hx];simp only[V.rel,W.den,A.den,aa.aT,aa.cp,v1,v2,u0,j2];split<;>simp
  obtain⟨m2,q1,q2,q3,de,rA,mv⟩:=Vr (F:=F) (l:=r) (gs:=gs) (os:=os) (zs:=zs) (v:=v+3) (u:=u+1) hR xt Nb f7 (λba ed i p hi he=>by
   rw[FU]at hi;split at hi
   ·rename_i dw;rw[iF dw]at he;exact hF ba ed i p hi he
   ·have dw:=(List.getElem?_eq_some_iff.1 hi).1;have:i=bl.length:=by simp at dw;omega
    subst this;simp only[J7,nd,aK]at hi;subst hi;exact xM) (λj hj=>by
   have:=hv (j+3) (by simp only[cS];omega);rw[show v+3+j=v+(j+3) by omega];simpa using this) (λj hj=>by
   have:=hu (j+1) (by simp only[cS];omega);rw[show u+1+j=u+(j+1) by omega];simpa using this) (by omega) (by omega)
  simp only[dm,cS,eF]at q1 q2;refine⟨m2,λb hb=>by rw[q1 b (by omega)];exact iF hb,by unfold headD;omega,by unfold headD;exact q3,λi p hp=>?_,by unfold headD;exact rA,by unfold headD;exact mv⟩;unfold headD at hp;rcases de i p hp with⟨iT,lU⟩|iT
  ·simp only[dm,cS,eF]at iT;rw[FU]at lU;split at lU
   ·rename_i dw;exact .inl ⟨dw,lU⟩
   ·rename_i dw;have hi:i=bl.length:=by omega
    subst hi;simp only[J7,nd,aK]at lU;subst lU;refine .inr λh0=>?_;rw[q1 bl.length (by omega),j2];refine f6 ?_;rcases hU cap 0 with h1|h1
    ·refine absurd ?_ h0;simp only[aQ,aa.cp,v2];rw[if_pos h1]
    ·exact h1
  ·exact .inr iT
 |_::_,[],_,_,_,_,_,_,_,_,_,_,h,_,_,_,_,_=>h.elim
 |_::_,_::_,[],_,_,_,_,_,_,_,_,_,h,_,_,_,_,_=>h.elim
 |_::_,_::_,_::_,[],_,_,_,_,_,_,_,_,h,_,_,_,_,_=>h.elim
 |_::_,_::_,_::_,[_],_,_,_,_,_,_,_,_,h,_,_,_,_,_=>h.elim
 |_::_,_::_,_::_,[_,_],_,_,_,_,_,_,_,_,h,_,_,_,_,_=>h.elim
 |[],_::_,_,_,_,_,_,_,_,_,_,_,h,_,_,_,_,_=>h.elim
 |[],[],_::_,_,_,_,_,_,_,_,_,_,h,_,_,_,_,_=>h.elim
 |[],[],[],_::_,_,_,_,_,_,_,_,_,h,_,_,_,_,_=>h.elim
theorem Vt {D:Nat->Prop} {li:cX} {n:Nat} {bY ag:Env} {m0 m':Nat->Nat} {tm bz ks uC:List V} {bl aI dr mH:List ao} {l1 l2 v1 v2 lb la iA:List aa} {b1 b2 zv qL:List (Int×Int)} {n':Nat} {a:Act} {w:ai} {NA ND NN:Nat} {gs:List Nat} {os:List Int}
 (hlen:bl.length<=aI.length)
 (ha:agree n bY ag) (hm:∀b,b<bl.length->m' b=m0 b) (ht:∀v∈tm,V.ok n bl.length bY v) (jd:b9 n bl.length bY bl)
 (h:R w0 n' ag m' bz aI a w) (e1:hs li.eC li.ints 0 (n+1) tm=some (ks,l1,b1)) (e2:hb li.cells 0 (n+1+l1.length) bl=some (dr,l2,b2))
 (e3:hs li.eC li.ints 0 (n+1) bz=some (uC,v1,zv)) (fr:hb li.cells 0 (n+1+v1.length) (aI.take bl.length)=some (mH,v2,qL))
 (f1:kZ ks uC=true) (f2:kY dr mH=true) (se:zh a.tmps li.oM (lb.map (·.den ag))) (Ac:wL w0 w a.tmps D (λg=>(∀(i:Nat) (p:ao),i<bl.length->aI[i]?=some p->m' i=g->aQ ag p.1=0)/\¬∃(i:Nat) (p:ao),aI[i]?=some p/\m' i=g/\aQ ag p.1=1) li.nT (la.map (·.den ag)))
 (tL:∀g,D g->cc w0 ag m' aI g) (mi:qG w0 ag m' aI w D)
 (Ay:pe w0 w a.tmps D (λg=>∃(i:Nat) (p:ao),aI[i]?=some p/\m' i=g/\aQ ag p.1=1) li.iC gs os (iA.map (·.den ag)))
 (UY:NA=n+1+l1.length+l2.length+lb.length) (UZ:ND=n+1+l1.length+l2.length+(lb++la).length) (U0:NN=n+1+l1.length+l2.length+(lb++la++iA).length):
 bd (b1++b2++(GX li.oM++wY li.nT++vZ li.iC)) ((v1++v2++(lb++la++iA)).map (·.den ag))/\∃m2,(∀b,b<bl.length->m2 b=m0 b)/\bl.length<=(px li.nT NA (headD li.iC ND NN (q6 li.oM (n+1+l1.length+l2.length) ks) dr).1 (headD li.iC ND NN (q6 li.oM (n+1+l1.length+l2.length) ks) dr).2).2.length/\
  R w0 (NN+li.iC.length) (bf (bf bY (n+1) ((v1++v2++(lb++la++iA)).map (·.den ag))) NN os) m2 (px li.nT NA (headD li.iC ND NN (q6 li.oM (n+1+l1.length+l2.length) ks) dr).1 (headD li.iC ND NN (q6 li.oM (n+1+l1.length+l2.length) ks) dr).2).1 (px li.nT NA (headD li.iC ND NN (q6 li.oM (n+1+l1.length+l2.length) ks) dr).1 (headD li.iC ND NN (q6 li.oM (n+1+l1.length+l2.length) ks) dr).2).2 a w:=by
 obtain⟨ah9,i1,i2,i3,i4,i5,i6⟩:=Vs (D:=D) (ext:=lb++la++iA) hlen ha hm ht jd h e1 e2 e3 fr f1 f2 tL mi;obtain⟨ahA,awZ⟩:=Ay.len;subst UY;subst UZ;subst U0;have oV:∀j,j<(lb++la++iA).length->bf bY (n+1) ((v1++v2++(lb++la++iA)).map (·.den ag)) (n+1+l1.length+l2.length+j)=((lb++la++iA).map (·.den ag)).getD j 0:=λj hj=>by
  rw[show n+1+l1.length+l2.length+j=n+1+(v1.length+v2.length+j) by omega,B9 _ _ _ _ (by simp at hj⊢;omega)];rw[ga (l₁:=v1++v2),mD,uP (by simp),mD]
  congr 2
  simp
 generalize Wu:bf bY (n+1) ((v1++v2++(lb++la++iA)).map (·.den ag))=bp at*;have pr:agree (n+1+l1.length+l2.length+(lb++la++iA).length) bp (bf bp (n+1+l1.length+l2.length+(lb++la++iA).length) os):=agree.bf os _ bp;have aip:=i2.later (Nat.le_add_right _ li.iC.length) pr;have NL:∀j,j<(lb++la++iA).length->bf bp (n+1+l1.length+l2.length+(lb++la++iA).length) os (n+1+l1.length+l2.length+j)=((lb++la++iA).map (·.den ag)).getD j 0:=λj hj=>by
  rw[<-oV j hj];exact(pr _ (by omega))
 have VI:∀(i:Nat) (p:ao),dr[i]?=some p->aQ (bf bp (n+1+l1.length+l2.length+(lb++la++iA).length) os) p.1=aQ bp p.1:=λi p hi=>mq (i2.b p (cZ hi)) pr;have aiq:∀g,D g->cc w0 (bf bp (n+1+l1.length+l2.length+(lb++la++iA).length) os) m0 dr g:=λg hg=>cc.dP i2.b pr (i5 g hg);have air:qG w0 (bf bp (n+1+l1.length+l2.length+(lb++la++iA).length) os) m0 dr w D:=λi sh off code cap kind t hi=>(i6 i sh off code cap kind t hi).dP (i2.b _ (cZ hi) _ (by simp)) pr;generalize aio:bf bp (n+1+l1.length+l2.length+(lb++la++iA).length) os=eO at*;have hB:=Vq (v:=n+1+l1.length+l2.length) aip se (λj hj=>by
  simp only[j8]at hj;rw[NL j (by simp;omega),gJ,ga,mD,rO (by simpa using hj),mD]) (by simp;omega)
 obtain⟨fV,p1,bo,bU,c6,dF,eD⟩:=Vr (D:=D) (v:=n+1+l1.length+l2.length+(lb++la).length) (u:=n+1+l1.length+l2.length+(lb++la++iA).length) hB aiq air Ay (λg hg i p hi he=>by
  obtain⟨g1,p',g2,g3⟩:=i4 i p hi;rw[VI i p hi,g3];obtain⟨j,q,q1,q2,q3⟩:=hg;rcases h.a7.inj i j p' q g2 q1 (by rw[q2,<-he,hm i g1])with bb|bb|bb|bb
  ·subst bb;rw[g2]at q1;cases q1;omega
  ·exact bb.1
  ·omega
  ·omega) (λj hj=>by
  simp only[j8]at hj;rw[show n+1+l1.length+l2.length+(lb++la).length+j=n+1+l1.length+l2.length+((lb++la).length+j) by omega,NL _ (by simp at hj⊢;omega),ga (l₁:=lb++la),mD,uP (by simp),mD]
  congr 2
  simp) (λj hj=>by rw[<-aio,B9 _ _ _ _ hj]) (by simp only[j8,dm];omega) (by rw[ahA];exact aW _)
 obtain⟨m2,q1,q2,q3⟩:=Vp (v:=n+1+l1.length+l2.length+lb.length) bU dF eD Ac (λg hg i p hi he=>by
  rcases c6 i p hi with⟨g0,g1⟩|g1
  ·obtain⟨kH,p',g2,g3⟩:=i4 i p g1;rw[VI i p g1,g3];exact hg.1 i p' kH g2 (by rw[hm i kH,<-p1 i g0];exact he)
  ·by_cases h0:aQ eO p.1=0
   ·exact h0
   ·have:=g1 h0;rw[he]at this;exact absurd this hg.2) (λj hj=>by
  simp only[j8]at hj;rw[show n+1+l1.length+l2.length+lb.length+j=n+1+l1.length+l2.length+(lb.length+j) by omega,NL _ (by simp;omega),gJ,ga,mD,uP (by simp),ga,rO (by simp;omega),mD]
  congr 2
  simp) (by simp;omega)
 refine⟨?_,m2,λb hb=>by rw[q1 b (by rw[i3]at bo;omega),p1 b (by rw[i3];exact hb)],by rw[i3]at bo;omega,q3⟩;rw[ga,ga (l₁:=lb++la),ga (l₁:=lb)];exact rl i1 (rl (rl (WE se) (WC Ac)) (WH Ay))
theorem LK {a b c:Nat} (h:a=c) (h':b=c):b=a:=h'.trans h.symm
theorem IF {n:Nat} {ρ:Env} {m:Nat->Nat} {tm:List V} {a:Act} {w:ai}:∀{l:List (Nat×List ay)} {bl:List ao} (bz:List V),R w0 n ρ m tm bl a w->R w0 n ρ m tm (yl l bz bl) a w/\(yl l bz bl).length=bl.length
 |[],bl,bz,h=>⟨h,rfl⟩
 |(s,_)::r,bl,bz,h=>by
  unfold yl;split
  ·rename_i x _;obtain⟨h1,h2⟩:=Xr h x;obtain⟨h3,h4⟩:=IF (l:=r) bz h1;exact⟨h3,by rw[h4,h2]⟩
  ·exact IF (l:=r) bz h
theorem Iz (x:Nat) (r:List Nat):lc (x::r)=2^x*(2*lc r+1):=rfl
theorem ajC (x:Nat) (r:List Nat):lc r<=lc (x::r):=by
 rw[Iz];have h1:1<=2^x:=Nat.one_le_two_pow;have h2:2*lc r+1<=2^x*(2*lc r+1):=Nat.le_mul_of_pos_left _ h1;omega
theorem Xg:∀(a:Nat) (l:List Nat),lc (l.drop a)<=lc l
 |0,l=>by simp
 |a+1,[]=>by simp
 |a+1,x::r=>by rw[List.drop_succ_cons];exact gk (Xg a r) (ajC x r)
theorem Xh:∀(k:Nat) (l:List Nat),lc (l.take k)<=lc l
 |0,l=>by simp[lc]
 |k+1,[]=>by simp
 |k+1,x::r=>by
  rw[List.take_succ_cons,Iz,Iz];exact Nat.mul_le_mul_left _ (by have:=Xh k r;omega)
theorem PV (l:List (List Int)) (a k:Nat):rc ((l.drop a).take k)<=rc l:=by
 unfold rc;rw[y2,y3]
 exact_mod_cast gk (Xh k _) (Xg a _)
theorem avp (n:Nat):tg (wv n)=n:=by
 unfold tg wv;by_cases h:n% 2=0
 ·rw[if_pos h,if_pos (by omega)];omega
 ·rw[if_neg h,if_neg (by omega)];omega
theorem ZD:∀(f n:Nat),0<n->n<=f->n=2^nL f n*(2*(n/2^nL f n/2)+1)
 |0,n,h,h'=>by omega
 |f+1,n,h,h'=>by
  unfold nL;by_cases hn:n% 2=0
  ·rw[if_pos hn];have ih:=ZD f (n/2) (by omega) (by omega);have e:n/2^(nL f (n/2)+1)=n/2/2^nL f (n/2):=by rw[yZ,y0,Nat.div_div_eq_div_mul]
   rw[e,yZ,y0 (2^_) 2,Nat.mul_assoc,<-ih];omega
  ·rw[if_neg hn];simp;omega
theorem O5:∀(f n:Nat),n<=f->lc (ui f n)=n
 |0,n,h=>by
  have:n=0:=by omega
  subst this;rfl
 |f+1,n,h=>by
  unfold ui;by_cases hn:n=0
  ·rw[if_pos hn,hn];rfl
  ·rw[if_neg hn,Iz];have hp:0<2^nL n n:=Nat.two_pow_pos _;have hd:n/2^nL n n/2<=f:=by
    have h1:n/2^nL n n<=n:=Nat.div_le_self _ _;omega
   rw[O5 f _ hd];exact(ZD n n (by omega) (aW _)).symm
theorem PU {z:Int} (h:0<=z):rc (ab z)=z:=by
 unfold rc ab;rw[kT];have e:((λrow:List Int=>lc (row.map tg))∘λn=>(ui n n).map wv)=id:=by
  funext n
  simp only[J4,kT,id];have:(tg∘wv)=id:=by funext k;exact avp k
  rw[this,FR,O5 n n (aW _)]
 rw[e,FR,O5 _ _ (aW _)];omega
theorem BL {a:Act} {w:ai}:∀{l:List (Nat×List ay)} {n:Nat} {ρ:Env} {m:Nat->Nat} {tm:List V} {bl:List ao} {k:Nat->List V->List ao->T} {G:df},R w0 n ρ m tm bl a w->(v8 l n tm bl k).holds S L G ρ->
 ∃n' ag m' bz aI,cQ n bl.length ρ m n' (kA aI) ag m'/\R w0 n' ag m' bz aI a w/\(k n' bz aI).holds S L G ag
 |[],n,ρ,m,tm,bl,k,G,h,ah=>⟨n,ρ,m,tm,bl,cQ.refl _ _ _ _,h,ah⟩
 |(s,sh)::r,n,ρ,m,tm,bl,k,G,h,ah=>by
  unfold v8 at ah;split at ah
  ·rename_i b aM o ro len cap hs;split at ah
   ·rename_i cP off code cU kind t hbl;cases hc:(iU sh cP&&aG kind 1&&aa.beq o off&&aG aM sh.length&& !(aa.beq ro (.const 0)&&aa.beq cap cU))with
    |false=>rw[hc]at ah;exact BL (l:=r) h ah
    |true=>
     rw[hc]at ah;simp only[cond_true,T.holds]at ah;obtain⟨hk,qf,ah⟩:=ah;simp only[aO]at hc;obtain⟨⟨⟨⟨c1,c2⟩,c3⟩,c4⟩,_⟩:=hc;have c1:=o4 c1;have c2:=bA c2;have c3:=aa.beq_eq c3;have c4:=bA c4
     subst c1;subst c2;subst c3;subst c4;obtain⟨aY,y,h2,h3⟩:=h.t.2 s _ hs;have x5:(A.sl b sh.length o ro len cap).ok n bl.length ρ:=aY;have h3:y=(A.sl b sh.length o ro len cap).den ρ m:=h3;obtain⟨x1,⟨x2,x3,eT,iG⟩,⟨iW,ox,lq,nN⟩,⟨ov,ow⟩,fE,gT⟩:=x5;simp only[ct,et,af,aa.den_add]at hk qf;have e6:(A.rows sh o code cU 1).ok n bl.length ρ:=h.b _ (cZ hbl) _ (by simp);have hf:aw 22 ([code,ro,ro.add len].map (·.den ρ))=rc (((ab (code.den ρ)).drop (ro.den ρ).toNat).take (len.den ρ).toNat):=by
      simp only[ct,et,aw,aa.den_add]
      congr 2;omega
     have dQ:rc (((ab (code.den ρ)).drop (ro.den ρ).toNat).take (len.den ρ).toNat)<=ch:=by
      have h1:=PV (ab (code.den ρ)) (ro.den ρ).toNat (len.den ρ).toNat;rw[PU e6.2.1.1]at h1;exact pR h1 e6.2.1.2
     obtain⟨z,hz⟩:∃z,z=rc (((ab (code.den ρ)).drop (ro.den ρ).toNat).take (len.den ρ).toNat):=⟨_,rfl⟩;have ah:=ah z (by rw[hz];exact fe _) (by rw[hz];exact dQ) (by rw[hf];exact hz);have ha:agree n ρ (cV ρ n z):=agree.cV _ _ _;have e0:cV ρ n z n=z:=jG ..;generalize mV:cV ρ n z=aD at ah ha e0;have h1:=h.later (kB n) ha;have d1:o.den aD=o.den ρ:=aa.bG ha x2;have d2:ro.den aD=ro.den ρ:=aa.bG ha x3;have d3:len.den aD=len.den ρ:=aa.bG ha eT;have d4:cap.den aD=cap.den ρ:=aa.bG ha iG;have d5:(o.add (ro.smul sh.length)).den aD=o.den ρ+sh.length*ro.den ρ:=by rw[aa.den_add,aa.kg,d1,d2]
     have gO:0<=(sh.length:Int)*ro.den ρ:=Int.mul_nonneg (by omega) (by omega);have H5:aa.aZ (n+1) (o.add (ro.smul sh.length)):=aa.rE (aa.aZ.mono x2 (kB n)) (aa.sP (aa.aZ.mono x3 (kB n)));have hA:(A.rows sh (o.add (ro.smul sh.length)) (.var n) cap 1).ok (n+1) bl.length aD:=⟨⟨H5,aa.er (rP n),aa.aZ.mono iG (kB n)⟩,by rw[aa.cp,e0,hz];exact⟨fe _,dQ⟩,by rw[d4];exact⟨ov,by omega⟩⟩;have xM:aQ aD [A.rows sh (o.add (ro.smul sh.length)) (.var n) cap 1]<=1:=by
      simp only[aQ];split<;>omega
     have hlen:(((ab (code.den ρ)).drop (ro.den ρ).toNat).take (len.den ρ).toNat).length=(len.den ρ).toNat:=by simp;omega
     have hM:=h1.a7.push (x:=([.rows sh (o.add (ro.smul sh.length)) (.var n) cap 1],(0,false))) (g:=m b) h1.b (λy hy=>by simp at hy;subst hy;exact hA) (λho=>by cases ho) (λJB IW fk CX sz he=>by
      cases he;intro _;rw[aa.cp,e0,hz,dv,d4,d5];refine⟨λh0=>?_,λh0=>?_⟩
      ·have:=fE h0;rw[this];simp
      ·have nu:=qf h0;obtain⟨q0,cells,gS,fz,q1,⟨q2,q3⟩,_⟩:=(h1.a7.rws b sh o code cU 1 t hbl (by decide)).2 (by rw[aa.bG ha e6.1.2.2];exact nu);rw[d1,aa.bG ha e6.1.2.1]at q3;refine⟨q0,cells,gS,fz,q1,⟨by omega,?_⟩,λbb=>by omega⟩;have de:=q3.sub (ro.den ρ).toNat (len.den ρ).toNat (by omega);have e:(o.den ρ+(sh.length:Int)*ro.den ρ).toNat=(o.den ρ).toNat+(ro.den ρ).toNat*sh.length:=by
        obtain⟨u,hu⟩:=s4 (show 0<=ro.den ρ by omega);obtain⟨v,hv⟩:=s4 iW;rw[hu,hv,eZ,eZ,y0];show((v:Int)+(sh.length:Int)*(u:Int)).toNat=_;rw[<-auy,<-auz,eZ]
       rw[e];exact de.mono (Fr.of w λba ed=>ed.push (.inl xM))) (λi p hi he=>by
      rcases hU (cap.den aD) 0 with h0|h0
      ·refine .inr (.inr ?_);simp only[aQ];rw[if_pos h0]
      ·refine .inl ⟨?_,xM⟩;have nu:0<=cU.den aD:=by rw[aa.bG ha e6.1.2.2];exact qf (by rw[<-d4];exact h0)
       have nz:aQ aD [A.rows sh o code cU 1]=1:=iz (by decide) nu;rcases h1.a7.inj i b p _ hi hbl he with g|g|g|g
       ·subst g;rw[hbl]at hi;cases hi;exact Nat.le_of_eq nz
       ·exact g.1
       ·omega
       ·simp only at g;omega) (h1.a7.Jv xM)
     have bZ:cQ n bl.length ρ m (n+1) (bl++[([A.rows sh (o.add (ro.smul sh.length)) (.var n) cap 1],((0:aS),false))]).length aD (fg m bl.length (m b)):=⟨kB n,ha,by simp,λb hb=>iF hb⟩;have hR:R w0 (n+1) aD (fg m bl.length (m b)) (om tm s (.w (.one (.sl bl.length sh.length (o.add (ro.smul sh.length)) (.const 0) len cap)))) (bl++[([.rows sh (o.add (ro.smul sh.length)) (.var n) cap 1],(0,false))]) a w:=by
      refine⟨dq.set (h.t.ext bZ.ha bZ.hn bZ.hb bZ.hm) ?_ λx hx=>?_,h.d,h1.b.alloc (λy hy=>by simp at hy;subst hy;exact hA),hM⟩
      ·refine⟨by simp,⟨H5,aa.cH _ _,aa.aZ.mono eT (kB n),aa.aZ.mono iG (kB n)⟩,?_⟩;rw[d5,d3,d4,aa.aT];exact⟨⟨by omega,bD _,lq,nN⟩,⟨ov,by omega⟩,fE,gT⟩
      ·have Ez:y=x:=gH (h2.symm.trans hx);subst Ez;rw[h3];simp only[V.rel,W.den,A.den,j2];rw[d3,d4,d5,aa.aT];split
       ·rfl
       ·have e:(o.den ρ+(sh.length:Int)*ro.den ρ).toNat=(o.den ρ).toNat+(ro.den ρ).toNat*sh.length:=by
         obtain⟨u,hu⟩:=s4 (show 0<=ro.den ρ by omega);obtain⟨v,hv⟩:=s4 iW;rw[hu,hv,eZ,eZ,y0];show((v:Int)+(sh.length:Int)*(u:Int)).toNat=_;rw[<-auy,<-auz,eZ]
        rw[e];simp
     obtain⟨n',ag,m',bz,aI,g1,g2,g3⟩:=BL (l:=r) hR ah;exact⟨n',ag,m',bz,aI,bZ.trans g1,g2,g3⟩
   ·exact BL (l:=r) h ah
  ·exact BL (l:=r) h ah
theorem aky {li:cX} {c:Code} {e:Nat->List V->List ao->nj->T} (hd:rd=none∨ko c=true) (he:Gi rd S L w0 P c e) {Q:Exit->Act->ai->Prop} {n:Nat} {ρ:Env} {m:Nat->Nat} {tm:List V} {bl:List ao} {a:Act} {w:ai} {G:df} {k:nj}
 (h:R w0 n ρ m tm bl a w) (ah:(Ph li e n tm bl k).holds S L G ρ) (hk:wQ S L w0 k n bl.length ρ m G Q):(Code.loop c).wpIn (oH rd) 0 P Q a w:=by
 unfold Ph at ah;obtain⟨bY,n0,tm,n4,ha0,rh,ah⟩:=Df (S:=S) (L:=L) h.t G _ ah;have Dq:=h.later n4 ha0;have h:R w0 n0 bY m tm bl a w:=⟨rh,Dq.d,Dq.b,Dq.a7⟩;have hk:=hk.later (⟨n4,ha0,aW _,λ_ _=>rfl⟩:cQ n bl.length ρ m n0 bl.length bY m) (dJ.refl _ G);obtain⟨aD,n1,lb,fl,dM,⟨s1,s2,eS⟩,ah⟩:=LL (S:=S) (L:=L) h.t G _ ah;have h1:=h.later fl dM;have hk:=hk.later (⟨fl,dM,aW _,λ_ _=>rfl⟩:cQ n0 bl.length bY m n1 bl.length aD m) (dJ.refl _ G);split at ah
 rotate_left
 ·exact ah.elim
 rename_i ks l1 b1 la us iA e1 T9 adJ;obtain⟨a1,a2,_,_,a5⟩:=GD h1 T9;obtain⟨k1,k2,k3⟩:=OX (us:=us) h1;obtain⟨r1,r2,gs,os,r3⟩:=E7 h1 adJ;cases e2:hb li.cells 0 (n1+1+l1.length) (lf us bl)with
 |none=>rw[e2]at ah;exact ah.elim
 |some q2=>
  obtain⟨dr,l2,b2⟩:=q2;rw[e2]at ah;simp only at ah;cases hf:(kZ ks ks&&kY dr dr)with
  |false=>rw[hf]at ah;exact ah.elim
  |true=>
   rw[hf]at ah;simp only[FV,cond_false,T.holds]at ah;simp only[aO]at hf;obtain⟨I,j9,M4,hB⟩:=ah;have H8:∀v∈tm,V.ok n1 (lf us bl).length aD v:=λv hv=>by
    obtain⟨i,hi⟩:=List.getElem?_of_mem hv;exact(k1.t.2 i v hi).1
   have Mj:hb li.cells 0 (n1+1+l1.length) ((lf us bl).take (lf us bl).length)=some (dr,l2,b2):=by rw[J9];exact e2
   have agh:wL w0 w a.tmps (cc w0 aD m bl) (λg=>(∀(i:Nat) (p:ao),i<(lf us bl).length->(lf us bl)[i]?=some p->m i=g->aQ aD p.1=0)/\¬∃(i:Nat) (p:ao),(lf us bl)[i]?=some p/\m i=g/\aQ aD p.1=1) li.nT (la.map (·.den aD)):=by
    refine a5 _ λb p hb _ hbl iw jz=>?_;have key:∀(i:Nat) (q:ao),(lf us bl)[i]?=some q->m i=m b->aQ aD q.1=0:=λi q hi he=>by
     rcases k3 i q hi with⟨g1,g2⟩|g1
     ·by_cases gN:i=b
      ·subst gN;rw[hbl]at g1;cases g1;rcases g2 hb with g2|g2
       ·rw[jz]at g2;cases g2
       ·exact g2
      ·rcases h1.a7.inj i b q p g1 hbl he with g3|g3|g3|g3
       ·exact absurd g3 gN
       ·omega
       ·exact g3
       ·omega
     ·exact g1
    exact⟨λi q _ hi he=>key i q hi he,λ⟨i,q,hi,he,hk⟩=>by have:=key i q hi he;omega⟩
   have Ay:pe w0 w a.tmps (cc w0 aD m bl) (λg=>∃(i:Nat) (p:ao),(lf us bl)[i]?=some p/\m i=g/\aQ aD p.1=1) li.iC gs os (iA.map (·.den aD)):=by
    refine r3.mono λg ⟨i,p,hi,he,hk⟩=>⟨i,p,OW hi λhu=>?_,he,hk⟩;rcases Ls T9 i hu with bb|⟨sh,off,code,cap,t,bb⟩
    ·simp at bb
    ·rw[hi]at bb;cases bb;simp only[aQ]at hk;split at hk<;>omega
   obtain⟨i1,m2,i2,i3,i4⟩:=Vt (aW _) (agree.refl n1 aD) (λ_ _=>rfl) H8 k1.b k1 e1 e2 e1 Mj hf.1 hf.2 eS agh (λg hg=>⟨hg.1,λi p hi hk=>by
    rcases k3 i p hi with⟨g1,_⟩|g1
    ·exact hg.2 i p g1 hk
    ·omega⟩) (λi sh off code cap kind t hi=>by
    rcases k3 i _ hi with⟨g1,_⟩|g1
    ·exact h1.a7.rws i sh off code cap kind t g1
    ·intro fB;refine⟨(k1.a7.rws i sh off code cap kind t hi fB).1,λhc=>?_⟩;simp only[iz fB hc]at g1;exact absurd g1 fB) Ay rfl rfl rfl
   generalize U0:n1+1+l1.length+l2.length+(lb++la++iA).length=NN at*;generalize UZ:n1+1+l1.length+l2.length+(lb++la).length=ND at*;generalize UY:n1+1+l1.length+l2.length+lb.length=NA at*;generalize agI:headD li.iC ND NN (q6 li.oM (n1+1+l1.length+l2.length) ks) dr=d at*;refine wpIn_loop_ghost (λN a' w'=>∃zs os m2,bd (b1++b2++(GX li.oM++wY li.nT++vZ li.iC)) zs/\I zs/\j9 zs=N/\(os.length=li.iC.length/\∀z∈os,0<=z)/\(∀b,b<(lf us bl).length->m2 b=m b)/\
    R w0 (NN+li.iC.length) (bf (bf aD (n1+1) zs) NN os) m2 (px li.nT NA d.1 d.2).1 (px li.nT NA d.1 d.2).2 a' w') (j9 ((l1++l2++(lb++la++iA)).map (·.den aD))) ⟨_,os,m2,i1,M4,rfl,Ay.len,i2,i4⟩ ?_
   rintro N a1 w1 ⟨zs,PA,m2,hz1,hz2,rfl,⟨ml,lQ⟩,Ie,ef⟩
   have tQ:=natsM_holds (kC hB hz1 hz2) ml lQ;refine he hd _ _ _ _ _ _ _ a1 w1 _ ef tQ λx n' ag m' bz aI dg a' w' h1 h2 h3 h4=>?_;have Ad:agree n1 aD (bf aD (n1+1) zs):=(agree.bf _ (n1+1) aD).mono (by omega);have agj:agree n1 aD (bf (bf aD (n1+1) zs) NN PA):=Ad.trans (agree.bf PA NN _) (by omega);have M6:cQ n1 bl.length aD m (NN+li.iC.length) (px li.nT NA d.1 d.2).2.length (bf (bf aD (n1+1) zs) NN PA) m2:=⟨by omega,agj,by rw[k2]at i3;exact i3,λb hb=>Ie b (by rw[k2];exact hb)⟩;have vu:dJ n1 G (G.set n1 λvs=>I vs/\j9 vs<j9 zs):=λl hl=>by
    unfold df.set;cases hb:aG l n1 with
    |true=>have:=bA hb;omega
    |false=>rfl
   have bZ:=M6.trans h1;have M3:dg n1=λvs=>I vs/\j9 vs<j9 zs:=by
    rw[h2 n1 (by omega)];unfold df.set;have:aG n1 n1=true:=Ck n1;rw[this];rfl
   cases x with
   |exit id=>exact hk (.exit id) n' ag m' bz aI dg a' w' bZ (vu.trans h2 (by omega)) h3 h4
   |ret=>exact hk .ret n' ag m' bz aI dg a' w' bZ (vu.trans h2 (by omega)) h3 h4
   |normal=>
    simp only at h4;obtain⟨pz,D9⟩:=IF (l:=li.iC) bz h3;rw[<-D9]at bZ;obtain⟨n',ag,m',bz,aI,afb,h3,h4⟩:=BL pz h4;have bZ:=bZ.trans afb;obtain⟨RI,pJ,bz,VT,Vb,ah1,h4⟩:=Df (S:=S) (L:=L) h3.t dg _ h4;have mh:=h3.later VT Vb;have h3:R w0 pJ RI m' bz aI a' w':=⟨ah1,mh.d,mh.b,mh.a7⟩;have bZ:=bZ.trans (⟨VT,Vb,aW _,λ_ _=>rfl⟩:cQ n' aI.length ag m' pJ aI.length RI m');obtain⟨pV,Bv,Xf,ee,db,⟨t1,t2,t3⟩,h4⟩:=LL (S:=S) (L:=L) h3.t dg _ h4;have h3:=h3.later ee db;split at h4
    rotate_left
    ·exact h4.elim
    rename_i uC v1 zv O2 jH Xs e3 adI adK;obtain⟨c1,c2,_,c4,c5⟩:=GD h3 adI;obtain⟨d1,d2,awy,EV,d3⟩:=E7 h3 adK;cases fr:hb li.cells 0 (n1+1+v1.length) (aI.take bl.length)with
    |none=>rw[fr]at h4;exact h4.elim
    |some de=>
     obtain⟨mH,v2,qL⟩:=de;rw[fr]at h4;simp only at h4;cases kj:(kZ ks uC&&kY dr mH)with
     |false=>rw[kj]at h4;exact h4.elim
     |true=>
      rw[kj]at h4;simp only[cond_true,T.holds,M3]at h4;simp only[aO]at kj;have M7:=bZ.trans (⟨ee,db,aW _,λ_ _=>rfl⟩:cQ pJ aI.length RI m' Bv aI.length pV m');have agi:wL w0 w' a'.tmps (cc w0 pV m' aI) (λg=>(∀(i:Nat) (p:ao),i<(lf us bl).length->aI[i]?=some p->m' i=g->aQ pV p.1=0)/\¬∃(i:Nat) (p:ao),aI[i]?=some p/\m' i=g/\aQ pV p.1=1) li.nT (O2.map (·.den pV)):=by
       refine c5 _ λb p hb _ hbl iw jz=>⟨λi q dw hi he=>?_,λ⟨i,q,hi,he,hk⟩=>?_⟩
       ·have Nv:bl.length<=b:=by
         rcases c4 b hb with h|h
         ·simp at h
         ·exact h
        rw[k2]at dw;rcases h3.a7.inj i b q p hi hbl he with g3|g3|g3|g3
        ·omega
        ·omega
        ·exact g3
        ·omega
       ·rcases h3.a7.inj i b q p hi hbl he with g3|g3|g3|g3
        ·subst g3;rw[hi]at hbl;cases hbl;omega
        ·omega
        ·omega
        ·omega
      obtain⟨c0,m3,jX,mo,nC⟩:=Vt (NA:=NA) (ND:=ND) (NN:=NN) (by rw[k2];exact M7.hb) M7.ha (λb hb=>M7.hm b (by rw[k2]at hb;exact hb)) H8 k1.b h3 e1 e2 e3 (by rw[k2];exact fr) kj.1 kj.2 t3 agi (λg hg=>hg) h3.a7.rws d3 (by have:=t2;have:=LK s2 t2;omega) (by have:=LK s2 t2;simp only[dm]at*;omega) (by have:=LK s2 t2;simp only[dm]at*;omega);rw[agI]at nC;exact⟨_,h4.2,_,EV,m3,c0,h4.1,rfl,d3.len,jX,nC⟩
theorem akx {li:cX} {c:Code} {e:Nat->List V->List ao->nj->T} (hd:rd=none∨ko c=true) (he:Gi rd S L w0 P c e) {Q:Exit->Act->ai->Prop} {n:Nat} {ρ:Env} {m:Nat->Nat} {tm:List V} {bl:List ao} {a:Act} {w:ai} {G:df} {k:nj}
 (h:R w0 n ρ m tm bl a w) (ah:(Pg li e n tm bl k).holds S L G ρ) (hk:wQ S L w0 k n bl.length ρ m G Q):(Code.loop c).wpIn (oH rd) 0 P Q a w:=by
 unfold Pg at ah;obtain⟨h1,h2⟩:=IF (l:=li.iC) tm h;rw[<-h2]at hk;obtain⟨n',ag,m',bz,aI,bZ,h3,ah⟩:=BL h1 ah;exact aky hd he h3 ah (hk.later bZ (dJ.refl _ G))
theorem toL {ops:Array Oper}:ops.toList.toArray=ops:=l6
theorem zT (N:Nat):∀(i:Nat) (bl:List ao),(cO N i bl).length=bl.length
 |_,[]=>rfl
 |i,_::r=>by simp[cO,zT N (i+1) r]
theorem qT (N:Nat):∀(i:Nat) (bl:List ao) (k:Nat) (p:ao),(cO N i bl)[k]?=some p->p=dL∨(i+k<N/\(bT p.1||qm p.1)=true/\bl[k]?=some p)
 |_,[],k,p,h=>by simp[cO]at h
 |i,q::r,0,p,h=>by
  simp only[cO,nd,aK]at h;cases hc:(b6 i N&&(bT q.1||qm q.1))with
  |false=>rw[hc]at h;exact .inl h.symm
  |true=>
   rw[hc]at h;simp only[cond_true]at h;subst h;simp only[aO]at hc;exact .inr ⟨by simpa using tr hc.1,hc.2,rfl⟩
 |i,q::r,k+1,p,h=>by
  rcases qT N (i+1) r k p (by simpa [cO]using h)with h1|⟨h1,h2,h3⟩
  ·exact .inl h1
  ·exact .inr ⟨by omega,h2,by simpa using h3⟩
theorem PE:∀{a b:List ao},preB a b=true->∀(k:Nat) (p:ao),a[k]?=some p->b[k]?=some p
 |[],_,_,_,_,h=>by simp at h
 |(c,t)::r,(c',t')::s,hf,k,p,h=>by
  simp only[preB,aO]at hf;obtain⟨⟨⟨h1,h2⟩,h3⟩,h4⟩:=hf;cases k with
  |zero=>
   have e1:=zx h1;have e2:=bA h2;have e3:t.2=t'.2:=by simpa using h3
   have:t=t':=Prod.ext e2 e3;subst e1;subst this;simpa using h
  |succ k=>have:=PE h4 k p (by simpa using h);simpa using this
 |_::_,[],h,_,_,_=>by simp[preB]at h
theorem aiR {c:List A} (h:qm c=true):∃sh off code cap,c=[.rows sh off code cap 1]:=by
 unfold qm at h;split at h
 ·rename_i sh off code cap k;have:=bA h;subst this;exact⟨sh,off,code,cap,rfl⟩
 ·cases h
def Js (ρ bp:Env) (c:List A):Prop:=∀sh off code cap k,c=[.rows sh off code cap k]->off.den bp=off.den ρ/\code.den bp=code.den ρ/\cap.den bp=cap.den ρ
theorem OY {ρ bp:Env} {c:List A} (h:(bT c||qm c)=true) (hr:Js ρ bp c):aQ bp c=aQ ρ c:=by
 rcases oA _ _▸h with h|h
 ·rw[hH h,hH h]
 ·obtain⟨sh,off,code,cap,rfl⟩:=aiR h;simp only[aQ,(hr sh off code cap 1 rfl).2.2]
theorem Mem.sub {ρ bp:Env} {m m2:Nat->Nat} {bl gC:List ao} {w:ai} (h:Mem w0 ρ m bl w) (hs:∀(i:Nat) (p:ao),gC[i]?=some p->p=dL∨(bl[i]?=some p/\(bT p.1||qm p.1)=true/\m2 i=m i/\p.1.map (A.den bp m2)=p.1.map (A.den ρ m)/\Js ρ bp p.1)):Mem w0 bp m2 gC w:=by
 have fB:aQ bp dL.1=0:=by simp[dL,aQ]
 refine⟨h.ext,h.jf,h.ji,h.iy,h.ew,h.gg,λi cs t hi ho=>?_,λi sh off code cap kind t hi=>?_,λi j p q hi hj he=>?_⟩
 ·rcases hs i _ hi with h1|⟨h1,_,h3,h4,_⟩
  ·cases h1;simp[bT]at ho
  ·rw[h3,h4];exact h.blk i cs t h1 ho
 ·rcases hs i _ hi with h1|⟨h1,h2,h3,_,h5⟩
  ·cases h1;intro hk;exact absurd rfl hk
  ·obtain⟨e1,e2,e3⟩:=h5 sh off code cap kind rfl;have:=(h.rws i sh off code cap kind t h1).mono (F':=cc w0 bp m2 gC) (cc.mono λj p hj hk=>by
    rcases hs j p hj with g1|⟨g1,g2,g3,_,g5⟩
    ·subst g1;rw[fB]at hk;omega
    ·exact⟨j,p,g1,by rw[<-OY g2 g5];exact hk,g3.symm⟩)
   unfold gK at this⊢;rw[e1,e2,e3,h3];exact this
 ·rcases hs i _ hi with h1|⟨h1,h2,h3,_,h5⟩
  ·subst h1;exact .inr (.inr (.inl fB))
  ·rcases hs j _ hj with g1|⟨g1,g2,g3,_,g5⟩
   ·subst g1;exact .inr (.inr (.inr fB))
   ·rw[OY h2 h5,OY g2 g5];exact h.inj i j p q h1 g1 (by rw[<-h3,<-g3];exact he)
theorem b9.cO {n nb:Nat} {ρ:Env} {bl:List ao} (h:b9 n nb ρ bl) (N:Nat):b9 n nb ρ (Go.bg.cO N 0 bl):=λp hp=>by
 obtain⟨i,hi⟩:=List.mem_iff_getElem?.1 hp;rcases qT N 0 bl i p hi with h1|⟨_,_,h3⟩
 ·subst h1;intro a ha;simp only[dL,List.mem_singleton]at ha;subst ha;exact⟨⟨aa.cH _ _,aa.cH _ _,aa.cH _ _⟩,⟨by simp[aa.aT],by rw[aa.aT];exact pR (fe []) (oI (by simp) (λ_ h=>by cases h))⟩,by simp[aa.aT]⟩
 ·exact h p (cZ h3)
theorem Jt {n nb:Nat} {ρ ag:Env} {c:List A} (aY:∀a∈c,A.ok n nb ρ a) (ha:agree n ρ ag) (back:Bool):cond back (Js ag ρ c) (Js ρ ag c):=by
 have key:∀sh off code cap k,c=[.rows sh off code cap k]->off.den ag=off.den ρ/\code.den ag=code.den ρ/\cap.den ag=cap.den ρ:=λsh off code cap k hc=>by
  have:=aY _ (by rw[hc];exact List.mem_singleton.2 rfl);obtain⟨⟨h1,h2,h3⟩,_⟩:=this;exact⟨aa.bG ha h1,aa.bG ha h2,aa.bG ha h3⟩
 cases back with
 |true=>exactλsh off code cap k hc=>by obtain⟨h1,h2,h3⟩:=key sh off code cap k hc;exact⟨h1.symm,h2.symm,h3.symm⟩
 |false=>exact key
theorem Vw {N:Nat} {tm:List V} {bl:List ao} {o:Oper} {a:Act} {w:ai} {v:aA} (ho:DV N tm bl o=true) (h:zn P o a w v):(execOp a.eval o).run P w= .ok (.value v) w:=by
 rcases h with h|⟨f,args,h,_⟩
 ·exact h
 ·exfalso;have key:∀s:Sem aA,(do pure (kU (<-s)):Sem Next).run P w= .ok (.enter f args) w->False:=λs hs=>by
   simp only[gm]at hs;cases hx:s.run P w with
   |ok u w'=>rw[hx]at hs;simp at hs
   |halt x w'=>rw[hx]at hs;simp at hs
  unfold DV at ho;split at ho
  ·rename_i op t x y u hop;exact key (eqGuard op t x y (a.eval x) (a.eval y) >>= λ_=>binOp op t (a.eval x) (a.eval y)) (by simpa [execOp,hop]using h)
  ·rename_i t x i hop;exact key (Instr.indexAt t (a.eval x) (a.eval i)) (by simpa [execOp,hop]using h)
  ·rename_i t x lo hi fC hop;exact key (nP t (a.eval x) (lo.map a.eval) (hi.map a.eval) (fC.map a.eval)) (by simpa [execOp,hop]using h)
  ·rename_i t p hop;exact key (oD t (a.eval p)) (by simpa [execOp,hop]using h)
  ·cases ho
theorem NH {ops:Array Oper} {N:Nat} {tm:List V} {bl:List ao} {o:Oper} {a:Act} {w:ai} {v:aA} (ho:xA N tm bl o=true) (h:zn P o a w v):(execOp a.eval o).run P w= .ok (.value v) w:=by
 rcases h with h|⟨f,args,h,_⟩
 ·exact h
 ·exfalso;have key:∀s:Sem aA,(do pure (kU (<-s)):Sem Next).run P w= .ok (.enter f args) w->False:=λs hs=>by
   simp only[gm]at hs;cases hx:s.run P w with
   |ok u w'=>rw[hx]at hs;simp at hs
   |halt x w'=>rw[hx]at hs;simp at hs
  unfold xA at ho;split at ho
  ·rename_i x hop;simp[execOp,hop]at h
  ·rename_i x hop;simp[execOp,hop]at h
  ·rename_i x i hop;exact key (Rq (a.eval x) i) (by simpa [execOp,hop]using h)
  ·rename_i s x i hop;exact key (Cn s (a.eval x) i) (by simpa [execOp,hop]using h)
  ·rename_i t p hop;exact key (oD t (a.eval p)) (by simpa [execOp,hop]using h)
  ·rename_i t x lo hi fC hop;exact key (nP t (a.eval x) (lo.map a.eval) (hi.map a.eval) (fC.map a.eval)) (by simpa [execOp,hop]using h)
  ·cases ho
section
variable {P:bk} {ops:Array Oper} {Q:Exit->Act->ai->Prop} {S0:ai->Prop}
def pO (P:bk) (ops:Array Oper) (Q:Exit->Act->ai->Prop) (S0:ai->Prop):Nat->Array Bool->Act->ai->Prop
 |0,listed,a,w=>kV .any ops listed=[]/\Q .normal a w
 |fuel+1,listed,a,w=>(kV .any ops listed=[]->Q .normal a w)/\
  ∀i∈kV .any ops listed,wpOp P ops Q i (λa' w'=>(kp ops (listed.setIfInBounds i true)=true->S0 w')/\pO P ops Q S0 fuel (listed.setIfInBounds i true) a' w') a w
theorem ZT:∀(fuel:Nat) (listed:Array Bool) (a:Act) (w:ai),pO P ops Q S0 fuel listed a w->wpAny P .any ops Q fuel listed a w
 |0,_,_,_,h=>h
 |fuel+1,_,_,_,h=>⟨h.1,λi hi=>wpOp_mono (λa' w' h'=>ZT fuel _ a' w' h'.2) (h.2 i hi)⟩
theorem IU {L:Array Bool} {j:Nat} (hj:∀o,ops[j]?=some o->nB o=false):kp ops (L.setIfInBounds j true)=kp ops L:=by
 have hs:JE ops j=false:=by
  unfold JE;cases ho:ops[j]? with
  |none=>rfl
  |some o=>exact hj o ho
 unfold kp;rw[Bool.eq_iff_iff,pQ,pQ];refine forall_congr' λk=>imp_congr_right λ_=>?_;by_cases hk:j=k
 ·subst hk;rw[hs];simp
 ·rw[getD_set_ne true hk]
theorem IT {L:Array Bool} {j:Nat} (h:kp ops (L.setIfInBounds j true)=true):kp ops L=true:=by
 unfold kp at h⊢;rw[pQ]at h⊢;intro k hk;have:=h k hk;by_cases py:j=k
 ·subst py;cases hb:JE ops j with
  |false=>rfl
  |true=>
   rw[hb]at this;rcases mC j L.size with h'|h'
   ·simp[h']at this
   ·simp[uO h']at this
 ·rw[getD_set_ne true py]at this;exact this
theorem at5 {i:Nat} {dW:Oper} {v:aA} (hi:ops[i]?=some dW) (Em:∀(j:Nat) (o:Oper) cs b,ops[j]?=some o->o.op≠ .select cs b)
 (k5:∀c a w,Q (.panic c) (a.put dW.dst v) w->Q (.panic c) a w) (hst:nB dW=false) (hw:∀(k:Nat) (o:Oper),ops[k]?=some o->nB o=true->∃e∈o.after,qz .any e=true/\e.on=i):
 ∀(fuel:Nat) (listed:Array Bool) (a:Act) (w:ai),
  (∀j cG,ops[j]?=some cG->j≠i->listed.getD j true=false->(∀e∈cG.after,qz .any e=true->e.on≠i)->dW.apart ops cG=true)->
  i∈kV .any ops listed->kp ops listed=true->YieldsIf P ops S0 dW v a->S0 w->
  pO P ops Q S0 fuel (listed.setIfInBounds i true) (a.put dW.dst v) w->pO P ops Q S0 (fuel+1) listed a w:=by
 intro fuel;induction fuel with
 |zero=>
  intro listed a w _ hr _ hy cd H;refine⟨λh=>(by rw[h]at hr;cases hr),λj hj=>?_⟩;by_cases e7:j=i
  ·subst e7;exact hy.wpOp hi cd ⟨λ_=>cd,H⟩
  ·have:=FW hj e7;rw[H.1]at this;cases this
 |succ fuel ih=>
  intro listed a w xC hr hn hy cd H;refine⟨λh=>(by rw[h]at hr;cases hr),λj hj=>?_⟩;by_cases e7:j=i
  ·subst e7;exact hy.wpOp hi cd ⟨λ_=>cd,H⟩
  ·have h1:=H.2 j (FW hj e7);obtain⟨xJ,cG,kM,hall⟩:=mem_ready.1 hj;have HY:∀e∈cG.after,qz .any e=true->e.on≠i:=λe he hb heq=>by
    have h1:=hall e he hb;have h0:=(mem_ready.1 hr).1;rw[heq]at h1;rcases mC i listed.size with h'|h'
    ·simp[h']at h0 h1;rw[h0]at h1;cases h1
    ·simp[uO h']at h1
   have xI:∀o,ops[j]?=some o->nB o=false:=λo ho=>by
    cases hc:nB o with
    |false=>rfl
    |true=>
     obtain⟨e,he,hb,Aw⟩:=hw j o ho hc;rw[kM]at ho;cases ho;exact absurd Aw (HY e he hb)
   have ahs:kp ops (listed.setIfInBounds j true)=true:=by rw[IU xI];exact hn
   have Ec:kp ops ((listed.setIfInBounds i true).setIfInBounds j true)=true:=by
    rw[IU xI,IU (λo ho=>by rw[hi]at ho;cases ho;exact hst)];exact hn
   have h2:=wpOp_putIf kM (xC j cG kM e7 xJ HY) (λcs b=>Em i dW cs b hi) (λcs b=>Em j cG cs b kM) k5 hy h1;have NJ:∀k ok,ops[k]?=some ok->k≠i->(listed.setIfInBounds j true).getD k true=false->
    (∀e∈ok.after,qz .any e=true->e.on≠i)->dW.apart ops ok=true:=λk ok hk xK lO hno=>by
    refine xC k ok hk xK ?_ hno;by_cases py:j=k
    ·subst py;exact xJ
    ·rw[getD_set_ne true py]at lO;exact lO
   refine wpOp_mono (λa' w' h3=>⟨λ_=>h3.2.1 Ec,ih (listed.setIfInBounds j true) a' w' NJ (FW hr (Ne.symm e7)) ahs h3.1 (h3.2.1 Ec) ?_⟩) h2;rw[aav _ _ e7];exact h3.2.2
theorem at6 {i:Nat} {dW:Oper} {v:aA} (hi:ops[i]?=some dW) (Em:∀(j:Nat) (o:Oper) cs b,ops[j]?=some o->o.op≠ .select cs b)
 (k5:∀c a w,Q (.panic c) (a.put dW.dst v) w->Q (.panic c) a w) (hst:nB dW=false):
 ∀(fuel:Nat) (listed:Array Bool) (a:Act) (w:ai),
  (∀j cG,ops[j]?=some cG->j≠i->listed.getD j true=false->(∀e∈cG.after,qz .any e=true->e.on≠i)->dW.apart ops cG=true)->
  i∈kV .any ops listed->YieldsIf P ops (λ_=>True) dW v a->(kp ops listed=true->S0 w)->
  pO P ops Q S0 fuel (listed.setIfInBounds i true) (a.put dW.dst v) w->pO P ops Q S0 (fuel+1) listed a w:=by
 intro fuel;induction fuel with
 |zero=>
  intro listed a w _ hr hy cd H;refine⟨λh=>(by rw[h]at hr;cases hr),λj hj=>?_⟩;by_cases e7:j=i
  ·subst e7;exact hy.wpOp hi trivial ⟨λhn=>cd (IT hn),H⟩
  ·have:=FW hj e7;rw[H.1]at this;cases this
 |succ fuel ih=>
  intro listed a w xC hr hy cd H;refine⟨λh=>(by rw[h]at hr;cases hr),λj hj=>?_⟩;by_cases e7:j=i
  ·subst e7;exact hy.wpOp hi trivial ⟨λhn=>cd (IT hn),H⟩
  ·have h1:=H.2 j (FW hj e7);obtain⟨xJ,cG,kM,hall⟩:=mem_ready.1 hj;have HY:∀e∈cG.after,qz .any e=true->e.on≠i:=λe he hb heq=>by
    have h1:=hall e he hb;have h0:=(mem_ready.1 hr).1;rw[heq]at h1;rcases mC i listed.size with h'|h'
    ·simp[h']at h0 h1;rw[h0]at h1;cases h1
    ·simp[uO h']at h1
   have Ec:kp ops (listed.setIfInBounds j true)=true->kp ops ((listed.setIfInBounds i true).setIfInBounds j true)=true:=λhn=>by
    rw[<-aav _ _ e7,IU (λo ho=>by rw[hi]at ho;cases ho;exact hst)];exact hn
   have h2:=wpOp_putIf kM (xC j cG kM e7 xJ HY) (λcs b=>Em i dW cs b hi) (λcs b=>Em j cG cs b kM) k5 hy h1;have NJ:∀k ok,ops[k]?=some ok->k≠i->(listed.setIfInBounds j true).getD k true=false->
    (∀e∈ok.after,qz .any e=true->e.on≠i)->dW.apart ops ok=true:=λk ok hk xK lO hno=>by
    refine xC k ok hk xK ?_ hno;by_cases py:j=k
    ·subst py;exact xJ
    ·rw[getD_set_ne true py]at lO;exact lO
   refine wpOp_mono (λa' w' h3=>⟨λhn=>h3.2.1 (Ec hn),ih (listed.setIfInBounds j true) a' w' NJ (FW hr (Ne.symm e7)) h3.1 (λhn=>h3.2.1 (Ec hn)) ?_⟩) h2;rw[aav _ _ e7];exact h3.2.2
theorem ZQ {i:Nat} {dW:Oper} {v:aA} {fuel:Nat} {listed:Array Bool} {a:Act} {w:ai} (hi:ops[i]?=some dW)
 (hs:y4 ops=true) (hf:Region.free .any ops listed i=true) (hr:(kV .any ops listed).contains i=true) (hst:nB dW=false) (hw:QX ops i=true) (hn:kp ops listed=true)
 (k5:∀c a w,Q (.panic c) (a.put dW.dst v) w->Q (.panic c) a w) (hy:YieldsIf P ops S0 dW v a) (cd:S0 w)
 (h:pO P ops Q S0 fuel (listed.setIfInBounds i true) (a.put dW.dst v) w):pO P ops Q S0 (fuel+1) listed a w:=
 at5 hi (aaw hs) k5 hst (λk o hk H5=>by
  have hm:o∈ops.toList:=by
   rw[<-FX]at hk;exact cZ hk
  have h1:=List.all_eq_true.1 hw o hm;rw[H5]at h1;have h1:(o.after.toList.any λe=>qz .any e&&aG e.on i)=true:=h1;obtain⟨e,he,h2⟩:=List.any_eq_true.1 h1;simp only[aO]at h2;exact⟨e,Array.mem_toList_iff.1 he,h2.1,bA h2.2⟩) fuel listed a w (auB hi hf) (by simpa using hr) hn hy cd h
end
theorem ab3 {ops:Array Oper} {Q:Exit->Act->ai->Prop} {inl:hX} (cy:fq S P gl w0 cal) (hg:eQ gl w0) (ir:lx S L w0 P inl) (k5:∀c a w,¬Q (.panic c) a w)
 {N n0:Nat} {ec:List ao} {bY:Env} {m0:Nat->Nat} (hN:N<=ec.length) (jd:b9 n0 ec.length bY ec):∀(f:Nat) {listed:Array Bool} {n:Nat} {ρ:Env} {m:Nat->Nat} {tm:List V} {bl:List ao} {a:Act} {w:ai} {G:df} {k:fy},
 R w0 n ρ m tm bl a w->cQ n0 ec.length bY m0 n bl.length ρ m->(∀(k:Nat) (p:ao),(cO N 0 ec)[k]?=some p->(cO N 0 bl)[k]?=some p)->(tp P gl cal inl ops N (cO N 0 ec) f listed n tm bl k).holds S L G ρ->jO S L w0 k n bl.length ρ m G (Q .normal)->wpAnyH P .any ops Q (λw=>Mem w0 bY m0 (cO N 0 ec) w) f listed a w:=by
 have down:∀{n:Nat} {ρ:Env} {m:Nat->Nat} {bl:List ao} {w:ai},cQ n0 ec.length bY m0 n bl.length ρ m->(∀(k:Nat) (p:ao),(cO N 0 ec)[k]?=some p->(cO N 0 bl)[k]?=some p)->Mem w0 ρ m bl w->Mem w0 bY m0 (cO N 0 ec) w:=λhl hp hm=>by
  refine hm.sub λi p hi=>?_;rcases qT N 0 ec i p hi with h1|⟨h1,h2,h3⟩
  ·exact .inl h1
  ·refine .inr ?_;rcases qT N 0 _ i p (hp i p hi)with g1|⟨_,_,g3⟩
   ·subst g1;simp[dL,bT,qm]at h2
   ·exact⟨g3,h2,(hl.hm i (by omega)).symm,(qp (jd p (cZ h3)) hl.ha hl.hm).symm,Jt (jd p (cZ h3)) hl.ha true⟩
 have up:∀{n:Nat} {ρ:Env} {m:Nat->Nat} {bl:List ao} {w:ai},cQ n0 ec.length bY m0 n bl.length ρ m->(∀(k:Nat) (p:ao),(cO N 0 ec)[k]?=some p->(cO N 0 bl)[k]?=some p)->Mem w0 bY m0 (cO N 0 ec) w->Mem w0 ρ m (cO N 0 bl) w:=λ{n ρ m bl w} hl hp hm=>by
  refine hm.sub λi p hi=>?_;rcases qT N 0 bl i p hi with h1|⟨h1,h2,h3⟩
  ·exact .inl h1
  ·refine .inr ?_;have hlt:i<(cO N 0 ec).length:=by rw[zT];omega
   have hq:=hp i _ (gy hlt);rw[hi]at hq;have hq:p=(cO N 0 ec)[i]:=gH hq;have h0:(cO N 0 ec)[i]?=some p:=by rw[gy hlt,hq]
   rcases qT N 0 ec i p h0 with g1|⟨_,_,g3⟩
   ·subst g1;simp[dL,bT,qm]at h2
   ·exact⟨h0,h2,hl.hm i (by omega),qp (jd p (cZ g3)) hl.ha hl.hm,Jt (jd p (cZ g3)) hl.ha false⟩
 intro f;induction f with
 |zero=>
  intro listed n ρ m tm bl a w G k h hl hp ah hk;unfold tp at ah;unfold wpAnyH;split at ah
  ·rename_i hr;exact⟨hr,hk n ρ m tm bl G a w (cQ.refl _ _ _ _) (dJ.refl _ _) h ah⟩
  ·exact ah.elim
 |succ f ih=>
  intro listed n ρ m tm bl a w G k h hl hp ah hk;unfold tp at ah;split at ah
  ·rename_i hr;exact⟨λ_=>hk n ρ m tm bl G a w (cQ.refl _ _ _ _) (dJ.refl _ _) h ah,λi hi=>by rw[hr]at hi;cases hi⟩
  ·rename_i l hl0;split at ah
   ·rename_i i hi;unfold Vu at hi;cases jV:y4 ops with
    |false=>rw[jV]at hi;cases hi
    |true=>
    rw[jV,cond_true]at hi;have cL:=FY hi;have mS:=y5 hi;simp only[aO]at cL;cases ho:ops[i]? with
    |none=>simp only[ho]at ah;exact ah.elim
    |some o=>
     simp only[ho]at ah;have hZ:xA N tm bl o=true∨DV N tm bl o=true:=by
      have:=cL.1;simp only[ho,oA,aO]at this;exact this.imp id And.right
     obtain⟨bz,hE,hgd⟩:=vt h.t ah;have h:R w0 n ρ m bz bl a w:=⟨hE,h.d,h.b,h.a7⟩;have cd:=down hl hp h.a7;rcases hgd with⟨hw,ah⟩|⟨hw,ah⟩
     ·have hlen:(cO N 0 bl).length=bl.length:=zT N 0 bl;obtain⟨ag,n',v,mj,fu,⟨hv,val,hr,hq⟩,sk⟩:=E5 (L:=L) (bl:=cO N 0 bl) cy (by rw[hlen];exact h.b.cO N) hg ⟨w,up hl hp cd⟩ (by rw[hlen];exact hE) o G _ ah;rw[hlen]at hv;have hy:YieldsIf P ops (λw=>Mem w0 bY m0 (cO N 0 ec) w) o val a:= .inl ⟨hw,λw' nA=>hZ.elim (λhf=>NH (ops:=ops) hf (hq w' (up hl hp nA))) (λhf=>Vw hf (hq w' (up hl hp nA)))⟩;refine wpAnyH_take ho jV cL.2 (by simpa using mS) (λc a w hp=>absurd hp (k5 _ _ _)) hy cd ?_;have hlt:cQ n bl.length ρ m n' bl.length ag m:=⟨mj,fu,aW _,λ_ _=>rfl⟩;exact ih ⟨dq.put (hE.ext fu mj (aW _) (λ_ _=>rfl)) o.dst hv hr,by rw[put_defers];exact h.d,h.b.ext fu mj (aW _),h.a7.dP h.b fu⟩ (hl.trans hlt) hp sk (hk.later hlt (dJ.refl _ _))
     ·refine wpAnyH_take ho jV cL.2 (by simpa using mS) (λc a w hp=>absurd hp (k5 _ _ _)) (.inr ⟨hw,rfl⟩) cd ?_;exact ih (h.skip o.dst) hl hp ah hk
   split at ah
   ·rename_i i hi;unfold XQ at hi;cases jV:y4 ops with
    |false=>rw[jV]at hi;cases hi
    |true=>
    rw[jV,cond_true]at hi;have cL:=FY hi;have mS:=y5 hi;simp only[aO]at cL;cases ho:ops[i]? with
    |none=>simp only[ho]at ah;exact ah.elim
    |some o=>
     simp only[ho]at ah;obtain⟨bz,hE,hgd⟩:=vt h.t ah;have h:R w0 n ρ m bz bl a w:=⟨hE,h.d,h.b,h.a7⟩;have cd:=down hl hp h.a7;rcases hgd with⟨_,ah⟩|⟨hw,ah⟩
     ·exact ah.elim
     ·refine wpAnyH_take ho jV cL.2 (by simpa using mS) (λc a w hp=>absurd hp (k5 _ _ _)) (.inr ⟨hw,rfl⟩) cd ?_;exact ih (h.skip o.dst) hl hp ah hk
   unfold wpAnyH;refine⟨λhr=>absurd hr hl0,λi hi=>?_⟩;have cL:=allT_holds ah i hi;unfold wpOp;cases ho:ops[i]? with
   |none=>simp only[ho]at cL;exact cL.elim
   |some o=>
    simp only[ho]at cL⊢;obtain⟨bz,hE,hgd⟩:=vt h.t cL;have h:R w0 n ρ m bz bl a w:=⟨hE,h.d,h.b,h.a7⟩;rcases hgd with⟨hw,sn⟩|⟨hw,sn⟩
    ·rw[if_pos hw];refine .inl (QE cy hg ir h sn λn' ag m' bz aI dg a' w' h1 h2 h3 h4=>?_);cases hf:preB (cO N 0 ec) (cO N 0 aI)with
     |false=>rw[hf]at h4;exact h4.elim
     |true=>
      rw[hf,cond_true]at h4;have sq:=hl.trans h1;have hf:=PE hf;exact⟨down sq hf h3.a7,ih h3 sq hf h4 (hk.later h1 h2)⟩
    ·rw[if_neg (by simp[hw])];exact⟨down hl hp h.a7,ih (h.skip o.dst) hl hp sn hk⟩
theorem ad4 {P:bk} {s:aS} {x v:aA} {f:Nat} {w w1:ai} {dH:Array Field} {fd:Field} {k:Nat} (hu:P.underlying s=some (.struct dH)) (hf:dH[f]?=some fd) (hk:eM P fd.type=some k) (h0:0<k) (h:(Cn s x f).run P w= .ok v w1) (w':ai):(Cn s x f).run P w'= .ok v w':=by
 have h0:¬k=0:=by omega
 unfold Cn at*;simp only[gm,fh hu,gz,hf]at h⊢;cases x with
 |pointer a=>
  cases a with
  |some a=>
   simp only[l7,gm,hV,gz,fieldPlace,iD hk,if_neg h0,aax]at h⊢;exact⟨h.1,trivial⟩
  |none=>simp[l7]at h
 |_=>simp[l7]at h
theorem aoQ {P:bk} {o:Oper} {a:Act} {w:ai} {v:aA} (hp:BG P o=true) (h:(execOp a.eval o).run P w= .ok (.value v) w) (w':ai):(execOp a.eval o).run P w'= .ok (.value v) w':=by
 unfold BG at hp;split at hp
 ·rename_i x hop;simp[execOp,hop]at h⊢;exact h
 ·rename_i x hop;simp[execOp,hop]at h⊢;exact h
 ·rename_i x i hop;simp only[execOp,hop,Rq]at h⊢;cases hx:a.eval x with
  |tuple vs=>
   simp only[hx]at h⊢;cases hv:vs[i]? with
   |none=>simp[hv]at h
   |some u=>simp[hv]at h⊢;exact h
  |_=>simp[hx]at h
 ·rename_i s x i hop;split at hp
  ·rename_i dH hu;split at hp
   ·rename_i fd hf;split at hp
    ·rename_i k hk;have h0:=eE hp;have fB:0<k:=h0;simp only[execOp,hop,gm]at h⊢;cases hx:(Cn s (a.eval x) i).run P w with
     |ok u w1=>
      rw[hx]at h;rw[ad4 hu hf hk fB hx w'];simp at h⊢;exact h.1
     |halt x w1=>rw[hx]at h;simp at h
    ·cases hp
   ·cases hp
  ·cases hp
 ·cases hp
theorem aoP {P:bk} {N:Nat} {tm:List V} {bl:List ao} {o:Oper} (h:BG P o=true):xA N tm bl o=true/\nB o=false:=by
 unfold BG at h;unfold xA nB;cases hop:o.op<;>rw[hop]at h<;>first|exact⟨rfl,rfl⟩|(simp at h)
theorem ab4 {ops:Array Oper} {Q:Exit->Act->ai->Prop} {inl:hX} (cy:fq S P gl w0 cal) (hg:eQ gl w0) (ir:lx S L w0 P inl) (k5:∀c a w,¬Q (.panic c) a w)
 {N n0:Nat} {ec:List ao} {bY:Env} {m0:Nat->Nat} (hN:N<=ec.length) (jd:b9 n0 ec.length bY ec):∀(f:Nat) {listed:Array Bool} {n:Nat} {ρ:Env} {m:Nat->Nat} {tm:List V} {bl:List ao} {a:Act} {w:ai} {G:df} {k:fy},
 R w0 n ρ m tm bl a w->cQ n0 ec.length bY m0 n bl.length ρ m->(kp ops listed=true->∀(k:Nat) (p:ao),(cO N 0 ec)[k]?=some p->(cO N 0 bl)[k]?=some p)->(vd P gl cal inl ops N (cO N 0 ec) f listed n tm bl k).holds S L G ρ->jO S L w0 k n bl.length ρ m G (Q .normal)->pO P ops Q (λw=>Mem w0 bY m0 (cO N 0 ec) w) f listed a w:=by
 have down:∀{n:Nat} {ρ:Env} {m:Nat->Nat} {bl:List ao} {w:ai},cQ n0 ec.length bY m0 n bl.length ρ m->(∀(k:Nat) (p:ao),(cO N 0 ec)[k]?=some p->(cO N 0 bl)[k]?=some p)->Mem w0 ρ m bl w->Mem w0 bY m0 (cO N 0 ec) w:=λhl hp hm=>by
  refine hm.sub λi p hi=>?_;rcases qT N 0 ec i p hi with h1|⟨h1,h2,h3⟩
  ·exact .inl h1
  ·refine .inr ?_;rcases qT N 0 _ i p (hp i p hi)with g1|⟨_,_,g3⟩
   ·subst g1;simp[dL,bT,qm]at h2
   ·exact⟨g3,h2,(hl.hm i (by omega)).symm,(qp (jd p (cZ h3)) hl.ha hl.hm).symm,Jt (jd p (cZ h3)) hl.ha true⟩
 have up:∀{n:Nat} {ρ:Env} {m:Nat->Nat} {bl:List ao} {w:ai},cQ n0 ec.length bY m0 n bl.length ρ m->(∀(k:Nat) (p:ao),(cO N 0 ec)[k]?=some p->(cO N 0 bl)[k]?=some p)->Mem w0 bY m0 (cO N 0 ec) w->Mem w0 ρ m (cO N 0 bl) w:=λ{n ρ m bl w} hl hp hm=>by
  refine hm.sub λi p hi=>?_;rcases qT N 0 bl i p hi with h1|⟨h1,h2,h3⟩
  ·exact .inl h1
  ·refine .inr ?_;have hlt:i<(cO N 0 ec).length:=by rw[zT];omega
   have hq:=hp i _ (gy hlt);rw[hi]at hq;have hq:p=(cO N 0 ec)[i]:=gH hq;have h0:(cO N 0 ec)[i]?=some p:=by rw[gy hlt,hq]
   rcases qT N 0 ec i p h0 with g1|⟨_,_,g3⟩
   ·subst g1;simp[dL,bT,qm]at h2
   ·exact⟨h0,h2,hl.hm i (by omega),qp (jd p (cZ g3)) hl.ha hl.hm,Jt (jd p (cZ g3)) hl.ha false⟩
 intro f;induction f with
 |zero=>
  intro listed n ρ m tm bl a w G k h hl hp ah hk;unfold vd at ah;unfold pO;split at ah
  ·rename_i hr;exact⟨hr,hk n ρ m tm bl G a w (cQ.refl _ _ _ _) (dJ.refl _ _) h ah⟩
  ·exact ah.elim
 |succ f ih=>
  intro listed n ρ m tm bl a w G k h hl hp ah hk;unfold vd at ah;split at ah
  ·rename_i hr;exact⟨λ_=>hk n ρ m tm bl G a w (cQ.refl _ _ _ _) (dJ.refl _ _) h ah,λi hi=>by rw[hr]at hi;cases hi⟩
  ·rename_i l hl0;split at ah
   ·rename_i i hi;unfold Vv at hi;cases jV:y4 ops with
    |false=>rw[jV]at hi;cases hi
    |true=>
    rw[jV,cond_true]at hi;have cL:=FY hi;have mS:=y5 hi;simp only[aO]at cL;cases ho:ops[i]? with
    |none=>simp only[ho]at ah;exact ah.elim
    |some o=>
     simp only[ho]at ah;have sn:=cL.1;simp only[ho,oA,aO,fZ]at sn;cases Of:BG P o with
     |true=>
      obtain⟨hZ,H7⟩:=aoP (N:=N) (tm:=tm) (bl:=bl) Of;obtain⟨bz,hE,hgd⟩:=vt h.t ah;have h:R w0 n ρ m bz bl a w:=⟨hE,h.d,h.b,h.a7⟩;have afi:kp ops listed=true->Mem w0 bY m0 (cO N 0 ec) w:=λhn=>down hl (hp hn) h.a7;have ny:kp ops (listed.setIfInBounds i true)=true->∀(k:Nat) (p:ao),(cO N 0 ec)[k]?=some p->(cO N 0 bl)[k]?=some p:=λhn=>hp (IT hn);have take:∀{v:aA},YieldsIf P ops (λ_=>True) o v a->pO P ops Q (λw=>Mem w0 bY m0 (cO N 0 ec) w) f (listed.setIfInBounds i true) (a.put o.dst v) w->pO P ops Q (λw=>Mem w0 bY m0 (cO N 0 ec) w) (f+1) listed a w:=λhy H=>
       at6 ho (aaw jV) (λc a w hp=>absurd hp (k5 _ _ _)) H7 f listed a w (auB ho cL.2) (by simpa using mS) hy afi H
      rcases hgd with⟨hw,ah⟩|⟨hw,ah⟩
      ·have hlen:(cO N 0 bl).length=bl.length:=zT N 0 bl;have UX:Mem w0 ρ m (cO N 0 bl) w:=h.a7.sub λi p hi=>by
        rcases qT N 0 bl i p hi with h1|⟨_,h2,h3⟩
        ·exact .inl h1
        ·exact .inr ⟨h3,h2,rfl,rfl,λ_ _ _ _ _ _=>⟨rfl,rfl,rfl⟩⟩
       obtain⟨ag,n',v,mj,fu,⟨hv,val,hr,hq⟩,sk⟩:=E5 (L:=L) (bl:=cO N 0 bl) cy (by rw[hlen];exact h.b.cO N) hg ⟨w,UX⟩ (by rw[hlen];exact hE) o G _ ah;rw[hlen]at hv;have hy:YieldsIf P ops (λ_=>True) o val a:= .inl ⟨hw,λw' _=>aoQ Of (NH (ops:=ops) hZ (hq w UX)) w'⟩;refine take hy ?_;have hlt:cQ n bl.length ρ m n' bl.length ag m:=⟨mj,fu,aW _,λ_ _=>rfl⟩;exact ih ⟨dq.put (hE.ext fu mj (aW _) (λ_ _=>rfl)) o.dst hv hr,by rw[put_defers];exact h.d,h.b.ext fu mj (aW _),h.a7.dP h.b fu⟩ (hl.trans hlt) ny sk (hk.later hlt (dJ.refl _ _))
      ·exact take (.inr ⟨hw,rfl⟩) (ih (h.skip o.dst) hl ny ah hk)
     |false=>
     obtain⟨⟨⟨lL,hZ⟩,H7⟩,AD⟩:=sn.resolve_left (by rw[Of];decide);have hp:=hp lL;obtain⟨bz,hE,hgd⟩:=vt h.t ah;have h:R w0 n ρ m bz bl a w:=⟨hE,h.d,h.b,h.a7⟩;have cd:=down hl hp h.a7;rcases hgd with⟨hw,ah⟩|⟨hw,ah⟩
     ·have hlen:(cO N 0 bl).length=bl.length:=zT N 0 bl;obtain⟨ag,n',v,mj,fu,⟨hv,val,hr,hq⟩,sk⟩:=E5 (L:=L) (bl:=cO N 0 bl) cy (by rw[hlen];exact h.b.cO N) hg ⟨w,up hl hp cd⟩ (by rw[hlen];exact hE) o G _ ah;rw[hlen]at hv;have hy:YieldsIf P ops (λw=>Mem w0 bY m0 (cO N 0 ec) w) o val a:= .inl ⟨hw,λw' nA=>hZ.elim (λhf=>NH (ops:=ops) hf (hq w' (up hl hp nA))) (λhf=>Vw hf (hq w' (up hl hp nA)))⟩;refine ZQ ho jV cL.2 (by simpa using mS) H7 AD lL (λc a w hp=>absurd hp (k5 _ _ _)) hy cd ?_;have hlt:cQ n bl.length ρ m n' bl.length ag m:=⟨mj,fu,aW _,λ_ _=>rfl⟩;exact ih ⟨dq.put (hE.ext fu mj (aW _) (λ_ _=>rfl)) o.dst hv hr,by rw[put_defers];exact h.d,h.b.ext fu mj (aW _),h.a7.dP h.b fu⟩ (hl.trans hlt) (λ_=>hp) sk (hk.later hlt (dJ.refl _ _))
     ·refine ZQ ho jV cL.2 (by simpa using mS) H7 AD lL (λc a w hp=>absurd hp (k5 _ _ _)) (.inr ⟨hw,rfl⟩) cd ?_;exact ih (h.skip o.dst) hl (λ_=>hp) ah hk
   unfold pO;refine⟨λhr=>absurd hr hl0,λi hi=>?_⟩;have cL:=allT_holds ah i hi;unfold wpOp;cases ho:ops[i]? with
   |none=>simp only[ho]at cL;exact cL.elim
   |some o=>
    simp only[ho]at cL⊢;obtain⟨bz,hE,hgd⟩:=vt h.t cL;have h:R w0 n ρ m bz bl a w:=⟨hE,h.d,h.b,h.a7⟩;rcases hgd with⟨hw,sn⟩|⟨hw,sn⟩
    ·rw[if_pos hw];refine .inl (QE cy hg ir h sn λn' ag m' bz aI dg a' w' h1 h2 h3 h4=>?_);cases hf:(!(kp ops (listed.setIfInBounds i true))||preB (cO N 0 ec) (cO N 0 aI))with
     |false=>rw[hf]at h4;exact h4.elim
     |true=>
      rw[hf,cond_true]at h4;have sq:=hl.trans h1;simp only[oA,fZ]at hf;have hf:kp ops (listed.setIfInBounds i true)=true->∀(k:Nat) (p:ao),(cO N 0 ec)[k]?=some p->(cO N 0 aI)[k]?=some p:=λhn=>PE (hf.resolve_left (by rw[hn];decide));exact⟨λhn=>down sq (hf hn) h3.a7,ih h3 sq hf h4 (hk.later h1 h2)⟩
    ·rw[if_neg (by simp[hw])];have ny:kp ops (listed.setIfInBounds i true)=true->∀(k:Nat) (p:ao),(cO N 0 ec)[k]?=some p->(cO N 0 bl)[k]?=some p:=λhn=>hp (IT hn);exact⟨λhn=>down hl (ny hn) h.a7,ih (h.skip o.dst) hl ny sn hk⟩
theorem zI {inl:hX} {li:Nat->Option cX} {rounds:Nat} (hm:P.follows .mixedOrders=true) (cy:fq S P gl w0 cal) (hg:eQ gl w0) (ir:lx S L w0 P inl):∀(c:Code),Gi rd S L w0 P c (kX P gl cal inl li rounds c):=by
 intro c;induction c with
 |skip=>intro hd n tm bl k G ρ m a w Q h ah hk;exact wpIn_skip (hk .normal n ρ m tm bl G a w (cQ.refl _ _ _ _) (dJ.refl _ _) h ah)
 |exit id=>intro hd n tm bl k G ρ m a w Q h ah hk;exact wpIn_exit (hk (.exit id) n ρ m tm bl G a w (cQ.refl _ _ _ _) (dJ.refl _ _) h ah)
 |ret=>intro hd n tm bl k G ρ m a w Q h ah hk;exact wpIn_ret (hk .ret n ρ m tm bl G a w (cQ.refl _ _ _ _) (dJ.refl _ _) h ah)
 |region id ops draw=>
  intro hd n tm bl k G ρ m a w Q h ah hk;have HB:jO S L w0 (k .normal) n bl.length ρ m G (oq Q .normal):=λn' ag m' bz aI dg a' w' h1 h2 h3 h4=>hk .normal n' ag m' bz aI dg a' w' h1 h2 h3 h4;cases draw with
  |false=>
   simp only[kX,cond_false]at ah;refine apd hd ?_;exact I1 cy hg ir ops.toList h ah HB
  |true=>
   simp only[kX,cond_true]at ah;cases ht:(B5 ops (Ao P cal ops)&&J0 P (ops.toList.take (Ao P cal ops))&& !Qy P (ops.toList.take (Ao P cal ops)))with
   |false=>
    simp only[ht,cond_false]at ah;cases hlt:Xe ops with
    |true=>
     simp only[hlt,cond_true]at ah;have pw:R w0 n ρ m tm bl a w.drew:=⟨h.t,h.d,h.b,h.a7.grow (FZ (nf w))⟩;refine PY hm hd (ZT (S0:=λw=>Mem w0 ρ m (cO bl.length 0 bl) w) _ _ _ _ ?_);exact ab4 cy hg ir (λc a w h=>h) (N:=bl.length) (aW _) h.b ops.size pw (cQ.refl _ _ _ _) (λ_ _ _ h=>h) ah HB
    |false=>
    simp only[hlt,cond_false]at ah;cases hsz:bC (ops.toList.filter λo=> !Pj o).length 24 with
    |false=>simp only[hsz,cond_false]at ah;exact ah.elim
    |true=>
     simp only[hsz,cond_true]at ah;have pw:R w0 n ρ m tm bl a w.drew:=⟨h.t,h.d,h.b,h.a7.grow (FZ (nf w))⟩;refine PY hm hd (wpAny_of_held (S:=λw=>Mem w0 ρ m (cO (DU P ops tm bl) 0 bl) w) _ _ _ _ ?_);exact ab3 cy hg ir (λc a w h=>h) (N:=DU P ops tm bl) (by unfold DU;cases Pl P ops<;>cases ops.toList.any nB<;>simp<;>exact Nat.min_le_left _ _) h.b ops.size pw (cQ.refl _ _ _ _) (λ_ _ h=>h) ah HB
   |true=>
    simp only[ht,cond_true]at ah;simp only[aO]at ht;replace ht:=ht.1;have hle:Ao P cal ops<=ops.toList.length:=by
     have h1:=ht.1;simp only[B5,aO]at h1;simpa using eE h1.1.1.2
    generalize Ao P cal ops=hl0 at*;have pw:R w0 n ρ m tm bl a w.drew:=⟨h.t,h.d,h.b,h.a7.grow (FZ (nf w))⟩;have key:=aua (P:=P) (Q:=oq Q) (a:=a) (w:=w) (l:=ops.toList) (C:=λw'=>Mem w0 ρ m bl w') hl0 (Cj P ops) hm (by rw[toL];exact ht.1) (λw' nA=>pw.a7.grow nA) (λj o hj ho dj b w'=>by
     have:=aui (l:=ops.toList) (P:=P) ht.2 hj ho dj b w';rw[toL]at this;exact this) (by
     rw[toL];refine HJ cy hg h.b ⟨_,h.a7⟩ _ (aW _) (agree.refl _ _) h.t h.d ah λn' ag bz an h1 h2 h3 h4 h5 eN b w' tT po Ed=>?_;have hl:cQ n bl.length ρ m n' bl.length ag m:=⟨h1,h2,aW _,λ_ _=>rfl⟩;have afd:=(pw.a7.grow po).dP h.b h2;refine Lz (S:=S) (L:=L) (w0:=w0) (P:=P) (K:=λb w'=>wpList P ops (calm (oq Q)) (ops.toList.drop hl0) b w') tT Ed pw.a7.ext.size pw.a7.ew (ops.toList.take hl0) 0 (λj hj=>?_) (by simp;exact wF (by simpa using hle)) ⟨h3,h4,h.b.ext h2 h1 (aW _),afd⟩ ((pw.a7.dP h.b h2).under po) (λaU p je hp=> .inl ?_) rfl (λt=>⟨λ⟨j,o,hj,_⟩=>by omega,λ_=>rfl⟩) h5 (λBv pV axB Zx av9 Lc SM lp k1 k2 k3 k4=>I1 cy hg ir _ k3 k4 ((HB.later hl (dJ.refl _ _)).later k1 k2)) h4
     ·have hj':j<hl0:=by simp at hj;omega
      rw[o8,if_pos hj'];simp
     ·rw[mq (h.b _ (cZ je)) h2]at hp;exact pw.a7.lt je hp)
    rw[toL]at key;exact PY hm hd key
 |seq x y aiy Ij=>
  intro hd n tm bl k G ρ m a w Q h ah hk;have vw:rd=none∨ko x=true:=hd.imp id λh=>by simp only[ko,aO]at h;exact h.1
  have HI:rd=none∨ko y=true:=hd.imp id λh=>by simp only[ko,aO]at h;exact h.2
  refine wpIn_seq (aiy vw n tm bl _ G ρ m a w _ h ah λx n' ag m' bz aI dg a' w' h1 h2 h3 h4=>?_);cases x with
  |normal=>exact Ij HI n' bz aI k dg ag m' a' w' Q h3 h4 (hk.later h1 h2)
  |exit id=>exact hk (.exit id) n' ag m' bz aI dg a' w' h1 h2 h3 h4
  |ret=>exact hk .ret n' ag m' bz aI dg a' w' h1 h2 h3 h4
 |cond x y z Ij WB=>
  intro hd n tm bl k G ρ m a w Q h ah hk;simp only[kX]at ah;have hx:=cu h.t x;split at ah
  ·rename_i b hb;rw[hb]at hx;have dt:a.eval x= .bool (b.den ρ):=hx.2;have vw:rd=none∨ko y=true:=hd.imp id λh=>by simp only[ko,aO]at h;exact h.1
   have HI:rd=none∨ko z=true:=hd.imp id λh=>by simp only[ko,aO]at h;exact h.2
   refine wpIn_cond dt ?_;split at ah
   ·rename_i v;cases v with
    |true=>simp only[cond_true]at ah;exact Ij vw n tm bl k G ρ m a w Q h ah hk
    |false=>simp only[cond_false]at ah;exact WB HI n tm bl k G ρ m a w Q h ah hk
   ·simp only[T.holds]at ah;cases hd:bh.den ρ b with
    |true=>exact Ij vw n _ bl k G ρ m a w Q ⟨B3 hd h.t,h.d,h.b,h.a7⟩ (ah.1 (by simpa using hd)) hk
    |false=>exact WB HI n _ bl k G ρ m a w Q ⟨B3 hd h.t,h.d,h.b,h.a7⟩ (ah.2 (by simpa using hd)) hk
  ·exact ah.elim
 |block id x ih=>
  intro hd n tm bl k G ρ m a w Q h ah hk;refine wpIn_block (ih hd n tm bl _ G ρ m a w _ h ah λx n' ag m' bz aI dg a' w' h1 h2 h3 h4=>?_);cases x with
  |normal=>exact hk .normal n' ag m' bz aI dg a' w' h1 h2 h3 h4
  |ret=>exact hk .ret n' ag m' bz aI dg a' w' h1 h2 h3 h4
  |exit vF=>
   simp only at h4;simp only[X.to,Exit.inBlock];cases hb:aG vF id with
   |true=>
    simp only[hb,cond_true]at h4;rw[if_pos (bA hb)];exact hk .normal n' ag m' bz aI dg a' w' h1 h2 h3 h4
   |false=>
    simp only[hb,cond_false]at h4;rw[if_neg (λe=>by subst e;rw[show aG vF vF=true from Ck vF]at hb;cases hb)];exact hk (.exit vF) n' ag m' bz aI dg a' w' h1 h2 h3 h4
 |loop x ih=>
  intro hd n tm bl k G ρ m a w Q h ah hk;simp only[kX]at ah;split at ah
  ·exact akx (c:=x) hd ih h ah hk
  ·exact wpIn_loop_rounds rounds (Yy (c:=x) hd ih rounds h ah hk)
 |_=>intro hd n tm bl k G ρ m a w Q h ah hk;exact ah.elim
def yG (a:Act):ResultVar->Sem aA
 | .tmp t=>Co (a.tmps.getD t undef)
 | .cell x t=>do loadVar t (<-asAddr (a.tmps.getD x undef))
theorem apk {n:Nat} {ρ:Env} {m:Nat->Nat} {bl:List ao} {tm:List V} {a:Act} {w:ai} {r:ResultVar} {u:W} (hg:eQ gl w0) (h:R w0 n ρ m tm bl a w) (hr:Fc P gl bl tm r=some u):
 u.ok n bl.length ρ/\(yG a r).run P w= .ok (u.den ρ m) w:=by
 cases r with
 |tmp t=>
  simp only[Fc]at hr;cases ht:tm[t]? with
  |none=>simp[ht]at hr
  |some v=>
   obtain⟨h1,x,h2,h3⟩:=h.t.2 t v ht;simp only[ht]at hr;cases v with
   |w aq9=>
    simp only[aK]at hr;subst hr;refine⟨h1,?_⟩;have:a.tmps.getD t undef=aq9.den ρ m:=by simp[h2];exact h3
    simp only[yG,this];rfl
   |_=>simp at hr
 |cell x t=>
  simp only[Fc]at hr;cases ht:tm[x]? with
  |none=>simp[ht]at hr
  |some v=>
   obtain⟨h1,y,h2,h3⟩:=h.t.2 x v ht;simp only[ht]at hr;cases v with
   |eX l=>simp at hr
   |any=>simp at hr
   |oY _ _ _=>simp at hr
   |mK _ _=>simp at hr
   |w q=>
    cases q with
    |agg l=>simp at hr
    |one p=>
     simp only at hr;have hy:a.tmps.getD x undef=p.den ρ m:=by simp[h2];exact h3
     cases hc:zF bl gl p with
     |none=>simp[hc]at hr
     |some cs=>
      obtain⟨g,o,hp,aY,hcell⟩:=LY h.a7 h.b hg hc;simp only[yG,hy,hp];cases pt:od P t with
      |none=>simp[hc,pt]at hr
      |some b=>
       cases b with
       |true=>
        cases hs:eM P t with
        |none=>simp[hc,pt,hs]at hr
        |some k=>
         simp only[hc,pt,hs]at hr;cases hk:bC k cs.length with
         |false=>simp[hk]at hr
         |true=>
          simp only[hk,cond_true,aK]at hr;subst hr;have hk:=eE hk;refine⟨λa h=>aY a (j7 h),?_⟩;have hl:=F1 (P:=P) w ⟨g,o,none⟩ ((cs.take k).map (A.den ρ m)) λj v hj=>by
           rw[jw];rw[oB]at hj;cases hq:(cs.take k)[j]? with
           |none=>simp[hq]at hj
           |some a=>
            simp only[hq,s3,aK]at hj;subst hj;refine hcell j a ?_;rw[o8]at hq;split at hq
            ·exact hq
            ·cases hq
          simp only[j8,ng,wF hk]at hl;simp[asAddr,loadVar,rC pt,iD hs,hl,W.den]
       |false=>
        cases cs with
        |nil=>simp[hc,pt]at hr
        |cons z r=>
         simp only[hc,pt,aK]at hr;subst hr;refine⟨aY z (by simp),?_⟩;have:=hcell 0 z rfl;simp only[lu]at this;simp[asAddr,loadVar,rC pt,this,W.den]
theorem Ys {n:Nat} {ρ:Env} {m:Nat->Nat} {bl:List ao} {tm:List V} {a:Act} {w:ai} (hg:eQ gl w0) (h:R w0 n ρ m tm bl a w):∀{rs:List ResultVar} {l:List W},yH P gl bl tm rs=some l->
 (∀u∈l,W.ok n bl.length ρ u)/\(rs.mapM (m:=Sem) (yG a)).run P w= .ok (l.map (W.den ρ m)) w
 |[],l,hr=>by simp[yH]at hr;subst hr;exact⟨by simp,by simp⟩
 |r::s,l,hr=>by
  simp only[yH]at hr;cases h1:Fc P gl bl tm r with
  |none=>simp[h1]at hr
  |some u=>
   cases h2:yH P gl bl tm s with
   |none=>simp[h1,h2]at hr
   |some bV=>
    simp only[h1,h2,aK]at hr;subst hr;have e1:=apk hg h h1;have e2:=Ys hg h h2;refine⟨λx hx=>by rcases List.mem_cons.1 hx with rfl|hx;exact e1.1;exact e2.1 x hx,?_⟩;rw[List.mapM_cons,gm];simp only[e1.2,e2.2,gz,gm,hV,ct]
theorem PZ {fn:Func} {n:Nat} {ρ:Env} {m:Nat->Nat} {bl:List ao} {tm:List V} {a:Act} {w:ai} {k:RK} {G:df} (hg:eQ gl w0) (h:R w0 n ρ m tm bl a w) (ah:(Fa P gl fn n tm bl k).holds S L G ρ):
 ∃v val,V.ok n bl.length ρ v/\v.rel ρ m val/\(results fn a.tmps).run P w= .ok val w/\(k n v bl).holds S L G ρ:=by
 unfold Fa at ah;cases hr:yH P gl bl tm fn.results.toList with
 |none=>
  simp only[hr]at ah;cases ho:Py tm fn.results.toList with
  |none=>simp[ho,T.holds]at ah
  |some v=>
   simp only[ho]at ah;obtain⟨t,e,hv⟩:∃t,fn.results.toList=[.tmp t]/\tm[t]?=some v:=by
    unfold Py at ho;split at ho
    ·rename_i t he;refine⟨t,he,?_⟩;split at ho<;>first|(cases ho;assumption)|cases ho
    ·cases ho
   obtain⟨h1,x,h2,h3⟩:=h.t.2 t v hv;refine⟨v,x,h1,h3,?_,ah⟩;have tE:fn.results=#[.tmp t]:=by rw[<-l6 (xs:=fn.results),e]
   have ex:a.tmps.getD t undef=x:=by simp[h2]
   have e:results fn a.tmps=(do let vs<-fn.results.mapM (yG a);Co (if h:vs.size=1 then vs[0]else .tuple vs)):=by
    unfold results
    congr 1
   rw[e,tE,auC];simp[gm,Sem.run_map,gz,yG,h2]
 |some l=>
  obtain⟨h1,h2⟩:=Ys hg h hr;have hrun:(results fn a.tmps).run P w= .ok (if h:(l.map (W.den ρ m)).toArray.size=1 then(l.map (W.den ρ m)).toArray[0]else .tuple (l.map (W.den ρ m)).toArray) w:=by
   have e:results fn a.tmps=(do let vs<-fn.results.mapM (yG a);Co (if h:vs.size=1 then vs[0]else .tuple vs)):=by
    unfold results
    congr 1
   rw[e,auC];simp only[gm,Sem.run_map,gz,h2,hV]
  simp only[hr]at ah;split at ah
  ·rename_i u heq;have heq:=gH heq;subst heq;exact⟨.w u,_,h1 u (by simp),rfl,by rw[hrun];simp,ah⟩
  ·rename_i bV hne heq;have heq:=gH heq;subst heq;refine⟨.eX l,_,h1,rfl,?_,ah⟩;rw[hrun,dif_neg];intro hs;simp at hs
   match l,hs,hne with
   |[u],_,hne=>exact hne u rfl
  ·rename_i heq;cases heq
theorem Lk {ρ:Env} {m:Nat->Nat}:∀{vs:List V} {xs:List aA},dh ρ m vs xs->vs.length=xs.length
 |[],[],_=>rfl
 |_::_,_::_,h=>by simp[Lk h.2]
 |[],_::_,h=>h.elim
 |_::_,[],h=>h.elim
theorem Lj {n nb:Nat} {ρ:Env} {m:Nat->Nat} (k:Nat):∀{vs:List V} {xs:List aA},(∀v∈vs,V.ok n nb ρ v)->dh ρ m vs xs->wU n nb ρ m (vs++BN k) (xs++e4 k undef)
 |[],[],_,_=>by
  simp only[jK];induction k with
  |zero=>trivial
  |succ k ih=>exact⟨by intro x hx;simp at hx,rfl,ih⟩
 |v::r,x::s,h,hr=>⟨h v (by simp),hr.1,Lj k (λu hu=>h u (cF _ hu)) hr.2⟩
 |[],_::_,_,h=>h.elim
 |_::_,[],_,h=>h.elim
theorem Th (mQ:w0.ds=[]) {li:cB->Nat->Option cX} {rounds:Nat} {inl:hX} (hm:P.follows .mixedOrders=true) (cy:fq S P gl w0 cal) (hg:eQ gl w0) (ih:lx S L w0 P inl):lx S L w0 P (GV P gl cal inl li rounds):=by
 intro f n vs bl k G ρ m w xs R' hb kL kn hrel ah hk;unfold GV at ah;cases hf:P.funcs[f]? with
 |none=>simp[hf,T.holds]at ah
 |some fn=>
  cases tQ:fn.body with
  |none=>simp[hf,tQ,T.holds]at ah
  |some c=>
   simp only[hf,tQ]at ah;cases hc:(!(fn.name== "runtime.NumGoroutine")&&bC vs.length fn.ntmps)with
   |false=>simp[hc,T.holds]at ah
   |true=>
    simp only[hc,cond_true]at ah;simp only[aO,fZ]at hc;have hlen:=Lk hrel;refine⟨?_,calls_of_wp hf tQ ?_⟩
    ·have h1:¬fn.name= "runtime.NumGoroutine" :=by have:=hc.1;simpa using this
     simp[callFunc,hf,tQ,h1]
    ·have hR:R w0 n ρ m (vs++BN (fn.ntmps-vs.length)) bl {tmps:=xs.toArray++rI (fn.ntmps-xs.toArray.size) undef,defers:=[]} w:=by
      refine⟨?_,mQ.symm,hb,kL⟩;have:=GA (Lj (fn.ntmps-vs.length) kn hrel);have e:(xs++e4 (fn.ntmps-vs.length) undef).toArray=xs.toArray++rI (fn.ntmps-xs.toArray.size) undef:=by
       simp[hlen]
      rw[e]at this;exact this
     refine wpIn_wide.1 (zI (rd:=none) hm cy hg ih c (.inl rfl) n _ bl _ G ρ m _ w _ hR ah λx n' ag m' bz aI dg a' w' h1 h2 h3 h4=>?_);cases x with
     |exit id=>exact h4.elim
     |normal=>
      obtain⟨v,val,p1,bo,bU,c6⟩:=PZ hg h3 h4;exact⟨h3.d.trans mQ,val,bU,hk n' v aI dg ag m' w' val h1 h2 p1 bo h3.b h3.a7 c6⟩
     |ret=>
      obtain⟨v,val,p1,bo,bU,c6⟩:=PZ hg h3 h4;exact⟨h3.d.trans mQ,val,bU,hk n' v aI dg ag m' w' val h1 h2 p1 bo h3.b h3.a7 c6⟩
theorem Tu (mQ:w0.ds=[]) {li:cB->Nat->Option cX} {rounds:Nat} (hm:P.follows .mixedOrders=true) (cy:fq S P gl w0 cal) (hg:eQ gl w0):∀d,lx S L w0 P (G3 P gl cal li rounds d)
 |0=>λf n vs bl k G ρ m w xs R' _ _ _ _ ah _=>ah.elim
 |d+1=>Th mQ hm cy hg (Tu mQ hm cy hg d)
def l9 (S:Nat->List Int->List Int->Prop) (L:V->Env->Prop) (w0:cN) (P:bk) (bc:hW):Prop:=
 ∀f g,bc f=some g->∀n vs bl k G ρ m w xs R',b9 n (kA bl) ρ bl->Mem w0 ρ m bl w->(∀v∈vs,V.ok n bl.length ρ v)->dh ρ m vs xs->(g n vs bl k).holds S L G ρ->pd S L w0 k n bl.length ρ m G R'->
  (callFunc f xs.toArray).run P w= .ok (.enter f xs.toArray) w/\gU P f xs.toArray w R'
theorem ane {bc:hW} {inl:hX} (fS:l9 S L w0 P bc) (h:lx S L w0 P inl):lx S L w0 P (Pz bc inl):=by
 intro f n vs bl k G ρ m w xs R' h1 h2 h3 h4 h5 h6;unfold Pz at h5;cases hf:bc f with
 |none=>rw[hf]at h5;exact h f n vs bl k G ρ m w xs R' h1 h2 h3 h4 h5 h6
 |some g=>rw[hf]at h5;exact fS f g hf n vs bl k G ρ m w xs R' h1 h2 h3 h4 h5 h6
theorem CW (mQ:w0.ds=[]) {bc:hW} {li:cB->Nat->Option cX} {rounds:Nat} (hm:P.follows .mixedOrders=true) (cy:fq S P gl w0 cal) (hg:eQ gl w0) (fS:l9 S L w0 P bc):∀d,lx S L w0 P (xa bc P gl cal li rounds d)
 |0=>λf n vs bl k G ρ m w xs R' _ _ _ _ ah _=>ah.elim
 |d+1=>Th mQ hm cy hg (ane fS (CW mQ hm cy hg fS d))
theorem Mem.extends {b w w':ai} {ρ:Env} {m:Nat->Nat} {bl:List ao} (h:Mem ⟨b,w,λ_=>False,λ_=>False,[]⟩ ρ m bl w'):w.Extends w':=by
 have hblk:∀i:Nat,i<w.heap.size->w'.heap[i]?=w.heap[i]?:=λi hi=>h.gg i hi id;exact⟨h.jf,h.ji,h.iy,h.ew,λa ha=>by simp only[jL,hblk a.block ha],λa ha=>by simp only[s6,hblk a.block ha],hblk⟩
theorem acP {b w:ai} {li:cB->Nat->Option cX} {rounds d:Nat} (hm:P.follows .mixedOrders=true) (cy:fq S P gl ⟨b,w,λ_=>False,λ_=>False,[]⟩ cal) (hg:eQ gl ⟨b,w,λ_=>False,λ_=>False,[]⟩) (f:cB) (n:Nat) (vs:List V) (ρ:Env) (xs:List aA) (he:b.Extends w)
 (kn:∀v∈vs,V.ok n 0 ρ v) (hrel:dh ρ (λ_=>0) vs xs) (ah:(G3 P gl cal li rounds d f n vs [] λn' v _=> .leaf v).holds S (λv ag=>L v ag) (λ_ _=>False) ρ):
 gU P f xs.toArray w λe w'=>∃v ag m val nb,e= .returned val/\v.rel ag m val/\(∃n',V.ok n' nb ag v)/\L v ag/\w.Extends w':=by
 have kL:Mem ⟨b,w,λ_=>False,λ_=>False,[]⟩ ρ (λ_=>0) [] w:=⟨he,rfl,rfl,rfl,aW _,λ_ _ _=>rfl,λi cs t h=>by simp at h,λi sh off code cap kind t h=>by simp at h,λi j p q h=>by simp at h⟩;refine(Tu rfl (L:=L) (li:=li) (rounds:=rounds) hm cy hg d f n vs [] (λn' v _=> .leaf v) (λ_ _=>False) ρ (λ_=>0) w xs _ (λp hp=>by simp at hp) kL kn hrel ah ?_).2;intro n' v aI dg ag m' w' val h1 h2 h3 h4 h5 h6 h7;exact⟨v,ag,m',val,_,rfl,h4,⟨n',h3⟩,h7,h6.extends⟩
end
end Go.bg
