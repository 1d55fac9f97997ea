/- The evaluator's soundness: operations and regions. -/
import Derived.Test.YtiljgcomigmidaaGreatDoorPaa
import Derived.Laws.Append
import Derived.Deep.AppendSrc
import Derived.Deep.Upon
import Derived.Laws.MakeOwn
import Derived.Lib.MakeNoZero
import Derived.Laws.Externs
import Derived.KernelRfl
import Derived.Lib.ConvBytes
import Derived.ArgAppend
import Derived.OrdersIn
import Derived.TacticsIn
import Derived.LoopNIn
import Derived.Sort.LoopGhostIn
open Array renaming toArray_toList->lU,replicate->rN,getElem?_eq_none->uV,toList_map->u1,eq_empty_of_size_eq_zero->u3,length_toList->wL,getElem?_toList->Ga,getElem?_eq_getElem->Kh,ext'->Rw,setIfInBounds_comm->aas,size_append->aaK,mapM_eq_mapM_toList->aur,range->auS,toList_range->auT,getElem?_push_lt->auZ
open Bool renaming and_eq_true->aO,not_eq_true'->fX,or_eq_true->ow,false_eq_true->pL,not_true->F8
open Classical renaming byContradiction->aaI
open Function renaming comp->Kg
open Go renaming World->ai,Value->az,TypeId->aQ,Program->bj,FuncId->cz,run_underlying->fe,Calls->gU,setRow_other->zf,ready_mono->F9,run_loadCells_list->Gd,setRow_heap->Gk
open Go.Builtin renaming copy_->wM,firstCells->zg,zeroCells->Gn,append_->Ry,lenOf->aaW
open Go.Code renaming region->au7
open Go.Extern renaming findNext->aaN,find->aaO
open Go.Extern.BytealgMakeNoZero renaming digits->tn,makeNoZero->Rz
open Go.Fence renaming wide->zi
open Go.Instr renaming sureAddr->lV,sliceAt->nK,loadAt->oA,fieldAt->Cp,extract->Rn,storeAt->Rv,buildSlice->aaJ,alloc->auW
open Go.Lib renaming bytesWorld->Gp,bytesCells->Gq
open Go.Next renaming value->kO
open Go.Oper renaming wp->m6,uponIn->au5,wpIn_mono->au6
open Go.Region renaming ready->kP,binds->qy,wanted->tk,noSelect->y8,noSelect_spec->aat,free_spec->auq
open Go.Result renaming andThen_ok->gy
open Go.Result.ok renaming injEq->aau
open Go.Sem renaming run_bind->gm,run_pure->hS
open Go.Value renaming int->rO
open Go.Value.int renaming injEq->azv
open Go.World renaming cell?->jI,frozen?->tf,alloc->Cx,alloc_eq->Ks,drew->RA,drew_eq->aaP
open Go.World.Extends renaming refl->m4,drew->Gc
open Int renaming le_refl->bB,toNat_natCast->eW,lt_or_le->hQ,le_trans->pJ,eq_ofNat_of_zero_le->td,natCast_mul->aun,natCast_add->auo
open List renaming getD->aC,map_cons->cp,mem_cons_of_mem->cD,length_cons->cW,mem_of_getElem?->c0,length_append->dn,map_nil->er,length_nil->eH,replicate->eX,map_append->fY,map_congr_left->gI,append_assoc->gJ,getElem?_eq_getElem->hP,take_append_drop->jn,nil_append->jH,mem_of_mem_take->j1,length_map->j2,take_of_length_le->kr,mem_cons->ks,length->kt,map_map->kN,append_nil->ln,getElem?_cons_zero->m1,length_take->m5,mem_of_mem_drop->nL,getElem?_map->ox,getElem?_set->oy,getD_eq_getElem?_getD->oz,getElem?_take->o0,all_eq_true->pI,length_drop->qB,getElem?_append_left->rT,cons_append->ti,size_toArray->tj,eq_nil_of_length_eq_zero->tl,getElem?_append_right->uW,getD_cons_zero->wG,map_take->y6,map_drop->y7,mem_of_find?_eq_some->y9,drop_drop->Cs,mem_or_eq_of_mem_set->Cv,replicate_succ->Cy,map_id->F5,getElem?_append->F7,find?_some->Gb,take_append_of_le_length->Ge,getElem_mem->Gh,flatten_cons->Gl,take_zero->Gm,all_cons->Kf,getD_cons_succ->Ki,getElem?_set_ne->Rk,take_length->Rm,getElem?_set_self->aap,ext_getElem?->aaM,drop_append_of_le_length->auR
open List.cons renaming injEq->lp
open Nat renaming beq->aH,le_refl->aV,ble->bu,eq_of_beq_eq_true->bx,blt->bY,le_of_ble_eq_true->eh,le_trans->gk,le_succ->ku,add_zero->lq,lt_or_ge->mx,lt_succ_self->rU,succ_mul->rP,add_mul->u5,min_eq_left->wH,pow_succ->y3,mul_comm->y4,beq_refl->Cm,sub_self->Kj,mul_le_mul->aao,mul_le_mul_right->aaL,le_of_mul_le_mul_right->auY
open Option renaming getD_some->qx,isSome_none->rQ,map_some->tc
open Option.some renaming injEq->aL,inj->gH
open Prod.mk renaming injEq->ct
open Pure renaming pure->Cq
set_option linter.unusedVariables false
set_option linter.unusedSimpArgs false
namespace Go.ba
open M
structure cR (n nb:Nat) (ρ:Env) (m:Nat->Nat) (n' jx:Nat) (ag:Env) (m':Nat->Nat):Prop where
 hn:n<=n'
 ha:agree n ρ ag
 hb:nb<=jx
 hm:∀b,b<nb->m' b=m b
theorem cR.refl (n nb:Nat) (ρ:Env) (m:Nat->Nat):cR n nb ρ m n nb ρ m:=⟨aV _,agree.refl _ _,aV _,λ_ _=>rfl⟩
theorem cR.trans {n nb n1 vV n2 XH:Nat} {ρ aD bo:Env} {m fT m2:Nat->Nat} (h:cR n nb ρ m n1 vV aD fT) (h':cR n1 vV aD fT n2 XH bo m2):cR n nb ρ m n2 XH bo m2:=
 ⟨gk h.hn h'.hn,h.ha.trans h'.ha h.hn,gk h.hb h'.hb,λb hb=>(h'.hm b (Nat.lt_of_lt_of_le hb h.hb)).trans (h.hm b hb)⟩
def dG (n:Nat) (G de:dc):Prop:=∀l,l<n->de l=G l
theorem dG.refl (n:Nat) (G:dc):dG n G G:=λ_ _=>rfl
theorem dG.trans {n n':Nat} {G de Lj:dc} (h:dG n G de) (h':dG n' de Lj) (hn:n<=n'):dG n G Lj:=λl hl=>(h' l (by omega)).trans (h l hl)
structure R (w0:cP) (n:Nat) (ρ:Env) (m:Nat->Nat) (tm:List V) (bl:List ao) (a:Act) (w:ai):Prop where
 t:dp n bl.length ρ m tm a.tmps
 d:a.defers=w0.ds
 b:b6 n bl.length ρ bl
 a7:Mem w0 ρ m bl w
section
variable (S:Nat->List Int->List Int->Prop) (L:V->Env->Prop) (w0:cP)
def jK (k:fu) (n nb:Nat) (ρ:Env) (m:Nat->Nat) (G:dc) (K:Act->ai->Prop):Prop:=
 ∀n' ag m' bw aJ de a' w',cR n nb ρ m n' (kt aJ) ag m'->dG n G de->R w0 n' ag m' bw aJ a' w'->(k n' bw aJ).holds S L de ag->K a' w'
def o6 (k:RK) (n nb:Nat) (ρ:Env) (m:Nat->Nat) (G:dc) (R':Ending->ai->Prop):Prop:=
 ∀n' v aJ de ag m' w' val,cR n nb ρ m n' (kt aJ) ag m'->dG n G de->V.ok n' aJ.length ag v->v.rel ag m' val->b6 n' aJ.length ag aJ->Mem w0 ag m' aJ w'->(k n' v aJ).holds S L de ag->R' (.returned val) w'
def lr (P:bj) (inl:hU):Prop:=
 ∀f n vs bl k G ρ m w xs R',b6 n (kt bl) ρ bl->Mem w0 ρ m bl w->(∀v∈vs,V.ok n bl.length ρ v)->df ρ m vs xs->(inl f n vs bl k).holds S L G ρ->o6 S L w0 k n bl.length ρ m G R'->
  (callFunc f xs.toArray).run P w= .ok (.enter f xs.toArray) w/\gU P f xs.toArray w R'
end
section
variable {S:Nat->List Int->List Int->Prop} {L:V->Env->Prop} {w0:cP} {P:bj} {gl:dz} {cal:dW} {inl:hU}
theorem jK.later {k:fu} {n nb n1 vV:Nat} {ρ aD:Env} {m fT:Nat->Nat} {G G1:dc} {K:Act->ai->Prop} (h:jK S L w0 k n nb ρ m G K) (hl:cR n nb ρ m n1 vV aD fT) (hA:dG n G G1):jK S L w0 k n1 vV aD fT G1 K:=
 λn' ag m' bw aJ de a' w' h1 h2 h3 h4=>h n' ag m' bw aJ de a' w' (hl.trans h1) (hA.trans h2 hl.hn) h3 h4
def fc (m:Nat->Nat) (nb g:Nat):Nat->Nat:=λb=>if b=nb then g else m b
theorem iD {m:Nat->Nat} {nb g b:Nat} (h:b<nb):fc m nb g b=m b:=by simp[fc];omega
theorem jX (m:Nat->Nat) (nb g:Nat):fc m nb g nb=g:=by simp[fc]
theorem Jr {bl:List ao} {x:ao} {i:Nat} {p:ao} (hi:(bl++[x])[i]?=some p):(i<bl.length/\bl[i]?=some p)∨(i=bl.length/\p=x):=by
 rw[F7]at hi;split at hi
 ·rename_i dv;exact .inl ⟨dv,hi⟩
 ·have:i=bl.length:=by
   have:=(List.getElem?_eq_some_iff.1 hi).1;simp at this;omega
  subst this;simp only[Kj,m1,aL]at hi;exact .inr ⟨rfl,hi.symm⟩
theorem b7.push {ρ:Env} {m:Nat->Nat} {bl:List ao} {x:ao} {g bb:Nat} (h:b7 w0 ρ m bl bb) (hx:aP ρ x.1<=1∨bb≠g):b7 w0 ρ (fc m bl.length g) (bl++[x]) bb:=
 ⟨h.1,λi p hi hk=>by
  rcases Jr hi with⟨dv,h1⟩|⟨rfl,rfl⟩
  ·rw[iD dv];exact h.2 i p h1 hk
  ·rw[jX];rcases hx with hx|hx
   ·omega
   ·exactλe=>hx e.symm⟩
theorem Qo {bl:List ao} {b i:Nat} {x p:ao} (hi:(cO bl b x)[i]?=some p):(i=b/\p=x/\b<bl.length)∨(i≠b/\bl[i]?=some p):=by
 rw[iC,oy]at hi;split at hi
 ·rename_i eC;subst eC;split at hi
  ·rename_i hlt;exact .inl ⟨rfl,(gH hi).symm,hlt⟩
  ·cases hi
 ·rename_i eC;exact .inr ⟨λe=>eC e.symm,hi⟩
theorem b7.set {ρ:Env} {m:Nat->Nat} {bl:List ao} {b:Nat} {p x:ao} {bb:Nat} (h:b7 w0 ρ m bl bb) (hbl:bl[b]?=some p) (hx:2<=aP ρ x.1->2<=aP ρ p.1):b7 w0 ρ m (cO bl b x) bb:=
 ⟨h.1,λi q hi hk=>by
  rcases Qo hi with⟨rfl,rfl,_⟩|⟨_,h1⟩
  ·exact h.2 _ _ hbl (hx hk)
  ·exact h.2 _ _ h1 hk⟩
theorem b7.pd {ρ:Env} {m:Nat->Nat} {bl:List ao} {b:Nat} {p x:ao} {w:ai} {row:Array az} (hbl:bl[b]?=some p) (hp:2<=aP ρ p.1):Fr (b7 w0 ρ m bl) w (b7 w0 ρ m (cO bl b x)) (w.setRow (m b) row):=λbb h o ho=>
 ⟨h.set hbl λ_=>hp,by rw[zf w (m b) bb _ (λe=>h.2 _ _ hbl hp (by first|exact e|exact e.symm))];exact ho⟩
theorem Mem.JI {ρ:Env} {m:Nat->Nat} {bl:List ao} {w:ai} {x:ao} {g:Nat} (h:Mem w0 ρ m bl w) (hx:aP ρ x.1<=1) (i:Nat) (sh:List ay) (off code cap:aa) (kind:Nat) (t:aQ×Bool) (hi:bl[i]?=some ([.rows sh off code cap kind],t)):gL w0 ρ (b7 w0 ρ (fc m bl.length g) (bl++[x])) (m i) sh off code cap kind t.1 w:=
 (h.rws i sh off code cap kind t hi).mono λbb h'=>h'.push (.inl hx)
theorem Mem.YU {ρ:Env} {m:Nat->Nat} {bl:List ao} {w:ai} {x:ao} {g:Nat} (h:Mem w0 ρ m bl w) (hx:∀bb,b7 w0 ρ m bl bb->bb≠g) (i:Nat) (sh:List ay) (off code cap:aa) (kind:Nat) (t:aQ×Bool) (hi:bl[i]?=some ([.rows sh off code cap kind],t)):gL w0 ρ (b7 w0 ρ (fc m bl.length g) (bl++[x])) (m i) sh off code cap kind t.1 w:=
 (h.rws i sh off code cap kind t hi).mono λbb h'=>h'.push (.inr (hx bb h'))
theorem Mem.apL {ρ:Env} {m:Nat->Nat} {bl:List ao} {w1 w:ai} {x:ao} {g:Nat} (h:Mem w0 ρ m bl w1) (he:w1.Extends w) (hg:w1.heap.size<=g) (i:Nat) (sh:List ay) (off code cap:aa) (kind:Nat) (t:aQ×Bool) (hi:bl[i]?=some ([.rows sh off code cap kind],t)):gL w0 ρ (b7 w0 ρ (fc m bl.length g) (bl++[x])) (m i) sh off code cap kind t.1 w:=
 (h.rws i sh off code cap kind t hi).grow (λbb h' o ho=>by
   have hlt:=(Array.getElem?_eq_some_iff.1 ho).1;exact⟨h'.push (.inr (by omega)),by rw[he.block bb hlt];exact ho⟩) λhk hc=>he.block _ (h.lt hi (by simp only[ix hk hc];exact hk))
theorem Mem.push {n:Nat} {ρ:Env} {m:Nat->Nat} {bl:List ao} {w:ai} {x:ao} {g:Nat} (h:Mem w0 ρ m bl w) (hb:b6 n bl.length ρ bl) (hx:∀a∈x.1,A.ok n bl.length ρ a)
 (h1:bO x.1=true->w0.b.heap.size<=g/\(w0.ex g∨w0.r.heap.size<=g)/\∃r:List az,(x.2.2=false->r=[])/\w.heap[g]?=some (.cells (x.1.map (A.den ρ m)++r).toArray x.2.1 (0,0)))
 (h2:∀sh off code cap kind,x.1=[.rows sh off code cap kind]->gL w0 ρ (b7 w0 ρ (fc m bl.length g) (bl++[x])) g sh off code cap kind x.2.1 w)
 (h3:∀(i:Nat) (p:ao),bl[i]?=some p->m i=g->(aP ρ p.1<=1/\aP ρ x.1<=1)∨aP ρ p.1=0∨aP ρ x.1=0)
 (h4:∀(i:Nat) (sh:List ay) (off code cap:aa) (kind:Nat) (t:aQ×Bool),bl[i]?=some ([.rows sh off code cap kind],t)->gL w0 ρ (b7 w0 ρ (fc m bl.length g) (bl++[x])) (m i) sh off code cap kind t.1 w):
 Mem w0 ρ (fc m bl.length g) (bl++[x]) w:=by
 have hold:∀(i:Nat) (p:ao),(bl++[x])[i]?=some p->(i<bl.length/\bl[i]?=some p)∨(i=bl.length/\p=x):=λi p hi=>by
  rw[F7]at hi;split at hi
  ·rename_i dv;exact .inl ⟨dv,hi⟩
  ·have:i=bl.length:=by
    have:=(List.getElem?_eq_some_iff.1 hi).1;simp at this;omega
   subst this;simp only[Kj,m1,aL]at hi;exact .inr ⟨rfl,hi.symm⟩
 refine⟨h.ext,h.jb,h.je,h.iw,h.eu,h.gg,λi iX t' hi ho=>?_,λi sh off code cap kind t' hi=>?_,λi j p q hi hj he=>?_⟩
 ·rcases hold i _ hi with⟨dv,hi⟩|⟨rfl,cN⟩
  ·obtain⟨g1,kB,r,hr,g2⟩:=h.blk i iX t' hi ho;rw[iD dv];refine⟨g1,kB,r,hr,?_⟩;rw[qh (hb _ (c0 hi)) (agree.refl n ρ) (λb hb=>iD hb)];exact g2
  ·subst cN;rw[jX];obtain⟨g1,kB,r,hr,g2⟩:=h1 ho;refine⟨g1,kB,r,hr,?_⟩;rw[qh hx (agree.refl n ρ) (λb hb=>iD hb)];exact g2
 ·rcases hold i _ hi with⟨dv,hi⟩|⟨rfl,cN⟩
  ·rw[iD dv];exact h4 i sh off code cap kind t' hi
  ·subst cN;rw[jX];exact h2 sh off code cap kind rfl
 ·rcases hold i p hi with⟨dv,mK⟩|⟨rfl,cN⟩<;>rcases hold j q hj with⟨NS,xM⟩|⟨rfl,nW⟩
  ·rw[iD dv,iD NS]at he;exact h.inj i j p q mK xM he
  ·rw[iD dv,jX]at he;subst nW;exact .inr (h3 i p mK he)
  ·rw[iD NS,jX]at he;subst cN;rcases h3 j q xM he.symm with h|h|h
   ·exact .inr (.inl ⟨h.2,h.1⟩)
   ·exact .inr (.inr (.inr h))
   ·exact .inr (.inr (.inl h))
  ·exact .inl rfl
theorem Mem.alloc {n:Nat} {ρ:Env} {m:Nat->Nat} {bl:List ao} {w:ai} {cs:List A} {t:aQ} {ex:List az} {open_:Bool} (h:Mem w0 ρ m bl w) (hb:b6 n bl.length ρ bl) (hc:∀a∈cs,A.ok n bl.length ρ a) (hop:open_=false->ex=[]) (jv:bO cs=true):
 Mem w0 ρ (fc m bl.length w.heap.size) (bl++[(cs,(t,open_))]) (w.alloc (.cells (cs.map (A.den ρ m)++ex).toArray t)):=by
 refine(h.grow ((m4 w).alloc _)).push hb hc (λ_=>⟨h.ext.size,.inr h.eu,ex,hop,heap_alloc_new w _⟩) (λsh off code cap kind e=>?_) (λi p hi he=>?_) (h.apL ((m4 w).alloc _) (aV _))
 ·simp only at e;subst e;cases jv
 ·by_cases hk:aP ρ p.1=0
  ·exact .inr (.inl hk)
  ·have:=h.lt hi hk;omega
theorem Mem.put {kd:Nat} {ρ:Env} {m:Nat->Nat} {bl:List ao} {w:ai} {b:Nat} {sh:List ay} {off code cap code':aa} {t:aQ×Bool} {cells row:Array az} {fz:Nat×Nat} (h:Mem w0 ρ m bl w) (fq:2<=kd) (hbl:bl[b]?=some ([.rows sh off code cap kd],t)) (cK:0<=cap.den ρ)
 (hr:gL w0 ρ (b7 w0 ρ m (cO bl b ([.rows sh off code' cap kd],t))) (m b) sh off code' cap kd t.1 (w.setRow (m b) row)):Mem w0 ρ m (cO bl b ([.rows sh off code' cap kd],t)) (w.setRow (m b) row):=by
 have lF:b<bl.length:=(List.getElem?_eq_some_iff.1 hbl).1;have iu:∀c,aP ρ [.rows sh off c cap kd]=kd:=λc=>ix (by omega) cK;obtain⟨_,hl⟩:=h.rws b sh off code cap kd t hbl (by omega);obtain⟨_,cells,gS,fz,_,_,h5⟩:=hl cK;obtain⟨_,_,_,_,h1,HK⟩:=h5 fq;have c9:∀(i:Nat) (p:ao),(cO bl b ([.rows sh off code' cap kd],t))[i]?=some p->(i=b/\p=([.rows sh off code' cap kd],t))∨(i≠b/\bl[i]?=some p):=λi p hi=>by
  rw[iC,oy]at hi;split at hi
  ·rename_i eC;subst eC;simp only[lF,if_true,aL]at hi;exact .inl ⟨rfl,hi.symm⟩
  ·rename_i eC;exact .inr ⟨λe=>eC e.symm,hi⟩
 refine⟨h.ext.setRow (m b) _ h1,h.jb,h.je,h.iw,by simp;exact h.eu,λi hi hx=>?_,λi iX t' hi ho=>?_,λi cH dT code' dR eT t' hi=>?_,λi j p q hi hj he=>?_⟩
 ·rw[zf w (m b) i _ (λe=>by
   subst e;rcases HK with h3|h3
   ·exact hx h3
   ·omega)]
  exact h.gg i hi hx
 ·rcases c9 i _ hi with⟨rfl,cN⟩|⟨hne,hi⟩
  ·cases cN;cases ho
  ·obtain⟨g1,kB,g2⟩:=h.blk i iX t' hi ho;exact⟨g1,kB,by rw[zf w (m b) (m i) _ (λe=>h.ne hbl hi (by rw[iu];exact fq) (by rw[hh ho];decide) (λe=>hne e.symm) (by first|exact e|exact e.symm))];exact g2⟩
 ·rcases c9 i _ hi with⟨rfl,cN⟩|⟨hne,hi⟩
  ·cases cN;exact hr
  ·exact(h.rws i cH dT _ dR eT t' hi).grow (b7.pd hbl (by rw[iu];exact fq)) λhk hc=>zf w (m b) (m i) _ (λe=>h.ne hbl hi (by rw[iu];exact fq) (by simp only[ix hk hc];exact hk) (λe=>hne e.symm) (by first|exact e|exact e.symm))
 ·have hk:∀(i:Nat) (p:ao),(cO bl b ([.rows sh off code' cap kd],t))[i]?=some p->∃p',bl[i]?=some p'/\aP ρ p'.1=aP ρ p.1:=λi p hi=>by
   rcases c9 i _ hi with⟨rfl,cN⟩|⟨hne,hi⟩
   ·exact⟨_,hbl,by rw[cN];simp only[iu]⟩
   ·exact⟨p,hi,rfl⟩
  obtain⟨p',hp,ep⟩:=hk i p hi;obtain⟨q',hq,eq⟩:=hk j q hj;rw[<-ep,<-eq];exact h.inj i j p' q' hp hq he
theorem Mem.kill {ρ:Env} {m:Nat->Nat} {bl:List ao} {w:ai} {b k:Nat} {sh:List ay} {off code cap:aa} {t:aQ×Bool} (h:Mem w0 ρ m bl w) (hbl:bl[b]?=some ([.rows sh off code cap k],t)):Mem w0 ρ m (cO bl b ([.rows sh off code cap 0],t)) w:=by
 have lF:b<bl.length:=(List.getElem?_eq_some_iff.1 hbl).1;have c9:∀(i:Nat) (p:ao),(cO bl b ([.rows sh off code cap 0],t))[i]?=some p->(i=b/\p=([.rows sh off code cap 0],t))∨(i≠b/\bl[i]?=some p):=λi p hi=>by
  rw[iC,oy]at hi;split at hi
  ·rename_i eC;subst eC;simp only[lF,if_true,aL]at hi;exact .inl ⟨rfl,hi.symm⟩
  ·rename_i eC;exact .inr ⟨λe=>eC e.symm,hi⟩
 have fx:aP ρ [.rows sh off code cap 0]=0:=by simp[aP]
 refine⟨h.ext,h.jb,h.je,h.iw,h.eu,h.gg,λi iX t' hi ho=>?_,λi cH dT code' dR eT t' hi=>?_,λi j p q hi hj he=>?_⟩
 ·rcases c9 i _ hi with⟨rfl,cN⟩|⟨hne,hi⟩
  ·cases cN;cases ho
  ·exact h.blk i iX t' hi ho
 ·rcases c9 i _ hi with⟨rfl,cN⟩|⟨hne,hi⟩
  ·cases cN;exactλhk=>absurd rfl hk
  ·exact(h.rws i cH dT _ dR eT t' hi).mono λbb h'=>h'.set hbl (by rw[fx];omega)
 ·rcases c9 i _ hi with⟨rfl,cN⟩|⟨hne,hi⟩
  ·exact .inr (.inr (.inl (by rw[cN];exact fx)))
  ·rcases c9 j _ hj with⟨rfl,nW⟩|⟨hne,hj⟩
   ·exact .inr (.inr (.inr (by rw[nW];exact fx)))
   ·exact h.inj i j p q hi hj he
theorem cR.alloc (n:Nat) (ρ:Env) (m:Nat->Nat) (bl:List ao) (x:ao) (g:Nat):cR n bl.length ρ m n (bl++[x]).length ρ (fc m bl.length g):=
 ⟨aV _,agree.refl _ _,by simp,λb hb=>iD hb⟩
theorem b6.alloc {n:Nat} {ρ:Env} {bl:List ao} {cs:List A} {t:aQ×Bool} (hb:b6 n bl.length ρ bl) (hc:∀a∈cs,A.ok n bl.length ρ a):b6 n (bl++[(cs,t)]).length ρ (bl++[(cs,t)]):=by
 intro p hp a ha;rcases List.mem_append.1 hp with hp|hp
 ·exact(hb p hp a ha).ext (agree.refl n ρ) (aV _) (by simp)
 ·simp at hp;subst hp;exact(hc a ha).ext (agree.refl n ρ) (aV _) (by simp)
theorem R.alloc {n:Nat} {ρ:Env} {m:Nat->Nat} {tm:List V} {bl:List ao} {a:Act} {w:ai} {cs:List A} {t:aQ} (h:R w0 n ρ m tm bl a w) (hc:∀x∈cs,A.ok n bl.length ρ x) (dst:Option Tmp) (jv:bO cs=true):
 R w0 n ρ (fc m bl.length w.heap.size) (ew tm dst (.w (.one (.ptr bl.length 0)))) (bl++[(cs,(t,false))]) (a.put dst (.pointer (some ⟨w.heap.size,0,none⟩))) (w.alloc (.cells (cs.map (A.den ρ m)).toArray t)):=by
 have hl:=cR.alloc n ρ m bl (cs,(t,false)) w.heap.size;have kY:=h.a7.alloc (t:=t) (ex:=[]) (open_:=false) h.b hc (λ_=>rfl) jv;rw[ln]at kY;exact⟨dp.put (h.t.ext hl.ha hl.hn hl.hb hl.hm) dst (by simp[V.ok,W.ok,A.ok]) (by simp[V.rel,W.den,A.den,jX]),by rw[put_defers];exact h.d,h.b.alloc hc,kY⟩
theorem R.row {n:Nat} {ρ:Env} {m:Nat->Nat} {tm:List V} {bl:List ao} {a:Act} {w:ai} {cs:List A} {t:aQ} {ex:List az} {open_:Bool} (h:R w0 n ρ m tm bl a w) (hc:∀x∈cs,A.ok n bl.length ρ x) (hop:open_=false->ex=[]) (jv:bO cs=true) (dst:Option Tmp) {v:V} {x:az}
 (hv:v.ok n (bl.length+1) ρ) (hx:v.rel ρ (fc m bl.length w.heap.size) x):
 R w0 n ρ (fc m bl.length w.heap.size) (ew tm dst v) (bl++[(cs,(t,open_))]) (a.put dst x) (w.alloc (.cells (cs.map (A.den ρ m)++ex).toArray t)):=by
 have hl:=cR.alloc n ρ m bl (cs,(t,open_)) w.heap.size;exact⟨dp.put (h.t.ext hl.ha hl.hn hl.hb hl.hm) dst (by simpa using hv) hx,by rw[put_defers];exact h.d,h.b.alloc hc,h.a7.alloc h.b hc hop jv⟩
theorem Mem.storeCells {n:Nat} {ρ:Env} {m:Nat->Nat} {bl:List ao} {w:ai} {b off:Nat} {cs l:List A} {bS:aQ×Bool} (h:Mem w0 ρ m bl w) (hb:b6 n bl.length ρ bl) (hl:∀a∈l,A.ok n bl.length ρ a)
 (hbl:bl[b]?=some (cs,bS)) (sq:off+l.length<=cs.length) (rb:bO cs=true) (nq:bO (cs.take off++l++cs.drop (off+l.length))=true):
 ∃w',(Go.storeCells ⟨m b,off,none⟩ (l.map (A.den ρ m))).run P w= .ok () w'/\Mem w0 ρ m (cO bl b (cs.take off++l++cs.drop (off+l.length),bS)) w':=by
 obtain⟨h1,HK,r,hr,h2⟩:=h.blk b cs bS hbl rb;have hst:=run_storeCells_at P (m b) off bS.1 (l.map (A.den ρ m)) 0 (cs.map (A.den ρ m)++r).toArray w h2 (by simp;omega) (λx hx=>by
  obtain⟨a,ha,rfl⟩:=List.mem_map.1 hx;exact A.Jc (hl a ha))
 have qb:∀k,k<=cs.length->(cs.map (A.den ρ m)++r).take k=(cs.take k).map (A.den ρ m)/\(cs.map (A.den ρ m)++r).drop k=(cs.drop k).map (A.den ρ m)++r:=λk hk=>by
  refine⟨?_,?_⟩
  ·rw[Ge (by simpa using hk),y6]
  ·rw[auR (by simpa using hk),y7]
 refine⟨w.setRow (m b) ((cs.take off++l++cs.drop (off+l.length)).map (A.den ρ m)++r).toArray,?_,?_⟩
 ·simp only[lq,j2]at hst;rw[hst]
  congr 3
  simp only[fY,gJ];rw[(qb off (by omega)).1,(qb (off+l.length) (by omega)).2]
 ·have lF:b<bl.length:=(List.getElem?_eq_some_iff.1 hbl).1;have c9:∀(i:Nat) (p:ao),(cO bl b (cs.take off++l++cs.drop (off+l.length),bS))[i]?=some p->(i=b/\p=(cs.take off++l++cs.drop (off+l.length),bS))∨(i≠b/\bl[i]?=some p):=λi p hi=>by
   rw[iC,oy]at hi;split at hi
   ·rename_i eC;subst eC;simp only[lF,if_true,aL]at hi;exact .inl ⟨rfl,hi.symm⟩
   ·rename_i eC;exact .inr ⟨λe=>eC e.symm,hi⟩
  have iu:aP ρ cs=2:=hh rb;refine⟨h.ext.setRow (m b) _ h1,h.jb,h.je,h.iw,by simp;exact h.eu,λi hi hx=>?_,λi iX t' hi ho=>?_,λi sh dT code cap kind t' hi=>?_,λi j p q hi hj he=>?_⟩
  ·rw[zf w (m b) i _ (λe=>by
    subst e;rcases HK with h3|h3
    ·exact hx h3
    ·omega)]
   exact h.gg i hi hx
  ·rcases c9 i _ hi with⟨rfl,cN⟩|⟨hne,hi⟩
   ·cases cN;exact⟨h1,HK,r,hr,Gk w (m i) _ _ _ _ h2⟩
   ·obtain⟨g1,kB,g2⟩:=h.blk i iX t' hi ho;exact⟨g1,kB,by rw[zf w (m b) (m i) _ (λe=>h.ne hbl hi (by rw[iu];exact aV 2) (by rw[hh ho];decide) (λe=>hne e.symm) (by first|exact e|exact e.symm))];exact g2⟩
  ·rcases c9 i _ hi with⟨rfl,cN⟩|⟨hne,hi⟩
   ·have hi:=(Prod.mk.inj cN).1;rw[<-hi]at nq;cases nq
   ·exact(h.rws i sh dT code cap kind t' hi).grow (b7.pd hbl (by rw[iu];exact aV 2)) λhk hc=>zf w (m b) (m i) _ (λe=>h.ne hbl hi (by rw[iu];exact aV 2) (by simp only[ix hk hc];exact hk) (λe=>hne e.symm) (by first|exact e|exact e.symm))
  ·have hk:∀(i:Nat) (p:ao),(cO bl b (cs.take off++l++cs.drop (off+l.length),bS))[i]?=some p->∃p',bl[i]?=some p'/\aP ρ p'.1=aP ρ p.1:=λi p hi=>by
    rcases c9 i _ hi with⟨rfl,cN⟩|⟨hne,hi⟩
    ·exact⟨_,hbl,by rw[cN];exact iu.trans (hh nq).symm⟩
    ·exact⟨p,hi,rfl⟩
   obtain⟨p',hp,ep⟩:=hk i p hi;obtain⟨q',hq,eq⟩:=hk j q hj;rw[<-ep,<-eq];exact h.inj i j p' q' hp hq he
theorem Mem.store {n:Nat} {ρ:Env} {m:Nat->Nat} {bl:List ao} {w:ai} {b off:Nat} {cs l:List A} {bS:aQ×Bool} (h:Mem w0 ρ m bl w) (hb:b6 n bl.length ρ bl) (hl:∀a∈l,A.ok n bl.length ρ a)
 (hbl:bl[b]?=some (cs,bS)) (sq:off+l.length<=cs.length) (gP:0<l.length) (rb:bO cs=true) (nq:bO (cs.take off++l++cs.drop (off+l.length))=true) (ty:aQ) (hs:eG P ty=some l.length) (v:az) (hv:v.cells=(l.map (A.den ρ m)).toArray):
 ∃w',(Rv ty (.pointer (some ⟨m b,off,none⟩)) v).run P w= .ok () w'/\Mem w0 ρ m (cO bl b (cs.take off++l++cs.drop (off+l.length),bS)) w':=by
 obtain⟨w',hrun,ug⟩:=h.storeCells (P:=P) hb hl hbl sq rb nq;refine⟨w',?_,ug⟩;simp only[Rv,lV,gm,hS,gy,storeVar,iB hs,hv];simp only[tj,j2,ne_eq,not_true_eq_false,if_false,hS,gy];simp only[hS,gy,hrun]
theorem km (bl:List ao) (b:Nat) (x:ao):(cO bl b x).length=bl.length:=by rw[iC];simp
theorem b6.set {n:Nat} {ρ:Env} {bl:List ao} {b:Nat} {cs:List A} {t:aQ×Bool} (hb:b6 n bl.length ρ bl) (hc:∀a∈cs,A.ok n bl.length ρ a):b6 n (cO bl b (cs,t)).length ρ (cO bl b (cs,t)):=by
 intro p hp a ha;rw[km];rw[iC]at hp;rcases Cv hp with h|h
 ·exact hb p h a ha
 ·subst h;exact hc a ha
theorem Kc {t:aQ} {cs:List A} (h:lS P t=some cs):∃i z,P.info? t=some i/\i.zero=some z/\tJ z.cells.toList=some cs:=by
 unfold lS at h;cases hi:P.info? t with
 |none=>simp[hi]at h
 |some i=>
  cases hz:i.zero with
  |none=>simp[hi,hz]at h
  |some z=>simp only[hi,hz]at h;exact⟨i,z,rfl,hz,h⟩
theorem aed {Z:Array az} {i:Nat} (h:i<Z.size):Z[i]! =Z[i]:=by simp[h]
theorem ao8 {z:List A} {Z:Array az} {n nb:Nat} {ρ:Env} {m:Nat->Nat} (hz:z.map (A.den ρ m)=Z.toList) (aX:∀a∈z,A.ok n nb ρ a) (h0:0<z.length) (len:Nat):
 (∀a∈Fl z len,A.ok n nb ρ a)/\((Fl z len).map (A.den ρ m)).toArray=(auS (len*Z.size)).map λi=>Z[i% Z.size]! :=by
 have hl:Z.size=z.length:=by have:=congrArg kt hz;simpa using this.symm
 have hi:∀i,i% z.length<z.length:=λi=>Nat.mod_lt _ h0;refine⟨λa ha=>?_,?_⟩
 ·obtain⟨i,_,rfl⟩:=List.mem_map.1 ha;rw[hP (hi i)];exact aX _ (Gh _)
 ·apply Rw;rw[u1,auT];simp only[Fl,kN,hl];refine gI λi _=>?_;simp only[Kg];have h1:i% z.length<Z.size:=by rw[hl];exact hi i
  rw[aed h1,hP (hi i)];simp only[qx];have h2:=congrArg (λl=>l[i% z.length]?) hz;simp only[ox,hP (hi i),tc]at h2;rw[Ga,Kh h1]at h2;simpa using h2
theorem acu {t:aQ} {len n:Nat} {ρ:Env} {m:Nat->Nat} {bl:List ao} {parts:List (Nat×V)} {vals:Array (Nat×az)} {cs:List A} {e:aQ} (h:LV P t len parts=some (cs,e)) (hr:GJ n bl.length ρ m parts vals.toList):
 (∀a∈cs,A.ok n bl.length ρ a)/\∀w,(aaJ t len vals).run P w= .ok (.slice (some ⟨w.heap.size,0,none⟩) len len) (w.alloc (.cells (cs.map (A.den ρ m)).toArray e)):=by
 unfold LV at h;cases h1:hH P t with
 |none=>simp[h1]at h
 |some pW=>
  simp only[h1]at h;cases h2:eG P pW with
  |none=>simp[h2]at h
  |some s=>
   cases h3:lS P pW with
   |none=>simp[h2,h3]at h
   |some z=>
    simp only[h2,h3]at h;cases hc:(aH z.length s&&bY 0 s&&bu (len*s) 16777216)with
    |false=>simp[hc]at h
    |true=>
     simp only[hc,cond_true]at h;simp only[aO]at hc;have c1:=bx hc.1.1;have c2:=tE hc.1.2;have c3:=eh hc.2;cases h4:sc (λi=>some (i*s,s)) (Fl z len) parts with
     |none=>simp[h4]at h
     |some l=>
      simp only[h4,aL,ct]at h;obtain⟨rfl,rfl⟩:=h;obtain⟨inf,tp,hi,n8,gY⟩:=Kc h3;have p7:=xe gY n bl.length ρ m;have VU:=ao8 (Z:=tp.cells) p7.2 p7.1 (by omega) len;have HT:tp.cells.size=s:=by have:=congrArg kt p7.2;simp at this;omega
      obtain⟨g1,g2⟩:=HB (m:=m) h4 VU.1 hr;refine⟨g1,λw=>?_⟩;rw[VU.2,HT]at g2;have hn:¬(16777216<len*s):=by omega
      by_cases hl0:len=0
      ·subst hl0;have g3:Instr.fill (λi=>some (i*s,s)) ((auS (0*s)).map λi=>(#[]:Array az)[i% (#[]:Array az).size]!) vals.toList=some (l.map (A.den ρ m)).toArray:=by
        rw[<-g2];congr 1;simp
       simp[aaJ,fe (hL h1),iB h2]at g3⊢;simp[g3,newRow]
      ·have hne:¬(len*s=0):=by
        intro h0;rcases Nat.mul_eq_zero.1 h0 with h0|h0<;>omega
       have H9:¬(s=0):=by omega
       simp[aaJ,fe (hL h1),iB h2,hn,hne,hl0,H9,zeroValue,typeInfo,hi,n8,HT,g2,newRow]
theorem NB {w:ai} {n:Nat} {ρ:Env} {m:Nat->Nat} {bl:List ao} {b off k:Nat} {cs:List A} (hm:Mem w0 ρ m bl w) (hb:b6 n bl.length ρ bl) (h:oQ bl b off k=some cs):
 cs.length=k/\(∀a∈cs,A.ok n bl.length ρ a)/\∀j v,(cs.map (A.den ρ m))[j]?=some v->w.cell? ((⟨m b,off,none⟩:Addr).add j)=some v:=by
 unfold oQ at h;cases hbl:bl[b]? with
 |none=>simp[hbl]at h
 |some q=>
  obtain⟨C,t⟩:=q;simp only[hbl]at h;cases hc:(bu (off+k) C.length&&bO C)with
  |false=>simp[hc]at h
  |true=>
   simp only[hc,cond_true,aL]at h;simp only[aO]at hc;have hle:=eh hc.1;subst h;obtain⟨_,_,r,_,h2⟩:=hm.blk b C t hbl hc.2;refine⟨by simp;omega,λa ha=>hb _ (c0 hbl) a (nL (j1 ha)),λj v hj=>?_⟩;rw[jr];rw[ox,o0]at hj;split at hj
   ·rename_i q7;rw[List.getElem?_drop]at hj;cases hq:C[off+j]? with
    |none=>simp[hq]at hj
    |some y=>
     simp only[hq,tc,aL]at hj;have hlt:off+j<C.length:=(List.getElem?_eq_some_iff.1 hq).1;simp only[jI,h2,rQ,pL,if_false,List.getElem?_toArray];rw[rT (by simpa using hlt),ox,hq];simp[hj]
   ·simp at hj
theorem Ju {n:Nat} {ρ:Env} {m:Nat->Nat} {tm:List V} {bl:List ao} {a:Act} {w:ai} {G:dc} {o:Oper} {K:Act->ai->Prop} {Q:Exit->Act->ai->Prop} {k:fu}
 (cw:fl S P gl w0 cal) (hg:eL gl w0) (h:R w0 n ρ m tm bl a w) (ah:(sU P cal gl bl tm o n λv n'=>k n' (ew tm o.dst v) bl).holds S L G ρ) (hk:jK S L w0 k n bl.length ρ m G K):o.wp P a w K Q:=by
 obtain⟨ag,n',v,hn,ha,⟨hv,val,hr,hq⟩,sr⟩:=Fh (L:=L) cw h.b hg ⟨w,h.a7⟩ h.t o G _ ah;have hl:cR n bl.length ρ m n' bl.length ag m:=⟨hn,ha,aV _,λ_ _=>rfl⟩;have hR:∀w',w.Extends w'->R w0 n' ag m (ew tm o.dst v) bl (a.put o.dst val) w':=λw' he=>
  ⟨dp.put (h.t.ext ha hn (aV _) (λ_ _=>rfl)) o.dst hv hr,by rw[put_defers];exact h.d,h.b.ext ha hn (aV _),(h.a7.grow he).dO h.b ha⟩
 unfold m6;rcases hq w h.a7 with hq|⟨f,args,hq,hc⟩
 ·rw[hq];exact hk n' ag m _ bl G _ w hl (dG.refl _ _) (hR w (m4 w)) sr
 ·rw[hq];refine hc.mono λe lj ⟨he,hx⟩=>?_;subst he;exact hk n' ag m _ bl G _ lj hl (dG.refl _ _) (hR lj hx) sr
theorem ac2 {n nb:Nat} {ρ:Env} {m:Nat->Nat} {v:V} {f:Nat} {gX:List A} {x:az} (h:Mb v=some (f,gX)) (hv:v.ok n nb ρ) (hr:v.rel ρ m x):
 (∀y∈gX,A.ok n nb ρ y)/\x= .func (.func f) #[] (gX.map (A.den ρ m)).toArray:=by
 unfold Mb at h;split at h
 ·simp only[aL,ct]at h;obtain⟨rfl,rfl⟩:=h;exact⟨hv,hr⟩
 ·rename_i ng a b;cases hc:(aH a.size 0&&aH b.size 0)with
  |false=>simp[hc]at h
  |true=>
   simp only[hc,cond_true,aL,ct]at h;obtain⟨rfl,rfl⟩:=h;simp only[aO]at hc;have e1:=u3 (bx hc.1);have e2:=u3 (bx hc.2);subst e1;subst e2;have hr:x= .func (.func ng) #[] #[]:=hr;exact⟨λy hy=>by simp at hy,by rw[hr];rfl⟩
 ·cases h
end
end Go.ba
namespace Go.ba
open M
theorem bK.row {sh:List ay} {row:List Int} (hs:lg sh=true) (h:bK sh row):P1 row:=by
 unfold lg at hs;simp only[aO]at hs;obtain⟨⟨h0,Dt⟩,h2⟩:=hs;refine⟨by rw[h.len];exact eh h0,?_⟩;have hp:=fZ;have pr:=CD;clear h0 Dt;induction sh generalizing row with
 |nil=>
  cases row with
  |nil=>intro z hz;simp at hz
  |cons _ _=>exact h.elim
 |cons c sh ih=>
  cases row with
  |nil=>exact h.elim
  |cons x r=>
   simp only[Kf,aO]at h2;intro z hz;rcases List.mem_cons.1 hz with rfl|hz
   ·have h3:=h.1;cases c with
    |int k lo hi=>
     have h4:=h2.1;simp only[aO,decide_eq_true_eq]at h4;simp only[ay.dQ]at h3;omega
    |str=>simp only[ay.dQ]at h3;omega
    |bool=>simp only[ay.dQ]at h3;omega
    |sub k=>simp only[ay.dQ]at h3;omega
    |nil=>simp only[ay.dQ]at h3;omega
   ·exact ih h.2 h2.2 z hz
theorem vg {sh:List ay} {rows:List (List Int)} (hs:lg sh=true) (hl:rows.length<=1073741824) (h:∀row∈rows,bK sh row):rc rows<=cc:=
 oF (by unfold maxLen;omega) λrow hr=>(h row hr).row hs
theorem Zp (k:Nat):iP (mo k)=true:=by
 unfold mo;split<;>rfl
theorem aqv {k:Nat} {row:List Int} (h:bK (mo k) row):P2 row:=by
 have hp:=fZ;refine⟨by rw[h.len];unfold mo;split<;>decide,λz hz=>?_⟩;unfold mo at h;split at h
 ·match row,h,hz with
  |[x],h,hz=>
   simp at hz;subst hz;have h1:(0:Int)<=z/\z<=255:=h.1;omega
 ·match row,h,hz with
  |[a,b,c,d,e],h,hz=>
   obtain⟨h1,h2,h3,h4,h5,_⟩:=h;have h1:(4:Int)<=a/\a<=4:=h1;have h2:(0:Int)<=b/\b<=0:=h2;have h3:(0:Int)<=c/\c<=bp:=h3;have h4:(0:Int)<=d/\d<=0:=h4;have h5:(0:Int)<=e/\e<=0:=h5;simp only[ks,List.not_mem_nil,or_false]at hz;rcases hz with rfl|rfl|rfl|rfl|rfl<;>omega
 ·match row,h,hz with
  |[x],h,hz=>
   simp at hz;subst hz;have h1:(0:Int)<=z/\z<=bp:=h.1;omega
theorem SC {k:Nat} {rows:List (List Int)} (hl:(rows.length:Int)<=9223372036854775807) (h:∀row∈rows,bK (mo k) row):rc rows<=rY:=
 Sz (by unfold maxLen;omega) λrow hr=>aqv (h row hr)
theorem Qe {P:bj} (w:ai) (size:Nat) (p:Option Addr) (l c:Nat):(zg size 0 (.slice p l c)).run P w= .ok #[] w:=by
 cases p with
 |none=>exact run_firstCells_none w size 0 l c
 |some a=>
  have:=Gd (P:=P) w a ([]:List az) (λj v hj=>by simp at hj);simpa [zg]using this
theorem Src.alB {P:bj} (w:ai) {size:Nat} {mU pW:aQ} (hk:P.underlying mU=some (.slice pW)) (p:Option Addr) (c:Nat):Src P size mU (.slice p 0 c) 0 [] w:=
 ⟨.inl ⟨pW,hk⟩,λ_=>rfl,Qe w size p 0 c,Qe w.drew size p 0 c,by simp,λ_ h=>by cases h⟩
theorem acV {F:Nat->Prop} {w:ai} {c:ay} {z:Int} {v:az} (h:pU F w c z v):v.oneCell'=true:=by
 cases c with
 |sub k=>
  rcases h with⟨⟨p,rfl⟩,_⟩|⟨g,o,cap,cells,t,fz,rfl,_⟩<;>rfl
 |_=>have h:v=_:=h;rw[h];rfl
theorem Yx {F:Nat->Prop} {w:ai}:∀{sh:List ay} {row:List Int} {vs:List az},dV F w sh row vs->∀u∈vs,u.oneCell'=true
 |[],[],[],_,u,h=>by simp at h
 |c::sh,z::r,v::vs,h,u,hu=>by
  rcases List.mem_cons.1 hu with rfl|hu
  ·exact acV h.1
  ·exact Yx h.2 u hu
 |[],_::_,_,h,_,_=>h.elim
 |[],[],_::_,h,_,_=>h.elim
 |_::_,[],_,h,_,_=>h.elim
 |_::_,_::_,[],h,_,_=>h.elim
theorem YG {F:Nat->Prop} {w:ai} {sh:List ay}:∀{rows:List (List Int)} {vs:List az},eD F w sh rows vs->∀u∈vs,u.oneCell'=true
 |[],vs,h,u,hu=>by
  have h:vs=[]:=h;subst h;simp at hu
 |row::rows,vs,h,u,hu=>by
  obtain⟨a,b,rfl,h2,h3⟩:=h;rcases List.mem_append.1 hu with hu|hu
  ·exact Yx h2 u hu
  ·exact YG h3 u hu
theorem ay.val_one (c:ay) (z:Int):(c.val z).oneCell'=true:=by cases c<;>rfl
theorem Yz:∀{sh:List ay} {row:List Int},∀u∈dm sh row,u.oneCell'=true
 |[],_,u,h=>by simp[dm]at h
 |_::_,[],u,h=>by simp[dm]at h
 |c::sh,z::r,u,h=>by
  simp only[dm,ks]at h;rcases h with rfl|h
  ·exact ay.val_one c z
  ·exact Yz u h
theorem MG {sh:List ay} {rows:List (List Int)}:∀u∈bn sh rows,u.oneCell'=true:=λu h=>by
 obtain⟨row,_,h⟩:=List.mem_flatMap.1 h;exact Yz u h
theorem pO.flat {cells:Array az} {off:Nat} {sh:List ay} {rows:List (List Int)} (h:pO cells off sh rows) {j:Nat} {v:az} (hj:(bn sh rows)[j]?=some v):cells[off+j]?=some v:=by
 obtain⟨h1,pre,post,h2,h3⟩:=h;have hlt:=(List.getElem?_eq_some_iff.1 hj).1;rw[<-Ga,h2,gJ,uW (by omega),rT (by omega)];rw[show off+j-pre.length=j by omega];exact hj
theorem pO.sub {cells:Array az} {off:Nat} {sh:List ay} {rows:List (List Int)} (h:pO cells off sh rows) (a k:Nat) (ha:a<=rows.length):pO cells (off+a*sh.length) sh ((rows.drop a).take k):=by
 obtain⟨h1,pre,post,h2,h3⟩:=h;refine⟨λrow hr=>h1 row (nL (j1 hr)),pre++bn sh (rows.take a),bn sh ((rows.drop a).drop k)++post,?_,?_⟩
 ·rw[h2];have:rows=rows.take a++((rows.drop a).take k++(rows.drop a).drop k):=by rw[jn,jn]
  conv=>lhs;rw[this]
  simp only[pZ,gJ]
 ·rw[dn,h3,l9 λrow hr=>h1 row (j1 hr),m5,wH ha]
theorem ie.sub {F:Nat->Prop} {w:ai} {cells:Array az} {off:Nat} {sh:List ay} {rows:List (List Int)} (h:ie F w cells off sh rows) (a k:Nat) (ha:a<=rows.length):ie F w cells (off+a*sh.length) sh ((rows.drop a).take k):=by
 obtain⟨h1,pre,vs,post,h2,h3,h4⟩:=h;obtain⟨k1,k2⟩:=h4.split a;obtain⟨k3,k4⟩:=k2.split k;refine⟨λrow hr=>h1 row (nL (j1 hr)),pre++vs.take (a*sh.length),_,(vs.drop (a*sh.length)).drop (k*sh.length)++post,?_,?_,k3⟩
 ·rw[h2];have:vs=vs.take (a*sh.length)++((vs.drop (a*sh.length)).take (k*sh.length)++(vs.drop (a*sh.length)).drop (k*sh.length)):=by rw[jn,jn]
  conv=>lhs;rw[this]
  simp only[gJ]
 ·have:=k1.len;rw[dn,h3,this,m5,wH ha]
theorem ie.vs {F:Nat->Prop} {w:ai} {cells:Array az} {off:Nat} {sh:List ay} {rows:List (List Int)} (h:ie F w cells off sh rows):∃vs,eD F w sh rows vs/\∀(j:Nat) (v:az),vs[j]?=some v->cells[off+j]?=some v:=by
 obtain⟨h1,pre,vs,post,h2,h3,h4⟩:=h;refine⟨vs,h4,λj v hj=>?_⟩;have hlt:=(List.getElem?_eq_some_iff.1 hj).1;rw[<-Ga,h2,gJ,uW (by omega),rT (by omega)];rw[show off+j-pre.length=j by omega];exact hj
section
variable {S:Nat->List Int->List Int->Prop} {L:V->Env->Prop} {n:Nat} {ρ:Env} {m:Nat->Nat} {bl:List ao} {gl:dz} {w0:cP} {P:bj}
theorem IB {e:bg}:ar S L (yh e) n ρ λag n' l=>l.aY n'/\(0<=l.den ag/\l.den ag<=1)/\e.den ρ=decide (l.den ag=1):=by
 intro A k hk;cases h:e.den ρ with
 |true=>exact⟨_,n+1,_,ku _,agree.cU _ _ _,⟨aa.eo (rU n),by simp[aa.ck,jD],by simp[aa.ck,jD]⟩,hk 1 (by decide) (by decide) (by simp[h])⟩
 |false=>exact⟨_,n+1,_,ku _,agree.cU _ _ _,⟨aa.eo (rU n),by simp[aa.ck,jD],by simp[aa.ck,jD]⟩,hk 0 (by decide) (by decide) (by simp[h])⟩
theorem CW {nb:Nat} {c:ay} {a:A} (ha:a.ok n nb ρ):ar S L (Hh c a) n ρ λag n' l=>l.aY n'/\(c.dQ.1<=l.den ag/\l.den ag<=c.dQ.2)/\c.val (l.den ag)=a.den ρ m:=by
 unfold Hh;split
 ·refine eg λhc=>ar.pure ?_;simp only[aO,decide_eq_true_eq]at hc;obtain⟨⟨h1,h2⟩,h3⟩:=hc;have h4:=ha.2;refine⟨ha.1,⟨?_,?_⟩,?_⟩
  ·simp only[ay.dQ];omega
  ·simp only[ay.dQ];omega
  ·simp only[ay.val,A.den,h1]
 ·exact ar.pure ⟨ha.1,ha.2,rfl⟩
 ·split
  ·rename_i v;refine ar.pure ⟨aa.cC _ _,?_,?_⟩
   ·simp only[ay.dQ,aa.aR];cases v<;>decide
   ·simp only[ay.val,A.den,bg.den,aa.aR];cases v<;>rfl
  ·rename_i e _;exact IB.mono λag n' l _ _ ⟨h1,h2,h3⟩=>⟨h1,h2,by simp only[ay.val,A.den,h3]⟩
 ·exact ar.pure ⟨aa.cC _ _,⟨by rw[aa.aR];exact bB _,by rw[aa.aR];exact bB _⟩,rfl⟩
 ·exact ar.fail
theorem JD {nb:Nat}:∀{sh:List ay} {l:List A} {n:Nat} {ρ:Env},(∀a∈l,A.ok n nb ρ a)->ar S L (Fu sh l) n ρ λag n' ls=>(∀x∈ls,aa.aY n' x)/\bK sh (ls.map (·.den ag))/\dm sh (ls.map (·.den ag))=l.map (A.den ρ m)
 |[],[],n,ρ,_=>ar.pure ⟨λ_ h=>by simp at h,trivial,rfl⟩
 |c::sh,a::r,n,ρ,h=>by
  have h0:=h a (by simp);refine(CW (m:=m) h0).bind λaD n1 x hn ha ⟨g1,g2,g3⟩=>(JD (nb:=nb) (sh:=sh) (l:=r) λb hb=>(h b (cD _ hb)).ext ha hn (aV _)).bind λbo n2 ls dY c7 ⟨k1,k2,k3⟩=>ar.pure ⟨λy hy=>?_,?_,?_⟩
  ·rcases List.mem_cons.1 hy with rfl|hy
   ·exact g1.mono dY
   ·exact k1 y hy
  ·simp only[cp];exact⟨by rw[aa.bG c7 g1];exact g2,k2⟩
  ·simp only[cp,dm,aa.bG c7 g1,g3,k3];rw[qh (λb hb=>h b (cD _ hb)) ha (λ_ _=>rfl)]
 |[],_::_,_,_,_=>ar.fail
 |_::_,[],_,_,_=>ar.fail
theorem CZ {w:Nat}:∀{k:Nat} {l:List A},l.length=k*w->(l5 w k l).length=k/\(l5 w k l).flatten=l
 |0,l,h=>by
  have:l=[]:=tl (by omega);subst this;exact⟨rfl,rfl⟩
 |k+1,l,h=>by
  rw[rP]at h;have ih:=CZ (w:=w) (k:=k) (l:=l.drop w) (by simp;omega);exact⟨by simp[l5,ih.1],by simp[l5,ih.2]⟩
theorem C0 {w:Nat}:∀{k:Nat} {l:List A},∀row∈l5 w k l,∀a∈row,a∈l
 |0,l,row,h,a,ha=>by simp[l5]at h
 |k+1,l,row,h,a,ha=>by
  simp only[l5,ks]at h;rcases h with rfl|h
  ·exact j1 ha
  ·exact nL (C0 row h a ha)
theorem LK {nb:Nat} {sh:List ay} (kf:lg sh=true):∀{rs:List (List A)} {n:Nat} {ρ:Env} {c:aa},(∀row∈rs,∀a∈row,A.ok n nb ρ a)->c.aY n->(0<=c.den ρ/\c.den ρ<=cc)->(∀row∈ab (c.den ρ),bK sh row)->(ab (c.den ρ)).length+rs.length<=1073741824->
 ar S L (zv sh rs c) n ρ λag n' c'=>c'.aY n'/\(0<=c'.den ag/\c'.den ag<=cc)/\∃dx,ab (c'.den ag)=ab (c.den ρ)++dx/\dx.length=rs.length/\(∀row∈dx,bK sh row)/\bn sh dx=rs.flatten.map (A.den ρ m)
 |[],n,ρ,c,_,h1,h2,_,_=>ar.pure ⟨h1,h2,[],by simp,rfl,λ_ h=>by simp at h,rfl⟩
 |row::rs,n,ρ,c,h0,h1,h2,h3,h4=>by
  refine(JD (nb:=nb) (m:=m) (sh:=sh) (l:=row) (h0 row (by simp))).bind λaD n1 ls hn ha ⟨g1,g2,g3⟩=>?_;have e1:c.den aD=c.den ρ:=aa.bG ha h1;have hf:aw 23 ((c::ls).map (·.den aD))=rc (ab (c.den ρ)++[ls.map (·.den aD)]):=by
   simp only[cp,aw,e1]
  simp only[cW]at h4;have k0:∀r∈ab (c.den ρ)++[ls.map (·.den aD)],bK sh r:=λr hr=>by
   rcases List.mem_append.1 hr with hr|hr
   ·exact h3 r hr
   ·simp at hr;subst hr;exact g2
  have hb:rc (ab (c.den ρ)++[ls.map (·.den aD)])<=cc:=vg kf (by simp;omega) k0;refine(gf (by rw[hf];exact fa _) (by rw[hf];exact hb)).bind λbo n2 c' dY c7 ⟨k1,k2⟩=>?_;rw[hf]at k2;have e2:ab (c'.den bo)=ab (c.den ρ)++[ls.map (·.den aD)]:=by rw[k2,du]
  have hA:=ha.trans c7 hn;refine(LK (nb:=nb) (rs:=rs) (c:=c') kf (λr hr a xC=>(h0 r (cD _ hr) a xC).ext hA (gk hn dY) (aV _)) k1 (by rw[k2];exact⟨fa _,hb⟩) (by rw[e2];exact k0) (by rw[e2];simp;omega)).mono λeJ n3 c3 ra pg ⟨p1,br,dx,bT,dh,dD,eB⟩=>⟨p1,br,ls.map (·.den aD)::dx,?_,by simp[dh],λr hr=>?_,?_⟩
  ·rw[bT,e2];simp
  ·rcases List.mem_cons.1 hr with rfl|hr
   ·exact g2
   ·exact dD r hr
  ·show dm sh (ls.map (·.den aD))++bn sh dx=_;rw[eB,g3,Gl,fY]
   congr 1
   refine gI λa Ah=>A.j8 (n:=n) (nb:=nb) ?_ hA (λ_ _=>rfl);obtain⟨r,hr,xC⟩:=List.mem_flatten.1 Ah;exact h0 r (cD _ hr) a xC
theorem b7.dO {n nb:Nat} {ρ ag:Env} {m:Nat->Nat} {bl:List ao} (hb:b6 n nb ρ bl) (ha:agree n ρ ag) {g:Nat} (h:b7 w0 ρ m bl g):b7 w0 ag m bl g:=
 b7.mono (λi p hi hk=>⟨i,p,hi,by rw[mi (hb _ (c0 hi)) ha]at hk;exact hk,rfl⟩) g h
theorem b7.Jy {n nb:Nat} {ρ ag:Env} {m:Nat->Nat} {bl:List ao} (hb:b6 n nb ρ bl) (ha:agree n ρ ag) {g:Nat} (h:b7 w0 ag m bl g):b7 w0 ρ m bl g:=
 b7.mono (λi p hi hk=>⟨i,p,hi,by rw[mi (hb _ (c0 hi)) ha];exact hk,rfl⟩) g h
theorem Mem.alv {w:ai} (h:Mem w0 ρ m bl w) {b:Nat} {sh:List ay} {off code cap:aa} {t:aQ×Bool} (hbl:bl[b]?=some ([.rows sh off code cap 1],t)) (hc:0<=cap.den ρ):b7 w0 ρ m bl (m b):=by
 obtain⟨g1,_⟩:=(h.rws b sh off code cap 1 t hbl (by decide)).2 hc;refine⟨g1,λi p hi hk he=>?_⟩;have iu:aP ρ [A.rows sh off code cap 1]=1:=ix (by decide) hc;rcases h.inj i b p _ hi hbl he with h1|h1|h1|h1
 ·subst h1;rw[hbl]at hi;cases hi;simp only[iu]at hk;omega
 ·omega
 ·omega
 ·simp only[iu]at h1;omega
theorem acK {cap cM:aa} {α:Type} {x:M α} {R:Env->Nat->α->Prop} (h:(0<=cap.den ρ->0<=cM.den ρ)->ar S L x n ρ R):ar S L (bind (zH cap cM) λ_=>x) n ρ R:=by
 unfold zH;cases hc:aa.beq cap cM with
 |true=>
  have:=aa.beq_eq hc;subst this;exact h λh=>h
 |false=>exact gC λhk=>h hk
theorem acU {w:ai} (hb:b6 n bl.length ρ bl) (hw:Mem w0 ρ m bl w) {c:ay} {a:A} (ha:a.ok n bl.length ρ):ar S L (L3 bl c a) n ρ λag n' l=>l.aY n'/\(c.dQ.1<=l.den ag/\l.den ag<=c.dQ.2)/\pU (b7 w0 ρ m bl) w c (l.den ag) (a.den ρ m):=by
 cases c with
 |sub k=>
  unfold L3;simp only;split
  ·rename_i b aM o ro len cap;split
   ·rename_i sh off code cM kind t hbl;refine eg λhc=>gC λhk=>gC λVF=>acK λAo=>?_;have VF:len.den ρ<=140737488351232:=by have h:len.den ρ<=(aa.const 140737488351232).den ρ:=VF;rwa [aa.aR]at h
    simp only[aO]at hc;obtain⟨⟨⟨c1,c2⟩,c3⟩,c4⟩:=hc;have c1:=bx c1;have c2:=oW c2;have c3:=aa.beq_eq c3;have c4:=bx c4
    subst c1;subst c2;subst c3;subst c4;have hk:0<=ro.den ρ/\ro.den ρ<=(ro.add len).den ρ/\(ro.add len).den ρ<=(ab (code.den ρ)).length:=hk;rw[aa.den_add]at hk;obtain⟨ptr,e1,e2,e3⟩:=oi (m:=m) ha;obtain⟨x1,⟨x2,x3,eP,iE⟩,⟨iS,ot,lk,nH⟩,⟨oo,oq⟩,fB,gT⟩:=ha;have gR:=hw.rws b _ o code cM 1 t hbl (by decide);have jd:∀row∈ab (code.den ρ),bK (mo k) row:=λrow hr=>by
     rcases hQ (cM.den ρ) 0 with h|h
     ·rw[gR.1 h]at hr;simp at hr
     ·obtain⟨_,cells,gS,fz,_,⟨_,g3⟩,_⟩:=gR.2 h;exact g3.1 row hr
    have AH:∀row∈(((ab (code.den ρ)).drop (ro.den ρ).toNat).take (len.den ρ).toNat),bK (mo k) row:=λrow hr=>jd row (nL (j1 hr));have hlen:(((ab (code.den ρ)).drop (ro.den ρ).toNat).take (len.den ρ).toNat).length=(len.den ρ).toNat:=by simp;omega
    have pn:aw 22 ([code,ro,ro.add len].map (·.den ρ))=rc (((ab (code.den ρ)).drop (ro.den ρ).toNat).take (len.den ρ).toNat):=by
     simp only[cp,er,aw,aa.den_add];have:(ro.den ρ+len.den ρ).toNat-(ro.den ρ).toNat=(len.den ρ).toNat:=by omega
     rw[this]
    have dS:rc (((ab (code.den ρ)).drop (ro.den ρ).toNat).take (len.den ρ).toNat)<=rY:=SC (k:=k) (by rw[hlen];omega) AH;refine(gf (by rw[pn];exact fa _) (by rw[pn];exact dS)).mono λaD n1 l fi dL ⟨g1,g2⟩=>⟨g1,?_,?_⟩
    ·rw[g2,pn];exact⟨fa _,dS⟩
    ·rw[g2,pn];show qG _ _ _ (ab (rc _)) _;rw[du,e1];by_cases cK:cap.den ρ<0
     ·have h0:=fB cK;rw[e2 cK,if_pos cK,h0];exact .inl ⟨⟨_,rfl⟩,by simp⟩
     ·have nk:=Ao (by omega);obtain⟨_,cells,gS,fz,q1,⟨q2,q3⟩,_⟩:=gR.2 nk;have dJ:=gT (by omega);rw[e3 (by omega),if_neg cK];exact .inr ⟨m b,_,(cap.den ρ).toNat,cells,gS,fz,by rw[hlen],⟨by rw[hlen];omega,by omega,by rw[hlen];omega⟩,hw.alv hbl nk,q1,((mA (Zp k)).1 q3).sub _ _ (by omega)⟩
   ·exact ar.fail
  ·exact ar.pure ⟨aa.cC _ _,by simp only[ay.dQ,aa.aR];exact⟨bB _,CD⟩,.inl ⟨⟨_,rfl⟩,by rw[aa.aR];exact du []⟩⟩
  ·exact ar.pure ⟨aa.cC _ _,by simp only[ay.dQ,aa.aR];exact⟨bB _,CD⟩,.inl ⟨⟨_,rfl⟩,by rw[aa.aR];exact du []⟩⟩
  ·exact ar.fail
 |int k lo hi=>exact(CW (m:=m) ha).mono λ_ _ _ _ _ ⟨h1,h2,h3⟩=>⟨h1,h2,h3.symm⟩
 |str=>exact(CW (m:=m) ha).mono λ_ _ _ _ _ ⟨h1,h2,h3⟩=>⟨h1,h2,h3.symm⟩
 |bool=>exact(CW (m:=m) ha).mono λ_ _ _ _ _ ⟨h1,h2,h3⟩=>⟨h1,h2,h3.symm⟩
 |nil=>exact(CW (m:=m) ha).mono λ_ _ _ _ _ ⟨h1,h2,h3⟩=>⟨h1,h2,h3.symm⟩
theorem P0 {w:ai}:∀{sh:List ay} {l:List A} {n:Nat} {ρ:Env},b6 n bl.length ρ bl->Mem w0 ρ m bl w->(∀a∈l,A.ok n bl.length ρ a)->ar S L (Fv bl sh l) n ρ λag n' ls=>(∀x∈ls,aa.aY n' x)/\bK sh (ls.map (·.den ag))/\dV (b7 w0 ρ m bl) w sh (ls.map (·.den ag)) (l.map (A.den ρ m))
 |[],[],n,ρ,_,_,_=>ar.pure ⟨λ_ h=>by simp at h,trivial,trivial⟩
 |c::sh,a::r,n,ρ,hb,hw,h=>by
  have h0:=h a (by simp);refine(acU hb hw h0).bind λaD n1 x hn ha ⟨g1,g2,g3⟩=>(P0 (sh:=sh) (l:=r) (hb.ext ha hn (aV _)) (hw.dO hb ha) λb hb'=>(h b (cD _ hb')).ext ha hn (aV _)).bind λbo n2 ls dY c7 ⟨k1,k2,k3⟩=>ar.pure ⟨λy hy=>?_,?_,?_⟩
  ·rcases List.mem_cons.1 hy with rfl|hy
   ·exact g1.mono dY
   ·exact k1 y hy
  ·simp only[cp];exact⟨by rw[aa.bG c7 g1];exact g2,k2⟩
  ·simp only[cp,aa.bG c7 g1];refine⟨g3,?_⟩;rw[<-qh (m:=m) (λb hb'=>h b (cD _ hb')) ha (λ_ _=>rfl)];exact k3.mono (Fr.of w λg hg=>b7.Jy hb ha hg)
 |[],_::_,_,_,_,_,_=>ar.fail
 |_::_,[],_,_,_,_,_=>ar.fail
theorem LL {w:ai} {sh:List ay} (kf:lg sh=true):∀{rs:List (List A)} {n:Nat} {ρ:Env} {c:aa},b6 n bl.length ρ bl->Mem w0 ρ m bl w->(∀row∈rs,∀a∈row,A.ok n bl.length ρ a)->c.aY n->(0<=c.den ρ/\c.den ρ<=cc)->(∀row∈ab (c.den ρ),bK sh row)->(ab (c.den ρ)).length+rs.length<=1073741824->
 ar S L (GV bl sh rs c) n ρ λag n' c'=>c'.aY n'/\(0<=c'.den ag/\c'.den ag<=cc)/\∃dx,ab (c'.den ag)=ab (c.den ρ)++dx/\dx.length=rs.length/\(∀row∈dx,bK sh row)/\eD (b7 w0 ρ m bl) w sh dx (rs.flatten.map (A.den ρ m))
 |[],n,ρ,c,_,_,_,h1,h2,_,_=>ar.pure ⟨h1,h2,[],by simp,rfl,λ_ h=>by simp at h,rfl⟩
 |row::rs,n,ρ,c,hb,hw,h0,h1,h2,h3,h4=>by
  refine(P0 (sh:=sh) (l:=row) hb hw (h0 row (by simp))).bind λaD n1 ls hn ha ⟨g1,g2,g3⟩=>?_;have e1:c.den aD=c.den ρ:=aa.bG ha h1;have hf:aw 23 ((c::ls).map (·.den aD))=rc (ab (c.den ρ)++[ls.map (·.den aD)]):=by
   simp only[cp,aw,e1]
  simp only[cW]at h4;have k0:∀r∈ab (c.den ρ)++[ls.map (·.den aD)],bK sh r:=λr hr=>by
   rcases List.mem_append.1 hr with hr|hr
   ·exact h3 r hr
   ·simp at hr;subst hr;exact g2
  have hb':rc (ab (c.den ρ)++[ls.map (·.den aD)])<=cc:=vg kf (by simp;omega) k0;refine(gf (by rw[hf];exact fa _) (by rw[hf];exact hb')).bind λbo n2 c' dY c7 ⟨k1,k2⟩=>?_;rw[hf]at k2;have e2:ab (c'.den bo)=ab (c.den ρ)++[ls.map (·.den aD)]:=by rw[k2,du]
  have hA:=ha.trans c7 hn;refine(LL (rs:=rs) (c:=c') kf (hb.ext hA (gk hn dY) (aV _)) (hw.dO hb hA) (λr hr a xC=>(h0 r (cD _ hr) a xC).ext hA (gk hn dY) (aV _)) k1 (by rw[k2];exact⟨fa _,hb'⟩) (by rw[e2];exact k0) (by rw[e2];simp;omega)).mono λeJ n3 c3 ra pg ⟨p1,br,dx,bT,dh,dD,eB⟩=>⟨p1,br,ls.map (·.den aD)::dx,?_,by simp[dh],λr hr=>?_,?_⟩
  ·rw[bT,e2];simp
  ·rcases List.mem_cons.1 hr with rfl|hr
   ·exact g2
   ·exact dD r hr
  ·refine⟨row.map (A.den ρ m),rs.flatten.map (A.den ρ m),by rw[Gl,fY],g3,?_⟩;rw[<-qh (m:=m) (n:=n) (nb:=bl.length) (λa Ah=>by
    obtain⟨r,hr,xC⟩:=List.mem_flatten.1 Ah;exact h0 r (cD _ hr) a xC) hA (λ_ _=>rfl)]
   exact eB.mono (Fr.of w λg hg=>b7.Jy hb hA hg)
def abI (P:bj) (mU:aQ) (sh:List ay) (X:az) (F:Nat->Prop) (w:ai) (old:List (List Int)) (ag:Env) (n':Nat) (p:aa×aa):Prop:=
 p.1.aY n'/\p.2.aY n'/\(0<=p.1.den ag/\p.1.den ag<=cc)/\∃dx fs,ab (p.1.den ag)=old++dx/\p.2.den ag=dx.length/\(∀row∈dx,bK sh row)/\old.length+dx.length<=1073741824/\eD F w sh dx fs/\Src P sh.length mU X dx.length fs w
theorem Zk {sh:List ay} (kf:lg sh=true) {w:ai} (hb:b6 n bl.length ρ bl) (hw:Mem w0 ρ m bl w) {mU:aQ} {x:V} {X:az} (hx:x.ok n bl.length ρ) (bJ:x.rel ρ m X) {base:aa} (p5:base.aY n)
 (qV:0<=base.den ρ/\base.den ρ<=cc) (sk:∀row∈ab (base.den ρ),bK sh row):ar S L (JR P mU sh bl x base) n ρ (abI P mU sh X (b7 w0 ρ m bl) w (ab (base.den ρ))):=by
 unfold JR;split
 ·rename_i b off len cap;split
  ·rename_i cs pW hcs Ir;obtain⟨c1,c2,c3⟩:=NB hw hb hcs;refine gC λhk=>?_;simp only[cp,er,af,aa.aR]at hk;have jP:=CZ (w:=sh.length) (k:=len) c1;refine(LL kf (rs:=l5 sh.length len cs) (c:=base) hb hw (λrow hr a ha=>c2 a (C0 row hr a ha)) p5 qV sk (by rw[jP.1];omega)).bind λaD n1 c' hn ha ⟨p1,br,dx,bT,dh,dD,eB⟩=>ar.pure ⟨p1,aa.cC _ _,br,dx,_,bT,?_,dD,by rw[dh,jP.1];omega,eB,?_⟩
   ·rw[aa.aR,dh,jP.1]
   ·have bJ:X= .slice (some ⟨m b,off,none⟩) len cap:=bJ;rw[bJ,jP.2,dh,jP.1];exact Src.ofSlice w (hL Ir) _ _ _ _ (by simpa using c1) c3 (λu hu=>by
     obtain⟨a,ha,rfl⟩:=List.mem_map.1 hu;exact A.Jc (c2 a ha))
  ·exact ar.fail
 ·rename_i b aM o ro len cap;split
  ·rename_i cH off code cM kind bS pW hbl Ir;refine eg λhc=>gC λir=>gC λhk2=>?_;simp only[aO]at hc;obtain⟨⟨⟨c1,c2⟩,c3⟩,c4⟩:=hc;have c1:0<kind:=eh c1;have c2:=oW c2;have c3:=aa.beq_eq c3;have c4:=bx c4;subst c2;subst c3;subst c4;simp only[cp,er,af,aa.den_add]at ir hk2;have py:(A.sl b sh.length o ro len cap).ok n bl.length ρ:=hx;obtain⟨ptr,e1,e2,e3⟩:=oi (m:=m) py;have bJ:X=(A.sl b sh.length o ro len cap).den ρ m:=bJ;rw[e1]at bJ;obtain⟨x1,⟨x2,x3,eP,iE⟩,⟨iS,ot,lk,nH⟩,⟨oo,oq⟩,fB,gT⟩:=py;have gR:=hw.rws b sh o code cM kind bS hbl (by omega);have jd:∀row∈ab (code.den ρ),bK sh row:=λrow hr=>by
    rcases hQ (cM.den ρ) 0 with h|h
    ·rw[gR.1 h]at hr;simp at hr
    ·obtain⟨_,cells,gS,fz,_,⟨_,g3⟩,_⟩:=gR.2 h;exact g3.1 row hr
   have AH:∀row∈(((ab (code.den ρ)).drop (ro.den ρ).toNat).take (len.den ρ).toNat),bK sh row:=λrow hr=>jd row (nL (j1 hr));have hlen:(((ab (code.den ρ)).drop (ro.den ρ).toNat).take (len.den ρ).toNat).length=(len.den ρ).toNat:=by simp;omega
   have pn:aw 22 ([code,ro,ro.add len].map (·.den ρ))=rc (((ab (code.den ρ)).drop (ro.den ρ).toNat).take (len.den ρ).toNat):=by
    simp only[cp,er,aw,aa.den_add];have:(ro.den ρ+len.den ρ).toNat-(ro.den ρ).toNat=(len.den ρ).toNat:=by omega
    rw[this]
   have HR:∃fs,eD (b7 w0 ρ m bl) w sh (((ab (code.den ρ)).drop (ro.den ρ).toNat).take (len.den ρ).toNat) fs/\Src P sh.length mU X (((ab (code.den ρ)).drop (ro.den ρ).toNat).take (len.den ρ).toNat).length fs w:=by
    rw[bJ];by_cases cK:cap.den ρ<0
    ·have h0:=fB cK;rw[e2 cK,if_pos cK,h0];simp only[Int.toNat_zero,Gm];exact⟨[],rfl,Src.alB w (hL Ir) _ 0⟩
    ·rw[e3 (by omega),if_neg cK];have hv:∃fs,eD (b7 w0 ρ m bl) w sh (((ab (code.den ρ)).drop (ro.den ρ).toNat).take (len.den ρ).toNat) fs/\∀(j:Nat) (u:az),fs[j]?=some u->w.cell? ⟨m b,(o.den ρ).toNat+(ro.den ρ).toNat*sh.length+j,none⟩=some u:=by
      rcases hQ (cM.den ρ) 0 with h|h
      ·rw[gR.1 h];exact⟨[],by simp[eD],λj u hu=>by simp at hu⟩
      ·obtain⟨_,cells,gS,fz,g1,⟨_,g3⟩,_⟩:=gR.2 h;obtain⟨fs,k1,k2⟩:=(g3.sub (ro.den ρ).toNat (len.den ρ).toNat (by omega)).vs;refine⟨fs,k1,λj u hu=>?_⟩;simp only[jI,g1,rQ,pL,if_false];exact k2 j u hu
     obtain⟨fs,k1,k2⟩:=hv;refine⟨fs,k1,?_⟩;have hl2:=k1.len;rw[hlen]at hl2⊢;refine Src.ofSlice w (hL Ir) _ _ _ _ hl2 (λj u hu=>?_) (YG k1);rw[jr];exact k2 j u hu
   obtain⟨fs,V6,HR⟩:=HR;generalize sy:(((ab (code.den ρ)).drop (ro.den ρ).toNat).take (len.den ρ).toNat)=mid at AH hlen pn HR V6;have hb1:rc mid<=cc:=vg kf (by omega) AH;refine(gf (by rw[pn];exact fa _) (by rw[pn];exact hb1)).bind λaD n1 s fi dL ⟨g1,g2⟩=>?_;rw[pn]at g2;have pX:base.den aD=base.den ρ:=aa.bG dL p5;have kc:aw 24 ([base,s].map (·.den aD))=rc (ab (base.den ρ)++mid):=by
    simp only[cp,er,aw,pX,g2,du]
   have hall:∀row∈ab (base.den ρ)++mid,bK sh row:=λrow hr=>(List.mem_append.1 hr).elim (sk row) (AH row);have hb2:rc (ab (base.den ρ)++mid)<=cc:=vg kf (by simp;omega) hall;refine(gf (by rw[kc];exact fa _) (by rw[kc];exact hb2)).bind λbo n2 c dY c7 ⟨k1,k2⟩=>ar.pure ⟨k1,eP.mono (gk fi dY),?_,mid,fs,?_,?_,AH,by omega,V6,HR⟩
   ·rw[k2,kc];exact⟨fa _,hb2⟩
   ·rw[k2,kc,du]
   ·rw[aa.bG (dL.trans c7 fi) eP,hlen];omega
  ·exact ar.fail
 ·exact ar.fail
theorem Qc (w:ai) (t mU ty e:aQ) (i:TypeInfo) (ht:P.underlying t=some (.slice e)) (hi:P.info? e=some i) (g kJ uF:Nat) (cur:Array az) (nf:aQ) (hg:w.heap[g]?=some (.cells cur nf (0,0))) (x:az) (k:Nat) (news:List az) (hs:Src P i.size mU x k news w)
 (hroom:kJ+k<=uF) (sq:kJ*i.size+news.length<=cur.size):
 (Ry #[t,mU] ty #[.slice (some ⟨g,0,none⟩) kJ uF,x]).run P w= .ok (.slice (some ⟨g,0,none⟩) (kJ+k) uF) (w.setRow g (cur.toList.take (kJ*i.size)++news++cur.toList.drop (kJ*i.size+news.length)).toArray):=by
 have hst:=run_storeCells_at P g (kJ*i.size) nf news 0 cur w hg (by simpa using sq) hs.one;simp only[lq]at hst;rcases hs.kind with⟨pW,hk⟩|hk<;>simp[Ry,fe ht,fe hk,sizeOf,typeInfo,hi,hs.len,hroom,hs.cells,Addr.add_lit,hst]
theorem wE (Z:Array az) (k:Nat):(Gn Z k).size=k*Z.size:=by simp[Gn]
theorem vx (w:ai) (Bx old:Nat) (e:aQ) (h:Bx<=1073741824):Bx<=grownCap w Bx old e/\grownCap w Bx old e<=9223372036854775807:=by
 have hlt:=Nat.mod_lt (w.tape w.drawn (.appendCap Bx old e)) (show 0<2^63-Bx by omega);simp only[grownCap,Question.cut];omega
def m7 (w0:cP) (ρ:Env) (m:Nat->Nat) (bl:List ao) (w:ai) (g:Nat):Prop:=
 ∀(i:Nat) (sh:List ay) (off code cap:aa) (kind:Nat) (t:aQ×Bool),bl[i]?=some ([.rows sh off code cap kind],t)->gL w0 ρ (λbb=>b7 w0 ρ m bl bb/\bb≠g) (m i) sh off code cap kind t.1 w
def CF (w0:cP) (ρ:Env) (m:Nat->Nat) (bl:List ao) (w:ai) (aM:Nat):Prop:=
 ∀(i:Nat) (sh:List ay) (off code cap:aa) (kind:Nat) (t:aQ×Bool),bl[i]?=some ([.rows sh off code cap kind],t)->gL w0 ρ (λbb=>b7 w0 ρ m bl bb/\bb<aM) (m i) sh off code cap kind t.1 w
theorem Mem.under {w1 w:ai} (h:Mem w0 ρ m bl w1) (he:w1.Extends w):CF w0 ρ m bl w w1.heap.size:=λi sh off code cap kind t hi=>
 (h.rws i sh off code cap kind t hi).grow (λbb h' o ho=>by
   have hlt:=(Array.getElem?_eq_some_iff.1 ho).1;exact⟨⟨h',hlt⟩,by rw[he.block bb hlt];exact ho⟩) λhk hc=>he.block _ (h.lt hi (by simp only[ix hk hc];exact hk))
theorem CF.push {w:ai} {aM g:Nat} {x:ao} (h:CF w0 ρ m bl w aM) (hg:aM<=g) (hx:bO x.1=true):CF w0 ρ (fc m bl.length g) (bl++[x]) w aM:=λi sh off code cap kind t hi=>by
 rcases Jr hi with⟨dv,h1⟩|⟨_,h1⟩
 ·rw[iD dv];exact(h i sh off code cap kind t h1).mono λbb h'=>⟨h'.1.push (.inr (by omega)),h'.2⟩
 ·subst h1;cases hx
theorem Mem.vl {w1 w:ai} {g:Nat} (h:Mem w0 ρ m bl w1) (he:w1.Extends w) (hg:w1.heap.size<=g):m7 w0 ρ m bl w g:=λi sh off code cap kind t hi=>
 (h.rws i sh off code cap kind t hi).grow (λbb h' o ho=>by
   have hlt:=(Array.getElem?_eq_some_iff.1 ho).1;exact⟨⟨h',by omega⟩,by rw[he.block bb hlt];exact ho⟩) λhk hc=>he.block _ (h.lt hi (by simp only[ix hk hc];exact hk))
theorem Mem.SZ {w:ai} {b k:Nat} {sh:List ay} {off code cap:aa} {t:aQ×Bool} (h:Mem w0 ρ m bl w) (hbl:bl[b]?=some ([.rows sh off code cap k],t)) (hk:2<=k) (hc:0<=cap.den ρ):m7 w0 ρ m (cO bl b ([.rows sh off code cap 0],t)) w (m b):=λi cH dT code' dR eT t' hi=>by
 rcases Qo hi with⟨rfl,cN,_⟩|⟨_,h1⟩
 ·cases cN
  exactλh0=>absurd rfl h0
 ·refine(h.rws i cH dT code' dR eT t' h1).mono λbb h'=>⟨h'.set hbl (by simp[aP]),λe=>?_⟩;exact h'.2 b _ hbl (by rw[ix (by omega) hc];exact hk) e.symm
theorem m7.dO {w:ai} {ag:Env} {g n':Nat} (h:m7 w0 ρ m bl w g) (hb:b6 n' bl.length ρ bl) (ha:agree n' ρ ag):m7 w0 ag m bl w g:=λi sh off code cap kind t hi=>
 ((h i sh off code cap kind t hi).dO (hb _ (c0 hi) _ (by simp)) ha).mono λbb h'=>⟨b7.dO hb ha h'.1,h'.2⟩
theorem Yg {kd:Nat} {tm:List V} {a:Act} {w:ai} {G:dc} {K:Act->ai->Prop} {k:fu} {e:aQ} {d:Option Tmp} {sh:List ay} {code len:aa} {c:Int} {g:Nat}
 (fq:2<=kd) (h:R w0 n ρ m tm bl a w) (hcs:code.aY n) (vF:len.aY n) (hc1:0<=code.den ρ/\code.den ρ<=cc) (hc:-2<=c/\c<=9223372036854775807) (n5:B1 0 0 (len.den ρ) c)
 (p9:c<0->ab (code.den ρ)=[])
 (Ea:0<=c->∃(cells:Array az) (fz:Nat×Nat),(w.heap[g]?=some (.cells cells e fz)/\tu kd fz cells.size)/\ie (λbb=>b7 w0 ρ m bl bb/\bb≠g) w cells 0 sh (ab (code.den ρ))/\cells.size=c.toNat*sh.length/\w0.b.heap.size<=g/\(w0.ex g∨w0.r.heap.size<=g))
 (kb:0<=c->m7 w0 ρ m bl w g)
 (xK:∀(i:Nat) (p:ao),bl[i]?=some p->m i=g->aP ρ p.1=0∨c<0)
 (ah:(k (n+1) (ew tm d (.w (.one (.sl bl.length sh.length (.const 0) (.const 0) len (.var n))))) (bl++[([.rows sh (.const 0) code (.var n) kd],(e,false))])).holds S L G (cU ρ n c)) (hk:jK S L w0 k n bl.length ρ m G K):
 K (a.put d (if c<0 then .slice (lR c g) 0 0 else .slice (some ⟨g,0,none⟩) (len.den ρ).toNat c.toNat)) w:=by
 have ha:agree n ρ (cU ρ n c):=agree.cU _ _ _;have iZ:=h.b;have hb1:b6 (n+1) bl.length (cU ρ n c) bl:=h.b.ext ha (ku _) (aV _);have NZ:Mem w0 (cU ρ n c) m bl w:=h.a7.dO h.b ha;have e1:code.den (cU ρ n c)=code.den ρ:=aa.bG ha hcs;have e2:len.den (cU ρ n c)=len.den ρ:=aa.bG ha vF;have e3:(aa.var n).den (cU ρ n c)=c:=by simp[aa.ck,jD]
 have hA:(A.rows sh (.const 0) code (.var n) kd).ok (n+1) bl.length (cU ρ n c):=⟨⟨aa.cC _ _,hcs.mono (ku _),aa.eo (rU n)⟩,by rw[e1];exact hc1,by rw[e3];omega⟩;have hM:=NZ.push (x:=([.rows sh (.const 0) code (.var n) kd],(e,false))) (g:=g) hb1 (λy hy=>by simp at hy;subst hy;exact hA) (λho=>by cases ho) (λcH dT code' dR eT he=>by
  cases he;intro _;refine⟨λh=>by rw[e3]at h;rw[e1];exact p9 h,λh=>?_⟩;rw[e3]at h;obtain⟨cells,fz,⟨g1,kB⟩,g2,g3,g4,g5⟩:=Ea h;exact⟨g5.elim .inl λh=> .inr (.inr h),cells,e,fz,g1,⟨by rw[aa.aR];exact bB _,by rw[e1,aa.aR];exact g2.mono (Fr.of w λbb h'=>(b7.dO iZ ha h'.1).push (.inr h'.2))⟩,λ_=>⟨rfl,aa.aR _ _,kB,by rw[e3];exact g3,g4,g5⟩⟩) (λi p hi he=>by
  rcases xK i p hi he with a8|a8
  ·exact .inr (.inl (by rw[mi (h.b _ (c0 hi)) ha];exact a8))
  ·refine .inr (.inr ?_);simp only[aP,e3];rw[if_pos a8]) (λi cH dT code' dR eT t' hi=>by
  rcases hQ c 0 with a8|a8
  ·exact NZ.JI (by simp only[aP,e3];rw[if_pos a8];decide) i cH dT code' dR eT t' hi
  ·exact((kb a8).dO h.b ha i cH dT code' dR eT t' hi).mono λbb h'=>h'.1.push (.inr h'.2))
 have bW:cR n bl.length ρ m (n+1) (bl++[([A.rows sh (.const 0) code (.var n) kd],(e,false))]).length (cU ρ n c) (fc m bl.length g):=⟨ku _,ha,by simp,λb hb=>iD hb⟩;refine hk _ _ _ _ _ G _ _ bW (dG.refl _ _) ⟨dp.put (h.t.ext bW.ha bW.hn bW.hb bW.hm) d ?_ ?_,by rw[put_defers];exact h.d,hb1.alloc (λy hy=>by simp at hy;subst hy;exact hA),hM⟩ ah
 ·refine⟨by simp,⟨aa.cC _ _,aa.cC _ _,vF.mono (ku _),aa.eo (rU n)⟩,?_⟩;rw[aa.aR,e2,e3];exact n5
 ·simp only[V.rel,W.den,A.den,e2,e3,aa.aR,jX];split<;>simp
theorem PA {kd:Nat} {tm:List V} {a:Act} {w:ai} {G:dc} {K:Act->ai->Prop} {k:fu} {e:aQ} {d:Option Tmp} {sh:List ay} {code len:aa} {c:Int} {g:Nat}
 (fq:2<=kd) (h:R w0 n ρ m tm bl a w) (hcs:code.aY n) (vF:len.aY n) (hc1:0<=code.den ρ/\code.den ρ<=cc) (hc:-2<=c/\c<=9223372036854775807) (n5:B1 0 0 (len.den ρ) c)
 (p9:c<0->ab (code.den ρ)=[])
 (Ea:0<=c->∃(cells:Array az) (fz:Nat×Nat),(w.heap[g]?=some (.cells cells e fz)/\tu kd fz cells.size)/\ie (λbb=>b7 w0 ρ m bl bb/\bb≠g) w cells 0 sh (ab (code.den ρ))/\cells.size=c.toNat*sh.length/\w0.b.heap.size<=g/\(w0.ex g∨w0.r.heap.size<=g))
 (kb:0<=c->m7 w0 ρ m bl w g)
 (xK:∀(i:Nat) (p:ao),bl[i]?=some p->m i=g->aP ρ p.1=0∨c<0)
 (ah:(Ds kd e d sh code len n tm bl k).holds S L G ρ) (hk:jK S L w0 k n bl.length ρ m G K):
 K (a.put d (if c<0 then .slice (lR c g) 0 0 else .slice (some ⟨g,0,none⟩) (len.den ρ).toNat c.toNat)) w:=by
 unfold Ds at ah;exact Yg fq h hcs vF hc1 hc n5 p9 Ea kb xK (ah c (by omega) (by omega)) hk
theorem PB {tm:List V} {a:Act} {w:ai} {G:dc} {K:Act->ai->Prop} {k:fu} {e:aQ} {d:Option Tmp} {sh:List ay} {code len:aa} {c:Int} {g:Nat}
 (h:R w0 n ρ m tm bl a w) (hcs:code.aY n) (vF:len.aY n) (hc1:0<=code.den ρ/\code.den ρ<=cc) (hc:-2<=c/\c<=9223372036854775807) (n5:B1 0 0 (len.den ρ) c)
 (p9:c<0->ab (code.den ρ)=[])
 (Ea:0<=c->∃cells:Array az,w.heap[g]?=some (.cells cells e (0,0))/\ie (λbb=>b7 w0 ρ m bl bb/\bb≠g) w cells 0 sh (ab (code.den ρ))/\cells.size=c.toNat*sh.length/\w0.b.heap.size<=g/\(w0.ex g∨w0.r.heap.size<=g))
 (kb:0<=c->m7 w0 ρ m bl w g)
 (xK:∀(i:Nat) (p:ao),bl[i]?=some p->m i=g->aP ρ p.1=0∨c<0)
 (ah:(Aa e d sh code len n tm bl k).holds S L G ρ) (hk:jK S L w0 k n bl.length ρ m G K):
 K (a.put d (if c<0 then .slice (lR c g) 0 0 else .slice (some ⟨g,0,none⟩) (len.den ρ).toNat c.toNat)) w:=
 PA (kd:=2) (aV 2) h hcs vF hc1 hc n5 p9 (λh0=>by
  obtain⟨cells,g1,g2⟩:=Ea h0;exact⟨cells,(0,0),⟨g1,.E1⟩,g2⟩) kb xK ah hk
theorem UI {tm:List V} {a:Act} {w:ai} {G:dc} {K:Act->ai->Prop} {k:fu} {e:aQ} {d:Option Tmp} {sh:List ay} {code len:aa} {rows:List (List Int)} {c:Nat} {cells:Array az}
 (h:R w0 n ρ m tm bl a w) (hcs:code.aY n) (vF:len.aY n) (hc1:0<=code.den ρ/\code.den ρ<=cc) (k0:ab (code.den ρ)=rows) (aX:∀row∈rows,bK sh row) (hlen:len.den ρ=rows.length)
 (cK:rows.length<=c) (Al:c<=9223372036854775807) (jO:cells.size=c*sh.length) (agP:∃vs post,cells.toList=vs++post/\eD (b7 w0 ρ m bl) w sh rows vs)
 (ah:(Aa e d sh code len n tm bl k).holds S L G ρ) (hk:jK S L w0 k n bl.length ρ m G K):
 K (a.put d (.slice (some ⟨w.heap.size,0,none⟩) rows.length c)) (w.drew.alloc (.cells cells e)):=by
 have pj:R w0 n ρ m tm bl a w.drew:=⟨h.t,h.d,h.b,h.a7.grow (Gc (m4 w))⟩;have hR:R w0 n ρ m tm bl a (w.drew.alloc (.cells cells e)):=⟨h.t,h.d,h.b,pj.a7.grow ((m4 w.drew).alloc _)⟩;have q5:w.Extends (w.drew.alloc (.cells cells e)):=(Gc (m4 w)).alloc _;have key:=PB (c:=(c:Int)) (g:=w.heap.size) hR hcs vF hc1 ⟨by omega,by omega⟩ (by rw[hlen];exact⟨⟨by omega,by omega,by omega,by omega⟩,⟨by omega,by omega⟩,λh=>by omega,λ_=>by omega⟩) (λh=>by omega)
  (λ_=>⟨cells,heap_alloc_new w.drew _,by
    obtain⟨vs,post,hp,kg⟩:=agP;rw[k0];refine⟨aX,[],vs,post,by simpa using hp,rfl,kg.mono λbb h' o ho=>?_⟩;have hlt:=(Array.getElem?_eq_some_iff.1 ho).1;exact⟨⟨h',by omega⟩,by rw[q5.block bb hlt];exact ho⟩,by simpa using jO,h.a7.ext.size,.inr h.a7.eu⟩) (λ_=>h.a7.vl q5 (aV _)) (λi p hi he=>by
    by_cases fx:aP ρ p.1=0
    ·exact .inl fx
    ·have:=pj.a7.lt hi fx;have a8:w.drew.heap.size=w.heap.size:=rfl;omega) ah hk
 rw[if_neg (by omega),hlen]at key;simpa using key
theorem at5 {nb:Nat} {v:V} {X:az} (h:Q9 v=true) (hv:v.ok n nb ρ) (hr:v.rel ρ m X):∃base,X= .slice base 0 0:=by
 unfold Q9 at h;split at h
 ·rename_i b aM o ro len cap;split at h
  ·rename_i l c hl hc;simp only[aO,decide_eq_true_eq]at h;have e1:=aa.iK hl (ρ:=ρ);have e2:=aa.iK hc (ρ:=ρ);have hr:X=(A.sl b aM o ro len cap).den ρ m:=hr;simp only[A.den,e1,e2,h.1,h.2]at hr;exact⟨_,hr⟩
  ·cases h
 ·rename_i b off len cap;simp only[aO]at h;have e1:=bx h.1;have e2:=bx h.2;subst e1;subst e2;exact⟨_,hr⟩
 ·exact⟨none,hr⟩
 ·cases h
theorem HC (w:ai) (size:Nat) (base:Option Addr) (c:Nat):(zg size 0 (.slice base 0 c)).run P w= .ok #[] w:=by
 cases base with
 |none=>exact run_firstCells_none w size 0 0 c
 |some b=>exact run_firstCells_some w size 0 b 0 c [] (by simp) (λj v h=>by simp at h)
theorem R.later {n':Nat} {ag:Env} {tm:List V} {a:Act} {w:ai} (h:R w0 n ρ m tm bl a w) (hn:n<=n') (ha:agree n ρ ag):R w0 n' ag m tm bl a w:=
 ⟨h.t.ext ha hn (aV _) (λ_ _=>rfl),h.d,h.b.ext ha hn (aV _),h.a7.dO h.b ha⟩
theorem fA:ab 0=[]:=du []
theorem R.kill {tm:List V} {a:Act} {w:ai} {b k:Nat} {sh:List ay} {off code cap:aa} {t:aQ×Bool} (h:R w0 n ρ m tm bl a w) (hbl:bl[b]?=some ([.rows sh off code cap k],t)):R w0 n ρ m tm (cO bl b ([.rows sh off code cap 0],t)) a w:=
 ⟨by rw[km];exact h.t,h.d,h.b.set (λy hy=>by
  simp at hy;subst hy;exact h.b _ (c0 hbl) (.rows sh off code cap k) (by simp)),h.a7.kill hbl⟩
theorem abZ {tm:List V} {a:Act} {w:ai} {G:dc} {o:Oper} {K:Act->ai->Prop} {Q:Exit->Act->ai->Prop} {k:fu} {c:Call} {s x:Operand} {t t':aQ} {qH:T}
 (h:R w0 n ρ m tm bl a w) (hop:o.op= .call c) (gY:c.callee= .builtin .append) (gE:c.args.toList=[s,x]) (pt:c.argTypes.toList=[t,t'])
 (bH:LJ P o.dst t t' (bZ tm s) (bZ tm x) n tm bl k=some qH) (ah:qH.holds S L G ρ) (hk:jK S L w0 k n bl.length ρ m G K):o.wp P a w K Q:=by
 have a1:c.args=#[s,x]:=by rw[<-lU (xs:=c.args),gE]
 have a2:c.argTypes=#[t,t']:=by rw[<-lU (xs:=c.argTypes),pt]
 have hex:execOp a.eval o=(do pure (kO (<-Ry #[t,t'] o.type #[a.eval s,a.eval x]))):=by
  simp[execOp,hop,resolve,gY,a1,a2,invoke,builtin]
 have EC:∀v w',(Ry #[t,t'] o.type #[a.eval s,a.eval x]).run P w= .ok v w'->K (a.put o.dst v) w'->o.wp P a w K Q:=λv w' h1 h2=>by
  unfold m6;simp only[hex,gm,h1,gy,hS];exact h2
 have hs:=cq h.t s;have hx:=cq h.t x;unfold LJ at bH;split at bH
 ·cases bH
 rename_i e Er;split at bH
 rotate_left
 ·cases bH
 rename_i i z hi hz;obtain⟨inf,tp,nn,n8,p7⟩:=Kc hz;rw[hi]at nn;simp only[aL]at nn;subst nn;have mN:tp.cells.size=z.length:=by
  have:=(xe p7 n bl.length ρ m).2;have:=congrArg kt this;simpa using this.symm
 split at bH
 ·
  rename_i aih;obtain⟨base,qc⟩:=at5 aih hs.1 hs.2;split at bH
  rotate_left
  ·cases bH
  rename_i sh _;cases hgd:zZ sh i z with
  |false=>simp[hgd]at bH
  |true=>
  simp only[hgd,cond_true,aL]at bH;subst bH;unfold zZ at hgd;simp only[aO]at hgd;obtain⟨⟨⟨d1,d2⟩,d3⟩,d4⟩:=hgd;have d2:=bx d2;have d3:=bx d3;have d4:=eh d4;unfold Ux at ah;have e0:(aa.const 0).den ρ=0:=aa.aR _ _;obtain⟨ag,n',p,hn,ha,⟨q1,q2,q3,dx,fs,db,iQ,lO,rD,sS,mm⟩,ah⟩:=(Zk (P:=P) d1 h.b h.a7 hx.1 hx.2 (aa.cC _ _) (by rw[e0];exact⟨bB _,by have:=oF (l:=[]) (by simp) (by simp);exact pJ (fa []) this⟩) (by rw[e0,fA];simp)) G _ ah;rw[e0,fA,jH]at db;rw[e0,fA]at rD;simp only[eH,Nat.zero_add]at rD;have nT:=h.later hn ha;have jt:=hk.later (G1:=G) (⟨hn,ha,aV _,λ_ _=>rfl⟩:cR n bl.length ρ m n' bl.length ag m) (dG.refl _ _);rw[<-d2]at mm;have hnone:dx.length=0->(k n' (ew tm o.dst (bZ tm s)) bl).holds S L G ag->o.wp P a w K Q:=λh0 H5=>by
   have jc:dx=[]:=tl h0;subst jc;have hv0:fs=[]:=sS;subst hv0;refine EC _ _ (by rw[qc];exact run_append_nothing w t t' o.type e i (hL Er) hi base 0 0 (aV _) _ mm) ?_;refine jt n' ag m _ bl G _ w (cR.refl _ _ _ _) (dG.refl _ _) ⟨dp.put nT.t o.dst (cq nT.t s).1 ?_,by rw[put_defers];exact h.d,nT.b,nT.a7⟩ H5;rw[<-qc];exact(cq nT.t s).2
  have hgrow:0<dx.length->(Aa e o.dst sh p.1 p.2 n' tm bl k).holds S L G ag->o.wp P a w K Q:=λh0 H5=>by
   have DU:=vx w (0+dx.length) 0 e (by omega);refine EC _ _ (by rw[qc];exact run_append_grow_src w t t' o.type e i tp (hL Er) hi n8 base 0 0 [] (HC _ _ _ _) _ _ _ mm (by omega) (by omega) (growslice_fits (by omega) (by
    have:=aao (show 0+dx.length<=1073741824 by omega) d4;omega))) ?_
   have key:=UI (c:=grownCap w (0+dx.length) 0 e) (cells:=([]++fs).toArray++Gn tp.cells (grownCap w (0+dx.length) 0 e-(0+dx.length))) nT q1 q2 q3 db lO iQ (by omega) DU.2 (by
    have:=mm.newsLen;rw[aaK,wE,mN,d3,tj,jH,this,d2,<-u5]
    congr 1;omega) ⟨fs,(Gn tp.cells (grownCap w (0+dx.length) 0 e-(0+dx.length))).toList,by simp,sS.mono (Fr.of w λg hg=>b7.dO h.b ha hg)⟩ H5 jt
   simpa using key
  split at ah
  ·rename_i hc0;have:=aa.iK hc0 (ρ:=ag);exact hnone (by omega) ah
  ·rename_i acL hc0 hne;have:=aa.iK hne (ρ:=ag);exact hgrow (by
    have:acL≠0:=λe=>hc0 e;omega) ah
  ·simp only[T.holds,bg.den,aa.aR,decide_eq_true_eq,decide_eq_false_iff_not]at ah;by_cases h0:dx.length=0
   ·exact hnone h0 (ah.1 (by omega))
   ·exact hgrow (by omega) (ah.2 (by omega))
 ·split at bH
  rotate_left
  ·cases bH
  rename_i b aM off ro len cap mM;split at bH
  rotate_left
  ·cases bH
  rename_i sh dT code cM kind bS hbl;cases hgd:(zZ sh i z&&aH kind 2&&aa.beq off (.const 0)&&aa.beq dT (.const 0)&&aa.beq ro (.const 0)&&aa.beq cap cM&&aH bS.1 e)with
  |false=>rw[hgd]at bH;cases bH
  |true=>
  rw[hgd]at bH;simp only[cond_true,aL]at bH;subst bH;simp only[aO]at hgd;obtain⟨⟨⟨⟨⟨⟨hgd,k2⟩,b1⟩,b2⟩,b3⟩,b4⟩,pQ⟩:=hgd;have pQ:=bx pQ;have k2:=bx k2;have b1:=aa.beq_eq b1;have b2:=aa.beq_eq b2;have b3:=aa.beq_eq b3;have b4:=aa.beq_eq b4;subst k2;subst b1;subst b2;subst b3;subst b4;unfold zZ at hgd;simp only[aO]at hgd;obtain⟨⟨⟨d1,d2⟩,d3⟩,d4⟩:=hgd;have d2:=bx d2;have d3:=bx d3;have d4:=eh d4;obtain⟨D7,ah⟩:=ah;simp only[cp,er,af]at D7;rw[mM]at hs;have sA:(A.sl b aM (.const 0) (.const 0) len cap).ok n bl.length ρ:=hs.1;obtain⟨ptr,e1,e2,e3⟩:=oi (m:=m) sA;have qc:a.eval s=(A.sl b aM (.const 0) (.const 0) len cap).den ρ m:=hs.2;rw[e1]at qc;obtain⟨x1,⟨x2,x3,eP,iE⟩,⟨iS,ot,lk,nH⟩,⟨oo,oq⟩,fB,gT⟩:=sA;rw[aa.aR]at oq;have gR:=h.a7.rws b sh (.const 0) code cap 2 bS hbl (by decide);have e4:(A.rows sh (.const 0) code cap 2).ok n bl.length ρ:=h.b _ (c0 hbl) _ (by simp);obtain⟨⟨r1,r2,r3⟩,fL,cS⟩:=e4;have jd:∀row∈ab (code.den ρ),bK sh row:=λrow hr=>by
   rcases hQ (cap.den ρ) 0 with h|h
   ·rw[gR.1 h]at hr;simp at hr
   ·obtain⟨_,cells,gS,fz,_,⟨_,g3⟩,_⟩:=gR.2 h;exact g3.1 row hr
  obtain⟨ag,n',p,hn,ha,⟨q1,q2,q3,dx,fs,db,iQ,lO,rD,sS,mm⟩,ah⟩:=(Zk (P:=P) d1 h.b h.a7 hx.1 hx.2 r2 fL jd) G _ ah;rw[<-d2]at mm;generalize k0:ab (code.den ρ)=rows at*;have D8:=h.kill hbl;have nT:=D8.later hn ha;have hb1:=km bl b ([.rows sh (.const 0) code cap 0],bS);have jt:jK S L w0 k n' (cO bl b ([.rows sh (.const 0) code cap 0],bS)).length ag m G K:=by
   rw[hb1];exact hk.later (⟨hn,ha,aV _,λ_ _=>rfl⟩:cR n bl.length ρ m n' bl.length ag m) (dG.refl _ _)
  have Ib:(len.add p.2).den ag=(rows++dx).length:=by
   rw[aa.den_add,aa.bG ha eP,iQ,D7];simp
  have hall:∀row∈rows++dx,bK sh row:=λrow hr=>(List.mem_append.1 hr).elim (jd row) (lO row);have e6:=mm.newsLen;have Ic:(len.den ρ).toNat=rows.length:=by omega
  have gM:cap.den ag=cap.den ρ:=aa.bG ha iE;have Ay:(len.add p.2).aY n':=aa.rH (eP.mono hn) q2;have H7:(rows++dx).length=rows.length+dx.length:=dn;have DG:∀bb,b7 w0 ρ m bl bb->b7 w0 ag m (cO bl b ([.rows sh (.const 0) code cap 0],bS)) bb:=λbb h'=>b7.dO (h.kill hbl).b ha (h'.set hbl (by simp[aP]));by_cases hroom:((rows.length+dx.length:Nat):Int)<=cap.den ρ∨(cap.den ρ<0/\dx.length=0)
  ·by_cases hc0:cap.den ρ<0
   ·
    have jc:dx.length=0:=by rcases hroom with h|h<;>omega
    have jc:dx=[]:=tl jc;subst jc;have hv0:fs=[]:=sS;subst hv0;have Og:rows=[]:=gR.1 hc0;subst Og;have hl0:=fB hc0;refine EC _ _ (by rw[qc,e2 hc0,if_pos hc0,hl0];exact run_append_nothing w t t' o.type e i (hL Er) hi (lR (cap.den ρ) (m b)) 0 0 (aV _) _ mm) ?_;have key:=PB (c:=cap.den ρ) (g:=m b) nT q1 Ay q3 ⟨by omega,by omega⟩ (by rw[Ib];exact⟨⟨by omega,by omega,by omega,by omega⟩,⟨by omega,by omega⟩,λh=>by simp,λh=>by omega⟩) (λ_=>by rw[db];rfl) (λh=>by omega) (λh=>by omega) (λ_ _ _ _=> .inr (by omega)) ah jt;rw[if_pos hc0]at key;exact key
   ·
    obtain⟨_,cells,gS,fz,g1,⟨g2,g3⟩,g4⟩:=gR.2 (by omega);obtain⟨g0,g5,g6,g7,g8,g9⟩:=g4 (by decide);subst g0;have g6:=g6.two;subst g6;rw[aa.aR]at g3;obtain⟨_,pre,vs,post,g10,g11,g12⟩:=g3;have hV:vs.length=rows.length*i.size:=by rw[g12.len,d2]
    have gD:pre=[]:=tl (by simpa using g11);subst gD;simp only[jH]at g10;have hsz:cells.size=vs.length+post.length:=by rw[<-wL,g10,dn]
    have VV:rows.length+dx.length<=(cap.den ρ).toNat:=by rcases hroom with h|h<;>omega
    have sq:rows.length*i.size+fs.length<=cells.size:=by
     rw[e6,g7,<-u5,d2];exact aaL _ VV
    have hrun:=Qc w t t' o.type e i (hL Er) hi (m b) rows.length (cap.den ρ).toNat cells bS.1 g1 _ _ _ mm VV sq;have ahT:a.eval s= .slice (some ⟨m b,0,none⟩) rows.length (cap.den ρ).toNat:=by
     rw[qc,e3 (by omega),if_neg hc0,Ic,aa.aR];simp
    refine EC _ _ (by rw[ahT];exact hrun) ?_;have iv:(cells.toList.take (rows.length*i.size)++fs++cells.toList.drop (rows.length*i.size+fs.length))=(vs++fs)++cells.toList.drop (rows.length*i.size+fs.length):=by
     rw[g10,Ge (by omega),<-hV,Rm]
    rw[iv];have Ie:=h.a7.put (kd:=2) (cells:=cells) (fz:=(0,0)) (code':=code) (by decide) hbl (by omega) (row:=((vs++fs)++cells.toList.drop (rows.length*i.size+fs.length)).toArray) (λ_=>⟨λh=>by omega,λ_=>⟨g9.elim .inl λh=> .inr (.inr h),_,_,(0,0),Gk w (m b) _ _ _ _ g1,⟨g2,by
     rw[k0,aa.aR];exact⟨jd,[],vs,fs++cells.toList.drop (rows.length*i.size+fs.length),by simp,rfl,g12.mono (b7.pd hbl (by rw[ix (by decide) (by omega)];exact aV 2))⟩⟩,λ_=>⟨rfl,g5,.E1,by
     rw[<-g7];simp only[tj,dn,qB,wL];omega,g8,g9⟩⟩⟩)
    have ahR:cO bl b ([.rows sh (.const 0) code cap 2],bS)=bl:=by
     rw[iC];exact aaM λj=>by
      rw[oy];split
      ·rename_i hj;subst hj
       first|exact hbl.symm|(rw[if_pos (List.getElem?_eq_some_iff.1 hbl).1];exact hbl.symm)
      ·rfl
    rw[ahR]at Ie;have tW:R w0 n ρ m tm bl a (w.setRow (m b) ((vs++fs)++cells.toList.drop (rows.length*i.size+fs.length)).toArray):=⟨h.t,h.d,h.b,Ie⟩;have afb:=(tW.kill hbl).later hn ha;have D1:Fr (b7 w0 ρ m bl) w (λbb=>b7 w0 ag m (cO bl b ([A.rows sh (.const 0) code cap 0],bS)) bb/\bb≠m b) (w.setRow (m b) (vs++fs++cells.toList.drop (rows.length*i.size+fs.length)).toArray):=λbb h' o ho=>by
     have hne:m b≠bb:=h'.2 b _ hbl (by rw[ix (by decide) (by omega)];exact aV 2);exact⟨⟨DG bb h',λe=>hne e.symm⟩,by rw[zf w (m b) bb _ (by first|exact hne|exactλe=>hne e.symm)];exact ho⟩
    have key:=PB (e:=e) (d:=o.dst) (c:=cap.den ρ) (g:=m b) afb q1 Ay q3 ⟨by omega,by omega⟩ (by rw[Ib,H7];exact⟨⟨by omega,by omega,by omega,by omega⟩,⟨by omega,by omega⟩,λh=>by omega,λh=>by omega⟩) (λh=>by omega)
     (λ_=>⟨_,by rw[<-pQ];exact Gk w (m b) _ _ _ _ g1,by
       rw[db];refine⟨hall,[],vs++fs,cells.toList.drop (rows.length*i.size+fs.length),by simp,rfl,Qa (g12.mono D1) (sS.mono D1)⟩,by
       rw[<-g7];simp only[tj,dn,qB,wL];omega,g8,g9⟩) (λ_=>((tW.a7.SZ hbl (by decide) (by omega)).dO (tW.kill hbl).b ha)) (λj q hj he=>by
       by_cases D6:j=b
       ·subst D6;rw[iC,aap (List.getElem?_eq_some_iff.1 hbl).1]at hj;simp only[aL]at hj;subst hj;exact .inl (by simp[aP])
       ·rw[iC,Rk (λe=>D6 e.symm)]at hj;have iu:aP ρ [A.rows sh (.const 0) code cap 2]=2:=ix (by decide) (by omega);have ag8:aP ρ q.1=0:=by
         rcases h.a7.inj j b q _ hj hbl he with a8|a8|a8|a8
         ·exact absurd a8 D6
         ·have:=a8.2;simp only[iu]at this;omega
         ·exact a8
         ·simp only[iu]at a8;omega
        exact .inl (by rw[mi (h.b _ (c0 hj)) ha];exact ag8)) ah jt
    rw[if_neg hc0,Ib,H7,eW]at key;exact key
  ·
   have H4:(if cap.den ρ<0 then 0 else(cap.den ρ).toNat)<rows.length+dx.length:=by
    split
    ·rename_i hc;have:¬dx.length=0:=λe=>hroom (.inr ⟨hc,e⟩);omega
    ·omega
   have hold:∃vs,eD (b7 w0 ρ m bl) w sh rows vs/\(zg i.size rows.length (.slice ptr rows.length (if cap.den ρ<0 then 0 else(cap.den ρ).toNat))).run P w.drew= .ok vs.toArray w.drew:=by
    by_cases hc:cap.den ρ<0
    ·have Og:rows=[]:=gR.1 hc;subst Og;exact⟨[],rfl,HC _ _ _ _⟩
    ·obtain⟨_,cells,gS,fz,g1,⟨g2,g3⟩,g4⟩:=gR.2 (by omega);obtain⟨vs,kg,ah3⟩:=g3.vs;refine⟨vs,kg,?_⟩;rw[e3 (by omega)];refine run_firstCells_some w.drew i.size rows.length _ rows.length _ vs (by rw[kg.len,d2]) λj v hv=>?_;rw[jr,aa.aR];have:=ah3 j v hv;rw[aa.aR]at this;have kB:w.drew.heap[m b]?=some (.cells cells gS fz):=g1;simp only[jI,kB,rQ,pL,if_false];simpa using this
   obtain⟨vs,kg,hold⟩:=hold;have hV:vs.length=rows.length*i.size:=by rw[kg.len,d2]
   have DU:=vx w (rows.length+dx.length) (if cap.den ρ<0 then 0 else(cap.den ρ).toNat) e rD;refine EC _ _ (by rw[qc,Ic];exact run_append_grow_src w t t' o.type e i tp (hL Er) hi n8 ptr rows.length _ vs hold _ _ _ mm H4 (by omega) (growslice_fits H4 (by
    have:=aao rD d4;omega))) ?_
   have key:=UI (e:=e) (d:=o.dst) (c:=grownCap w (rows.length+dx.length) (if cap.den ρ<0 then 0 else(cap.den ρ).toNat) e) (cells:=(vs++fs).toArray++Gn tp.cells (grownCap w (rows.length+dx.length) (if cap.den ρ<0 then 0 else(cap.den ρ).toNat) e-(rows.length+dx.length))) nT q1 Ay q3 db hall Ib (by rw[H7];exact DU.1) DU.2 (by
    rw[aaK,wE,mN,d3,tj,dn,hV,e6,<-u5,d2,<-u5]
    congr 1;omega) ⟨vs++fs,(Gn tp.cells (grownCap w (rows.length+dx.length) (if cap.den ρ<0 then 0 else(cap.den ρ).toNat) e-(rows.length+dx.length))).toList,by simp,Qa (kg.mono (Fr.of w DG)) (sS.mono (Fr.of w DG))⟩ ah jt
   rw[H7]at key;exact key
theorem Mem.low {ρ:Env} {m:Nat->Nat} {bl:List ao} {w:ai} {b k:Nat} {sh:List ay} {off code cap:aa} {t:aQ×Bool} (h:Mem w0 ρ m bl w) (hbl:bl[b]?=some ([.rows sh off code cap (k+1)],t)):Mem w0 ρ m (cO bl b ([.rows sh off code cap 1],t)) w:=by
 have lF:b<bl.length:=(List.getElem?_eq_some_iff.1 hbl).1;have c9:∀(i:Nat) (p:ao),(cO bl b ([.rows sh off code cap 1],t))[i]?=some p->(i=b/\p=([.rows sh off code cap 1],t))∨(i≠b/\bl[i]?=some p):=λi p hi=>by
  rw[iC,oy]at hi;split at hi
  ·rename_i eC;subst eC;simp only[lF,if_true,aL]at hi;exact .inl ⟨rfl,hi.symm⟩
  ·rename_i eC;exact .inr ⟨λe=>eC e.symm,hi⟩
 have hk:∀(i:Nat) (p:ao),(cO bl b ([.rows sh off code cap 1],t))[i]?=some p->∃p',bl[i]?=some p'/\aP ρ p.1<=aP ρ p'.1/\(aP ρ p'.1≠0->True):=λi p hi=>by
  rcases c9 i p hi with⟨rfl,rfl⟩|⟨hne,hi⟩
  ·refine⟨_,hbl,?_,λ_=>trivial⟩;simp only[aP];split<;>omega
  ·exact⟨p,hi,aV _,λ_=>trivial⟩
 have ir:2<=aP ρ [A.rows sh off code cap 1]->2<=aP ρ [A.rows sh off code cap (k+1)]:=λh2=>by
  simp only[aP]at h2;split at h2<;>omega
 refine⟨h.ext,h.jb,h.je,h.iw,h.eu,h.gg,λi iX t' hi ho=>?_,λi cH dT code' dR eT t' hi=>?_,λi j p q hi hj he=>?_⟩
 ·rcases c9 i _ hi with⟨rfl,cN⟩|⟨hne,hi⟩
  ·cases cN;cases ho
  ·exact h.blk i iX t' hi ho
 ·rcases c9 i _ hi with⟨rfl,cN⟩|⟨hne,hi⟩
  ·cases cN;intro _;obtain⟨g1,g2⟩:=h.rws i _ _ _ _ (k+1) _ hbl (by omega);refine⟨g1,λhc=>?_⟩;obtain⟨g3,cells,gS,fz,g4,⟨g5,g6⟩,_⟩:=g2 hc;exact⟨g3,cells,gS,fz,g4,⟨g5,g6.mono (Fr.of w λbb h'=>h'.set hbl ir)⟩,λh2=>by omega⟩
  ·exact(h.rws i cH dT _ dR eT t' hi).mono λbb h'=>h'.set hbl ir
 ·obtain⟨p',h1,h2,_⟩:=hk i p hi;obtain⟨q',h3,h4,_⟩:=hk j q hj;rcases h.inj i j p' q' h1 h3 he with h5|h5|h5|h5
  ·exact .inl h5
  ·exact .inr (.inl ⟨by omega,by omega⟩)
  ·exact .inr (.inr (.inl (by omega)))
  ·exact .inr (.inr (.inr (by omega)))
theorem R.low {tm:List V} {a:Act} {w:ai} {b k:Nat} {sh:List ay} {off code cap:aa} {t:aQ×Bool} (h:R w0 n ρ m tm bl a w) (hbl:bl[b]?=some ([.rows sh off code cap (k+1)],t)):R w0 n ρ m tm (cO bl b ([.rows sh off code cap 1],t)) a w:=
 ⟨by rw[km];exact h.t,h.d,h.b.set (λy hy=>by
  simp at hy;subst hy;exact h.b _ (c0 hbl) (.rows sh off code cap (k+1)) (by simp)),h.a7.low hbl⟩
theorem Xl {tm:List V} {a:Act} {w:ai} (h:R w0 n ρ m tm bl a w) (x:A):R w0 n ρ m tm (EW bl x) a w/\(EW bl x).length=bl.length:=by
 unfold EW;split
 ·split
  ·rename_i hbl;exact⟨h.low (k:=1) hbl,by rw[km]⟩
  ·exact⟨h,rfl⟩
 ·exact⟨h,rfl⟩
theorem Pd {tm:List V} {a:Act} {w:ai}:∀(l:List A) {bl:List ao},R w0 n ρ m tm bl a w->R w0 n ρ m tm (vU bl l) a w/\(vU bl l).length=bl.length
 |[],bl,h=>⟨h,rfl⟩
 |x::r,bl,h=>by
  obtain⟨h1,h2⟩:=Xl h x;obtain⟨h3,h4⟩:=Pd r h1;exact⟨h3,h4.trans h2⟩
theorem akw {tm:List V} {a:Act} {w:ai} (h:R w0 n ρ m tm bl a w) (x:V):R w0 n ρ m tm (IV bl x) a w/\(IV bl x).length=bl.length:=by
 unfold IV;split
 ·split
  ·exact Pd _ h
  ·exact⟨h,rfl⟩
 ·exact⟨h,rfl⟩
theorem aqi {tm:List V} {a:Act} {w:ai} {G:dc} {o:Oper} {K:Act->ai->Prop} {Q:Exit->Act->ai->Prop} {k:fu} {qH:T}
 (h:R w0 n ρ m tm bl a w) (bH:QB P o n tm bl k=some qH) (ah:qH.holds S L G ρ) (hk:jK S L w0 k n bl.length ρ m G K):o.wp P a w K Q:=by
 unfold QB at bH;split at bH
 ·rename_i c ho;split at bH
  ·rename_i hc;split at bH
   ·rename_i s x t t' gE pt;obtain⟨h',hlen⟩:=akw h (bZ tm x);exact abZ h' ho hc gE pt bH ah (by rw[hlen];exact hk)
   ·cases bH
  ·cases bH
 ·cases bH
end
end Go.ba
namespace Go.ba
open M
theorem Fx:∀{s1 s2:List ay} {l1 l2:List Int},l1.length=s1.length->dm (s1++s2) (l1++l2)=dm s1 l1++dm s2 l2
 |[],_,[],_,_=>rfl
 |c::s1,s2,z::l1,l2,h=>by
  simp only[ti,dm,Fx (s1:=s1) (s2:=s2) (l1:=l1) (l2:=l2) (by simpa using h)]
 |[],_,_::_,_,h=>by simp at h
 |_::_,_,[],_,h=>by simp at h
theorem CE:∀{s1 s2:List ay} {l1 l2:List Int},l1.length=s1.length->(bK (s1++s2) (l1++l2)↔bK s1 l1/\bK s2 l2)
 |[],_,[],_,_=>by simp[bK]
 |c::s1,s2,z::l1,l2,h=>by
  simp only[ti,bK,CE (s1:=s1) (s2:=s2) (l1:=l1) (l2:=l2) (by simpa using h),and_assoc]
 |[],_,_::_,_,h=>by simp at h
 |_::_,_,[],_,h=>by simp at h
theorem YD {sh:List ay} {row ls:List Int} {j s:Nat} (h:bK sh row) (hl:bK ((sh.drop j).take s) ls) (hj:j+s<=sh.length):
 bK sh (row.take j++ls++row.drop (j+ls.length))/\dm sh (row.take j++ls++row.drop (j+ls.length))=(dm sh row).take j++dm ((sh.drop j).take s) ls++(dm sh row).drop (j+s):=by
 have hlen:=h.len;have Eb:ls.length=s:=by rw[hl.len];simp;omega
 have e:sh=sh.take j++((sh.drop j).take s++sh.drop (j+s)):=by
  rw[<-Cs,jn,jn]
 have tO:row=row.take j++((row.drop j).take s++row.drop (j+s)):=by
  rw[<-Cs,jn,jn]
 have l1:(row.take j).length=(sh.take j).length:=by simp[hlen]
 have l2:((row.drop j).take s).length=((sh.drop j).take s).length:=by simp[hlen]
 have l3:ls.length=((sh.drop j).take s).length:=hl.len;have h0:bK (sh.take j++((sh.drop j).take s++sh.drop (j+s))) (row.take j++((row.drop j).take s++row.drop (j+s))):=by rw[<-e,<-tO];exact h
 rw[CE l1,CE l2]at h0;have hv:dm sh row=dm (sh.take j) (row.take j)++(dm ((sh.drop j).take s) ((row.drop j).take s)++dm (sh.drop (j+s)) (row.drop (j+s))):=by
  conv=>lhs;rw[e,tO]
  rw[Fx l1,Fx l2]
 have k1:(dm (sh.take j) (row.take j)).length=j:=by rw[Fy h0.1];simp;omega
 have k2:(dm ((sh.drop j).take s) ((row.drop j).take s)).length=s:=by rw[Fy h0.2.1];simp;omega
 rw[Eb];refine⟨?_,?_⟩
 ·rw[gJ]
  conv=>lhs;rw[e]
  rw[CE l1,CE l3];exact⟨h0.1,hl,h0.2.2⟩
 ·rw[gJ]
  conv=>lhs;rw[e]
  have ht:(dm sh row).take j=dm (sh.take j) (row.take j):=by rw[hv];exact List.take_left' k1
  have hd:(dm sh row).drop (j+s)=dm (sh.drop (j+s)) (row.drop (j+s)):=by
   rw[hv,<-gJ];exact List.drop_left' (by rw[dn,k1,k2])
  rw[Fx l1,Fx l3,ht,hd,gJ]
theorem P5 {F:Nat->Prop} {w:ai}:∀{s1 s2:List ay} {l1 l2:List Int} {v1 v2:List az},dV F w s1 l1 v1->dV F w s2 l2 v2->dV F w (s1++s2) (l1++l2) (v1++v2)
 |[],_,[],_,[],_,_,h=>h
 |c::s1,s2,z::l1,l2,v::v1,v2,h1,h2=>⟨h1.1,P5 h1.2 h2⟩
 |[],_,_::_,_,_,_,h,_=>h.elim
 |[],_,[],_,_::_,_,h,_=>h.elim
 |_::_,_,[],_,_,_,h,_=>h.elim
 |_::_,_,_::_,_,[],_,h,_=>h.elim
theorem dV.split {F:Nat->Prop} {w:ai}:∀(j:Nat) {sh:List ay} {row:List Int} {vs:List az},dV F w sh row vs->dV F w (sh.take j) (row.take j) (vs.take j)/\dV F w (sh.drop j) (row.drop j) (vs.drop j)
 |0,sh,row,vs,h=>⟨trivial,h⟩
 |j+1,[],[],[],h=>⟨trivial,trivial⟩
 |j+1,c::sh,z::r,v::vs,h=>⟨⟨h.1,(dV.split j h.2).1⟩,(dV.split j h.2).2⟩
 |_+1,[],_::_,_,h=>h.elim
 |_+1,[],[],_::_,h=>h.elim
 |_+1,_::_,[],_,h=>h.elim
 |_+1,_::_,_::_,[],h=>h.elim
theorem dV.Xa {F:Nat->Prop} {w:ai}:∀{sh:List ay} {row:List Int} {vs:List az},dV F w sh row vs->row.length=sh.length
 |[],[],[],_=>rfl
 |c::sh,z::r,v::vs,h=>by simp[dV.Xa h.2]
 |[],_::_,_,h=>h.elim
 |[],[],_::_,h=>h.elim
 |_::_,[],_,h=>h.elim
 |_::_,_::_,[],h=>h.elim
theorem apq {F:Nat->Prop} {w:ai} {sh:List ay} {row ls:List Int} {vs us:List az} {j s:Nat} (h:dV F w sh row vs) (hl:dV F w ((sh.drop j).take s) ls us) (hj:j+s<=sh.length):dV F w sh (row.take j++ls++row.drop (j+ls.length)) (vs.take j++us++vs.drop (j+us.length)):=by
 have e:sh=sh.take j++(sh.drop j).take s++sh.drop (j+s):=by
  rw[gJ,<-Cs,jn,jn]
 have hs:((sh.drop j).take s).length=s:=by simp;omega
 have h1:=hl.Xa;have h2:=hl.len;rw[hs]at h1 h2;rw[h1,h2];have key:=P5 (P5 (h.split j).1 hl) (h.split (j+s)).2;rw[<-e]at key;exact key
theorem eD.cut {F:Nat->Prop} {w:ai} {sh:List ay}:∀{rows:List (List Int)} {vs:List az} {i:Nat} {row:List Int},eD F w sh rows vs->rows[i]?=some row->∃A B C,vs=A++(B++C)/\A.length=i*sh.length/\dV F w sh row B/\∀wh rV,dV F w sh wh rV->eD F w sh (rows.set i wh) (A++(rV++C))
 |r::rs,vs,0,row,h,hi=>by
  simp only[m1,aL]at hi;subst hi;obtain⟨a,b,rfl,h2,h3⟩:=h;exact⟨[],a,b,rfl,by simp,h2,λwh rV h'=>⟨rV,b,rfl,h',h3⟩⟩
 |r::rs,vs,i+1,row,h,hi=>by
  obtain⟨a,b,rfl,h2,h3⟩:=h;obtain⟨A,B,C,rfl,k1,k2,k3⟩:=eD.cut (i:=i) h3 (by simpa using hi);exact⟨a++A,B,C,by simp,by rw[dn,h2.len,k1,rP,Nat.add_comm],k2,λwh rV h'=>⟨a,A++(rV++C),by simp,h2,k3 wh rV h'⟩⟩
 |[],_,_,_,_,hi=>by simp at hi
theorem Qf {P:bj} (g o:Nat) (t:aQ) (fz:Nat×Nat) (kd:Nat):∀(vs:List az) (i:Nat) (cur:Array az) (w:ai),tu kd fz cur.size->w.heap[g]?=some (.cells cur t fz)->o+i+vs.length<=cur.size->(∀v∈vs,v.oneCell'=true)->
 (storeCells ⟨g,o,none⟩ vs i).run P w= .ok () (w.setRow g (cur.toList.take (o+i)++vs++cur.toList.drop (o+i+vs.length)).toArray)
 |[],i,cur,w,_,hg,_,_=>by
  simp only[storeCells,ln,eH,lq,jn,lU];rw[setRow_self w g cur t fz hg];rfl
 |v::rest,i,cur,w,H3,hg,hl,h1=>by
  have hi:o+i<cur.size:=by simp at hl;omega
  have hcell:w.cell? ⟨g,o+i,none⟩=some cur[o+i]:=by simp[jI,hg,hi]
  have agR:w.frozen? ⟨g,o+i,none⟩=false:=by
   rcases H3 with⟨_,rfl⟩|⟨_,rfl⟩
   ·simp[tf,hg]
   ·simp[tf,hg];omega
  have hst:(store ((⟨g,o,none⟩:Addr).add i) v).run P w= .ok () (w.setRow g (cur.setIfInBounds (o+i) v)):=by
   rw[jr,run_store P w _ v _ (h1 v (by simp)),hcell];simp[agR,setCell_eq_setRow w g (o+i) cur t fz v hg]
  have ih:=Qf (P:=P) g o t fz kd rest (i+1) (cur.setIfInBounds (o+i) v) (w.setRow g (cur.setIfInBounds (o+i) v)) (by simpa using H3) (Gk w g cur _ t _ hg) (by simp at hl⊢;omega) (λx hx=>h1 x (by simp[hx]));simp only[storeCells,gm,hst,gy,ih,setRow_setRow]
  congr 3
  have e:=list_seg_step cur.toList (o+i) v rest (by simp at hl⊢;omega);simpa [Array.toList_setIfInBounds,Nat.add_assoc]using e
section
variable {S:Nat->List Int->List Int->Prop} {L:V->Env->Prop} {n:Nat} {ρ:Env} {m:Nat->Nat} {bl:List ao} {gl:dz} {w0:cP} {P:bj}
theorem WG {tm:List V} {a:Act} (h:dp n bl.length ρ m tm a.tmps) {x:Operand} {l:aa} (hl:mP (bZ tm x)=some l):∃k,a.eval x= .int k (l.den ρ)/\l.aY n:=by
 have hx:=cq h x;unfold mP at hl;split at hl
 ·rename_i k yi hv;simp only[aL]at hl;subst hl;rw[hv]at hx;exact⟨k,hx.2,hx.1.1⟩
 ·cases hl
theorem TT:∀(n t:Nat) (acc:Array az),∃l:List (List Int),l.length=n/\(∀r∈l,bK js r)/\(tn n t acc).toList=acc.toList++bn js l
 |0,_,_=>⟨[],rfl,by simp,by simp[tn,bn]⟩
 |n+1,t,acc=>by
  obtain⟨l,h1,h2,h3⟩:=TT n (t/256) (acc.push (.int .u8 (Int.ofNat (t% 256))));refine⟨[((t% 256:Nat):Int)]::l,by simp[h1],λr hr=>?_,?_⟩
  ·rcases List.mem_cons.1 hr with rfl|hr
   ·exact⟨⟨by simp only[ay.dQ];omega,by simp only[ay.dQ];omega⟩,trivial⟩
   ·exact h2 r hr
  ·rw[tn,h3];simp[bn,js,dm,ay.val]
theorem apF {P:bj} (w:ai) (ps:Array aQ) (t e:aQ) (ht:P.underlying t=some (.slice e)) (n:Nat) (hn:n<=281474976710656):
 ∃(c d:Nat),(Rz ps #[t] #[.int .i64 n]).run P w= .ok (.slice (some ⟨w.heap.size,0,none⟩) n c) (w.drew.drew.alloc (.cells (tn c d #[]) e))/\n<=c/\(n<=maxLen->c<=maxLen):=by
 have DV:Rz ps #[t] #[.int .i64 n]=
  (do
    let .slice elem<-underlying t|stuck "bytealg.MakeNoZero: slice type expected"
    if(n:Int)<0||(n:Int)>2^48 then runtimePanic (.error "makeslice: len out of range")
    let cap<-choose (.appendCap (n:Int).toNat 0 elem)
    askRoom cap
    let bytes<-choose (.extern "internal/bytealg.MakeNoZero.bytes" 0);let a<-newRow elem (tn cap bytes #[])
    pure (.slice (some a) (n:Int).toNat cap)):=rfl
 have h1:¬(n:Int)<0:=by omega
 have h2:¬(281474976710656:Int)<(n:Int):=by omega
 exact⟨grownCap w n 0 e,_,by
  rw[DV];simp[fe ht,h1,h2,Question.forced,newRow,grownCap];rfl,by simpa using grownCap_ge w n 0 e,λhm=>by simpa using grownCap_le_maxLen w n 0 e hm⟩
theorem adW {fn:Func} (h:IC fn=true):fn.body.isNone=true/\(fn.name== "runtime.NumGoroutine")=false/\aaN fn=none/\aaO fn=some (Rz fn.params fn.resultTypes):=by
 unfold IC at h;simp only[aO,beq_iff_eq]at h;obtain⟨⟨h1,h2⟩,h3⟩:=h;have g1:Extern.allNextRows.lookup "internal/bytealg.MakeNoZero" =none:=by kernel_rfl
 have g2:Extern.allNextRows.lookup "" =none:=by kernel_rfl
 have g3:Extern.allGenericRows.lookup "internal/bytealg.MakeNoZero" =none:=by kernel_rfl
 have g4:Extern.allTypedRows.lookup "internal/bytealg.MakeNoZero" =some Rz:=by kernel_rfl
 refine⟨h2,by rw[h1];decide,?_,?_⟩
 ·unfold aaN;simp only[h1,h3,g1,g2];rfl
 ·unfold aaO;simp only[h1,g3,g4];rfl
theorem aqk {tm:List V} {a:Act} {w:ai} {G:dc} {o:Oper} {K:Act->ai->Prop} {Q:Exit->Act->ai->Prop} {k:fu} {qH:T}
 (h:R w0 n ρ m tm bl a w) (bH:uH P o n tm bl k=some qH) (ah:qH.holds S L G ρ) (hk:jK S L w0 k n bl.length ρ m G K):o.wp P a w K Q:=by
 unfold uH at bH;split at bH
 ·rename_i t p x ho;have hp:=cq h.t p;have hx:=cq h.t x;split at bH
  ·rename_i b aM cj i j u Od EF;rw[Od]at hp;rw[EF]at hx;obtain⟨h,ahe⟩:=Pd u.cells h;rw[<-ahe]at hp hx hk;generalize awv:vU bl u.cells=bl at*;split at bH
   ·rename_i sh off code cap kind bS s hbl hs;cases hc:(bu 2 kind&&aH aM sh.length&&aa.beq cj off&&aH u.cells.length s&&bY 0 s&&bu (j+s) sh.length&&lg sh)with
    |false=>rw[hc]at bH;cases bH
    |true=>
     rw[hc]at bH;simp only[cond_true,aL]at bH;subst bH;simp only[aO]at hc;obtain⟨⟨⟨⟨⟨⟨c1,c2⟩,c3⟩,c4⟩,c5⟩,ff⟩,j7⟩:=hc;have c1:=eh c1;have c2:=bx c2;have c3:=aa.beq_eq c3;have c4:=bx c4;have c5:=tE c5;have ff:=eh ff
     subst c2;subst c3;subst c4;have Ob:a.eval p= .pointer (some ⟨m b,(cj.den ρ).toNat+(i.den ρ).toNat*sh.length+j,none⟩):=hp.2;have dr:a.eval x=u.den ρ m:=hx.2;have ahC:(A.ep b sh.length cj i j).ok n bl.length ρ:=hp.1;have e4:(A.rows sh cj code cap kind).ok n bl.length ρ:=h.b _ (c0 hbl) _ (by simp);have hcs:ar S L (bind (fg 21 [code,i]) λ_=>bind (zx 67 [code,i,.const sh.length]) λ_=>bind (Fv bl ((sh.drop j).take u.cells.length) u.cells) λls=>bind (eA 42 (code::i:: .const j::ls) 0 cc) λcode'=>pure code') n ρ λag n' code'=>code'.aY n'/\(0<=code'.den ag/\code'.den ag<=cc)/\(0<=i.den ρ/\i.den ρ<(ab (code.den ρ)).length)/\
      ∃ls:List Int,bK ((sh.drop j).take u.cells.length) ls/\dV (b7 w0 ρ m bl) w ((sh.drop j).take u.cells.length) ls (u.cells.map (A.den ρ m))/\
       ab (code'.den ag)=(ab (code.den ρ)).set (i.den ρ).toNat (((ab (code.den ρ)).getD (i.den ρ).toNat []).take j++ls++((ab (code.den ρ)).getD (i.den ρ).toNat []).drop (j+ls.length)):=by
      refine gC λir=>?_;have ir:0<=i.den ρ/\i.den ρ<(ab (code.den ρ)).length:=ir;have hlt:(i.den ρ).toNat<(ab (code.den ρ)).length:=by omega
      have cK:0<=cap.den ρ:=by
       rcases hQ (cap.den ρ) 0 with iM|iM
       ·have:=(h.a7.rws b sh cj code cap kind bS hbl (by omega)).1 iM;rw[this]at hlt;simp at hlt
       ·exact iM
      obtain⟨_,cells,gS,fz,q1,⟨q2,q3⟩,db⟩:=(h.a7.rws b sh cj code cap kind bS hbl (by omega)).2 cK;have po:(ab (code.den ρ)).getD (i.den ρ).toNat []=(ab (code.den ρ))[(i.den ρ).toNat]:=by simp[aC,hlt]
      have hrow:bK sh ((ab (code.den ρ)).getD (i.den ρ).toNat []):=by rw[po];exact q3.1 _ (Gh hlt)
      refine(GY (op:=67) (ls:=[code,i,.const sh.length]) (by simp only[cp,er,af,aa.aR,eW];exact hrow.len)).bind λbV n0 _ _ _ ⟨yd,nX⟩=>?_;have yd:=yd.symm;have nX:=nX.symm
      subst yd;subst nX;refine(P0 h.b h.a7 (λy hy=>W.zJ hx.1 y hy)).bind λaD n1 ls fi dL ⟨g1,g2,g3⟩=>?_;have hf:aw 42 ((code::i::aa.const j::ls).map (·.den aD))=rc ((ab (code.den ρ)).set (i.den ρ).toNat (((ab (code.den ρ)).getD (i.den ρ).toNat []).take j++ls.map (·.den aD)++((ab (code.den ρ)).getD (i.den ρ).toNat []).drop (j+(ls.map (·.den aD)).length))):=by
       simp only[cp,aw,aa.aR,eW,aa.bG dL e4.1.2.1,aa.bG dL ahC.2.1.2]
      have hput:=YD hrow g2 ff;have k0:∀r∈(ab (code.den ρ)).set (i.den ρ).toNat (((ab (code.den ρ)).getD (i.den ρ).toNat []).take j++ls.map (·.den aD)++((ab (code.den ρ)).getD (i.den ρ).toNat []).drop (j+(ls.map (·.den aD)).length)),bK sh r:=λr hr=>by
       rcases Cv hr with hr|hr
       ·exact q3.1 r hr
       ·subst hr;exact hput.1
      have gP:0<sh.length:=by omega
      have hlen:(ab (code.den ρ)).length<=maxLen:=by
       have yH:=q3;obtain⟨_,pre,vs,post,p1,br,bT⟩:=yH;have h4:=congrArg kt p1;simp only[dn,bT.len,wL]at h4;obtain⟨_,_,_,h5,_⟩:=db c1;rw[h5]at h4;have h6:(ab (code.den ρ)).length*sh.length<=(cap.den ρ).toNat*sh.length:=by omega
       have h7:=auY h6 gP;have:=e4.2.2.2;unfold maxLen;omega
      have dS:=oF (l:=(ab (code.den ρ)).set (i.den ρ).toNat (((ab (code.den ρ)).getD (i.den ρ).toNat []).take j++ls.map (·.den aD)++((ab (code.den ρ)).getD (i.den ρ).toNat []).drop (j+(ls.map (·.den aD)).length))) (by simpa using hlen) λr hr=>(k0 r hr).row j7;refine(gf (by rw[hf];exact fa _) (by rw[hf];exact dS)).bind λbo n2 code' dY c7 ⟨k1,k2⟩=>ar.pure ?_;rw[hf]at k2;exact⟨k1,by rw[k2];exact⟨fa _,dS⟩,ir,ls.map (·.den aD),g2,g3,by rw[k2,du]⟩
     obtain⟨ag,n',code',hn,ha,⟨g1,g2,g3,ls,g4,g5,g6⟩,ah⟩:=hcs G _ ah;have hR:=h.later hn ha;have hlt:(i.den ρ).toNat<(ab (code.den ρ)).length:=by omega
     have cK:0<=cap.den ρ:=by
      rcases hQ (cap.den ρ) 0 with iM|iM
      ·have:=(h.a7.rws b sh cj code cap kind bS hbl (by omega)).1 iM;rw[this]at hlt;simp at hlt
      ·exact iM
     obtain⟨q0,cells,gS,fz,q1,⟨q2,q3⟩,db⟩:=(h.a7.rws b sh cj code cap kind bS hbl (by omega)).2 cK;obtain⟨r0,r1,r2,r3,fL,cS⟩:=db c1;subst r0;obtain⟨yI,pre,vs,post,BI,Fc,Yh⟩:=q3;have Of:(ab (code.den ρ))[(i.den ρ).toNat]?=some ((ab (code.den ρ)).getD (i.den ρ).toNat []):=by simp[aC,hlt]
     generalize awQ:(ab (code.den ρ)).getD (i.den ρ).toNat []=row at g6 Of;have AF:=yI row (c0 Of);have p1:=(YD AF g4 ff).1;obtain⟨pN,u7,wQ,rfl,ae,z2,z3⟩:=Yh.cut Of;have br:=z3 _ _ (apq z2 g5 ff);rw[<-g6]at br;have ah5:u.cells.length=(u.cells.map (A.den ρ m)).length:=by simp
     have Vi:cells.toList=(pre++pN)++(u7++(wQ++post)):=by
      rw[BI];simp only[gJ]
     have hA:(pre++pN).length=(cj.den ρ).toNat+(i.den ρ).toNat*sh.length:=by
      rw[dn,Fc,ae]
     have hB:=z2.len;have agN:(cj.den ρ).toNat+(i.den ρ).toNat*sh.length+j+0+(u.cells.map (A.den ρ m)).length<=cells.size:=by
      have:=congrArg kt Vi;simp only[dn,wL,hB]at this hA;simp;omega
     have hst:=Qf (P:=P) (m b) ((cj.den ρ).toNat+(i.den ρ).toNat*sh.length+j) _ fz kind (u.cells.map (A.den ρ m)) 0 cells w r2 q1 agN (λv hv=>by
      obtain⟨y,hy,rfl⟩:=List.mem_map.1 hv;exact A.Jc (W.zJ hx.1 y hy))
     simp only[lq]at hst;have iv:cells.toList.take ((cj.den ρ).toNat+(i.den ρ).toNat*sh.length+j)++u.cells.map (A.den ρ m)++cells.toList.drop ((cj.den ρ).toNat+(i.den ρ).toNat*sh.length+j+(u.cells.map (A.den ρ m)).length)=pre++(pN++((u7.take j++u.cells.map (A.den ρ m)++u7.drop (j+(u.cells.map (A.den ρ m)).length))++wQ))++post:=by
      rw[Vi,<-hA];rw[List.take_append,kr (by omega),Nat.add_sub_cancel_left,Ge (by omega)];rw[List.drop_append,List.drop_of_length_le (by omega),jH];rw[show(pre++pN).length+j+(u.cells.map (A.den ρ m)).length-(pre++pN).length=j+(u.cells.map (A.den ρ m)).length by omega];rw[auR (by simp;omega)];simp only[gJ]
     generalize awr:pN++((u7.take j++u.cells.map (A.den ρ m)++u7.drop (j+(u.cells.map (A.den ρ m)).length))++wQ)=J2 at iv br;rw[iv]at hst;have ahM:∀r∈ab (code'.den ag),bK sh r:=λr hr=>by
      rw[g6]at hr;rcases Cv hr with hr|hr
      ·exact yI r hr
      ·subst hr;exact p1
     have sw:(ab (code'.den ag)).length=(ab (code.den ρ)).length:=by rw[g6];simp
     have hsz:(pre++J2++post).length=cells.size:=by
      have e1:=congrArg kt BI;have e2:=br.len;have e3:=Yh.len;rw[sw]at e2;simp only[dn,wL]at e1 e3⊢;omega
     have d1:cap.den ag=cap.den ρ:=aa.bG ha e4.1.2.2;have d2:cj.den ag=cj.den ρ:=aa.bG ha e4.1.1;have Ie:=hR.a7.put (kd:=kind) (cells:=cells) (fz:=fz) (code':=code') c1 hbl (by rw[d1];exact cK) (row:=(pre++J2++post).toArray) (λ_=>⟨λa8=>by rw[d1]at a8;omega,λ_=>⟨q0,_,_,fz,Gk w (m b) _ _ _ _ q1,⟨by rw[d2];exact q2,by
      rw[d2];exact⟨ahM,pre,J2,post,rfl,Fc,br.mono ((Fr.of w λbb h'=>b7.dO h.b ha h').trans (b7.pd hbl (by rw[ix (by omega) (by rw[d1];exact cK)];exact c1)))⟩⟩,λ_=>⟨rfl,by rw[d2];exact r1,by simp only[tj,hsz];exact r2,by rw[d1];simp only[tj,hsz];exact r3,fL,cS⟩⟩⟩)
     unfold m6;have hrun:(Rv t (.pointer (some ⟨m b,(cj.den ρ).toNat+(i.den ρ).toNat*sh.length+j,none⟩)) (u.den ρ m)).run P w= .ok () (w.setRow (m b) (pre++J2++post).toArray):=by
      simp only[Rv,lV,gm,hS,gy,storeVar,iB hs,W.Hi (m:=m) u hx.1];simp only[tj,j2,ne_eq,not_true_eq_false,if_false,hS,gy];simp only[hS,gy,hst]
     simp only[execOp,ho,gm,Ob,dr,hrun,gy,hS];refine hk n' ag m _ _ G _ _ ⟨hn,ha,by rw[km];exact aV _,λ_ _=>rfl⟩ (dG.refl _ _) ⟨?_,by rw[put_defers];exact h.d,hR.b.set (λy hy=>by
      simp at hy;subst hy;exact⟨⟨e4.1.1.mono hn,g1,e4.1.2.2.mono hn⟩,g2,by rw[d1];exact e4.2.2⟩),Ie⟩ ah
     rw[km];exact dp.put hR.t o.dst (by intro x hx;simp at hx) rfl
   ·cases bH
  ·cases bH
 ·rename_i s d x ho;have hx:=cq h.t x;split at bH
  ·rename_i l EF;rw[EF]at hx;split at bH
   ·rename_i e hs hd;split at bH
    ·rename_i he;simp only[aL]at bH;subst bH;have pq:(A.str l).ok n bl.length ρ:=hx.1;have dr:a.eval x= .string (aG (U (l.den ρ))):=hx.2;have hcs:ar S L (bind (eA 27 [l] 0 cc) λcode=>bind (eA 0 [l] 0 9223372036854775807) λlen=>pure (code,len)) n ρ λag n' p=>(p.1.aY n'/\p.2.aY n')/\(0<=p.1.den ag/\p.1.den ag<=cc)/\(U (l.den ρ)).length<=9223372036854775807/\ab (p.1.den ag)=(U (l.den ρ)).map (λb=>[(b.toNat:Int)])/\p.2.den ag=(U (l.den ρ)).length:=by
      have ir:(U (l.den ρ)).length<=9223372036854775807:=by have:=rW pq.2.2;unfold eN at this;omega
      have dS:rc ((U (l.den ρ)).map λb=>[(b.toNat:Int)])<=cc:=oF (by simp;unfold maxLen;omega) λr hr=>by
       obtain⟨b,_,rfl⟩:=List.mem_map.1 hr;have hp:=fZ;have pr:=CD;have:=b.toNat_lt;exact⟨by simp,λz hz=>by simp at hz;subst hz;omega⟩
      refine(gf (op:=27) (args:=[l]) (fa _) dS).bind λaD n1 code fi dL ⟨g1,g2⟩=>?_;have g2:code.den aD=rc ((U (l.den ρ)).map λb=>[(b.toNat:Int)]):=g2;have kD:l.den aD=l.den ρ:=aa.bG dL pq.1;refine(gf (op:=0) (args:=[l]) (lo:=0) (hi:=9223372036854775807) (Int.natCast_nonneg _) (by
       show((U (l.den aD)).length:Int)<=_;rw[kD];omega)).bind λbo n2 len dY c7 ⟨k1,k2⟩=>ar.pure ?_
      have k2:len.den bo=((U (l.den aD)).length:Nat):=k2;have e3:code.den bo=code.den aD:=aa.bG c7 g1;refine⟨⟨g1.mono dY,k1⟩,by rw[e3,g2];exact⟨fa _,dS⟩,ir,by rw[e3,g2,du],by rw[k2,kD]⟩
     obtain⟨ag,n',p,hn,ha,⟨⟨g1,kB⟩,g2,g3,g4,g5⟩,ah⟩:=hcs G (λp n=>Ds 3 e o.dst js p.1 p.2 n tm bl k) ah;have hR:=h.later hn ha;have hrun:=Lib.run_convert_string_bytes (P:=P) w s d e (aG (U (l.den ρ))) hs (hL hd) he;generalize cK:grownCap w (aG (U (l.den ρ))).size 0 e=c at hrun;have fI:(aG (U (l.den ρ))).size<=c:=by rw[<-cK];exact grownCap_ge w _ 0 e
     have hle:c<=9223372036854775807:=by rw[<-cK];exact grownCap_le_maxLen w _ 0 e (by rw[nQ];exact g3)
     have ss:(Gp w e (aG (U (l.den ρ)))).heap[w.heap.size]?=some (.cells (Gq w e (aG (U (l.den ρ)))) e ((Gq w e (aG (U (l.den ρ)))).size,(Gq w e (aG (U (l.den ρ)))).size+1)):=Lib.bytesWorld_at_new w e _;have agA:(Gq w e (aG (U (l.den ρ)))).size=c:=by
      have agU:=fI;rw[nQ]at agU;simp only[Gq,aaK,Array.size_map,Array.size_replicate,cK];show(aG (U (l.den ρ))).size+_=_;omega
     have q5:w.Extends (Gp w e (aG (U (l.den ρ)))):=by
      have hb:∀i:Nat,i<w.heap.size->(Gp w e (aG (U (l.den ρ)))).heap[i]?=w.heap[i]?:=λi hi=>Lib.bytesWorld_at_old w e _ i hi;exact⟨rfl,rfl,rfl,by simp[Gp,World.freeze,Cx,RA,-Ks,-aaP],λy hy=>by simp only[jI,hb y.block hy],λy hy=>by simp only[tf,hb y.block hy],hb⟩
     have tW:R w0 n' ag m tm bl a (Gp w e (aG (U (l.den ρ)))):=⟨hR.t,hR.d,hR.b,hR.a7.grow q5⟩;unfold m6;simp only[execOp,ho,gm,dr,hrun,gy,hS];have jt:jK S L w0 k n' bl.length ag m G K:=hk.later ⟨hn,ha,aV _,λ_ _=>rfl⟩ (dG.refl _ _);have eu:(aG (U (l.den ρ))).size=(U (l.den ρ)).length:=nQ _;have key:=PA (kd:=3) (c:=(c:Int)) (g:=w.heap.size) (by omega) tW g1 kB g2 ⟨by omega,by omega⟩ (by rw[g5];exact⟨⟨by omega,by omega,by omega,by omega⟩,⟨by omega,by omega⟩,λh=>by omega,λ_=>by omega⟩) (λh=>by omega)
      (λ_=>⟨_,_,⟨ss,.inr ⟨by decide,rfl⟩⟩,by
        rw[g4];refine(mA (sh:=js) (by decide)).2 ⟨λr hr=>?_,[],eX (c-(U (l.den ρ)).length) (.int .u8 0),?_,rfl⟩
        ·obtain⟨b,_,rfl⟩:=List.mem_map.1 hr;have:=b.toNat_lt;exact⟨⟨by simp[ay.dQ],by simp only[ay.dQ];omega⟩,trivial⟩
        ·simp only[Gq,cK,Array.toList_append,u1,Array.toList_replicate,jH]
         congr 1
         ·show(U (l.den ρ)).map _=_;simp only[bn,List.flatMap_map];induction U (l.den ρ)with
          |nil=>rfl
          |cons b r ih=>simp[dm,ay.val,js,ih],by
        rw[agA];simp[js],h.a7.ext.size,.inr h.a7.eu⟩) (λ_=>hR.a7.vl q5 (aV _)) (λi p hi he=>by
         by_cases fx:aP ag p.1=0
         ·exact .inl fx
         ·have:=hR.a7.lt hi fx;omega) ah jt
     rw[if_neg (by omega),g5]at key;have key:K (a.put o.dst (.slice (some ⟨w.heap.size,0,none⟩) (U (l.den ρ)).length c)) (Gp w e (aG (U (l.den ρ)))):=by simpa using key
     rw[eu];exact key
    ·cases bH
   ·cases bH
  ·cases bH
 ·rename_i t x y ho;split at bH
  ·rename_i e lM k9 hd ahi ahj;cases hi:P.info? e with
   |none=>simp[hi]at bH
   |some i=>
    simp only[hi]at bH;split at bH
    ·rename_i z hz;cases hc:(aH i.size 1&&bu i.bytes 1024&&decide (z=0))with
     |false=>rw[hc]at bH;cases bH
     |true=>
      rw[hc]at bH;simp only[cond_true,aL]at bH;subst bH;simp only[aO,decide_eq_true_eq]at hc;have c1:=bx hc.1.1;have c2:=eh hc.1.2;have c3:=hc.2;subst c3;obtain⟨ajl,hx,gE⟩:=WG h.t ahi;obtain⟨ajm,hy,Iu⟩:=WG h.t ahj;obtain⟨NU,ah⟩:=ah;have NU:0<=lM.den ρ/\lM.den ρ<=k9.den ρ/\k9.den ρ<=1073741824:=NU;obtain⟨q1,q2,q3⟩:=NU;have q0:0<=k9.den ρ:=by omega
      have hrow:∀r∈eX (lM.den ρ).toNat [(0:Int)],bK js r:=λr hr=>by
       rw[List.eq_of_mem_replicate hr];exact⟨⟨by simp[ay.dQ],by simp[ay.dQ]⟩,trivial⟩
      have dS:rc (eX (lM.den ρ).toNat [(0:Int)])<=cc:=vg (sh:=js) (by decide) (by simp;omega) hrow;have hf:aw 26 ([lM,aa.const 0].map (·.den ρ))=rc (eX (lM.den ρ).toNat [(0:Int)]):=by
       simp only[cp,er,aw,aa.aR]
      obtain⟨ag,n',code,hn,ha,⟨g1,g2⟩,ah⟩:=gf (S:=S) (L:=L) (n:=n) (op:=26) (args:=[lM,.const 0]) (lo:=0) (hi:=cc) (by rw[hf];exact fa _) (by rw[hf];exact dS) G _ ah;rw[hf]at g2;have hR:=h.later hn ha;have d1:lM.den ag=lM.den ρ:=aa.bG ha gE;have hrun:=run_make (P:=P) w t e i (.int .u8 0) (hL hd) hi hz ajl ajm (lM.den ρ) (k9.den ρ) q1 q2 (by
       have h0:(i.bytes:Int)<=1024:=by omega
       have h2:(i.bytes:Int)*k9.den ρ<=1024*1073741824:=Int.mul_le_mul h0 q3 q0 (by decide);omega) (by omega)
      have VL:(madeCells (rO .u8 0).cells ((k9.den ρ).toNat*i.size)).toList=eX (k9.den ρ).toNat (.int .u8 0):=by
       rw[c1,Nat.mul_one];refine aaM λj=>?_;simp only[madeCells,Value.cells,u1,auT];rw[ox,List.getElem?_replicate];by_cases hj:j<(k9.den ρ).toNat
       ·rw[if_pos hj,List.getElem?_range hj];simp[Nat.mod_one]
       ·rw[if_neg hj,List.getElem?_eq_none (by simp;omega)];rfl
      have hsz:(madeCells (rO .u8 0).cells ((k9.den ρ).toNat*i.size)).size=(k9.den ρ).toNat:=by
       have:=congrArg kt VL;simpa using this
      have ss:(w.alloc (.cells (madeCells (rO .u8 0).cells ((k9.den ρ).toNat*i.size)) e)).heap[w.heap.size]?=some (.cells (madeCells (rO .u8 0).cells ((k9.den ρ).toNat*i.size)) e (0,0)):=by simp[Cx,-Ks]
      have q5:w.Extends (w.alloc (.cells (madeCells (rO .u8 0).cells ((k9.den ρ).toNat*i.size)) e)):=by
       have hb:∀j:Nat,j<w.heap.size->(w.alloc (.cells (madeCells (rO .u8 0).cells ((k9.den ρ).toNat*i.size)) e)).heap[j]?=w.heap[j]?:=λj hj=>by
        simp only[Cx];rw[auZ hj,Kh hj]
       exact⟨rfl,rfl,rfl,by simp[Cx,-Ks],λy hy=>by simp only[jI,hb y.block hy],λy hy=>by simp only[tf,hb y.block hy],hb⟩
      generalize DI:w.alloc (.cells (madeCells (rO .u8 0).cells ((k9.den ρ).toNat*i.size)) e)=W at*;have tW:R w0 n' ag m tm bl a W:=⟨hR.t,hR.d,hR.b,hR.a7.grow q5⟩;unfold m6;simp only[execOp,ho,gm,hx,hy,hrun,gy,hS];have jt:jK S L w0 k n' bl.length ag m G K:=hk.later ⟨hn,ha,aV _,λ_ _=>rfl⟩ (dG.refl _ _);have key:=PA (kd:=2) (c:=k9.den ρ) (g:=w.heap.size) (aV _) tW g1 (gE.mono hn) (by rw[g2];exact⟨fa _,dS⟩) ⟨by omega,by omega⟩ (by rw[d1];exact⟨⟨by omega,by omega,by omega,by omega⟩,⟨by omega,by omega⟩,λh=>by omega,λ_=>by omega⟩) (λh=>by omega)
       (λ_=>⟨_,_,⟨ss,.inl ⟨rfl,rfl⟩⟩,by
         rw[g2,du];refine(mA (sh:=js) (by decide)).2 ⟨hrow,[],eX ((k9.den ρ).toNat-(lM.den ρ).toNat) (.int .u8 0),?_,rfl⟩;rw[VL,jH];have e1:bn js (eX (lM.den ρ).toNat [(0:Int)])=eX (lM.den ρ).toNat (.int .u8 0):=by
          generalize (lM.den ρ).toNat=q;induction q with
          |zero=>rfl
          |succ q ih=>
           rw[Cy,Cy];simp only[bn,List.flatMap_cons]at ih⊢;rw[ih];rfl
         rw[e1,List.replicate_append_replicate]
         congr 1;omega,by rw[hsz];simp[js],h.a7.ext.size,.inr h.a7.eu⟩) (λ_=>hR.a7.vl q5 (aV _)) (λj p hj he=>by
         by_cases fx:aP ag p.1=0
         ·exact .inl fx
         ·have:=hR.a7.lt hj fx;omega) ah jt
      rw[if_neg (by omega),d1]at key;have key:K (a.put o.dst (.slice (some ⟨w.heap.size,0,none⟩) (lM.den ρ).toNat (k9.den ρ).toNat)) W:=key;exact key
    ·cases bH
  ·cases bH
 ·rename_i c ho;split at bH
  ·rename_i f hc;split at bH
   ·rename_i fn x hf ni;split at bH
    ·rename_i y t hx jw;split at bH
     ·rename_i e hd;split at bH
      ·rename_i he;cases hm:IC fn with
       |false=>rw[hm]at bH;cases bH
       |true=>
        rw[hm]at bH;simp only[cond_true,aL]at bH;subst bH;obtain⟨fT,m2,m3,yr⟩:=adW hm;have gE:=cq h.t x;rw[hx]at gE;have Iu:y.l.aY n:=gE.1.1;obtain⟨NT,ah⟩:=ah;have NT:0<=y.l.den ρ/\y.l.den ρ<=1073741824:=NT;obtain⟨q1,q2⟩:=NT;obtain⟨N,hN⟩:∃N:Nat,y.l.den ρ=N:=⟨(y.l.den ρ).toNat,by omega⟩;have dr:a.eval x= .int .i64 (N:Int):=by rw[<-hN];exact gE.2
        have ahK:fn.resultTypes=#[t]:=Rw (by rw[jw]);obtain⟨iW,xf,hrun,hle,q9⟩:=apF (P:=P) w fn.params t e (hL hd) N (by omega);have q9:=q9 (by unfold maxLen;omega);unfold maxLen at q9;obtain⟨l,l1,l2,l3⟩:=TT iW xf #[];have nU:(execOp a.eval o).run P w= .ok (.value (.slice (some ⟨w.heap.size,0,none⟩) N iW)) (w.drew.drew.alloc (.cells (tn iW xf #[]) e)):=by
         rw[Qd hc o ho,run_callFunc_extern hf m2 fT m3 yr];have:c.args.map a.eval=#[.int .i64 (N:Int)]:=Rw (by rw[u1,ni];simp[dr]);rw[this,ahK,hrun];rfl
        have OB:∀r∈l.take N,bK js r:=λr hr=>l2 r (j1 hr);have mN:(l.take N).length=N:=by rw[m5,l1];omega
        have Wm:rc (l.take N)<=cc:=vg (sh:=js) (by decide) (by rw[mN];omega) OB;have ah:=ah (rc (l.take N)) (fa _) Wm;have dL:agree n ρ (cU ρ n (rc (l.take N))):=agree.cU _ _ _;have aK:y.l.den (cU ρ n (rc (l.take N)))=N:=by rw[aa.bG dL Iu,hN]
        have Mi:(aa.var n).den (cU ρ n (rc (l.take N)))=rc (l.take N):=by simp[aa.ck,jD]
        have ah:=ah (by
         show y.l.den (cU ρ n (rc (l.take N)))=((ab ((aa.var n).den (cU ρ n (rc (l.take N))))).length:Int);rw[aK,Mi,du,mN])
        have ah:=ah (iW:Int) (by omega) (by omega);have ah:=ah (by
         have c7:agree (n+1) (cU ρ n (rc (l.take N))) (cU (cU ρ n (rc (l.take N))) (n+1) (iW:Int)):=agree.cU _ _ _;show y.l.den (cU (cU ρ n (rc (l.take N))) (n+1) (iW:Int))<=(aa.var (n+1)).den (cU (cU ρ n (rc (l.take N))) (n+1) (iW:Int));rw[aa.bG c7 (Iu.mono (ku _)),aK];simp only[aa.ck,jD];omega)
        have hR:=h.later (ku n) dL;have ss:(w.drew.drew.alloc (.cells (tn iW xf #[]) e)).heap[w.heap.size]?=some (.cells (tn iW xf #[]) e (0,0)):=by simp[Cx,RA,-Ks,-aaP]
        have q5:w.Extends (w.drew.drew.alloc (.cells (tn iW xf #[]) e)):=by
         have hb:∀j:Nat,j<w.heap.size->(w.drew.drew.alloc (.cells (tn iW xf #[]) e)).heap[j]?=w.heap[j]?:=λj hj=>by
          simp only[Cx,RA];rw[auZ hj,Kh hj]
         exact⟨rfl,rfl,rfl,by simp[Cx,RA,-Ks,-aaP],λy hy=>by simp only[jI,hb y.block hy],λy hy=>by simp only[tf,hb y.block hy],hb⟩
        generalize DI:w.drew.drew.alloc (.cells (tn iW xf #[]) e)=W at*;have tW:R w0 (n+1) (cU ρ n (rc (l.take N))) m tm bl a W:=⟨hR.t,hR.d,hR.b,hR.a7.grow q5⟩;unfold m6;simp only[nU];have jt:jK S L w0 k (n+1) bl.length (cU ρ n (rc (l.take N))) m G K:=hk.later ⟨ku n,dL,aV _,λ_ _=>rfl⟩ (dG.refl _ _);have key:=Yg (kd:=2) (c:=(iW:Int)) (g:=w.heap.size) (code:= .var n) (len:=y.l) (e:=e) (d:=o.dst) (sh:=js) (aV _) tW (aa.eo (rU n)) (Iu.mono (ku _)) (by rw[Mi];exact⟨fa _,Wm⟩) ⟨by omega,by omega⟩ (by rw[aK];exact⟨⟨by omega,by omega,by omega,by omega⟩,⟨by omega,by omega⟩,λh=>by omega,λ_=>by omega⟩) (λh=>by omega)
         (λ_=>⟨_,_,⟨ss,.inl ⟨rfl,rfl⟩⟩,by
           rw[Mi,du];refine(mA (sh:=js) (by decide)).2 ⟨OB,[],bn js (l.drop N),?_,rfl⟩;rw[l3];show bn js l=bn js (l.take N)++bn js (l.drop N);rw[<-pZ,jn],by
           have e1:=congrArg kt l3;simp only[dn,l9 l2,l1]at e1;simpa [js]using e1,h.a7.ext.size,.inr h.a7.eu⟩) (λ_=>hR.a7.vl q5 (aV _)) (λj p hj he=>by
           by_cases fx:aP (cU ρ n (rc (l.take N))) p.1=0
           ·exact .inl fx
           ·have:=hR.a7.lt hj fx;omega) ah jt
        rw[if_neg (by omega),aK]at key;have key:K (a.put o.dst (.slice (some ⟨w.heap.size,0,none⟩) N iW)) W:=by simpa using key
        exact key
      ·cases bH
     ·cases bH
    ·cases bH
   ·cases bH
  ·cases bH
 ·cases bH
end
end Go.ba
namespace Go.ba
open M
section
variable {S:Nat->List Int->List Int->Prop} {L:V->Env->Prop} {n:Nat} {ρ:Env} {m:Nat->Nat} {bl:List ao} {gl:dz} {w0:cP} {P:bj}
theorem Mem.rewrite {w:ai} {b:Nat} {sh:List ay} {off code cap code':aa} {kind:Nat} {bS:aQ×Bool} (h:Mem w0 ρ m bl w) (hbl:bl[b]?=some ([.rows sh off code cap kind],bS)) (hk:2<=kind) (cK:0<=cap.den ρ)
 (hp:iP sh=true) (k0:∀r∈ab (code'.den ρ),bK sh r) (hlen:(ab (code'.den ρ)).length=(ab (code.den ρ)).length):
 ∃(cells:Array az) (post:List az) (fz:Nat×Nat),w.heap[m b]?=some (.cells cells bS.1 fz)/\tu kind fz cells.size/\off.den ρ=0/\(∀r∈ab (code.den ρ),bK sh r)/\cells.toList=bn sh (ab (code.den ρ))++post/\cells.size=(cap.den ρ).toNat*sh.length/\
  Mem w0 ρ m (cO bl b ([.rows sh off code' cap kind],bS)) (w.setRow (m b) (bn sh (ab (code'.den ρ))++post).toArray):=by
 obtain⟨q0,cells,gS,fz,q1,⟨q2,q3⟩,db⟩:=(h.rws b sh off code cap kind bS hbl (by omega)).2 cK;obtain⟨r0,r1,r2,r3,fL,cS⟩:=db hk;subst r0;obtain⟨yI,pre,post,BI,Fc⟩:=(mA hp).1 q3;rw[r1]at Fc;have gD:pre=[]:=tl (by simpa using Fc);subst gD;rw[jH]at BI;have hsz:(bn sh (ab (code'.den ρ))++post).length=cells.size:=by
  have e1:=congrArg kt BI;simp only[dn,l9 k0,l9 yI,wL,hlen]at e1⊢;omega
 refine⟨cells,post,fz,q1,r2,r1,yI,BI,r3,?_⟩;exact h.put (kd:=kind) (cells:=cells) (fz:=fz) (code':=code') hk hbl cK (row:=(bn sh (ab (code'.den ρ))++post).toArray) (λ_=>⟨λa8=>by omega,λ_=>⟨q0,_,_,fz,Gk w (m b) _ _ _ _ q1,⟨by rw[r1];exact bB _,by
  rw[r1];exact(mA hp).2 ⟨k0,[],post,by simp,rfl⟩⟩,λ_=>⟨rfl,r1,by simp only[tj,hsz];exact r2,by simp only[tj,hsz];exact r3,fL,cS⟩⟩⟩)
theorem ala {sh:List ay} {rows mid:List (List Int)} {post:List az} {cells:List az} {a:Nat} (hr:∀r∈rows,bK sh r) (hm:∀r∈mid,bK sh r) (hc:cells=bn sh rows++post) (ha:a+mid.length<=rows.length):
 cells.take (a*sh.length)++bn sh mid++cells.drop (a*sh.length+(bn sh mid).length)=bn sh (rows.take a++mid++rows.drop (a+mid.length))++post:=by
 have h1:bn sh rows=bn sh (rows.take a)++bn sh (rows.drop a):=by rw[<-pZ,jn]
 have h2:bn sh rows=bn sh (rows.take (a+mid.length))++bn sh (rows.drop (a+mid.length)):=by rw[<-pZ,jn]
 have l1:(bn sh (rows.take a)).length=a*sh.length:=by rw[l9 λr h=>hr r (j1 h),m5,wH (by omega)]
 have l2:(bn sh (rows.take (a+mid.length))).length=a*sh.length+(bn sh mid).length:=by rw[l9 λr h=>hr r (j1 h),l9 hm,m5,wH (by omega),u5]
 have e1:cells.take (a*sh.length)=bn sh (rows.take a):=by
  rw[hc,h1,gJ,Ge (by omega),kr (by omega)]
 have e2:cells.drop (a*sh.length+(bn sh mid).length)=bn sh (rows.drop (a+mid.length))++post:=by
  rw[hc,h2,gJ,<-l2,List.drop_left]
 rw[e1,e2,pZ,pZ];simp only[gJ]
theorem Xt {sh:List ay} {rows mid:List (List Int)} {a k:Nat} (hr:∀r∈rows,bK sh r) (hm:∀r∈mid,bK sh r):∀r∈rows.take a++mid++rows.drop k,bK sh r:=λr h=>by
 rcases List.mem_append.1 h with h|h
 ·rcases List.mem_append.1 h with h|h
  ·exact hr r (j1 h)
  ·exact hm r h
 ·exact hr r (nL h)
theorem Xs {rows mid:List (List Int)} {a:Nat} (ha:a+mid.length<=rows.length):(rows.take a++mid++rows.drop (a+mid.length)).length=rows.length:=by
 simp only[dn,m5,qB];omega
theorem YH {w:ai} {b:Nat} {sh:List ay} {off code cap:aa} {kind:Nat} {bS:aQ×Bool} (h:Mem w0 ρ m bl w) (hbl:bl[b]?=some ([.rows sh off code cap kind],bS)) (hk:2<=kind) (cK:0<=cap.den ρ) (sm:cap.den ρ<=9223372036854775807) (gP:0<sh.length):(ab (code.den ρ)).length<=maxLen/\∀r∈ab (code.den ρ),bK sh r:=by
 obtain⟨q0,cells,gS,fz,q1,⟨q2,q3⟩,db⟩:=(h.rws b sh off code cap kind bS hbl (by omega)).2 cK;obtain⟨_,_,_,h5,_⟩:=db hk;obtain⟨yI,pre,vs,post,p1,br,bT⟩:=q3;refine⟨?_,yI⟩;have h4:=congrArg kt p1;simp only[dn,bT.len,wL]at h4;rw[h5]at h4;have h6:(ab (code.den ρ)).length*sh.length<=(cap.den ρ).toNat*sh.length:=by omega
 have h7:=auY h6 gP;unfold maxLen;omega
theorem apY {sh:List ay} (h:lg sh=true):0<sh.length:=by
 unfold lg at h;simp only[aO]at h;exact tE h.1.2
theorem apw {w:ai} {b:Nat} {sh:List ay} {off code cap:aa} {kind:Nat} {bS:aQ×Bool} (h:Mem w0 ρ m bl w) (hbl:bl[b]?=some ([.rows sh off code cap kind],bS)) (hk:2<=kind) (sm:cap.den ρ<=9223372036854775807) (gP:0<sh.length):(ab (code.den ρ)).length<=maxLen/\∀r∈ab (code.den ρ),bK sh r:=by
 rcases hQ (cap.den ρ) 0 with hc|hc
 ·rw[(h.rws b sh off code cap kind bS hbl (by omega)).1 hc];exact⟨Nat.zero_le _,λr hr=>by simp at hr⟩
 ·exact YH h hbl hk hc sm gP
theorem Mem.ao4 {w:ai} {b:Nat} {sh:List ay} {off code cap code':aa} {kind:Nat} {bS:aQ×Bool} (h:Mem w0 ρ m bl w) (hbl:bl[b]?=some ([.rows sh off code cap kind],bS)) (he:ab (code'.den ρ)=ab (code.den ρ)):Mem w0 ρ m (cO bl b ([.rows sh off code' cap kind],bS)) w:=by
 rw[iC];have hlt:=(List.getElem?_eq_some_iff.1 hbl).1;have hg:∀(i:Nat) (p:ao),(bl.set b ([.rows sh off code' cap kind],bS))[i]?=some p->(i=b/\p=([.rows sh off code' cap kind],bS))∨(i≠b/\bl[i]?=some p):=λi p hi=>by
  rw[oy]at hi;by_cases gO:b=i
  ·subst gO;rw[if_pos rfl,if_pos hlt]at hi;exact .inl ⟨rfl,(gH hi).symm⟩
  ·rw[if_neg gO]at hi;exact .inr ⟨λe=>gO e.symm,hi⟩
 have fq:∀(i:Nat) (p:ao),(bl.set b ([.rows sh off code' cap kind],bS))[i]?=some p->∃q:ao,bl[i]?=some q/\aP ρ p.1=aP ρ q.1:=λi p hi=>by
  rcases hg i p hi with⟨rfl,rfl⟩|⟨_,h2⟩
  ·exact⟨_,hbl,rfl⟩
  ·exact⟨_,h2,rfl⟩
 have nY:∀bb,b7 w0 ρ m bl bb->b7 w0 ρ m (bl.set b ([.rows sh off code' cap kind],bS)) bb:=λbb h'=>⟨h'.1,λi p hi hk=>by
  obtain⟨q,h1,h2⟩:=fq i p hi;exact h'.2 i q h1 (by rw[<-h2];exact hk)⟩
 refine⟨h.ext,h.jb,h.je,h.iw,h.eu,h.gg,λi cs t hi ho=>?_,λi cH dT fh dR eT t hi=>?_,λi j p q hi hj hm=>?_⟩
 ·rcases hg i _ hi with⟨_,h2⟩|⟨_,h2⟩
  ·cases h2;exact absurd ho (by simp[bO])
  ·exact h.blk i cs t h2 ho
 ·rcases hg i _ hi with⟨rfl,h2⟩|⟨_,h2⟩
  ·cases h2;have:=(h.rws _ sh off code cap kind bS hbl).mono nY;unfold gL at this⊢;rw[he];exact this
  ·exact(h.rws i _ _ _ _ _ t h2).mono nY
 ·obtain⟨p',hp,ep⟩:=fq i p hi;obtain⟨q',hq,eq⟩:=fq j q hj;rw[ep,eq];exact h.inj i j p' q' hp hq hm
theorem aql {tm:List V} {a:Act} {w:ai} {G:dc} {o:Oper} {K:Act->ai->Prop} {Q:Exit->Act->ai->Prop} {k:fu} {qH:T}
 (h:R w0 n ρ m tm bl a w) (bH:QC P o n tm bl k=some qH) (ah:qH.holds S L G ρ) (hk:jK S L w0 k n bl.length ρ m G K):o.wp P a w K Q:=by
 unfold QC at bH;split at bH
 rotate_left
 ·cases bH
 rename_i c ho;split at bH
 ·rename_i gY;split at bH
  rotate_left
  ·cases bH
  rename_i x y t t' gE pt;have hx:=cq h.t x;have hy:=cq h.t y;split at bH
  rotate_left
  ·rename_i b aM cj ro len cap e hv lJ he;rw[hv]at hx;rw[lJ]at hy;split at bH
   rotate_left
   ·cases bH
   rename_i s hs;simp only[aL]at bH;subst bH;have a1:c.args=#[x,y]:=by rw[<-lU (xs:=c.args),gE]
   have a2:c.argTypes=#[t,t']:=by rw[<-lU (xs:=c.argTypes),pt]
   have py:(A.sl b aM cj ro len cap).ok n bl.length ρ:=hx.1;obtain⟨ptr,e1,e2,e3⟩:=oi (m:=m) py;have dr:a.eval x=(A.sl b aM cj ro len cap).den ρ m:=hx.2;rw[e1]at dr;have rl:a.eval y= .slice none 0 0:=hy.2;obtain⟨pN,u7,wQ,bJ⟩:∃A B C,a.eval x= .slice A B C:=⟨_,_,_,dr⟩;have hrun:(wM #[t,t'] o.type #[.slice pN u7 wQ,.slice none 0 0]).run P w= .ok (goInt 0) w:=by
    cases pN<;>simp[wM,fe (hL he),aaW,iB hs,zg,storeCells]
   unfold m6;have hex:execOp a.eval o=(do pure (kO (<-wM #[t,t'] o.type #[a.eval x,a.eval y]))):=by
    simp[execOp,ho,resolve,gY,a1,a2,invoke,builtin]
   simp only[hex,bJ,rl,gm,hrun,gy,hS];exact hk n ρ m _ _ G _ _ (cR.refl _ _ _ _) (dG.refl _ _) ⟨dp.put (v:= .w (.one (.int .i64 ⟨.const 0,0,0⟩))) h.t o.dst ⟨aa.cC _ _,by simp[aa.aR],by simp[aa.aR]⟩ rfl,by rw[put_defers];exact h.d,h.b,h.a7⟩ ah
  ·cases bH
  rename_i b aM cj ro len cap b2 QH o2 fj iN CV e hv lJ he;rw[hv]at hx;rw[lJ]at hy;split at bH
  rotate_left
  ·cases bH
  rename_i sh off code cM kind bS JP I9 fh tI sF Hb s hbl tZ hs;cases hc:(bu 2 kind&&bY 0 sF&&aa.beq cj off&&aa.beq o2 I9&&h9 sh JP&&aH aM sh.length&&aH QH sh.length&&aH s sh.length&&lg sh&&iP sh)with
  |false=>rw[hc]at bH;cases bH
  |true=>
   rw[hc]at bH;simp only[cond_true,aL]at bH;subst bH;simp only[aO]at hc;obtain⟨⟨⟨⟨⟨⟨⟨⟨⟨c1,c2⟩,c3⟩,c4⟩,c5⟩,ff⟩,j7⟩,mD⟩,pT⟩,iW⟩:=hc;have c1:=eh c1;have c2:0<sF:=eh c2;have c3:=aa.beq_eq c3;have c4:=aa.beq_eq c4;have c5:=oW c5;have ff:=bx ff;have j7:=bx j7;have mD:=bx mD
   subst c3;subst c4;subst c5;subst ff;subst j7;subst mD;have a1:c.args=#[x,y]:=by rw[<-lU (xs:=c.args),gE]
   have a2:c.argTypes=#[t,t']:=by rw[<-lU (xs:=c.argTypes),pt]
   have py:(A.sl b sh.length cj ro len cap).ok n bl.length ρ:=hx.1;have Wd:(A.sl b2 sh.length o2 fj iN CV).ok n bl.length ρ:=hy.1;obtain⟨ptr,e1,e2,e3⟩:=oi (m:=m) py;obtain⟨aoG,f1,f2,f3⟩:=oi (m:=m) Wd;have dr:a.eval x=(A.sl b sh.length cj ro len cap).den ρ m:=hx.2;have rl:a.eval y=(A.sl b2 sh.length o2 fj iN CV).den ρ m:=hy.2;rw[e1]at dr;rw[f1]at rl;obtain⟨x1,⟨x2,x3,eP,iE⟩,⟨iS,ot,lk,nH⟩,⟨oo,oq⟩,fB,gT⟩:=py;obtain⟨kL,⟨mY,wB,FM,FN⟩,⟨FO,QZ,Q0,Q1⟩,⟨QW,QY⟩,J6,QX⟩:=Wd;have e4:(A.rows sh cj code cM kind).ok n bl.length ρ:=h.b _ (c0 hbl) _ (by simp);have aeZ:(A.rows sh o2 fh tI sF).ok n bl.length ρ:=h.b _ (c0 tZ) _ (by simp);have gP:=apY pT;have hcs:ar S L (bind (fg 80 [code,ro,len]) λ_=>bind (fg 22 [fh,fj,fj.add iN]) λ_=>bind (eA 62 [iN,len] 0 9223372036854775807) λq=>bind (eA 22 [fh,fj,fj.add q] 0 cc) λsrc=>bind (eA 63 [code,ro,src] 0 cc) λcode'=>pure (q,code')) n ρ λag n' p=>(p.1.aY n'/\p.2.aY n')/\(0<=p.2.den ag/\p.2.den ag<=cc)/\(0<=ro.den ρ/\0<=len.den ρ/\ro.den ρ+len.den ρ<=(ab (code.den ρ)).length)/\
    p.1.den ag=min (iN.den ρ) (len.den ρ)/\(0<=fj.den ρ/\fj.den ρ+iN.den ρ<=(ab (fh.den ρ)).length)/\ab (p.2.den ag)=(ab (code.den ρ)).take (ro.den ρ).toNat++((ab (fh.den ρ)).drop (fj.den ρ).toNat).take (min (iN.den ρ) (len.den ρ)).toNat++(ab (code.den ρ)).drop ((ro.den ρ).toNat+(((ab (fh.den ρ)).drop (fj.den ρ).toNat).take (min (iN.den ρ) (len.den ρ)).toNat).length)/\∀r∈ab (fh.den ρ),bK sh r:=by
    refine gC λir=>gC λhk2=>?_;have ir:0<=ro.den ρ/\0<=len.den ρ/\ro.den ρ+len.den ρ<=(ab (code.den ρ)).length:=ir;have hk2:0<=fj.den ρ/\fj.den ρ<=(fj.add iN).den ρ/\(fj.add iN).den ρ<=(ab (fh.den ρ)).length:=hk2;rw[aa.den_add]at hk2;obtain⟨q9,jd⟩:=apw h.a7 hbl c1 e4.2.2.2 gP;have En:∀r∈ab (fh.den ρ),bK sh r:=by
     rcases hQ (tI.den ρ) 0 with iM|iM
     ·have:=(h.a7.rws b2 sh o2 fh tI sF Hb tZ (by omega)).1 iM;rw[this];intro _ h;simp at h
     ·obtain⟨_,_,_,_,_,⟨_,q3⟩,_⟩:=(h.a7.rws b2 sh o2 fh tI sF Hb tZ (by omega)).2 iM;exact q3.1
    have Az:aw 62 ([iN,len].map (·.den ρ))=min (iN.den ρ) (len.den ρ):=rfl;refine(gf (by rw[Az];omega) (by rw[Az];omega)).bind λaD n1 q fi dL ⟨q1,q2⟩=>?_;rw[Az]at q2;have b1:fh.den aD=fh.den ρ:=aa.bG dL aeZ.1.2.1;have qK:fj.den aD=fj.den ρ:=aa.bG dL wB;have hf:aw 22 ([fh,fj,fj.add q].map (·.den aD))=rc (((ab (fh.den ρ)).drop (fj.den ρ).toNat).take (min (iN.den ρ) (len.den ρ)).toNat):=by
     simp only[cp,er,aw,aa.den_add,b1,qK,q2]
     congr 2;omega
    have dS:rc (((ab (fh.den ρ)).drop (fj.den ρ).toNat).take (min (iN.den ρ) (len.den ρ)).toNat)<=cc:=oF (by
     simp only[m5,qB];have:(ab (code.den ρ)).length<=maxLen:=q9;omega) λr hr=>(En r (nL (j1 hr))).row pT
    refine(gf (by rw[hf];exact fa _) (by rw[hf];exact dS)).bind λbo n2 src dY c7 ⟨s1,s2⟩=>?_;rw[hf]at s2;have U4:=dL.trans c7 fi;have NG:aw 63 ([code,ro,src].map (·.den bo))=rc ((ab (code.den ρ)).take (ro.den ρ).toNat++((ab (fh.den ρ)).drop (fj.den ρ).toNat).take (min (iN.den ρ) (len.den ρ)).toNat++(ab (code.den ρ)).drop ((ro.den ρ).toNat+(((ab (fh.den ρ)).drop (fj.den ρ).toNat).take (min (iN.den ρ) (len.den ρ)).toNat).length)):=by
     simp only[cp,er,aw,aa.bG U4 e4.1.2.1,aa.bG U4 x3,s2,du]
    have sy:∀r∈((ab (fh.den ρ)).drop (fj.den ρ).toNat).take (min (iN.den ρ) (len.den ρ)).toNat,bK sh r:=λr hr=>En r (nL (j1 hr));have Va:rc ((ab (code.den ρ)).take (ro.den ρ).toNat++((ab (fh.den ρ)).drop (fj.den ρ).toNat).take (min (iN.den ρ) (len.den ρ)).toNat++(ab (code.den ρ)).drop ((ro.den ρ).toNat+(((ab (fh.den ρ)).drop (fj.den ρ).toNat).take (min (iN.den ρ) (len.den ρ)).toNat).length))<=cc:=oF (by
     rw[Xs (by simp only[m5,qB];omega)];exact q9) λr hr=>(Xt jd sy r hr).row pT
    refine(gf (by rw[NG];exact fa _) (by rw[NG];exact Va)).bind λeJ n3 code' ra pg ⟨k1,k2⟩=>ar.pure ?_;rw[NG]at k2;refine⟨⟨q1.mono (gk dY ra),k1⟩,by rw[k2];exact⟨fa _,Va⟩,ir,?_,⟨hk2.1,hk2.2.2⟩,by rw[k2,du],En⟩;rw[aa.bG (c7.trans pg dY) q1,q2]
   obtain⟨ag,n',p,hn,ha,⟨⟨g1,kB⟩,g2,g3,g4,g5,g6,En⟩,ah⟩:=hcs G (λp n=>k n (ew tm o.dst (.w (.one (.int .i64 ⟨p.1,0,9223372036854775807⟩)))) (cO bl b ([.rows sh cj p.2 cM kind],bS))) ah;have hR:=h.later hn ha;have d1:code.den ag=code.den ρ:=aa.bG ha e4.1.2.1;have d2:cM.den ag=cM.den ρ:=aa.bG ha e4.1.2.2;rcases hQ 0 (len.den ρ)with sz|sz
   rotate_left
   ·have hl0:len.den ρ=0:=by omega
    have re:p.1.den ag=0:=by rw[g4];omega
    have kY:min (iN.den ρ) (len.den ρ)=0:=by omega
    have vG:ab (p.2.den ag)=ab (code.den ag):=by
     rw[g6,kY,d1];simp
    obtain⟨pN,u7,wQ,bJ⟩:∃A B C,a.eval x= .slice A B C/\B=0:=⟨_,_,_,dr,by rw[hl0];rfl⟩;obtain⟨bJ,rfl⟩:=bJ;obtain⟨Kx,RJ,Si,hY⟩:∃A B C,a.eval y= .slice A B C:=⟨_,_,_,rl⟩;have H2:(zg sh.length 0 (.slice Kx RJ Si)).run P w= .ok #[] w:=by
     cases Kx<;>simp[zg,loadCells,loadCellsFrom]
    have hrun:(wM #[t,t'] o.type #[.slice pN 0 wQ,.slice Kx RJ Si]).run P w= .ok (goInt 0) w:=by
     cases pN<;>simp[wM,fe (hL he),aaW,iB hs,H2,storeCells]
    unfold m6;have hex:execOp a.eval o=(do pure (kO (<-wM #[t,t'] o.type #[a.eval x,a.eval y]))):=by
     simp[execOp,ho,resolve,gY,a1,a2,invoke,builtin]
    simp only[hex,bJ,hY,gm,hrun,gy,hS];refine hk n' ag m _ _ G _ _ ⟨hn,ha,by rw[km];exact aV _,λ_ _=>rfl⟩ (dG.refl _ _) ⟨?_,by rw[put_defers];exact h.d,hR.b.set (λy hy=>by
     simp at hy;subst hy;exact⟨⟨e4.1.1.mono hn,kB,e4.1.2.2.mono hn⟩,g2,by rw[d2];exact e4.2.2⟩),hR.a7.ao4 hbl vG⟩ ah
    rw[km];refine dp.put hR.t o.dst ⟨g1,by show(0:Int)<=p.1.den ag;omega,by show p.1.den ag<=9223372036854775807;omega⟩ ?_;show goInt 0=rO .i64 (p.1.den ag);rw[re];rfl
   have cK:0<=cM.den ρ:=by
    rcases hQ (cM.den ρ) 0 with iM|iM
    ·have:=(h.a7.rws b sh cj code cM kind bS hbl (by omega)).1 iM;rw[this]at g3;simp at g3;omega
    ·exact iM
   generalize hq:(min (iN.den ρ) (len.den ρ)).toNat=q at*;have sy:∀r∈((ab (fh.den ρ)).drop (fj.den ρ).toNat).take q,bK sh r:=λr hr=>En r (nL (j1 hr));have VM:(((ab (fh.den ρ)).drop (fj.den ρ).toNat).take q).length=q:=by simp only[m5,qB];omega
   have hle:(ro.den ρ).toNat+(((ab (fh.den ρ)).drop (fj.den ρ).toNat).take q).length<=(ab (code.den ρ)).length:=by rw[VM];omega
   have k0:∀r∈ab (code.den ρ),bK sh r:=(YH h.a7 hbl c1 cK e4.2.2.2 gP).2;obtain⟨cells,post,fz,p1,br,bT,dh,dD,eB,oU⟩:=hR.a7.rewrite (code':=p.2) hbl c1 (by rw[d2];exact cK) iW (by rw[g6];exact Xt k0 sy) (by rw[g6,d1];exact Xs hle);rw[d1]at dh dD;have bT:cj.den ρ=0:=by rw[<-aa.bG ha x2];exact bT
   have Nv:0<=cap.den ρ:=by
    rcases hQ (cap.den ρ) 0 with iM|iM
    ·have:=fB iM;omega
    ·exact iM
   have bJ:a.eval x= .slice (some ⟨m b,(ro.den ρ).toNat*sh.length,none⟩) (len.den ρ).toNat (cap.den ρ).toNat:=by
    rw[dr,e3 Nv,if_neg (by omega),bT];simp
   have hV:(bn sh (((ab (fh.den ρ)).drop (fj.den ρ).toNat).take q)).length=q*sh.length:=by rw[l9 sy,VM]
   have agw:=congrArg kt dD;simp only[dn,wL,l9 dh]at agw;have sq:(ro.den ρ).toNat*sh.length+0+(bn sh (((ab (fh.den ρ)).drop (fj.den ρ).toNat).take q)).length<=cells.size:=by
    rw[hV];have:((ro.den ρ).toNat+q)*sh.length<=(ab (code.den ρ)).length*sh.length:=aaL _ (by omega);rw[u5]at this;omega
   have hst:=Qf (P:=P) (m b) ((ro.den ρ).toNat*sh.length) bS.1 fz kind (bn sh (((ab (fh.den ρ)).drop (fj.den ρ).toNat).take q)) 0 cells w br p1 sq MG;rw[lq,ala dh sy dD hle]at hst;rw[<-g6]at hst;have ahF:Nat.min (iN.den ρ).toNat (len.den ρ).toNat=q:=by show min _ _=q;omega
   have H2:(zg sh.length q (a.eval y)).run P w= .ok (bn sh (((ab (fh.den ρ)).drop (fj.den ρ).toNat).take q)).toArray w:=by
    rcases hQ (CV.den ρ) 0 with iM|iM
    ·have h0:=J6 iM;have re:q=0:=by omega
     rw[rl,f2 iM,re,Gm];exact Qe w sh.length _ _ _
    ·rw[rl,f3 iM];have nk:0<=tI.den ρ∨q=0:=by
      rcases hQ (tI.den ρ) 0 with sm|sm
      ·have:=(h.a7.rws b2 sh o2 fh tI sF Hb tZ (by omega)).1 sm;rw[this]at g5;simp at g5;right;omega
      ·exact .inl sm
     refine run_firstCells_some w sh.length q _ _ _ _ hV λj v hj=>?_;rcases nk with nk|nk
     ·obtain⟨_,av8,gS,awj,q1,⟨q2,q3⟩,_⟩:=(h.a7.rws b2 sh o2 fh tI sF Hb tZ (by omega)).2 nk;have:=(((mA iW).1 q3).sub (fj.den ρ).toNat q (by omega)).flat hj;rw[jr];simp only[jI,q1,rQ,pL,if_false];exact this
     ·rw[nk,Gm]at hj;simp[bn]at hj
   obtain⟨ajC,av7,hY⟩:∃B C,a.eval y= .slice aoG B C:=⟨_,_,rl⟩;have sx:ajC=(iN.den ρ).toNat:=by rw[rl]at hY;injection hY with _ h2 _;exact h2.symm
   subst sx;have hrun:(wM #[t,t'] o.type #[.slice (some ⟨m b,(ro.den ρ).toNat*sh.length,none⟩) (len.den ρ).toNat (cap.den ρ).toNat,a.eval y]).run P w= .ok (goInt q) (w.setRow (m b) (bn sh (ab (p.2.den ag))++post).toArray):=by
    rw[hY]at H2⊢;simp[wM,fe (hL he),aaW,iB hs,ahF,H2,hst]
   unfold m6;have hex:execOp a.eval o=(do pure (kO (<-wM #[t,t'] o.type #[a.eval x,a.eval y]))):=by
    simp[execOp,ho,resolve,gY,a1,a2,invoke,builtin]
   simp only[hex,bJ,gm,hrun,gy,hS];refine hk n' ag m _ _ G _ _ ⟨hn,ha,by rw[km];exact aV _,λ_ _=>rfl⟩ (dG.refl _ _) ⟨?_,by rw[put_defers];exact h.d,hR.b.set (λy hy=>by
    simp at hy;subst hy;exact⟨⟨e4.1.1.mono hn,kB,e4.1.2.2.mono hn⟩,g2,by rw[d2];exact e4.2.2⟩),oU⟩ ah
   rw[km];refine dp.put hR.t o.dst ⟨g1,by show(0:Int)<=p.1.den ag;rw[g4];omega,by show p.1.den ag<=9223372036854775807;rw[g4];omega⟩ ?_;show goInt q=rO .i64 (p.1.den ag);have l6:((q:Nat):Int)=p.1.den ag:=by rw[g4,<-hq];omega
   rw[<-l6];rfl
 ·cases bH
end
end Go.ba
namespace Go.ba
open M
section
variable {S:Nat->List Int->List Int->Prop} {L:V->Env->Prop} {w0:cP} {P:bj} {gl:dz} {cal:dW} {inl:hU}
theorem cond_holds {c:Bool} {t:T} {G:dc} {ρ:Env} (h:(cond c t .stuck).holds S L G ρ):c=true/\t.holds S L G ρ:=by
 cases c with
 |true=>exact⟨rfl,h⟩
 |false=>exact h.elim
theorem aqh {n:Nat} {ρ:Env} {m:Nat->Nat} {tm:List V} {bl:List ao} {a:Act} {w:ai} {G:dc} {o:Oper} {K:Act->ai->Prop} {Q:Exit->Act->ai->Prop} {k:fu}
 (cw:fl S P gl w0 cal) (hg:eL gl w0) (iq:lr S L w0 P inl) (h:R w0 n ρ m tm bl a w) (ah:(Qz P gl cal inl o n tm bl k).holds S L G ρ) (hk:jK S L w0 k n bl.length ρ m G K):o.wp P a w K Q:=by
 unfold Qz at ah;split at ah
 ·rename_i t ho;cases hz:lS P t with
  |none=>simp[hz,T.holds]at ah
  |some cs=>
   simp only[hz]at ah;unfold lS at hz;cases hi:P.info? t with
   |none=>simp[hi]at hz
   |some i=>
    cases n8:i.zero with
    |none=>simp[hi,n8]at hz
    |some z=>
     simp only[hi,n8]at hz;have hc:=xe hz n bl.length ρ m;obtain⟨jv,ah⟩:=cond_holds ah;have hw:=hk n ρ _ _ _ G _ _ (cR.alloc n ρ m bl (cs,(t,false)) w.heap.size) (dG.refl _ _) (h.alloc (t:=t) hc.1 o.dst jv) ah;unfold m6;simp only[execOp,ho,auW,gm,zeroValue,typeInfo,run_program,gy,hi,n8,hS,newVar,newRow,run_newObj];have e:(cs.map (A.den ρ m)).toArray=z.cells:=by rw[hc.2]
     rw[e]at hw;exact hw
 ·rename_i t x ho;have hx:=cq h.t x;split at ah
  ·rename_i u hu;rw[hu]at hx;have dr:a.eval x=u.den ρ m:=hx.2;obtain⟨jv,ah⟩:=cond_holds ah;have hw:=hk n ρ _ _ _ G _ _ (cR.alloc n ρ m bl (u.cells,(t,false)) w.heap.size) (dG.refl _ _) (h.alloc (t:=t) (W.zJ hx.1) o.dst jv) ah;unfold m6;simp only[execOp,ho,Instr.box,gm,gy,hS,newVar,newRow,run_newObj,dr];rw[<-W.Hi u hx.1]at hw;exact hw
  ·exact ah.elim
 ·rename_i t len parts ho;split at ah
  ·rename_i cs e p5;obtain⟨g1,g2⟩:=acu (m:=m) (vals:=parts.map λ(i,x)=>(i,a.eval x)) p5 (by
    rw[u1];generalize parts.toList=ps;induction ps with
    |nil=>exact trivial
    |cons p r ih=>exact⟨⟨rfl,cq h.t p.2⟩,ih⟩)
   obtain⟨jv,ah⟩:=cond_holds ah;have hR:=R.row (t:=e) (cs:=cs) (ex:=[]) (open_:=false) h g1 (λ_=>rfl) jv o.dst (v:= .w (.one (.slc bl.length 0 len len))) (x:= .slice (some ⟨w.heap.size,0,none⟩) len len) (by simp[V.ok,W.ok,A.ok]) (by
    show Value.slice (some ⟨w.heap.size,0,none⟩) _ _=_;simp[W.den,A.den,jX])
   have hw:=hk n ρ _ _ _ G _ _ (cR.alloc n ρ m bl (cs,(e,false)) w.heap.size) (dG.refl _ _) hR ah;rw[ln]at hw;unfold m6;simp only[execOp,ho,gm,g2,gy,hS];exact hw
  ·exact ah.elim
 ·rename_i t p x ho;have hp:=cq h.t p;have hx:=cq h.t x;split at ah
  ·rename_i b off u Od EF;rw[Od]at hp;rw[EF]at hx;have Ob:a.eval p= .pointer (some ⟨m b,off,none⟩):=hp.2;have dr:a.eval x=u.den ρ m:=hx.2;split at ah
   ·rename_i cs bS s hbl hs;cases hc:(aH u.cells.length s&&bu (off+s) cs.length&&bY 0 s&&bO cs&&bO (cs.take off++u.cells++cs.drop (off+s)))with
    |false=>rw[hc]at ah;exact ah.elim
    |true=>
     simp only[hc,cond_true]at ah;simp only[aO]at hc;obtain⟨⟨hc,rb⟩,nq⟩:=hc;have e1:=bx hc.1.1;have e2:=eh hc.1.2;have e3:=tE hc.2;subst e1;obtain⟨w',hrun,ug⟩:=h.a7.store h.b (W.zJ hx.1) hbl e2 e3 rb nq t hs (u.den ρ m) (W.Hi u hx.1);have aX:∀a∈cs.take off++u.cells++cs.drop (off+u.cells.length),A.ok n bl.length ρ a:=λa ha=>by
      have hcs:=h.b _ (c0 hbl);rcases List.mem_append.1 ha with ha|ha
      ·rcases List.mem_append.1 ha with ha|ha
       ·exact hcs a (j1 ha)
       ·exact W.zJ hx.1 a ha
      ·exact hcs a (nL ha)
     unfold m6;simp only[execOp,ho,gm,Ob,dr,hrun,gy,hS];refine hk n ρ m _ _ G _ w' ⟨aV _,agree.refl _ _,by rw[km];exact aV _,λ_ _=>rfl⟩ (dG.refl _ _) ⟨?_,by rw[put_defers];exact h.d,h.b.set aX,ug⟩ ah;rw[km];exact dp.put h.t o.dst (by intro x hx;simp at hx) rfl
   ·exact ah.elim
  ·exact ah.elim
 ·rename_i c ho;split at ah
  ·rename_i f hc;split at ah
   ·exact Ju cw hg h ah hk
   ·have ni:∀v∈c.args.toList.map (bZ tm),V.ok n bl.length ρ v:=λv hv=>by
     obtain⟨x,_,rfl⟩:=List.mem_map.1 hv;exact(cq h.t x).1
    have hr:=iq f n _ bl _ G ρ m w _ (λe lj=>match e with
     | .returned v=>K (a.put o.dst v) lj
     | .panicked chain=>Q (.panic chain) a lj
     | .outgrown=>LetsOut Q) h.b h.a7 ni (GC (xs:=c.args.toList) h.t) ah (by
     intro n' v aJ de ag m' w' val h1 h2 h3 h4 h5 h6 h7;exact hk n' ag m' _ aJ de _ w' h1 h2 ⟨dp.put (h.t.ext h1.ha h1.hn h1.hb h1.hm) o.dst h3 h4,by rw[put_defers];exact h.d,h5,h6⟩ h7)
    have ha:(c.args.toList.map a.eval).toArray=c.args.map a.eval:=by rw[<-u1]
    rw[ha]at hr;unfold m6;rw[Qd hc o ho,hr.1];refine hr.2.mono λe lj he=>?_;cases e<;>exact he
  ·rename_i x hc;split at ah
   ·exact Ju cw hg h ah hk
   split at ah
   ·rename_i f gX agB;have hx:=cq h.t (.tmp x);obtain⟨hx1,dr⟩:(∀y∈gX,A.ok n bl.length ρ y)/\a.eval (.tmp x)= .func (.func f) #[] (gX.map (A.den ρ m)).toArray:=ac2 agB hx.1 hx.2;have ni:∀v∈c.args.toList.map (bZ tm)++gX.map (λy=>V.w (.one y)),V.ok n bl.length ρ v:=λv hv=>by
     rcases List.mem_append.1 hv with hv|hv
     ·obtain⟨x,_,rfl⟩:=List.mem_map.1 hv;exact(cq h.t x).1
     ·obtain⟨y,hy,rfl⟩:=List.mem_map.1 hv;exact hx1 y hy
    have hrel:df ρ m (c.args.toList.map (bZ tm)++gX.map λy=>V.w (.one y)) (c.args.toList.map a.eval++gX.map (A.den ρ m)):=by
     generalize c.args.toList=l;induction l with
     |nil=>
      simp only[er,jH];generalize gX=q;induction q with
      |nil=>trivial
      |cons y r ih=>exact⟨rfl,ih⟩
     |cons x r ih=>exact⟨(cq h.t x).2,ih⟩
    have hr:=iq f n _ bl _ G ρ m w _ (λe lj=>match e with
     | .returned v=>K (a.put o.dst v) lj
     | .panicked chain=>Q (.panic chain) a lj
     | .outgrown=>LetsOut Q) h.b h.a7 ni hrel ah (by
     intro n' v aJ de ag m' w' val h1 h2 h3 h4 h5 h6 h7;exact hk n' ag m' _ aJ de _ w' h1 h2 ⟨dp.put (h.t.ext h1.ha h1.hn h1.hb h1.hm) o.dst h3 h4,by rw[put_defers];exact h.d,h5,h6⟩ h7)
    have hex:execOp a.eval o=callFunc f (c.args.toList.map a.eval++gX.map (A.den ρ m)).toArray:=by
     have e:(c.args.toList.map a.eval++gX.map (A.den ρ m)).toArray=#[]++c.args.map a.eval++(gX.map (A.den ρ m)).toArray:=by
      apply Rw;simp
     rw[e];simp only[execOp,ho,resolve,hc,dr,Deferred.ofValue,pure_bind,invoke]
    unfold m6;rw[hex,hr.1];refine hr.2.mono λe lj he=>?_;cases e<;>exact he
   ·exact ah.elim
  ·exact Ju cw hg h ah hk
 ·exact Ju cw hg h ah hk
theorem QA {n:Nat} {ρ:Env} {m:Nat->Nat} {tm:List V} {bl:List ao} {a:Act} {w:ai} {G:dc} {o:Oper} {K:Act->ai->Prop} {Q:Exit->Act->ai->Prop} {k:fu}
 (cw:fl S P gl w0 cal) (hg:eL gl w0) (iq:lr S L w0 P inl) (h:R w0 n ρ m tm bl a w) (ah:(FD P gl cal inl o n tm bl k).holds S L G ρ) (hk:jK S L w0 k n bl.length ρ m G K):o.wp P a w K Q:=by
 unfold FD at ah;split at ah
 ·rename_i t ht;exact aqi h ht ah hk
 ·split at ah
  ·rename_i t ht;exact aqk h ht ah hk
  ·split at ah
   ·rename_i t ht;exact aql h ht ah hk
   ·exact aqh cw hg iq h ah hk
theorem Tc {ρ:Env}:∀{b:bg} {v:Bool} {r:aa×Option Int×Option Int},b.den ρ=v->pS b v=some r->(∀c,r.2.1=some c->c<=r.1.den ρ)/\(∀c,r.2.2=some c->r.1.den ρ<=c)
 | .le p q,true,r,hb,h| .le p q,false,r,hb,h| .lt p q,true,r,hb,h| .lt p q,false,r,hb,h=>by
  simp only[bg.den,decide_eq_true_eq,decide_eq_false_iff_not]at hb;simp only[pS]at h;split at h
  ·rename_i c h1 h2;have e:=aa.iK h1 (ρ:=ρ);simp only[aL]at h;subst h;constructor<;>intro c' hc<;>simp only[aL,reduceCtorEq]at hc<;>subst hc<;>simp only<;>omega
  ·rename_i c h1 h2;have e:=aa.iK h2 (ρ:=ρ);simp only[aL]at h;subst h;constructor<;>intro c' hc<;>simp only[aL,reduceCtorEq]at hc<;>subst hc<;>simp only<;>omega
  ·cases h
 | .not b,v,r,hb,h=>by
  simp only[pS]at h;refine Tc (b:=b) (v:= !v) ?_ h;simp only[bg.den]at hb;rw[<-hb,Bool.not_not]
 | .lit _,_,_,_,h=>by simp[pS]at h
 | .eq _ _,_,_,_,h=>by simp[pS]at h
 | .and _ _,_,_,_,h=>by simp[pS]at h
 | .iff _ _,_,_,_,h=>by simp[pS]at h
theorem adb {n nb:Nat} {ρ:Env} {m:Nat->Nat} {b:bg} {v:Bool} (hb:b.den ρ=v) (u:V) (hu:u.ok n nb ρ):(Ho b v (pS b v) u).ok n nb ρ/\∀x,u.rel ρ m x->(Ho b v (pS b v) u).rel ρ m x:=by
 unfold Ho;split
 ·rename_i e;cases hc:bg.beq e b with
  |false=>simp only[cond_false];exact⟨hu,λ_ h=>h⟩
  |true=>
   have:=bg.beq_eq hc;subst this;simp only[cond_true];refine⟨trivial,λx hx=>?_⟩;simp only[V.rel,W.den,A.den,bg.den]at hx⊢;rw[hx,hb]
 ·rename_i k y;cases hr:pS b v with
  |none=>exact⟨hu,λ_ h=>h⟩
  |some r=>
   obtain⟨l,lo,hi⟩:=r;simp only;cases hc:aa.beq y.l l with
   |false=>simp only[cond_false];exact⟨hu,λ_ h=>h⟩
   |true=>
    have:=aa.beq_eq hc;have hs:=Tc hb hr;have hy:y.ok n ρ:=hu;simp only[cond_true];have b1:Bs y.lo lo<=y.l.den ρ:=by
     unfold Bs;cases lo with
     |none=>exact hy.2.1
     |some c=>
      simp only;have:=hs.1 c rfl;have:=hy.2.1;cases decide (y.lo<=c)with
      |true=>simp only[cond_true];rw[‹y.l=l›];assumption
      |false=>simp only[cond_false];assumption
    have b2:y.l.den ρ<=E0 y.hi hi:=by
     unfold E0;cases hi with
     |none=>exact hy.2.2
     |some c=>
      simp only;have:=hs.2 c rfl;have:=hy.2.2;cases decide (c<=y.hi)with
      |true=>simp only[cond_true];rw[‹y.l=l›];assumption
      |false=>simp only[cond_false];assumption
    cases hd:decide (Bs y.lo lo=E0 y.hi hi)with
    |true=>
     simp only[cond_true];have hd:=of_decide_eq_true hd;refine⟨bI.nc _ _ _,λx h=>?_⟩;have h:x= .int k (y.l.den ρ):=h;rw[h];simp only[V.rel,W.den,A.den,bI.const,aa.aR]
     congr 1;omega
    |false=>simp only[cond_false];exact⟨⟨hy.1,b1,b2⟩,λx h=>h⟩
 ·exact⟨hu,λ_ h=>h⟩
theorem B4 {n nb:Nat} {ρ:Env} {m:Nat->Nat} {b:bg} {v:Bool} (hb:b.den ρ=v) {tm:List V} {xs:Array az} (h:dp n nb ρ m tm xs):dp n nb ρ m (pE b v tm) xs:=by
 refine⟨by simp[pE,h.1],λi u hu=>?_⟩;simp only[pE,ox,Option.map_eq_some_iff]at hu;obtain⟨u0,h0,rfl⟩:=hu;obtain⟨h1,x,h2,h3⟩:=h.2 i u0 h0;have:=adb (m:=m) hb u0 h1;exact⟨this.1,x,h2,this.2 x h3⟩
theorem vy {n nb:Nat} {ρ:Env} {m:Nat->Nat} {tm:List V} {a:Act} {G:dc} {ops:Array Oper} {o:Oper} {yes no:List V->T} (ht:dp n nb ρ m tm a.tmps) (h:(tS ops tm o yes no).holds S L G ρ):
 ∃bw,dp n nb ρ m bw a.tmps/\((tk o (yielded ops a.tmps)=true/\(yes bw).holds S L G ρ)∨(tk o (yielded ops a.tmps)=false/\(no bw).holds S L G ρ)):=by
 unfold tS at h;unfold tk;cases hgd:o.guard with
 |none=>simp only[hgd]at h;exact⟨tm,ht,.inl ⟨rfl,h⟩⟩
 |some MK=>
  obtain⟨g,want⟩:=MK;simp only[hgd]at h⊢;unfold yielded;cases hd:(ops[g]?).bind (·.dst)with
  |none=>simp[hd,T.holds]at h
  |some d=>
   simp only[hd]at h;simp only[Option.bind_some];cases Ok:tm[d]? with
   |none=>simp[Ok,T.holds]at h
   |some v=>
    obtain⟨_,x,hx,hr⟩:=ht.2 d v Ok;simp only[Ok]at h;revert hr h;cases v with
    |any=>intro hr h;exact h.elim
    |oS _ _ _=>intro hr h;exact h.elim
    |mE _ _=>intro hr h;exact h.elim
    |eV l=>
     cases l with
     |nil=>
      intro hr h;have hr:x= .tuple #[]:=hr;subst hr;simp only[hx];exact⟨tm,ht,.inr ⟨by simp,h⟩⟩
     |cons _ _=>intro hr h;exact h.elim
    |w y=>
     cases y with
     |agg l=>intro hr h;exact h.elim
     |one c=>
      cases c with
      |bool b=>
       intro hr h;have hr:x= .bool (b.den ρ):=hr;subst hr;simp only[hx];have key:∀b:bg,(T.tG b (cond want (yes (pE b true tm)) (no (pE b true tm))) (cond want (no (pE b false tm)) (yes (pE b false tm)))).holds S L G ρ->∃bw,dp n nb ρ m bw a.tmps/\(((some (b.den ρ)==some want)=true/\(yes bw).holds S L G ρ)∨((some (b.den ρ)==some want)=false/\(no bw).holds S L G ρ)):=λb hb=>by
        simp only[T.holds]at hb;cases hq:b.den ρ with
        |true=>
         have:=hb.1 hq;cases want with
         |true=>exact⟨_,B4 hq ht,.inl ⟨by simp,this⟩⟩
         |false=>exact⟨_,B4 hq ht,.inr ⟨by simp,this⟩⟩
        |false=>
         have:=hb.2 hq;cases want with
         |true=>exact⟨_,B4 hq ht,.inr ⟨by simp,this⟩⟩
         |false=>exact⟨_,B4 hq ht,.inl ⟨by simp,this⟩⟩
       cases b with
       |lit v=>
        simp only[bg.den];cases hv:(v==want)with
        |true=>simp only[hv,cond_true]at h;exact⟨tm,ht,.inl ⟨by simpa using hv,h⟩⟩
        |false=>simp only[hv,cond_false]at h;exact⟨tm,ht,.inr ⟨by simpa using hv,h⟩⟩
       |eq _ _=>exact key _ h
       |lt _ _=>exact key _ h
       |le _ _=>exact key _ h
       |not _=>exact key _ h
       |and _ _=>exact key _ h
       |iff _ _=>exact key _ h
      |_=>intro hr h;exact h.elim
theorem R.skip {n:Nat} {ρ:Env} {m:Nat->Nat} {tm:List V} {bl:List ao} {a:Act} {w:ai} (h:R w0 n ρ m tm bl a w) (d:Option Tmp):R w0 n ρ m (ew tm d (.eV [])) bl (a.put d undef) w:=
 ⟨dp.put h.t d (by intro x hx;simp at hx) rfl,by rw[put_defers];exact h.d,h.b,h.a7⟩
theorem Je {ops:Array Oper} {Q:Exit->Act->ai->Prop} (cw:fl S P gl w0 cal) (hg:eL gl w0) (iq:lr S L w0 P inl):∀(l:List Oper) {n:Nat} {ρ:Env} {m:Nat->Nat} {tm:List V} {bl:List ao} {a:Act} {w:ai} {G:dc} {k:fu},
 R w0 n ρ m tm bl a w->(BC P gl cal inl ops l n tm bl k).holds S L G ρ->jK S L w0 k n bl.length ρ m G (Q .normal)->wpList P ops Q l a w
 |[],n,ρ,m,tm,bl,a,w,G,k,h,ah,hk=>hk n ρ m tm bl G a w (cR.refl _ _ _ _) (dG.refl _ _) h ah
 |o::r,n,ρ,m,tm,bl,a,w,G,k,h,ah,hk=>by
  unfold BC at ah;unfold wpList;obtain⟨bw,gZ,hgd⟩:=vy h.t ah;have h:R w0 n ρ m bw bl a w:=⟨gZ,h.d,h.b,h.a7⟩;rcases hgd with⟨hw,ah⟩|⟨hw,ah⟩
  ·rw[if_pos hw];refine .inl (QA cw hg iq h ah λn' ag m' bw aJ de a' w' h1 h2 h3 h4=>?_);exact Je cw hg iq r h3 h4 (hk.later h1 h2)
  ·rw[if_neg (by simp[hw])];exact Je cw hg iq r (h.skip o.dst) ah hk
theorem allT_holds {g:Nat->T} {L:V->Env->Prop} {G:dc} {ρ:Env}:∀{l:List Nat},(GS g l).holds S L G ρ->∀i∈l,(g i).holds S L G ρ
 |[],ah,_,hi=>by cases hi
 |[j],ah,i,hi=>by simp at hi;subst hi;exact ah
 |j::OL::r,ah,i,hi=>by
  rcases List.mem_cons.1 hi with rfl|hi
  ·exact ah.1
  ·exact allT_holds (l:=OL::r) ah.2 i hi
theorem HZ {ops:Array Oper} {bl:List ao} {m:Nat->Nat} {n0:Nat} {bV:Env} (cw:fl S P gl w0 cal) (hg:eL gl w0) (iZ:b6 n0 bl.length bV bl) (hex:∃w,Mem w0 bV m bl w) {F:Act->Prop} {G:dc}:∀(l:List Oper) {n:Nat} {ρ:Env} {tm:List V} {a:Act} {k:Nat->List V->T},
 n0<=n->agree n0 bV ρ->dp n bl.length ρ m tm a.tmps->a.defers=w0.ds->(Aq P gl cal ops l n tm bl k).holds S L G ρ->
 (∀n' ag bw a',n<=n'->agree n ρ ag->dp n' bl.length ag m bw a'.tmps->a'.defers=w0.ds->(k n' bw).holds S L G ag->F a')->wR P ops (λw=>Mem w0 bV m bl w) F l a
 |[],n,ρ,tm,a,k,hn,ha,ht,hd,ah,hk=>hk n ρ tm a (aV _) (agree.refl _ _) ht hd ah
 |o::r,n,ρ,tm,a,k,hn,ha,ht,hd,ah,hk=>by
  unfold Aq at ah;unfold wR;obtain⟨uP,rj⟩:=hex;cases cG:eY o with
  |true=>
   simp only[cG,cond_true]at ah⊢;exact HZ cw hg iZ ⟨uP,rj⟩ r hn ha ht hd ah hk
  |false=>
   simp only[cG,cond_false]at ah⊢;obtain⟨bw,ht,hgd⟩:=vy ht ah;rcases hgd with⟨hw,ah⟩|⟨hw,ah⟩
   ·have hb:b6 n bl.length ρ bl:=iZ.ext ha hn (aV _);obtain⟨ag,n',v,mb,fp,⟨hv,val,hr,hq⟩,sr⟩:=Fh (L:=L) cw hb hg ⟨uP,rj.dO iZ ha⟩ ht o G _ ah;refine⟨val,.inl ⟨hw,λw aia=>hq w (aia.dO iZ ha)⟩,?_⟩;exact HZ cw hg iZ ⟨uP,rj⟩ r (gk hn mb) (ha.trans fp hn) (dp.put (ht.ext fp mb (aV _) (λ_ _=>rfl)) o.dst hv hr) (by rw[put_defers];exact hd) sr
     λBw pM Zv SK h1 h2 h3 h4 h5=>hk Bw pM Zv SK (gk mb h1) (fp.trans h2 mb) h3 h4 h5
   ·exact⟨undef,.inr ⟨hw,rfl⟩,HZ cw hg iZ ⟨uP,rj⟩ r hn ha (dp.put (v:= .eV []) ht o.dst (by intro x hx;simp at hx) rfl) (by rw[put_defers];exact hd) ah hk⟩
def Cl (P:bj) (ops:Array Oper) (j:Nat):Obj:=
 match ops[j]? with
 |some o=>match o.op with
  | .alloc t=>match P.info? t with
   |some i=>match i.zero with
    |some z=> .cells z.cells t
    |none=>default
   |none=>default
  |_=>default
 |none=>default
theorem at6 {l:List Oper} {h j:Nat} {o:Oper} (hz:Kd P (l.take h)=true) (hj:j<h) (ho:l.toArray[j]?=some o) (cG:eY o=true) (b:Act) (w:ai):
 (execOp b.eval o).run P w= .ok (.value (.pointer (some ⟨w.heap.size,0,none⟩))) (w.alloc (Cl P l.toArray j)):=by
 have gh:l[j]?=some o:=by simpa using ho
 have hm:o∈l.take h:=c0 (i:=j) (by rw[o0,if_pos hj];exact gh);have h1:=List.all_eq_true.1 hz o hm;simp only[cG,F8,Bool.false_or]at h1;unfold Cl;simp only[ho];cases hop:o.op with
 |alloc t=>
  simp only[hop]at h1;obtain⟨cs,hcs⟩:=Option.isSome_iff_exists.1 h1;obtain⟨i,z,hi,n8,_⟩:=Kc hcs;simp only[execOp,hop,auW,gm,zeroValue,typeInfo,run_program,gy,hi,n8,hS,newVar,newRow,run_newObj];rfl
 |_=>simp[hop]at h1
theorem LH {ops:Array Oper} {h:Nat} {an b:Act} {eI:Nat->Nat} {aM:Nat} {w:ai} {n:Nat} {ρ:Env} {G:dc} {k:fu} {K:Act->ai->Prop} (ud:Fin ops h an b eI) (iv:vd ops h (λ_=>True) (Cl P ops) eI aM w) (hsz:w0.b.heap.size<=aM) (V4:w0.r.heap.size<=aM):
 ∀(l:List Oper) (i:Nat) {m:Nat->Nat} {tm:List V} {bl:List ao} {c:Act},(∀j,j<l.length->ops[i+j]?=l[j]?)->i+l.length=h->R w0 n ρ m tm bl c w->CF w0 ρ m bl w aM->
  (∀(aU:Nat) (p:ao),bl[aU]?=some p->aP ρ p.1≠0->m aU<aM∨∃j,j<i/\o9 ops j=true/\m aU=eI j)->c.tmps.size=an.tmps.size->
  (∀t:Nat,((∃j o,j<i/\ops[j]?=some o/\eY o=true/\o.dst=some t)->c.tmps[t]?=b.tmps[t]?)/\((∀j o,j<i->ops[j]?=some o->eY o=true->o.dst≠some t)->c.tmps[t]?=an.tmps[t]?))->
  (CG P l n tm bl k).holds S L G ρ->jK S L w0 k n bl.length ρ m G K->an.defers=w0.ds->K b w
 |[],i,m,tm,bl,c,hl,hi,hR,ma,hm,hcs,hc,ah,hk,hd=>by
  simp only[eH,lq]at hi;subst hi;have fQ:c=b:=abM (by rw[hR.d,ud.d,hd]) λt=>by
   by_cases ht:∃j o,j<i/\ops[j]?=some o/\eY o=true/\o.dst=some t
   ·exact(hc t).1 ht
   ·have hno:∀j o,j<i->ops[j]?=some o->eY o=true->o.dst≠some t:=λj o h1 h2 h3 h4=>ht ⟨j,o,h1,h2,h3,h4⟩;rw[(hc t).2 hno,ud.no t hno]
  subst fQ;exact hk n ρ m tm bl G c w (cR.refl _ _ _ _) (dG.refl _ _) hR ah
 |o::r,i,m,tm,bl,c,hl,hi,hR,ma,hm,hcs,hc,ah,hk,hd=>by
  have ho:ops[i]?=some o:=by have:=hl 0 (by simp);simpa using this
  have hr:∀j,j<r.length->ops[i+1+j]?=r[j]?:=λj hj=>by
   have:=hl (j+1) (by simp;omega);rw[show i+1+j=i+(j+1) by omega,this];simp
  have nn:i+1+r.length=h:=by simp at hi;omega
  unfold CG at ah;cases cG:eY o with
  |false=>
   simp only[cG,cond_false]at ah;refine LH ud iv hsz V4 r (i+1) hr nn hR ma (λaU p ja hp=>(hm aU p ja hp).imp id λ⟨j,h1,h2⟩=>⟨j,by omega,h2⟩) hcs (λt=>⟨λ⟨j,cj,h1,h2,h3,h4⟩=>?_,λhno=>(hc t).2 λj cj h1=>hno j cj (by omega)⟩) ah hk hd;by_cases e5:j=i
   ·subst e5;have:cj=o:=gH (h2.symm.trans ho);subst this;rw[cG]at h3;cases h3
   ·exact(hc t).1 ⟨j,cj,by omega,h2,h3,h4⟩
  |true=>
   simp only[cG,cond_true]at ah;cases hop:o.op with
   |alloc ty=>
    simp only[hop]at ah;cases hz:lS P ty with
    |none=>simp[hz,T.holds]at ah
    |some cs=>
     simp only[hz]at ah;obtain⟨jv,ah⟩:=cond_holds ah;obtain⟨inf,z,agZ,n8,gY⟩:=Kc hz;have Nx:=xe gY n bl.length ρ m;have gO:o9 ops i=true:=by simp[o9,ho,cG]
     have NQ:i<h:=by simp at hi;omega
     obtain⟨g1,g2⟩:=iv.1 i NQ trivial gO;have aij:Cl P ops i= .cells (cs.map (A.den ρ m)).toArray ty (0,0):=by
      unfold Cl;simp only[ho,hop,agZ,n8,Nx.2]
     rw[aij]at g2;have hne:∀(aU:Nat) (p:ao),bl[aU]?=some p->aP ρ p.1≠0->m aU≠eI i:=λaU p ja hp e=>by
      rcases hm aU p ja hp with h1|⟨j,h1,h2,h3⟩
      ·omega
      ·have:=iv.2 j i (by omega) NQ trivial trivial h2 gO (h3.symm.trans e);omega
     have hM:=hR.a7.push (x:=(cs,(ty,false))) hR.b Nx.1 (λ_=>⟨by omega,.inr (by omega),[],λ_=>rfl,by rw[ln];exact g2⟩) (λsh off code cap kind e=>by simp only at e;subst e;cases jv) (λi p hi he=> .inr (.inl (aaI λhk=>hne i p hi hk he))) (λye sh off code cap kind t hi=>(ma ye sh off code cap kind t hi).mono λbb h'=>h'.1.push (.inr (by omega)));have bW:=cR.alloc n ρ m bl (cs,(ty,false)) (eI i);have nT:R w0 n ρ (fc m bl.length (eI i)) (ew tm o.dst (.w (.one (.ptr bl.length 0)))) (bl++[(cs,(ty,false))]) (c.put o.dst (.pointer (some ⟨eI i,0,none⟩))) w:=
      ⟨dp.put (hR.t.ext bW.ha bW.hn bW.hb bW.hm) o.dst (by simp[V.ok,W.ok,A.ok]) (by simp[V.rel,W.den,A.den,jX]),by rw[put_defers];exact hR.d,hR.b.alloc Nx.1,hM⟩
     refine LH ud iv hsz V4 r (i+1) hr nn nT (ma.push (by omega) jv) (λaU p ja hp=>?_) ((yF _ _ _).trans hcs) (λt=>⟨λ⟨j,cj,h1,h2,h3,h4⟩=>?_,λhno=>?_⟩) ah (hk.later bW (dG.refl _ _)) hd
     ·by_cases iu:aU<bl.length
      ·rw[iD iu];rw[rT iu]at ja;exact(hm aU p ja hp).imp id λ⟨j,h1,h2⟩=>⟨j,by omega,h2⟩
      ·have:aU=bl.length:=by have:=(List.getElem?_eq_some_iff.1 ja).1;simp at this;omega
       subst this;rw[jX];exact .inr ⟨i,by omega,gO,rfl⟩
     ·by_cases ht:o.dst=some t
      ·rw[ht];simp only[Act.put];rcases mx t c.tmps.size with h5|h5
       ·have p5:t<b.tmps.size:=by rw[ud.aM,<-hcs];exact h5
        rw[ud.al t i o NQ ho cG ht p5];simp[h5]
       ·rw[uV (by simpa using h5),uV (by rw[ud.aM,<-hcs];exact h5)]
      ·rw[sR ht];by_cases e5:j=i
       ·subst e5;have:cj=o:=gH (h2.symm.trans ho);subst this;exact absurd h4 ht
       ·exact(hc t).1 ⟨j,cj,by omega,h2,h3,h4⟩
     ·have ht:o.dst≠some t:=hno i o (by omega) ho cG;rw[sR ht];exact(hc t).2 λj cj h1=>hno j cj (by omega)
   |_=>simp[hop,T.holds]at ah
end
end Go.ba
namespace Go.ba
open M
theorem ac5 {a b:az} (h:Me a b=true):a=b:=by
 unfold Me at h;split at h
 ·rfl
 ·rfl
 ·rename_i f a b ng a' b';simp only[aO]at h;obtain⟨⟨⟨⟨h1,h2⟩,h3⟩,h4⟩,h5⟩:=h;rw[bx h1,u3 (bx h2),u3 (bx h3),u3 (bx h4),u3 (bx h5)]
 ·cases h
theorem A.beq_eq {a b:A} (h:A.beq a b=true):a=b:=by
 cases a<;>cases b<;>simp only[A.beq]at h<;>(try(cases h;done))
 case int.int k x a6 y=>
  simp only[aO,decide_eq_true_eq,beq_iff_eq]at h;obtain⟨⟨⟨h1,h2⟩,h3⟩,h4⟩:=h;cases x;cases y;simp only at h2 h3 h4;rw[h1,aa.beq_eq h2,h3,h4]
 case bool.bool x y=>
  rw[bg.beq_eq h]
 case con.con=>rw[ac5 h]
 case ptr.ptr=>simp only[aO]at h;rw[bx h.1,bx h.2]
 case gptr.gptr=>simp only[aO]at h;rw[bx h.1,bx h.2]
 case slc.slc=>
  simp only[aO]at h;rw[bx h.1.1.1,bx h.1.1.2,bx h.1.2,bx h.2]
 case str.str=>rw[aa.beq_eq h]
 case rows.rows=>
  simp only[aO]at h;rw[oW h.1.1.1.1,aa.beq_eq h.1.1.1.2,aa.beq_eq h.1.1.2,aa.beq_eq h.1.2,bx h.2]
 case sl.sl=>
  simp only[aO]at h;rw[bx h.1.1.1.1.1,bx h.1.1.1.1.2,aa.beq_eq h.1.1.1.2,aa.beq_eq h.1.1.2,aa.beq_eq h.1.2,aa.beq_eq h.2]
 case ep.ep=>
  simp only[aO]at h;rw[bx h.1.1.1.1,bx h.1.1.1.2,aa.beq_eq h.1.1.2,aa.beq_eq h.1.2,bx h.2]
theorem zA:∀{a b:List A},na a b=true->a=b
 |[],[],_=>rfl
 |x::r,y::s,h=>by
  simp only[na,aO]at h;rw[A.beq_eq h.1,zA h.2]
 |[],_::_,h=>by simp[na]at h
 |_::_,[],h=>by simp[na]at h
theorem V.beq_eq {a b:V} (h:V.beq a b=true):a=b:=by
 cases a with
 |any=>cases b<;>simp[V.beq]at h
 |eV l=>cases l<;>cases b<;>simp[V.beq]at h;rename_i bQ;cases bQ<;>simp[V.beq]at h;rfl
 |w x=>
  cases b with
  |w y=>cases x<;>cases y<;>simp[V.beq]at h;rw[A.beq_eq h];rw[zA h]
  |_=>cases x<;>simp[V.beq]at h
 |oS _ _ _=>simp[V.beq]at h
 |mE f l=>
  cases b with
  |mE ng bQ=>
   simp only[V.beq,aO]at h;rw[bx h.1,zA h.2]
  |_=>simp[V.beq]at h
theorem Cb:∀(zs:List Int) (n:Nat) (ρ:Env) (j:Nat),j<zs.length->bf ρ n zs (n+j)=zs.getD j 0
 |[],_,_,_,h=>by simp at h
 |z::zs,n,ρ,0,_=>by
  show bf (cU ρ n z) (n+1) zs (n+0)=z;rw[agree.bf zs (n+1) _ (n+0) (by omega)];exact jD ρ n z
 |z::zs,n,ρ,j+1,h=>by
  show bf (cU ρ n z) (n+1) zs (n+(j+1))=_;rw[show n+(j+1)=n+1+j by omega,Cb zs (n+1) _ j (by simpa using h)];rfl
def wW (n nb:Nat) (ρ:Env) (m:Nat->Nat):List V->List az->Prop
 |[],[]=>True
 |v::r,x::s=>v.ok n nb ρ/\v.rel ρ m x/\wW n nb ρ m r s
 |_,_=>False
theorem Ss {n nb:Nat} {ρ:Env} {m:Nat->Nat}:∀{tm:List V} {xs:List az},dp n nb ρ m tm xs.toArray->wW n nb ρ m tm xs
 |[],[],_=>trivial
 |v::r,x::s,h=>by
  have h0:=h.2 0 v rfl;obtain⟨h1,y,h2,h3⟩:=h0;simp at h2;subst h2;refine⟨h1,h3,Ss (tm:=r) (xs:=s) ⟨by simpa using h.1,λi u hu=>?_⟩⟩;have:=h.2 (i+1) u (by simpa using hu);simpa using this
 |[],_::_,h=>by have:=h.1;simp at this
 |_::_,[],h=>by have:=h.1;simp at this
theorem GM {n nb:Nat} {ρ:Env} {m:Nat->Nat}:∀{tm:List V} {xs:List az},wW n nb ρ m tm xs->dp n nb ρ m tm xs.toArray
 |[],[],_=>⟨rfl,λi v h=>by simp at h⟩
 |v::r,x::s,h=>by
  have ih:=GM h.2.2;refine⟨by simpa using ih.1,λi u hu=>?_⟩;cases i with
  |zero=>simp at hu;subst hu;exact⟨h.1,x,by simp,h.2.1⟩
  |succ i=>have:=ih.2 i u (by simpa using hu);simpa using this
 |[],_::_,h=>h.elim
 |_::_,[],h=>h.elim
theorem rm:∀{b b':List (Int×Int)} {l bQ:List Int},bd b l->bd b' bQ->bd (b++b') (l++bQ)
 |[],_,[],_,_,h=>h
 |_::_,_,_::_,_,h,h'=>⟨h.1,h.2.1,rm h.2.2 h'⟩
 |[],_,_::_,_,h,_=>h.elim
 |_::_,_,[],_,h,_=>h.elim
theorem agree.symm {n:Nat} {ρ ag:Env} (h:agree n ρ ag):agree n ag ρ:=λi hi=>(h i hi).symm
theorem V.back {n nb:Nat} {bV ag bo:Env} {m0 m':Nat->Nat} {v:V} {x:az} (h0:v.ok n nb bV) (ha:agree n bV ag) (h2:agree n bV bo) (hm:∀b,b<nb->m' b=m0 b) (hr:v.rel ag m' x):v.ok n nb bo/\v.rel bo m0 x:=by
 have ahw:v.ok n nb ag:=h0.ext ha (aV _) (aV _);exact⟨h0.ext h2 (aV _) (aV _),hr.ext ahw (ha.symm.trans h2 (aV _)) λb hb=>(hm b hb).symm⟩
section
variable {ev:List Nat} {ints:List (Nat×Int×Int)}
theorem AG:∀{tm:List V} {i s:Nat} {t:List V} {l:List aa} {b:List (Int×Int)},hs ev ints i s tm=some (t,l,b)->l.length=b.length/\t.length=tm.length
 |[],i,s,t,l,b,h=>by simp[hs]at h;obtain⟨rfl,rfl,rfl⟩:=h;exact⟨rfl,rfl⟩
 |v::r,i,s,t,l,b,h=>by
  unfold hs at h;cases hk:ev.any (aH i)with
  |true=>
   simp only[hk,cond_true]at h;cases hr:hs ev ints (i+1) s r with
   |none=>simp[hr]at h
   |some q=>
    obtain⟨t',bQ,b'⟩:=q;simp only[hr,aL,ct]at h;obtain⟨rfl,rfl,rfl⟩:=h;have:=AG hr;simp[this]
  |false=>
   simp only[hk,cond_false]at h;cases hf:vv i ints with
   |none=>
    simp only[hf]at h;cases hr:hs ev ints (i+1) s r with
    |none=>simp[hr]at h
    |some q=>
     obtain⟨t',bQ,b'⟩:=q;simp only[hr,aL,ct]at h;obtain⟨rfl,rfl,rfl⟩:=h;have:=AG hr;simp[this]
   |some q=>
    obtain⟨lo,hi⟩:=q;simp only[hf]at h;split at h
    ·rename_i k x;cases hc:(decide (lo<=x.lo)&&decide (x.hi<=hi))with
     |false=>simp[hc]at h
     |true=>
      simp only[hc,cond_true]at h;cases hr:hs ev ints (i+1) (s+1) r with
      |none=>simp[hr]at h
      |some q=>
       obtain⟨t',bQ,b'⟩:=q;simp only[hr,aL,ct]at h;obtain⟨rfl,rfl,rfl⟩:=h;have:=AG hr;simp[this]
    ·cases hr:hs ev ints (i+1) (s+1) r with
     |none=>simp[hr]at h
     |some q=>
      obtain⟨t',bQ,b'⟩:=q;simp only[hr,aL,ct]at h;obtain⟨rfl,rfl,rfl⟩:=h;have:=AG hr;simp[this]
    ·cases h
theorem Ep {n nb N:Nat} {bV ag bo:Env} {m0 m':Nat->Nat} {n' jx:Nat} (ha:agree n bV ag) (h2:agree n bV bo) (hm:∀b,b<nb->m' b=m0 b) (np:n<=N):
 ∀{tm bw:List V} {xs:List az} {i s:Nat} {t t':List V} {l bQ:List aa} {b b':List (Int×Int)},
 (∀v∈tm,V.ok n nb bV v)->wW n' jx ag m' bw xs->hs ev ints i s tm=some (t,l,b)->hs ev ints i s bw=some (t',bQ,b')->kT t t'=true->
 (∀j,j<bQ.length->bo (s+j)=(bQ.getD j (.const 0)).den ag)->s+bQ.length<=N->wW N nb bo m0 t xs/\bd b (bQ.map (·.den ag))/\bQ.length=l.length
 |[],[],[],i,s,t,t',l,bQ,b,b',h0,hr,e1,e2,hf,hv,hN=>by
  simp[hs]at e1 e2;obtain⟨rfl,rfl,rfl⟩:=e1;obtain⟨rfl,rfl,rfl⟩:=e2;exact⟨trivial,trivial,rfl⟩
 |v::r,v'::r',x::xs,i,s,t,t',l,bQ,b,b',h0,hr,e1,e2,hf,hv,hN=>by
  obtain⟨aX,hrel,x5⟩:=hr;have xo:∀v∈r,V.ok n nb bV v:=λu hu=>h0 u (cD _ hu);unfold hs at e1 e2;cases hk:ev.any (aH i)with
  |true=>
   simp only[hk,cond_true]at e1 e2;cases eE:hs ev ints (i+1) s r with
   |none=>simp[eE]at e1
   |some q1=>
    obtain⟨t1,l1,b1⟩:=q1;cases fJ:hs ev ints (i+1) s r' with
    |none=>simp[fJ]at e2
    |some q2=>
     obtain⟨t2,l2,b2⟩:=q2;simp only[eE,aL,ct]at e1;simp only[fJ,aL,ct]at e2;obtain⟨rfl,rfl,rfl⟩:=e1;obtain⟨rfl,rfl,rfl⟩:=e2;have hv0:=h0 v (by simp);have key:kT t1 t2=true/\(v= .any∨v=v'):=by
      unfold kT at hf;split at hf
      ·rename_i heq _;cases heq
      ·rename_i h1 h2;cases h1;cases h2;exact⟨hf,.inl rfl⟩
      ·rename_i h1 h2;cases h1;cases h2;simp only[aO]at hf;exact⟨hf.2,.inr (V.beq_eq hf.1)⟩
      ·cases hf
     obtain⟨p1,br,bT⟩:=Ep ha h2 hm np xo x5 eE fJ key.1 hv hN;refine⟨⟨?_,?_,p1⟩,br,bT⟩
     ·exact hv0.ext h2 np (aV _)
     ·rcases key.2 with rfl|rfl
      ·trivial
      ·exact(V.back hv0 ha h2 hm hrel).2
  |false=>
   simp only[hk,cond_false]at e1 e2;cases kc:vv i ints with
   |none=>
    simp only[kc]at e1 e2;cases eE:hs ev ints (i+1) s r with
    |none=>simp[eE]at e1
    |some q1=>
     obtain⟨t1,l1,b1⟩:=q1;cases fJ:hs ev ints (i+1) s r' with
     |none=>simp[fJ]at e2
     |some q2=>
      obtain⟨t2,l2,b2⟩:=q2;simp only[eE,aL,ct]at e1;simp only[fJ,aL,ct]at e2;obtain⟨rfl,rfl,rfl⟩:=e1;obtain⟨rfl,rfl,rfl⟩:=e2;obtain⟨p1,br,bT⟩:=Ep ha h2 hm np xo x5 eE fJ (by simpa [kT]using hf) hv hN;exact⟨⟨trivial,trivial,p1⟩,br,bT⟩
   |some q=>
    obtain⟨lo,hi⟩:=q;simp only[kc]at e1 e2;split at e1
    ·rename_i k y;split at e2
     ·rename_i a6 jF;cases hc1:(decide (lo<=y.lo)&&decide (y.hi<=hi))with
      |false=>simp[hc1]at e1
      |true=>
       cases hc2:(decide (lo<=jF.lo)&&decide (jF.hi<=hi))with
       |false=>simp[hc2]at e2
       |true=>
        simp only[hc1,cond_true]at e1;simp only[hc2,cond_true]at e2;cases eE:hs ev ints (i+1) (s+1) r with
        |none=>simp[eE]at e1
        |some q1=>
         obtain⟨t1,l1,b1⟩:=q1;cases fJ:hs ev ints (i+1) (s+1) r' with
         |none=>simp[fJ]at e2
         |some q2=>
          obtain⟨t2,l2,b2⟩:=q2;simp only[eE,aL,ct]at e1;simp only[fJ,aL,ct]at e2;obtain⟨rfl,rfl,rfl⟩:=e1;obtain⟨rfl,rfl,rfl⟩:=e2;simp only[kT,aO]at hf;have ja:=V.beq_eq hf.1;simp only[V.w.injEq,W.one.injEq,A.int.injEq]at ja;simp only[aO,decide_eq_true_eq]at hc2;obtain⟨p1,br,bT⟩:=Ep ha h2 hm np xo x5 eE fJ hf.2 (λj hj=>by
           have:=hv (j+1) (by simpa using hj);rw[show s+1+j=s+(j+1) by omega];simpa using this) (by simp at hN;omega)
          have hv0:=hv 0 (by simp);simp only[lq,wG]at hv0;have hb:=aX.2;simp only[V.rel,W.den,A.den]at hrel;refine⟨⟨⟨aa.eo (by simp at hN;omega),?_,?_⟩,?_,p1⟩,⟨?_,?_,br⟩,by simp[bT]⟩
          ·simp only[aa.ck,hv0];omega
          ·simp only[aa.ck,hv0];omega
          ·simp only[V.rel,W.den,A.den,aa.ck,hv0,ja.1];exact hrel
          ·simp only;omega
          ·simp only;omega
     ·cases eE:hs ev ints (i+1) (s+1) r' with
      |none=>simp[eE]at e2
      |some q2=>
       obtain⟨t2,l2,b2⟩:=q2;simp only[eE,aL,ct]at e2;obtain⟨rfl,rfl,rfl⟩:=e2;cases hc1:(decide (lo<=y.lo)&&decide (y.hi<=hi))with
       |false=>simp[hc1]at e1
       |true=>
        simp only[hc1,cond_true]at e1;cases fJ:hs ev ints (i+1) (s+1) r with
        |none=>simp[fJ]at e1
        |some q1=>
         obtain⟨t1,l1,b1⟩:=q1;simp only[fJ,aL,ct]at e1;obtain⟨rfl,rfl,rfl⟩:=e1;simp[kT,V.beq,A.beq]at hf
     ·cases e2
    ·rename_i y;split at e2
     ·rename_i a6 jF;cases eE:hs ev ints (i+1) (s+1) r with
      |none=>simp[eE]at e1
      |some q1=>
       obtain⟨t1,l1,b1⟩:=q1;simp only[eE,aL,ct]at e1;obtain⟨rfl,rfl,rfl⟩:=e1;cases hc2:(decide (lo<=jF.lo)&&decide (jF.hi<=hi))with
       |false=>simp[hc2]at e2
       |true=>
        simp only[hc2,cond_true]at e2;cases fJ:hs ev ints (i+1) (s+1) r' with
        |none=>simp[fJ]at e2
        |some q2=>
         obtain⟨t2,l2,b2⟩:=q2;simp only[fJ,aL,ct]at e2;obtain⟨rfl,rfl,rfl⟩:=e2;simp[kT,V.beq,A.beq]at hf
     ·rename_i jF;cases eE:hs ev ints (i+1) (s+1) r with
      |none=>simp[eE]at e1
      |some q1=>
       obtain⟨t1,l1,b1⟩:=q1;cases fJ:hs ev ints (i+1) (s+1) r' with
       |none=>simp[fJ]at e2
       |some q2=>
        obtain⟨t2,l2,b2⟩:=q2;simp only[eE,aL,ct]at e1;simp only[fJ,aL,ct]at e2;obtain⟨rfl,rfl,rfl⟩:=e1;obtain⟨rfl,rfl,rfl⟩:=e2;simp only[kT,aO]at hf;obtain⟨p1,br,bT⟩:=Ep ha h2 hm np xo x5 eE fJ hf.2 (λj hj=>by
         have:=hv (j+1) (by simpa using hj);rw[show s+1+j=s+(j+1) by omega];simpa using this) (by simp at hN;omega)
        have hv0:=hv 0 (by simp);simp only[lq,wG]at hv0;have hb:0<=jF.den ag/\jF.den ag<=bp:=aX.2;have hrel:x= .string (aG (U (jF.den ag))):=hrel;refine⟨⟨⟨aa.eo (by simp at hN;omega),?_⟩,?_,p1⟩,⟨hb.1,hb.2,br⟩,by simp[bT]⟩
        ·simp only[aa.ck,hv0];exact hb
        ·simp only[V.rel,W.den,A.den,aa.ck,hv0];exact hrel
     ·cases e2
    ·cases e1
 |[],_::_,_,i,s,t,t',l,bQ,b,b',h0,hr,e1,e2,hf,hv,hN=>by
  simp[hs]at e1;obtain⟨rfl,_,_⟩:=e1;have:=(AG e2).2;cases t' with
  |nil=>simp at this
  |cons _ _=>simp[kT]at hf
 |_::_,[],_,i,s,t,t',l,bQ,b,b',h0,hr,e1,e2,hf,hv,hN=>by
  simp[hs]at e2;obtain⟨rfl,_,_⟩:=e2;have:=(AG e1).2;cases t with
  |nil=>simp at this
  |cons y z=>cases y<;>simp[kT]at hf
 |_::_,_::_,[],i,s,t,t',l,bQ,b,b',h0,hr,e1,e2,hf,hv,hN=>hr.elim
 |[],[],_::_,i,s,t,t',l,bQ,b,b',h0,hr,e1,e2,hf,hv,hN=>hr.elim
end
def CB (n nb:Nat) (ρ:Env) (m:Nat->Nat):List A->List az->Prop
 |[],[]=>True
 |a::r,x::s=>A.ok n nb ρ a/\x=a.den ρ m/\CB n nb ρ m r s
 |_,_=>False
theorem Sp {n nb:Nat} {ρ:Env} {m:Nat->Nat}:∀{l:List A},(∀a∈l,A.ok n nb ρ a)->CB n nb ρ m l (l.map (A.den ρ m))
 |[],_=>trivial
 |a::r,h=>⟨h a (by simp),rfl,Sp λx hx=>h x (cD _ hx)⟩
theorem Sq {n nb:Nat} {ρ:Env} {m:Nat->Nat}:∀{l:List A} {xs:List az},CB n nb ρ m l xs->(∀a∈l,A.ok n nb ρ a)/\xs=l.map (A.den ρ m)
 |[],[],_=>⟨by simp,rfl⟩
 |a::r,x::s,h=>by
  have ih:=Sq h.2.2;exact⟨λy hy=>by rcases List.mem_cons.1 hy with rfl|hy;exact h.1;exact ih.1 y hy,by rw[h.2.1,ih.2];rfl⟩
 |[],_::_,h=>h.elim
 |_::_,[],h=>h.elim
theorem A.back {n nb:Nat} {bV ag bo:Env} {m0 m':Nat->Nat} {v:A} (h0:v.ok n nb bV) (ha:agree n bV ag) (h2:agree n bV bo) (hm:∀b,b<nb->m' b=m0 b):v.den ag m'=v.den bo m0:=by
 rw[A.j8 h0 ha hm,A.j8 (m':=m0) h0 h2 (λ_ _=>rfl)]
section
variable {ints:List (Nat×Int×Int)}
theorem Ag:∀{cs:List A} {i s:Nat} {t:List A} {l:List aa} {b:List (Int×Int)},ha ints i s cs=some (t,l,b)->l.length=b.length/\t.length=cs.length
 |[],i,s,t,l,b,h=>by simp[ha]at h;obtain⟨rfl,rfl,rfl⟩:=h;exact⟨rfl,rfl⟩
 |v::r,i,s,t,l,b,h=>by
  unfold ha at h;cases hf:vv i ints with
  |none=>
   simp only[hf]at h;cases hr:ha ints (i+1) s r with
   |none=>simp[hr]at h
   |some q=>
    obtain⟨t',bQ,b'⟩:=q;simp only[hr,aL,ct]at h;obtain⟨rfl,rfl,rfl⟩:=h;have:=Ag hr;simp[this]
  |some q=>
   obtain⟨lo,hi⟩:=q;simp only[hf]at h;cases hc:iV lo hi s v with
   |none=>simp[hc]at h
   |some p=>
    obtain⟨a,x,dQ⟩:=p;simp only[hc]at h;cases hr:ha ints (i+1) (s+1) r with
    |none=>simp[hr]at h
    |some q=>
     obtain⟨t',bQ,b'⟩:=q;simp only[hr,aL,ct]at h;obtain⟨rfl,rfl,rfl⟩:=h;have:=Ag hr;simp[this]
theorem acT {n nb N:Nat} {bV ag bo:Env} {m0 m':Nat->Nat} {n' jx:Nat} {lo hi:Int} {s:Nat} {v v' a a':A} {x jY:aa} {dQ acf:Int×Int} (iY:agree n bV ag) (h2:agree n bV bo) (np:n<=N)
 (h0:v.ok n nb bV) (h':v'.ok n' jx ag) (e1:iV lo hi s v=some (a,x,dQ)) (e2:iV lo hi s v'=some (a',jY,acf)) (hf:a=a') (hv:bo s=jY.den ag) (hN:s<N):
 a.ok N nb bo/\a.den bo m0=v'.den ag m'/\dQ.1<=jY.den ag/\jY.den ag<=dQ.2:=by
 subst hf;have mM:(aa.var s).den bo=jY.den ag:=by rw[aa.ck,hv]
 cases v with
 |int k y=>
  simp only[iV]at e1;cases hc1:(decide (lo<=y.lo)&&decide (y.hi<=hi))with
  |false=>simp[hc1]at e1
  |true=>
   simp only[hc1,cond_true,aL,ct]at e1;obtain⟨rfl,rfl,rfl⟩:=e1;cases v' with
   |int a6 jF=>
    simp only[iV]at e2;cases hc2:(decide (lo<=jF.lo)&&decide (jF.hi<=hi))with
    |false=>simp[hc2]at e2
    |true=>
     simp only[hc2,cond_true,aL,ct,A.int.injEq]at e2;obtain⟨⟨rfl,_⟩,rfl,rfl⟩:=e2;simp only[aO,decide_eq_true_eq]at hc2;have h':jF.ok n' ag:=h';have hb:=h'.2;refine⟨⟨aa.eo hN,by simp only[mM];omega,by simp only[mM];omega⟩,by simp only[A.den,mM],by simp only;omega,by simp only;omega⟩
   |str _=>simp[iV]at e2
   |rows _ _ _ _ _=>simp[iV]at e2
   |_=>simp[iV]at e2
 |str y=>
  simp only[iV,aL,ct]at e1;obtain⟨rfl,rfl,rfl⟩:=e1;cases v' with
  |str jF=>
   simp only[iV,aL,ct]at e2;obtain⟨_,rfl,rfl⟩:=e2;have hb:0<=jF.den ag/\jF.den ag<=bp:=h'.2;exact⟨⟨aa.eo hN,by rw[mM];exact hb⟩,by simp only[A.den,mM],hb.1,hb.2⟩
  |int a6 jF=>
   simp only[iV]at e2;cases hc2:(decide (lo<=jF.lo)&&decide (jF.hi<=hi))<;>simp[hc2]at e2
  |rows _ _ _ _ _=>simp[iV]at e2
  |_=>simp[iV]at e2
 |rows sh off code cap k=>
  simp only[iV,aL,ct]at e1;obtain⟨rfl,rfl,rfl⟩:=e1;cases v' with
  |rows cH dT code' dR a6=>
   simp only[iV,aL,ct,A.rows.injEq]at e2;obtain⟨_,rfl,rfl⟩:=e2;obtain⟨⟨s1,s2,eO⟩,_,b3⟩:=h0;obtain⟨_,b2,_⟩:=h';refine⟨⟨⟨s1.mono np,aa.eo hN,eO.mono np⟩,by rw[mM];exact b2,by rw[aa.bG h2 eO];exact b3⟩,by simp only[A.den,mM],b2.1,b2.2⟩
  |int a6 jF=>
   simp only[iV]at e2;cases hc2:(decide (lo<=jF.lo)&&decide (jF.hi<=hi))<;>simp[hc2]at e2
  |str _=>simp[iV]at e2
  |_=>simp[iV]at e2
 |_=>simp[iV]at e1
theorem Nk {n nb N:Nat} {bV ag bo:Env} {m0 m':Nat->Nat} {n' jx:Nat} (iY:agree n bV ag) (h2:agree n bV bo) (hm:∀b,b<nb->m' b=m0 b) (np:n<=N):
 ∀{cs iX:List A} {xs:List az} {i s:Nat} {t t':List A} {l bQ:List aa} {b b':List (Int×Int)},
 (∀v∈cs,A.ok n nb bV v)->CB n' jx ag m' iX xs->ha ints i s cs=some (t,l,b)->ha ints i s iX=some (t',bQ,b')->na t t'=true->
 (∀j,j<bQ.length->bo (s+j)=(bQ.getD j (.const 0)).den ag)->s+bQ.length<=N->CB N nb bo m0 t xs/\bd b (bQ.map (·.den ag))/\bQ.length=l.length
 |[],[],[],i,s,t,t',l,bQ,b,b',h0,hr,e1,e2,hf,hv,hN=>by
  simp[ha]at e1 e2;obtain⟨rfl,rfl,rfl⟩:=e1;obtain⟨rfl,rfl,rfl⟩:=e2;exact⟨trivial,trivial,rfl⟩
 |v::r,v'::r',x::xs,i,s,t,t',l,bQ,b,b',h0,hr,e1,e2,hf,hv,hN=>by
  obtain⟨aX,hrel,x5⟩:=hr;have xo:∀v∈r,A.ok n nb bV v:=λu hu=>h0 u (cD _ hu);unfold ha at e1 e2;cases kc:vv i ints with
  |none=>
   simp only[kc]at e1 e2;cases eE:ha ints (i+1) s r with
   |none=>simp[eE]at e1
   |some q1=>
    obtain⟨t1,l1,b1⟩:=q1;cases fJ:ha ints (i+1) s r' with
    |none=>simp[fJ]at e2
    |some q2=>
     obtain⟨t2,l2,b2⟩:=q2;simp only[eE,aL,ct]at e1;simp only[fJ,aL,ct]at e2;obtain⟨rfl,rfl,rfl⟩:=e1;obtain⟨rfl,rfl,rfl⟩:=e2;simp only[na,aO]at hf;have px:=A.beq_eq hf.1;subst px;have hv0:=h0 v (by simp);obtain⟨p1,br,bT⟩:=Nk iY h2 hm np xo x5 eE fJ hf.2 hv hN;exact⟨⟨hv0.ext h2 np (aV _),by rw[hrel,A.back hv0 iY h2 hm],p1⟩,br,bT⟩
  |some q=>
   obtain⟨lo,hi⟩:=q;simp only[kc]at e1 e2;cases hc1:iV lo hi s v with
   |none=>simp[hc1]at e1
   |some p1=>
    obtain⟨a1,x1,d1⟩:=p1;cases hc2:iV lo hi s v' with
    |none=>simp[hc2]at e2
    |some br=>
     obtain⟨a2,x2,d2⟩:=br;simp only[hc1]at e1;simp only[hc2]at e2;cases eE:ha ints (i+1) (s+1) r with
     |none=>simp[eE]at e1
     |some q1=>
      obtain⟨t1,l1,b1⟩:=q1;cases fJ:ha ints (i+1) (s+1) r' with
      |none=>simp[fJ]at e2
      |some q2=>
       obtain⟨t2,l2,b2⟩:=q2;simp only[eE,aL,ct]at e1;simp only[fJ,aL,ct]at e2;obtain⟨rfl,rfl,rfl⟩:=e1;obtain⟨rfl,rfl,rfl⟩:=e2;simp only[na,aO]at hf;obtain⟨p1,br,bT⟩:=Nk iY h2 hm np xo x5 eE fJ hf.2 (λj hj=>by
        have:=hv (j+1) (by simpa using hj);rw[show s+1+j=s+(j+1) by omega];simpa using this) (by simp at hN;omega)
       have hv0:=hv 0 (by simp);simp only[lq,wG]at hv0;obtain⟨c1,c2,c3,c4⟩:=acT (m0:=m0) (m':=m') iY h2 np (h0 v (by simp)) aX hc1 hc2 (A.beq_eq hf.1) hv0 (by simp at hN;omega);exact⟨⟨c1,by rw[hrel,c2],p1⟩,⟨c3,c4,br⟩,by simp[bT]⟩
 |[],_::_,_,i,s,t,t',l,bQ,b,b',h0,hr,e1,e2,hf,hv,hN=>by
  simp[ha]at e1;obtain⟨rfl,_,_⟩:=e1;have:=(Ag e2).2;cases t' with
  |nil=>simp at this
  |cons _ _=>simp[na]at hf
 |_::_,[],_,i,s,t,t',l,bQ,b,b',h0,hr,e1,e2,hf,hv,hN=>by
  simp[ha]at e2;obtain⟨rfl,_,_⟩:=e2;have:=(Ag e1).2;cases t with
  |nil=>simp at this
  |cons y z=>simp[na]at hf
 |_::_,_::_,[],i,s,t,t',l,bQ,b,b',h0,hr,e1,e2,hf,hv,hN=>hr.elim
 |[],[],_::_,i,s,t,t',l,bQ,b,b',h0,hr,e1,e2,hf,hv,hN=>hr.elim
end
section
variable {cells:List (Nat×Nat×Int×Int)}
theorem DO:∀{bl:List ao} {i s:Nat} {t:List ao} {l:List aa} {b:List (Int×Int)},hb cells i s bl=some (t,l,b)->l.length=b.length/\t.length=bl.length
 |[],i,s,t,l,b,h=>by simp[hb]at h;obtain⟨rfl,rfl,rfl⟩:=h;exact⟨rfl,rfl⟩
 |(cs,ty)::r,i,s,t,l,b,h=>by
  unfold hb at h;cases hc:ha (cellsOf i cells) 0 s cs with
  |none=>simp[hc]at h
  |some q=>
   obtain⟨c,l1,b1⟩:=q;simp only[hc]at h;cases hr:hb cells (i+1) (s+l1.length) r with
   |none=>simp[hr]at h
   |some q=>
    obtain⟨t',bQ,b'⟩:=q;simp only[hr,aL,ct]at h;obtain⟨rfl,rfl,rfl⟩:=h;have h1:=Ag hc;have h2:=DO hr;simp[h1,h2]
theorem UA {l bQ:List aa} {j:Nat} (h:j<l.length) (d:aa):(l++bQ).getD j d=l.getD j d:=by
 simp[aC,rT h]
theorem UB {l bQ:List aa} {j:Nat} (d:aa):(l++bQ).getD (l.length+j) d=bQ.getD j d:=by
 simp only[aC];rw[uW (by omega)];simp
theorem U9 {n nb N:Nat} {bV ag bo:Env} {m0 m':Nat->Nat} {n' jx:Nat} (iY:agree n bV ag) (h2:agree n bV bo) (hm:∀b,b<nb->m' b=m0 b) (np:n<=N):
 ∀{bl aJ:List ao} {i s:Nat} {t t':List ao} {l bQ:List aa} {b b':List (Int×Int)},
 b6 n nb bV bl->b6 n' jx ag aJ->hb cells i s bl=some (t,l,b)->hb cells i s aJ=some (t',bQ,b')->kS t t'=true->
 (∀j,j<bQ.length->bo (s+j)=(bQ.getD j (.const 0)).den ag)->s+bQ.length<=N->
 b6 N nb bo t/\bd b (bQ.map (·.den ag))/\bQ.length=l.length/\∀(j:Nat) (c:List A) (ty:aQ×Bool),t[j]?=some (c,ty)->∃c':List A,aJ[j]?=some (c',ty)/\c.map (A.den bo m0)=c'.map (A.den ag m')
 |[],[],i,s,t,t',l,bQ,b,b',h0,hr,e1,e2,hf,hv,hN=>by
  simp[hb]at e1 e2;obtain⟨rfl,rfl,rfl⟩:=e1;obtain⟨rfl,rfl,rfl⟩:=e2;exact⟨λp hp=>by simp at hp,trivial,rfl,λj c ty h=>by simp at h⟩
 |(cs,ty)::r,(iX,aqV)::r',i,s,t,t',l,bQ,b,b',h0,hr,e1,e2,hf,hv,hN=>by
  unfold hb at e1 e2;cases hc1:ha (cellsOf i cells) 0 s cs with
  |none=>simp[hc1]at e1
  |some q1=>
   obtain⟨c1,l1,b1⟩:=q1;cases hc2:ha (cellsOf i cells) 0 s iX with
   |none=>simp[hc2]at e2
   |some q2=>
    obtain⟨c2,l2,b2⟩:=q2;simp only[hc1]at e1;simp only[hc2]at e2;cases eE:hb cells (i+1) (s+l1.length) r with
    |none=>simp[eE]at e1
    |some q1=>
     obtain⟨t1,WZ,zy⟩:=q1;cases fJ:hb cells (i+1) (s+l2.length) r' with
     |none=>simp[fJ]at e2
     |some q2=>
      obtain⟨t2,W4,qK⟩:=q2;simp only[eE,aL,ct]at e1;simp only[fJ,aL,ct]at e2;obtain⟨rfl,rfl,rfl⟩:=e1;obtain⟨rfl,rfl,rfl⟩:=e2;simp only[kS,aO]at hf;have Ex:ty=aqV:=Prod.ext (bx hf.1.1.2) (by simpa using hf.1.2);subst Ex;have M7:s+l2.length+W4.length<=N:=by simp at hN;omega
      obtain⟨p1,br,bT⟩:=Nk iY h2 hm np (λv hv=>h0 (cs,ty) (by simp) v hv) (Sp (m:=m') λv hv=>hr (iX,ty) (by simp) v hv) hc1 hc2 hf.1.1.1 (λj hj=>by
       have:=hv j (by simp;omega)
       rwa [UA hj]at this) (by omega)
      rw[<-bT]at eE;obtain⟨q1,q2,q3,db⟩:=U9 iY h2 hm np (λp hp=>h0 p (cD _ hp)) (λp hp=>hr p (cD _ hp)) eE fJ hf.2 (λj hj=>by
       have:=hv (l2.length+j) (by simp;omega);rw[UB]at this;rw[<-this];congr 1;omega) M7
      have hp:=Sq p1;refine⟨λp Oa a U7=>?_,by rw[fY];exact rm br q2,by simp[bT,q3],λj c aqW hj=>?_⟩
      ·rcases List.mem_cons.1 Oa with rfl|Oa
       ·exact hp.1 a U7
       ·exact q1 p Oa a U7
      ·cases j with
       |zero=>simp at hj;obtain⟨rfl,rfl⟩:=hj;exact⟨iX,rfl,hp.2.symm⟩
       |succ j=>simp at hj;obtain⟨c',h1,h2⟩:=db j c aqW hj;exact⟨c',by simpa using h1,h2⟩
 |[],_::_,i,s,t,t',l,bQ,b,b',h0,hr,e1,e2,hf,hv,hN=>by
  simp[hb]at e1;obtain⟨rfl,_,_⟩:=e1;have:=(DO e2).2;cases t' with
  |nil=>simp at this
  |cons _ _=>simp[kS]at hf
 |_::_,[],i,s,t,t',l,bQ,b,b',h0,hr,e1,e2,hf,hv,hN=>by
  simp[hb]at e2;obtain⟨rfl,_,_⟩:=e2;have:=(DO e1).2;cases t with
  |nil=>simp at this
  |cons y z=>simp[kS]at hf
def BZ (p q:List A):Prop:=∃sh off code code' cap k,p=[.rows sh off code cap k]/\q=[.rows sh off code' cap k]
theorem BZ.refl {p:List A} (h:bO p=false):BZ p p:=by
 unfold bO at h;split at h
 ·exact⟨_,_,_,_,_,_,rfl,rfl⟩
 ·cases h
theorem acS {lo hi:Int} {s:Nat} {v a:A} {x:aa} {dQ:Int×Int} (h:iV lo hi s v=some (a,x,dQ)):bO [a]=bO [v]/\(bO [a]=false->BZ [a] [v]):=by
 unfold iV at h;split at h
 ·rename_i k x;cases hc:(decide (lo<=x.lo)&&decide (x.hi<=hi))with
  |false=>simp[hc]at h
  |true=>
   simp only[hc,cond_true,aL,ct]at h;obtain⟨rfl,_,_⟩:=h;exact⟨rfl,λh=>by cases h⟩
 ·simp only[aL,ct]at h;obtain⟨rfl,_,_⟩:=h;exact⟨rfl,λh=>by cases h⟩
 ·simp only[aL,ct]at h;obtain⟨rfl,_,_⟩:=h;exact⟨rfl,λ_=>⟨_,_,_,_,_,_,rfl,rfl⟩⟩
 ·cases h
theorem OJ (a b:A) (l:List A):bO (a::b::l)=true:=by cases a<;>rfl
theorem aga {ints:List (Nat×Int×Int)} {i s:Nat} {cs:List A} {l:List aa} {b:List (Int×Int)} {t:List A} (h:ha ints i s cs=some (t,l,b)):(bO t=bO cs)/\(bO t=false->BZ t cs):=by
 have hl:=(Ag h).2
 match cs,t,hl with
 |[],[],_=>exact⟨rfl,λh=>by cases h⟩
 |a::b::r,a'::b'::r',_=>exact⟨by rw[OJ,OJ],λh=>by rw[OJ]at h;cases h⟩
 |[v],[a],_=>
  unfold ha at h;cases hf:vv i ints with
  |none=>
   simp[hf,ha]at h;obtain⟨rfl,_,_⟩:=h;exact⟨rfl,λh=>BZ.refl h⟩
  |some q=>
   obtain⟨lo,hi⟩:=q;simp only[hf]at h;cases hc:iV lo hi s v with
   |none=>simp[hc]at h
   |some p=>
    obtain⟨a',x,dQ⟩:=p;simp[hc,ha]at h;obtain⟨rfl,_,_⟩:=h;exact acS hc
theorem Nq:∀{bl:List ao} {i s:Nat} {t:List ao} {l:List aa} {b:List (Int×Int)},hb cells i s bl=some (t,l,b)->∀(k:Nat) (p:ao),t[k]?=some p->∃q:ao,bl[k]?=some q/\bO p.1=bO q.1/\p.2=q.2/\(bO p.1=false->BZ p.1 q.1)
 |[],i,s,t,l,b,h=>by simp[hb]at h;obtain⟨rfl,rfl,rfl⟩:=h;intro k p hp;simp at hp
 |(cs,ty)::r,i,s,t,l,b,h=>by
  unfold hb at h;cases hc1:ha (cellsOf i cells) 0 s cs with
  |none=>simp[hc1]at h
  |some q1=>
   obtain⟨c1,l1,b1⟩:=q1;simp only[hc1]at h;cases eE:hb cells (i+1) (s+l1.length) r with
   |none=>simp[eE]at h
   |some q1=>
    obtain⟨t1,WZ,zy⟩:=q1;simp only[eE,aL,ct]at h;obtain⟨rfl,rfl,rfl⟩:=h;intro k p hp;cases k with
    |zero=>
     simp only[m1,aL]at hp;subst hp;have:=aga hc1;exact⟨(cs,ty),rfl,this.1,rfl,this.2⟩
    |succ k=>obtain⟨q,h1,h2⟩:=Nq eE k p (by simpa using hp);exact⟨q,by simpa using h1,h2⟩
theorem Uj:∀{a b:List ao},kS a b=true->∀(k:Nat) (p:ao),a[k]?=some p->b[k]?=some p
 |[],[],_,k,p,h=>by simp at h
 |(c,t)::r,(c',t')::s,hf,k,p,h=>by
  simp only[kS,aO]at hf;have Ex:t=t':=Prod.ext (bx hf.1.1.2) (by simpa using hf.1.2);have hc:=zA hf.1.1.1;subst Ex;subst hc;cases k with
  |zero=>simpa using h
  |succ k=>have:=Uj hf.2 k p (by simpa using h);simpa using this
 |[],_::_,h,_,_,_=>by simp[kS]at h
 |_::_,[],h,_,_,_=>by simp[kS]at h
end
end Go.ba
namespace Go.ba
variable {P:bj} {rd:Option Nat}
def oE (rd:Option Nat):Fence:={zi with round:=rd}
def oj (Q:Exit->Act->ai->Prop):Exit->Act->ai->Prop
 | .normal,a,w=>Q .normal a w
 |_,_,_=>False
theorem oj.imp {Q:Exit->Act->ai->Prop}:∀(e:Exit) (a:Act) (w:ai),calm (oj Q) e a w->Q e a w:=λe a w h=>by
 cases e<;>first|exact h|exact(h:False).elim
theorem oj.let {Q:Exit->Act->ai->Prop}:¬LetsOut (oj Q):=λ⟨a,w,h⟩=>h
theorem oj.ajK {Q:Exit->Act->ai->Prop}:¬LetsOut (calm (oj Q)):=λ⟨a,w,h⟩=>h
def rA (o:Oper):Bool:=match o.op with| .defer _=>false|_=>true
def kj:Code->Bool
 | .region _ ops _=>ops.toList.all rA
 | .seq a b=>kj a&&kj b
 | .cond _ a b=>kj a&&kj b
 | .block _ c=>kj c
 | .loop c=>kj c
 |_=>true
theorem aly {o:Oper} (h:rA o=true):∀c,o.op≠ .defer c:=λc e=>by simp[rA,e]at h
theorem acH {n:Nat} {f:cz} {args:Array az} {w:ai} {R:Ending->ai->Prop} (h:gU P f args w R):CallsIn (oE rd) n P f args w R:=callsIn_wide.2 h
theorem aps {n:Nat} {row:String} {args:Array az} {w:ai} {R:az->ai->Prop} (h:Rows P row args w R):RowsIn (oE rd) n P row args w R:=
 λc cs _=>let⟨v,w',r,s⟩:=h c cs;⟨v,w',r,stepsIn_wide.2 s⟩
theorem XU {o:Oper} {a:Act} {w:ai} {K:Act->ai->Prop} {Q:Exit->Act->ai->Prop} (hd:rd=none∨rA o=true) (h:o.wp P a w K Q):o.wpIn (oE rd) 0 P a w K Q:=by
 refine⟨λ_ _=>trivial,?_⟩;have e:o.semAt (oE rd).round a.eval=execOp a.eval o:=by
  rcases hd with h|h
  ·subst h;rfl
  ·exact o.semAt_eq _ _ (aly h)
 rw[e];unfold m6 at h;generalize (execOp a.eval o).run P w=r at*;cases r with
 |ok n w'=>
  cases n<;>simp only[Oper.upon,au5]at h⊢
  case value u=>exact h
  case skip=>exact h
  case defer d=>exact h
  case enter f args=>exact⟨λhs=>by simp[oE,zi]at hs,acH h⟩
  case row row args=>exact⟨λhs=>by simp[oE,zi]at hs,aps h⟩
 |halt x w'=>
  cases x<;>simp only[Oper.upon,au5]at h⊢
  case panic u=>exact h
variable {ops:Array Oper} {Q:Exit->Act->ai->Prop}
theorem QU (bW:¬LetsOut Q):∀{l:List Oper} {a:Act} {w:ai},(rd=none∨l.all rA=true)->wpList P ops Q l a w->wpListIn (oE rd) 0 P ops Q l a w
 |[],_,_,_,h=>h
 |o::r,a,w,hd,h=>by
  have h1:rd=none∨rA o=true:=hd.imp id λh=>by simp only[Kf,aO]at h;exact h.1
  have h2:rd=none∨r.all rA=true:=hd.imp id λh=>by simp only[Kf,aO]at h;exact h.2
  unfold wpList at h;unfold wpListIn;split
  ·rename_i hw;rw[if_pos hw]at h;rcases h with h|h
   ·exact au6 (λa w h=>QU bW h2 h) (XU h1 h)
   ·exact absurd h.2 bW
  ·rename_i hw;rw[if_neg hw]at h;exact⟨λ_ _=>trivial,QU bW h2 h⟩
theorem J4 {md:Region.Mode} (hd:rd=none∨ops.toList.all rA=true) (bW:¬LetsOut Q):∀{f:Nat} {listed:Array Bool} {a:Act} {w:ai},wpAny P md ops Q f listed a w->wpAnyIn (oE rd) 0 P md ops Q f listed a w
 |0,_,_,_,h=>h
 |f+1,listed,a,w,h=>by
  refine⟨h.1,λi hi=>?_⟩;have h2:=h.2 i hi;unfold wpOp at h2;unfold wpOpIn;cases ho:ops[i]? with
  |none=>simp only[ho]at h2⊢;exact J4 hd bW h2
  |some o=>
   simp only[ho]at h2⊢;have h1:rd=none∨rA o=true:=hd.imp id λh=>List.all_eq_true.1 h o (by simpa using Array.mem_of_getElem? ho);split
   ·rename_i hw;rw[if_pos hw]at h2;rcases h2 with h2|h2
    ·exact au6 (λa w h=>J4 hd bW h) (XU h1 h2)
    ·exact absurd h2.2 bW
   ·rename_i hw;rw[if_neg hw]at h2;exact⟨λ_ _=>trivial,J4 hd bW h2⟩
theorem ao5 {id:Nat} {a:Act} {w:ai} (hd:rd=none∨ops.toList.all rA=true) (h:wpList P ops (oj Q) ops.toList a w):(au7 id ops false).wpIn (oE rd) 0 P Q a w:=
 wpIn_mono (wpIn_region_list (QU oj.let hd h)) λe a w h=>oj.imp e a w (by cases e<;>first|exact h|exact(h:False).elim)
theorem PT {id:Nat} {a:Act} {w:ai} (hm:P.follows .mixedOrders=true) (hd:rd=none∨ops.toList.all rA=true)
 (h:wpAny P .any ops (calm (oj Q)) ops.size (rN ops.size false) a {w with drawn:=w.drawn+1}):(au7 id ops true).wpIn (oE rd) 0 P Q a w:=
 wpIn_mono (wpIn_region_any hm (J4 hd oj.ajK h)) oj.imp
end Go.ba
namespace Go.ba
open M
section
variable {S:Nat->List Int->List Int->Prop} {L:V->Env->Prop} {w0:cP} {P:bj} {gl:dz} {cal:dW} {rd:Option Nat}
def wS (S:Nat->List Int->List Int->Prop) (L:V->Env->Prop) (w0:cP) (k:m8) (n nb:Nat) (ρ:Env) (m:Nat->Nat) (G:dc) (Q:Exit->Act->ai->Prop):Prop:=
 ∀x n' ag m' bw aJ de a' w',cR n nb ρ m n' (kt aJ) ag m'->dG n G de->R w0 n' ag m' bw aJ a' w'->(k x n' bw aJ).holds S L de ag->Q x.to a' w'
theorem wS.later {k:m8} {n nb n1 vV:Nat} {ρ aD:Env} {m fT:Nat->Nat} {G G1:dc} {Q:Exit->Act->ai->Prop} (h:wS S L w0 k n nb ρ m G Q) (hl:cR n nb ρ m n1 vV aD fT) (hA:dG n G G1):wS S L w0 k n1 vV aD fT G1 Q:=
 λx n' ag m' bw aJ de a' w' h1 h2 h3 h4=>h x n' ag m' bw aJ de a' w' (hl.trans h1) (hA.trans h2 hl.hn) h3 h4
def Gx (rd:Option Nat) (S:Nat->List Int->List Int->Prop) (L:V->Env->Prop) (w0:cP) (P:bj) (c:Code) (e:Nat->List V->List ao->m8->T):Prop:=(rd=none∨kj c=true)->
 ∀n tm bl k G ρ m a w Q,R w0 n ρ m tm bl a w->(e n tm bl k).holds S L G ρ->wS S L w0 k n bl.length ρ m G Q->c.wpIn (oE rd) 0 P Q a w
theorem Yv {c:Code} {e:Nat->List V->List ao->m8->T} (hd:rd=none∨kj c=true) (he:Gx rd S L w0 P c e) {Q:Exit->Act->ai->Prop}:∀(r:Nat) {n:Nat} {ρ:Env} {m:Nat->Nat} {tm:List V} {bl:List ao} {a:Act} {w:ai} {G:dc} {k:m8},
 R w0 n ρ m tm bl a w->(PZ e r n tm bl k).holds S L G ρ->wS S L w0 k n bl.length ρ m G Q->Code.roundsIn (oE rd) 0 P c Q r a w
 |0,_,_,_,_,_,_,_,_,_,_,ah,_=>ah.elim
 |r+1,n,ρ,m,tm,bl,a,w,G,k,h,ah,hk=>by
  rw[roundsIn_succ];refine he hd n tm bl _ G ρ m a w _ h ah λx n' ag m' bw aJ de a' w' h1 h2 h3 h4=>?_;cases x with
  |normal=>exact Yv hd he r h3 h4 (hk.later h1 h2)
  |exit id=>exact hk (.exit id) n' ag m' bw aJ de a' w' h1 h2 h3 h4
  |ret=>exact hk .ret n' ag m' bw aJ de a' w' h1 h2 h3 h4
theorem abb {n nb:Nat} {ρ:Env} {m:Nat->Nat} {tm:List V} {xs:Array az} (h:dp n nb ρ m tm xs):wW n nb ρ m tm xs.toList:=Ss (by simpa using h)
def qF (w0:cP) (ρ:Env) (m:Nat->Nat) (bl:List ao) (w:ai) (D:Nat->Prop):Prop:=
 ∀(i:Nat) (sh:List ay) (off code cap:aa) (kind:Nat) (t:aQ×Bool),bl[i]?=some ([.rows sh off code cap kind],t)->gL w0 ρ D (m i) sh off code cap kind t.1 w
theorem Vo {D:Nat->Prop} {li:cX} {n:Nat} {bV ag:Env} {m0 m':Nat->Nat} {tm bw kn uI:List V} {bl aJ dq mC:List ao} {l1 l2 v1 v2 ext:List aa} {b1 b2 zy qK:List (Int×Int)} {n':Nat} {a:Act} {w:ai}
 (hlen:bl.length<=aJ.length)
 (ha:agree n bV ag) (hm:∀b,b<bl.length->m' b=m0 b) (ht:∀v∈tm,V.ok n bl.length bV v) (iZ:b6 n bl.length bV bl)
 (h:R w0 n' ag m' bw aJ a w) (e1:hs li.ev li.ints 0 (n+1) tm=some (kn,l1,b1)) (e2:hb li.cells 0 (n+1+l1.length) bl=some (dq,l2,b2))
 (e3:hs li.ev li.ints 0 (n+1) bw=some (uI,v1,zy)) (fo:hb li.cells 0 (n+1+v1.length) (aJ.take bl.length)=some (mC,v2,qK))
 (f1:kT kn uI=true) (f2:kS dq mC=true) (tV:∀g,D g->b7 w0 ag m' aJ g) (ma:qF w0 ag m' aJ w D):
 v1.length+v2.length=l1.length+l2.length/\bd (b1++b2) ((v1++v2).map (·.den ag))/\R w0 (n+1+l1.length+l2.length+ext.length) (bf bV (n+1) ((v1++v2++ext).map (·.den ag))) m0 kn dq a w/\dq.length=bl.length/\(∀(i:Nat) (p:ao),dq[i]?=some p->i<bl.length/\∃p':ao,aJ[i]?=some p'/\aP (bf bV (n+1) ((v1++v2++ext).map (·.den ag))) p.1=aP ag p'.1)/\(∀g,D g->b7 w0 (bf bV (n+1) ((v1++v2++ext).map (·.den ag))) m0 dq g)/\qF w0 (bf bV (n+1) ((v1++v2++ext).map (·.den ag))) m0 dq w D:=by
 have Nl:agree n bV (bf bV (n+1) ((v1++v2++ext).map (·.den ag))):=(agree.bf _ (n+1) bV).mono (by omega);have po:∀j,j<(v1++v2).length->bf bV (n+1) ((v1++v2++ext).map (·.den ag)) (n+1+j)=((v1++v2).getD j (.const 0)).den ag:=λj hj=>by
  rw[Cb _ _ _ j (by simp at hj⊢;omega)];have nW:j<(v1++v2++ext).length:=by simp at hj⊢;omega
  have e:(v1++v2++ext)[j]=(v1++v2)[j]:=List.getElem_append_left hj;simp only[aC,ox,hP hj,hP nW,tc,qx,e]
 have Ia:v1.length+v2.length=(v1++v2).length:=by simp
 obtain⟨p1,br,bT⟩:=Ep (N:=n+1+v1.length+v2.length+ext.length) ha Nl hm (by omega) ht (abb h.t) e1 e3 f1 (λj hj=>by
  rw[po j (by simp;omega),UA hj]) (by omega)
 rw[<-bT]at e2;have DR:b6 n' aJ.length ag (aJ.take bl.length):=λp hp=>h.b p (j1 hp);obtain⟨q1,q2,q3,db⟩:=U9 (N:=n+1+v1.length+v2.length+ext.length) ha Nl hm (by omega) iZ DR e2 fo f2 (λj hj=>by
  rw[show n+1+v1.length+j=n+1+(v1.length+j) by omega,po (v1.length+j) (by simp;omega),UB]) (by omega)
 have hbl:dq.length=bl.length:=(DO e2).2;refine⟨by omega,by rw[fY];exact rm br q2,?_⟩;rw[<-bT,<-q3];have jN:∀(i:Nat) (p:ao),dq[i]?=some p->i<bl.length/\∃p':ao,aJ[i]?=some p'/\bO p.1=bO p'.1/\p.2=p'.2/\(bO p.1=false->∃sh off code code' cap k,p.1=[.rows sh off code cap k]/\p'.1=[.rows sh off code' cap k]/\off.aY n/\cap.aY n):=λi p hi=>by
  have gO:i<bl.length:=by rw[<-hbl];exact(List.getElem?_eq_some_iff.1 hi).1
  obtain⟨p',h1,h2,xr,h3⟩:=Nq fo i p (Uj f2 i p hi);rw[o0,if_pos gO]at h1;obtain⟨p0,g1,_,_,g3⟩:=Nq e2 i p hi;refine⟨gO,p',h1,h2,xr,λho=>?_⟩;obtain⟨sh,off,code,code',cap,k,s1,s2⟩:=h3 ho;obtain⟨cH,dT,c1,c2,dR,a6,eO,BT⟩:=g3 ho;rw[s1]at eO;cases eO;have aX:A.ok n bl.length bV (.rows sh off c2 cap k):=iZ _ (c0 g1) _ (by rw[BT];simp);exact⟨sh,off,code,code',cap,k,s1,s2,aX.1.1,aX.1.2.2⟩
 have Nn:agree n ag (bf bV (n+1) ((v1++v2++ext).map (·.den ag))):=ha.sym.trans Nl (aV _);have hk2:∀(p p':ao),bO p.1=bO p'.1->(bO p.1=false->∃sh off code code' cap k,p.1=[.rows sh off code cap k]/\p'.1=[.rows sh off code' cap k]/\off.aY n/\cap.aY n)->aP (bf bV (n+1) ((v1++v2++ext).map (·.den ag))) p.1=aP ag p'.1:=λp p' h1 h2=>by
  cases ho:bO p.1 with
  |true=>rw[hh ho,hh (h1▸ho)]
  |false=>
   obtain⟨sh,off,code,code',cap,k,s1,s2,eO,BT⟩:=h2 ho;rw[s1,s2];simp only[aP];rw[aa.bG Nn BT]
 have hrel:∀(F:Nat->Prop),qF w0 ag m' aJ w F->qF w0 (bf bV (n+1) ((v1++v2++ext).map (·.den ag))) m0 dq w F:=λF hF i sh off code cap kind t hi=>by
  obtain⟨gO,p',k1,_,k2,k3⟩:=jN i _ hi;obtain⟨cH,dT,c1,c2,dR,a6,s1,s2,eO,BT⟩:=k3 rfl;cases s1;obtain⟨C,t'⟩:=p';simp only at s2 k2;subst s2;subst k2;obtain⟨c',h1,h2⟩:=db i _ t hi;rw[o0,if_pos gO,k1]at h1;cases h1;simp only[cp,er,A.den,lp,azv,and_true,true_and]at h2;rw[<-hm i gO];have hR:=hF i sh off c2 cap kind t k1;unfold gL at hR⊢;rw[aa.bG Nn eO,aa.bG Nn BT,h2];exact hR
 have nY:∀g,b7 w0 ag m' aJ g->b7 w0 (bf bV (n+1) ((v1++v2++ext).map (·.den ag))) m0 dq g:=b7.mono λi p hi hk=>by
  obtain⟨g1,p',g2,g3,_,g4⟩:=jN i p hi;exact⟨i,p',g2,by rw[<-hk2 p p' g3 g4];exact hk,hm i g1⟩
 refine⟨?_,hbl,λi p hi=>by
  obtain⟨g1,p',g2,g3,_,g4⟩:=jN i p hi;exact⟨g1,p',g2,hk2 p p' g3 g4⟩,λg hg=>nY g (tV g hg),hrel D ma⟩
 refine⟨?_,h.d,by rw[hbl];exact q1,⟨h.a7.ext,h.a7.jb,h.a7.je,h.a7.iw,h.a7.eu,h.a7.gg,λi cs t hi ho=>?_,λi sh off code cap kind t hi=>?_,λi j p q hi hj he=>?_⟩⟩
 ·rw[hbl];have:=GM p1;simpa using this
 ·obtain⟨c',h1,h2⟩:=db i cs t hi;obtain⟨gO,p',k1,k2,_⟩:=jN i _ hi;rw[o0,if_pos gO,k1]at h1;have h1:=gH h1;subst h1;obtain⟨g1,kB,r,hr,g2⟩:=h.a7.blk i c' t k1 (k2▸ho);rw[<-hm i gO];exact⟨g1,kB,r,hr,by rw[h2];exact g2⟩
 ·exact(hrel _ h.a7.rws i sh off code cap kind t hi).mono nY
 ·obtain⟨gO,p',k1,k2,_,k3⟩:=jN i p hi;obtain⟨D6,q',l1,l2,_,l3⟩:=jN j q hj;rw[hk2 p p' k2 k3,hk2 q q' l2 l3];rw[<-hm i gO,<-hm j D6]at he;exact h.a7.inj i j p' q' k1 l1 he
theorem dp.set {n nb:Nat} {ρ:Env} {m:Nat->Nat} {tm:List V} {xs:Array az} {s:Nat} {v:V} (h:dp n nb ρ m tm xs) (hv:v.ok n nb ρ) (hr:∀x,xs[s]?=some x->v.rel ρ m x):dp n nb ρ m (oh tm s v) xs:=by
 rw[Qp];refine⟨by simp[h.1],λi u hu=>?_⟩;rw[oy]at hu;split at hu
 ·rename_i Et;subst Et;split at hu
  ·rename_i hlt;cases hu;rw[h.1]at hlt;exact⟨hv,_,Kh hlt,hr _ (Kh hlt)⟩
  ·cases hu
 ·exact h.2 i u hu
def zm (tmps:Array az):List Nat->List Int->Prop
 |[],[]=>True
 |s::r,z::zs=>(0<=z/\z<=1)/\(∀x,tmps[s]?=some x->x= .bool (decide (z=1)))/\zm tmps r zs
 |_,_=>False
def wN (w0:cP) (w:ai) (tmps:Array az) (D:Nat->Prop) (F:Nat->Prop):List (Nat×List ay×aQ)->List Int->Prop
 |[],[]=>True
 |(s,sh,e)::r,code::len::cap::zs=>∃g:Nat,(∀x,tmps[s]?=some x->x=if cap<0 then .slice (lR cap g) 0 0 else .slice (some ⟨g,0,none⟩) len.toNat cap.toNat)/\B1 0 0 len cap/\(0<=code/\code<=cc)/\(cap<0->ab code=[])/\
    (0<=cap->∃cells:Array az,w.heap[g]?=some (.cells cells e (0,0))/\ie D w cells 0 sh (ab code)/\cells.size=cap.toNat*sh.length/\w0.b.heap.size<=g/\(w0.ex g∨w0.r.heap.size<=g)/\∀bb,D bb->bb≠g)/\
    (0<=cap->F g)/\wN w0 w tmps D (λbb=>F bb/\(0<=cap->bb≠g)) r zs
 |_,_=>False
theorem LS {nb:Nat} {tm:List V} {m:Nat->Nat} {tmps:Array az}:∀{l:List Nat} {n:Nat} {ρ:Env},dp n nb ρ m tm tmps->ar S L (CR tm l) n ρ λag n' ls=>(∀x∈ls,aa.aY n' x)/\ls.length=l.length/\zm tmps l (ls.map (·.den ag))
 |[],n,ρ,ht=>ar.pure ⟨λ_ h=>by simp at h,rfl,trivial⟩
 |s::r,n,ρ,ht=>by
  unfold CR;split
  ·rename_i e hs;obtain⟨h1,x,h2,h3⟩:=ht.2 s _ hs;have h3:x= .bool (e.den ρ):=h3;have key:ar S L (match e with| .lit v=>pure (aa.const (cond v 1 0))|e=>yh e) n ρ λag n' l=>l.aY n'/\(0<=l.den ag/\l.den ag<=1)/\e.den ρ=decide (l.den ag=1):=by
    cases e with
    |lit v=>cases v<;>exact ar.pure ⟨aa.cC _ _,by simp only[aa.aR];decide,by simp only[aa.aR,bg.den];rfl⟩
    |_=>exact IB
   refine key.bind λaD n1 l hn ha ⟨g1,g2,g3⟩=>(LS (l:=r) (ht.ext ha hn (aV _) (λ_ _=>rfl))).bind λbo n2 ls dY c7 ⟨k1,k2,k3⟩=>ar.pure ⟨λy hy=>?_,by simp[k2],?_⟩
   ·rcases List.mem_cons.1 hy with rfl|hy
    ·exact g1.mono dY
    ·exact k1 y hy
   ·have e1:=aa.bG c7 g1;simp only[cp,zm,e1];refine⟨g2,λy hy=>?_,k3⟩;rw[h2]at hy;cases hy;rw[h3,g3]
  ·exact ar.fail
theorem Dh {nb:Nat} {m:Nat->Nat} {tmps:Array az}:∀{l:List (Nat×Int×Int)} {tm:List V} {n:Nat} {ρ:Env},dp n nb ρ m tm tmps->ar S L (xl l tm) n ρ λag n' bw=>dp n' nb ag m bw tmps
 |[],tm,n,ρ,ht=>ar.pure ht
 |(s,lo,hi)::r,tm,n,ρ,ht=>by
  unfold xl;split
  ·rename_i k x hs;cases hc:(decide (lo<=x.lo)&&decide (x.hi<=hi))with
   |true=>simp only[cond_true];exact Dh ht
   |false=>
    simp only[cond_false];refine gC λhk=>?_;simp only[cp,er,af,aa.aR]at hk;obtain⟨h1,y,h2,h3⟩:=ht.2 s _ hs;have h1:x.ok n ρ:=h1;exact Dh (ht.set (v:= .w (.one (.int k ⟨x.l,lo,hi⟩))) ⟨h1.1,hk.1,hk.2⟩ λz hz=>by
     rw[h2]at hz;cases hz;exact h3)
  ·exact Dh ht
theorem GP {n lo:Nat} {ρ:Env} {m:Nat->Nat} {tm:List V} {bl:List ao} {a:Act} {w:ai} (h:R w0 n ρ m tm bl a w):∀{l:List (Nat×List ay×aQ)} {used:List Nat} {ls:List aa} {u:List Nat},r5 lo l tm bl used=some (ls,u)->
 (∀x∈ls,aa.aY n x)/\ls.length=(wZ l).length/\(∀b∈used,b∈u)/\(∀b∈u,b∈used∨lo<=b)/\∀F:Nat->Prop,(∀(b:Nat) (p:ao),b∈u->b∉used->bl[b]?=some p->aP ρ p.1=2->bO p.1=false->F (m b))->wN w0 w a.tmps (b7 w0 ρ m bl) F l (ls.map (·.den ρ))
 |[],used,ls,u,he=>by
  simp only[r5,aL,ct]at he;obtain⟨rfl,rfl⟩:=he;exact⟨λ_ h=>by simp at h,rfl,λ_ h=>h,λ_ h=> .inl h,λ_ _=>trivial⟩
 |(s,sh,e)::r,used,ls,u,he=>by
  unfold r5 at he;split at he
  ·rename_i hs;split at he
   ·rename_i l1 ia hr;simp only[aL,ct]at he;obtain⟨rfl,rfl⟩:=he;obtain⟨g1,g2,g3,g4,g5⟩:=GP h hr;refine⟨λx hx=>?_,by simp[wZ]at g2⊢;omega,g3,g4,λF hF=>⟨0,λx hx=>?_,?_,?_,?_,?_,?_,?_⟩⟩
    ·simp only[ks]at hx;rcases hx with rfl|rfl|rfl|hx
     ·exact aa.cC _ _
     ·exact aa.cC _ _
     ·exact aa.cC _ _
     ·exact g1 x hx
    ·obtain⟨_,y,h2,h3⟩:=h.t.2 s _ hs;rw[h2]at hx;cases hx;have l6:(aa.const (-1)).den ρ<0:=by rw[aa.aR];decide
     simp only[l6,if_true];exact h3
    ·simp only[aa.aR];exact⟨⟨by omega,by omega,by omega,by omega⟩,⟨by omega,by omega⟩,λ_=>rfl,λh=>by omega⟩
    ·simp only[aa.aR];exact⟨bB _,pJ (fa []) (oF (l:=[]) (by simp) (by simp))⟩
    ·intro _;simp only[aa.aR];exact fA
    ·simp only[aa.aR];intro h;omega
    ·simp only[aa.aR];intro h;omega
    ·refine g5 _ λb p hb hu hbl hk ho=>⟨hF b p hb hu hbl hk ho,?_⟩;simp only[aa.aR];intro h;omega
   ·cases he
  ·rename_i b aM o ro len cap hs;split at he
   ·rename_i cH off code cM kind t hbl;cases hc:(h9 sh cH&&aH kind 2&&aa.beq o (.const 0)&&aa.beq off (.const 0)&&aa.beq ro (.const 0)&&aa.beq cap cM&&aH t.1 e&&aH aM sh.length&&bu lo b&& !(used.any (aH b)))with
    |false=>rw[hc]at he;cases he
    |true=>
     rw[hc]at he;simp only[cond_true]at he;split at he
     ·rename_i l1 ia hr;simp only[aL,ct]at he;obtain⟨rfl,rfl⟩:=he;simp only[aO]at hc;obtain⟨⟨⟨⟨⟨⟨⟨⟨⟨c1,c2⟩,c3⟩,c4⟩,c5⟩,ff⟩,j7⟩,mD⟩,pT⟩,xc⟩:=hc;have c1:=oW c1;have c2:=bx c2;have c3:=aa.beq_eq c3;have c4:=aa.beq_eq c4;have c5:=aa.beq_eq c5;have ff:=aa.beq_eq ff
      have j7:=bx j7;have mD:=bx mD;have pT:=eh pT
      have aht:b∉used:=λhb=>by
       have:used.any (aH b)=true:=List.any_eq_true.2 ⟨b,hb,Cm b⟩;rw[this]at xc;cases xc
      subst c1;subst c2;subst c3;subst c4;subst c5;subst ff;subst j7;subst mD;obtain⟨g1,g2,g3,g4,g5⟩:=GP h hr;obtain⟨aX,y,h2,h3⟩:=h.t.2 s _ hs;have aX:(A.sl b sh.length (.const 0) (.const 0) len cap).ok n bl.length ρ:=aX;obtain⟨x1,⟨x2,x3,eP,iE⟩,iS⟩:=aX;simp only[aa.aR]at iS;have e4:(A.rows sh (.const 0) code cap 2).ok n bl.length ρ:=h.b _ (c0 hbl) _ (by simp);obtain⟨⟨r1,r2,r3⟩,fL,cS⟩:=e4;have gR:=h.a7.rws b sh (.const 0) code cap 2 t hbl (by decide);refine⟨λx hx=>?_,by simp[wZ]at g2⊢;omega,λb' hb'=>g3 b' (cD _ hb'),λb' hb'=>?_,λF hF=>⟨m b,λx hx=>?_,iS,fL,gR.1,λh0=>?_,λh0=>?_,?_⟩⟩
      ·simp only[ks]at hx;rcases hx with rfl|rfl|rfl|hx
       ·exact r2
       ·exact eP
       ·exact iE
       ·exact g1 x hx
      ·rcases g4 b' hb' with h5|h5
       ·rcases List.mem_cons.1 h5 with rfl|h5
        ·exact .inr pT
        ·exact .inl h5
       ·exact .inr h5
      ·have EG:y=x:=gH (h2.symm.trans hx);subst EG;have h3:y=(A.sl b sh.length (.const 0) (.const 0) len cap).den ρ m:=h3;rw[h3];simp only[A.den,aa.aR];split<;>simp
      ·obtain⟨_,cells,gS,fz,k1,⟨k2,k3⟩,k4⟩:=gR.2 h0;obtain⟨e7,nw,mh,aiX,aiY,aiZ⟩:=k4 (by decide);subst e7;have mh:=mh.two;subst mh;rw[aa.aR]at k3;exact⟨cells,k1,k3,aiX,aiY,aiZ,λbb ec e=>ec.2 b _ hbl (by rw[ix (by decide) h0];exact aV 2) e.symm⟩
      ·exact hF b _ (g3 b (by simp)) aht hbl (ix (by decide) h0) rfl
      ·refine g5 _ λb' p hb' hu Vc hk ho=>⟨hF b' p hb' (λh=>hu (cD _ h)) Vc hk ho,λh0=>?_⟩;have iu:aP ρ [A.rows sh (.const 0) code cap 2]=2:=ix (by decide) h0;exact h.a7.ne Vc hbl (by rw[hk];exact aV 2) (by simp only[iu];decide) λe=>hu (by simp[e])
     ·cases he
   ·cases he
  ·cases he
theorem Jg {c:List A} (h:bO c=false):∃sh off code cap k,c=[.rows sh off code cap k]:=by
 unfold bO at h;split at h
 ·exact⟨_,_,_,_,_,rfl⟩
 ·cases h
theorem OS {n:Nat} {ρ:Env} {m:Nat->Nat} {tm:List V} {a:Act} {w:ai}:∀{us:List Nat} {bl:List ao},R w0 n ρ m tm bl a w->R w0 n ρ m tm (k7 us bl) a w/\(k7 us bl).length=bl.length/\∀(i:Nat) (p:ao),(k7 us bl)[i]?=some p->(bl[i]?=some p/\(i∈us->bO p.1=true∨aP ρ p.1=0))∨aP ρ p.1=0
 |[],bl,h=>⟨h,rfl,λi p hp=> .inl ⟨hp,λh=>by simp at h⟩⟩
 |b::r,bl,h=>by
  unfold k7;split
  ·rename_i sh off code cap k t hbl;obtain⟨g1,g2,g3⟩:=OS (us:=r) (h.kill hbl);refine⟨g1,by rw[g2,km],λi p hp=>?_⟩;rcases g3 i p hp with⟨g4,g5⟩|g4
   ·by_cases gO:i=b
    ·subst gO;rw[iC,aap (List.getElem?_eq_some_iff.1 hbl).1]at g4;cases g4;exact .inr (by simp[aP])
    ·rw[iC,Rk (λe=>gO e.symm)]at g4;exact .inl ⟨g4,λhi=>g5 (by simpa [gO]using hi)⟩
   ·exact .inr g4
  ·rename_i hno;obtain⟨g1,g2,g3⟩:=OS (us:=r) h;refine⟨g1,g2,λi p hp=>?_⟩;rcases g3 i p hp with⟨g4,g5⟩|g4
   ·refine .inl ⟨g4,λhi=>?_⟩;rcases List.mem_cons.1 hi with rfl|hi
    ·cases ho:bO p.1 with
     |true=>exact .inl rfl
     |false=>
      exfalso;obtain⟨c,t⟩:=p;obtain⟨sh,off,code,cap,k,rfl⟩:=Jg ho;exact hno _ _ _ _ _ _ g4
    ·exact g5 hi
   ·exact .inr g4
theorem Vm {N:Nat} {bo:Env} {m:Nat->Nat} {bl:List ao} {a:Act} {w:ai}:∀{l:List Nat} {zs:List Int} {v:Nat} {tm:List V},R w0 N bo m tm bl a w->zm a.tmps l zs->(∀j,j<zs.length->bo (v+j)=zs.getD j 0)->v+zs.length<=N->R w0 N bo m (q4 l v tm) bl a w
 |[],[],v,tm,h,_,_,_=>h
 |s::r,z::zs,v,tm,h,hb,hv,hN=>by
  unfold q4;have h0:=hv 0 (by simp);simp only[lq,wG]at h0;simp only[cW]at hN;refine Vm (l:=r) (zs:=zs) ⟨dp.set h.t ?_ λx hx=>?_,h.d,h.b,h.a7⟩ hb.2.2 (λj hj=>by
   have:=hv (j+1) (by simpa using hj);rw[show v+1+j=v+(j+1) by omega];simpa using this) (by omega)
  ·exact⟨aa.eo (by omega),aa.cC _ _⟩
  ·rw[hb.2.1 x hx];simp[V.rel,W.den,A.den,bg.den,aa.ck,aa.aR,h0]
 |[],_::_,_,_,_,h,_,_=>h.elim
 |_::_,[],_,_,_,h,_,_=>h.elim
theorem Vl {N:Nat} {bo:Env} {a:Act} {w:ai}:∀{l:List (Nat×List ay×aQ)} {zs:List Int} {v:Nat} {tm:List V} {bl:List ao} {m:Nat->Nat} {D F:Nat->Prop},R w0 N bo m tm bl a w->(∀g,D g->b7 w0 bo m bl g)->qF w0 bo m bl w D->wN w0 w a.tmps D F l zs->(∀g,F g->∀(i:Nat) (p:ao),bl[i]?=some p->m i=g->aP bo p.1=0)->
 (∀j,j<zs.length->bo (v+j)=zs.getD j 0)->v+zs.length<=N->∃m2,(∀b,b<bl.length->m2 b=m b)/\bl.length<=(pk l v tm bl).2.length/\R w0 N bo m2 (pk l v tm bl).1 (pk l v tm bl).2 a w
 |[],[],v,tm,bl,m,D,F,h,_,_,_,_,_,_=>⟨m,λ_ _=>rfl,aV _,h⟩
 |(s,sh,e)::r,code::len::cap::zs,v,tm,bl,m,D,F,h,tV,ma,hf,hF,hv,hN=>by
  obtain⟨g,f1,f2,f3,f4,f5,f6,f7⟩:=hf;have v0:=hv 0 (by simp);have v1:=hv 1 (by simp);have v2:=hv 2 (by simp);simp only[wG,Ki,lq]at v0 v1 v2;simp only[cW]at hN;have hc:(-2:Int)<=cap/\cap<=9223372036854775807:=⟨f2.2.1.1,by have:=f2.2.1.2;omega⟩;have hA:(A.rows sh (.const 0) (.var v) (.var (v+2)) 2).ok N bl.length bo:=⟨⟨aa.cC _ _,aa.eo (by omega),aa.eo (by omega)⟩,by rw[aa.ck,v0];exact f3,by rw[aa.ck,v2];exact hc⟩;have xw:∀bb,D bb->b7 w0 bo (fc m bl.length g) (bl++[([.rows sh (.const 0) (.var v) (.var (v+2)) 2],(e,false))]) bb:=λbb ec=>(tV bb ec).push (by
   rcases hQ cap 0 with h0|h0
   ·refine .inl ?_;simp only[aP,aa.ck,v2];rw[if_pos h0];decide
   ·obtain⟨_,_,_,_,_,_,mh⟩:=f5 h0;exact .inr (mh bb ec))
  have iv:gL w0 bo D g sh (.const 0) (.var v) (.var (v+2)) 2 e w:=by
   intro _;simp only[aa.ck,v0,v2,aa.aR];refine⟨f4,λh0=>?_⟩;obtain⟨cells,k1,k2,k3,k4,nw,_⟩:=f5 h0;exact⟨nw.elim .inl λh=> .inr (.inr h),cells,e,(0,0),k1,⟨bB _,k2⟩,λ_=>⟨rfl,by trivial,.E1,k3,k4,nw⟩⟩
  have M9:qF w0 bo (fc m bl.length g) (bl++[([.rows sh (.const 0) (.var v) (.var (v+2)) 2],(e,false))]) w D:=λi cH dT code' dR eT t' hi=>by
   rcases Jr hi with⟨dv,h1⟩|⟨rfl,h1⟩
   ·rw[iD dv];exact ma i cH dT code' dR eT t' h1
   ·cases h1;rw[jX];exact iv
  have hM:=h.a7.push (x:=([.rows sh (.const 0) (.var v) (.var (v+2)) 2],(e,false))) (g:=g) h.b (λy hy=>by simp at hy;subst hy;exact hA) (λho=>by cases ho) (λcH dT code' dR eT he=>by
   cases he;exact iv.mono xw) (λi p hi he=>by
   rcases hQ cap 0 with h0|h0
   ·refine .inr (.inr ?_);simp only[aP,aa.ck,v2];rw[if_pos h0]
   ·exact .inr (.inl (hF g (f6 h0) i p hi he))) (λi cH dT code' dR eT t' hi=>(ma i cH dT code' dR eT t' hi).mono xw)
  have bW:=cR.alloc N bo m bl ([A.rows sh (.const 0) (.var v) (.var (v+2)) 2],(e,false)) g;have hR:R w0 N bo (fc m bl.length g) (oh tm s (.w (.one (.sl bl.length sh.length (.const 0) (.const 0) (.var (v+1)) (.var (v+2)))))) (bl++[([.rows sh (.const 0) (.var v) (.var (v+2)) 2],(e,false))]) a w:=by
   refine⟨dp.set (h.t.ext bW.ha bW.hn bW.hb bW.hm) ?_ λx hx=>?_,h.d,h.b.alloc (λy hy=>by simp at hy;subst hy;exact hA),hM⟩
   ·refine⟨by simp,⟨aa.cC _ _,aa.cC _ _,aa.eo (by omega),aa.eo (by omega)⟩,?_⟩;simp only[aa.aR,aa.ck,v1,v2];exact f2
   ·rw[f1 x hx];simp only[V.rel,W.den,A.den,aa.aR,aa.ck,v1,v2,jX];split<;>simp
  obtain⟨m2,q1,q2,q3⟩:=Vl (l:=r) (zs:=zs) (v:=v+3) hR xw M9 f7 (λbb ec i p hi he=>by
   rw[F7]at hi;split at hi
   ·rename_i dv;rw[iD dv]at he;exact hF bb ec.1 i p hi he
   ·have dv:=(List.getElem?_eq_some_iff.1 hi).1;have:i=bl.length:=by simp at dv;omega
    subst this;simp only[Kj,m1,aL]at hi;subst hi;rw[jX]at he;rcases hQ cap 0 with h0|h0
    ·simp only[aP,aa.ck,v2];rw[if_pos h0]
    ·exact absurd he.symm (ec.2 h0)) (λj hj=>by
   have:=hv (j+3) (by simp only[cW];omega);rw[show v+3+j=v+(j+3) by omega];simpa using this) (by omega)
  simp only[dn,cW,eH]at q1 q2;exact⟨m2,λb hb=>by rw[q1 b (by omega)];exact iD hb,by unfold pk;omega,by unfold pk;exact q3⟩
 |[],_::_,_,_,_,_,_,_,_,_,_,h,_,_,_=>h.elim
 |_::_,[],_,_,_,_,_,_,_,_,_,h,_,_,_=>h.elim
 |_::_,[_],_,_,_,_,_,_,_,_,_,h,_,_,_=>h.elim
 |_::_,[_,_],_,_,_,_,_,_,_,_,_,h,_,_,_=>h.elim
theorem Wy {tmps:Array az}:∀{l:List Nat} {zs:List Int},zm tmps l zs->bd (Ha l) zs
 |[],[],_=>trivial
 |s::r,z::zs,h=>⟨h.1.1,h.1.2,Wy h.2.2⟩
 |[],_::_,h=>h.elim
 |_::_,[],h=>h.elim
theorem Ww {w:ai} {tmps:Array az}:∀{l:List (Nat×List ay×aQ)} {zs:List Int} {D F:Nat->Prop},wN w0 w tmps D F l zs->bd (wZ l) zs
 |[],[],_,_,_=>trivial
 |(s,sh,e)::r,code::len::cap::zs,D,F,⟨g,f1,f2,f3,f4,f5,f6,f7⟩=>⟨f3.1,f3.2,f2.1.2.2.1,f2.1.2.2.2,f2.2.1.1,by have:=f2.2.1.2;omega,Ww f7⟩
 |[],_::_,_,_,h=>h.elim
 |_::_,[],_,_,h=>h.elim
 |_::_,[_],_,_,h=>h.elim
 |_::_,[_,_],_,_,h=>h.elim
theorem Mem.YJ {n:Nat} {ρ:Env} {m:Nat->Nat} {bl:List ao} {w:ai} {b c:Nat} {C:List A} {sh:List ay} {code:aa} {t:aQ×Bool} (h:Mem w0 ρ m bl w) (hbl:bl[b]?=some (C,t)) (ho:bO C=true) (ht:t.2=false)
 (hp:iP sh=true) (jd:∀row∈ab (code.den ρ),bK sh row) (hV:bn sh (ab (code.den ρ))=C.map (A.den ρ m)) (hlen:C.length=c*sh.length):Mem w0 ρ m (cO bl b ([.rows sh (.const 0) code (.const c) 2],t)) w:=by
 have lF:b<bl.length:=(List.getElem?_eq_some_iff.1 hbl).1;obtain⟨q1,q2,r,hr,q3⟩:=h.blk b C t hbl ho;have hr:=hr ht;subst hr;rw[ln]at q3;have c9:∀(i:Nat) (p:ao),(cO bl b ([.rows sh (.const 0) code (.const c) 2],t))[i]?=some p->(i=b/\p=([.rows sh (.const 0) code (.const c) 2],t))∨(i≠b/\bl[i]?=some p):=λi p hi=>by
  rw[iC,oy]at hi;split at hi
  ·rename_i eC;subst eC;simp only[lF,if_true,aL]at hi;exact .inl ⟨rfl,hi.symm⟩
  ·rename_i eC;exact .inr ⟨λe=>eC e.symm,hi⟩
 have hk2:aP ρ [.rows sh (.const 0) code (.const c) 2]=2:=ix (by decide) (by rw[aa.aR];omega);refine⟨h.ext,h.jb,h.je,h.iw,h.eu,h.gg,λi iX t' hi gh=>?_,λi cH dT code' dR eT t' hi=>?_,λi j p q hi hj he=>?_⟩
 ·rcases c9 i _ hi with⟨rfl,cN⟩|⟨hne,hi⟩
  ·cases cN;cases gh
  ·exact h.blk i iX t' hi gh
 ·rcases c9 i _ hi with⟨rfl,cN⟩|⟨hne,hi⟩
  ·cases cN;intro _;simp only[aa.aR];refine⟨λh0=>by omega,λ_=>⟨q2.elim .inl λh=> .inr (.inr h),_,_,_,q3,⟨bB _,(mA hp).2 ⟨jd,[],[],by simp[hV],rfl⟩⟩,λ_=>⟨rfl,by trivial,.E1,by simp[hlen],q1,q2⟩⟩⟩
  ·exact(h.rws i cH dT _ dR eT t' hi).mono λbb h'=>h'.set hbl λ_=>by rw[hh ho];exact aV 2
 ·have hk:∀(i:Nat) (p:ao),(cO bl b ([.rows sh (.const 0) code (.const c) 2],t))[i]?=some p->∃p',bl[i]?=some p'/\aP ρ p'.1=aP ρ p.1:=λi p hi=>by
   rcases c9 i _ hi with⟨rfl,cN⟩|⟨hne,hi⟩
   ·exact⟨_,hbl,by rw[cN];simp only[hk2,hh ho]⟩
   ·exact⟨p,hi,rfl⟩
  obtain⟨p',hp,ep⟩:=hk i p hi;obtain⟨q',hq,eq⟩:=hk j q hj;rw[<-ep,<-eq];exact h.inj i j p' q' hp hq he
theorem natsM_holds {G:dc} {zj:Unit->Nat->T}:∀{k n:Nat} {ρ:Env} {offs:List Int},(I4 k n zj).holds S L G ρ->offs.length=k->(∀z∈offs,0<=z)->(zj () (n+k)).holds S L G (bf ρ n offs)
 |0,n,ρ,[],h,_,_=>h
 |k+1,n,ρ,z::zs,h,hl,h0=>by
  have h1:(I4 k (n+1) zj).holds S L G (cU ρ n z):=h z (h0 z (by simp));have:=natsM_holds (offs:=zs) h1 (by simpa using hl) λy hy=>h0 y (cD _ hy);rw[show n+(k+1)=n+1+k by omega];exact this
 |0,_,_,_::_,_,hl,_=>by simp at hl
 |_+1,_,_,[],_,hl,_=>by simp at hl
def o7 (w0:cP) (w:ai) (tmps:Array az) (D:Nat->Prop) (F:Nat->Prop):List (Nat×List ay)->List Nat->List Int->List Int->Prop
 |[],[],[],[]=>True
 |(s,sh)::r,g::gs,o::os,code::len::cap::zs=>(∀x,tmps[s]?=some x->x=if cap<0 then .slice (lR cap g) 0 0 else .slice (some ⟨g,o.toNat,none⟩) len.toNat cap.toNat)/\B1 o 0 len cap/\(0<=code/\code<=cc)/\(cap<0->ab code=[])/\
    (0<=cap->(w0.ex g∨w0.ro g∨w0.r.heap.size<=g)/\∃(cells:Array az) (t:aQ) (fz:Nat×Nat),w.heap[g]?=some (.cells cells t fz)/\ie D w cells o.toNat sh (ab code))/\
    (0<=cap->F g)/\o7 w0 w tmps D F r gs os zs
 |_,_,_,_=>False
theorem o7.len {w:ai} {tmps:Array az} {D F:Nat->Prop}:∀{l:List (Nat×List ay)} {gs:List Nat} {os zs:List Int},o7 w0 w tmps D F l gs os zs->os.length=l.length/\∀z∈os,0<=z
 |[],[],[],[],_=>⟨rfl,λ_ h=>by simp at h⟩
 |(s,sh)::r,g::gs,o::os,code::len::cap::zs,h=>by
  obtain⟨_,h2,_,_,_,_,h7⟩:=h;obtain⟨i1,i2⟩:=o7.len h7;exact⟨by simp[i1],λz hz=>by
   rcases List.mem_cons.1 hz with rfl|hz
   ·exact h2.1.1
   ·exact i2 z hz⟩
 |_::_,[],_,_,h=>h.elim
 |_::_,_::_,[],_,h=>h.elim
 |_::_,_::_,_::_,[],h=>h.elim
 |_::_,_::_,_::_,[_],h=>h.elim
 |_::_,_::_,_::_,[_,_],h=>h.elim
 |[],_::_,_,_,h=>h.elim
 |[],[],_::_,_,h=>h.elim
 |[],[],[],_::_,h=>h.elim
theorem WA {w:ai} {tmps:Array az} {D F:Nat->Prop}:∀{l:List (Nat×List ay)} {gs:List Nat} {os zs:List Int},o7 w0 w tmps D F l gs os zs->bd (wa l) zs
 |[],[],[],[],_=>trivial
 |(s,sh)::r,g::gs,o::os,code::len::cap::zs,⟨f1,f2,f3,f4,f5,f6,f7⟩=>⟨f3.1,f3.2,f2.1.2.2.1,f2.1.2.2.2,f2.2.1.1,by have:=f2.2.1.2;omega,WA f7⟩
 |_::_,[],_,_,h=>h.elim
 |_::_,_::_,[],_,h=>h.elim
 |_::_,_::_,_::_,[],h=>h.elim
 |_::_,_::_,_::_,[_],h=>h.elim
 |_::_,_::_,_::_,[_,_],h=>h.elim
 |[],_::_,_,_,h=>h.elim
 |[],[],_::_,_,h=>h.elim
 |[],[],[],_::_,h=>h.elim
theorem Fk {n:Nat} {ρ:Env} {m:Nat->Nat} {tm:List V} {bl:List ao} {a:Act} {w:ai} (h:R w0 n ρ m tm bl a w):∀{l:List (Nat×List ay)} {ls:List aa},wc l tm bl=some ls->
 (∀x∈ls,aa.aY n x)/\ls.length=(wa l).length/\∃gs os,o7 w0 w a.tmps (b7 w0 ρ m bl) (λg=>∃(i:Nat) (p:ao),bl[i]?=some p/\m i=g/\aP ρ p.1=1) l gs os (ls.map (·.den ρ))
 |[],ls,he=>by
  simp only[wc,aL]at he;subst he;exact⟨λ_ h=>by simp at h,rfl,[],[],trivial⟩
 |(s,sh)::r,ls,he=>by
  unfold wc at he;split at he
  ·rename_i hs;split at he
   ·rename_i l1 hr;simp only[aL]at he;subst he;obtain⟨g1,g2,gs,os,g3⟩:=Fk h hr;refine⟨λx hx=>?_,by simp[wa]at g2⊢;omega,0::gs,0::os,λx hx=>?_,?_,?_,?_,?_,?_,g3⟩
    ·simp only[ks]at hx;rcases hx with rfl|rfl|rfl|hx
     ·exact aa.cC _ _
     ·exact aa.cC _ _
     ·exact aa.cC _ _
     ·exact g1 x hx
    ·obtain⟨_,y,h2,h3⟩:=h.t.2 s _ hs;rw[h2]at hx;cases hx;have l6:(aa.const (-1)).den ρ<0:=by rw[aa.aR];decide
     simp only[l6,if_true];exact h3
    ·simp only[aa.aR];exact⟨⟨by omega,by omega,by omega,by omega⟩,⟨by omega,by omega⟩,λ_=>rfl,λh=>by omega⟩
    ·simp only[aa.aR];exact⟨bB _,pJ (fa []) (oF (l:=[]) (by simp) (by simp))⟩
    ·intro _;simp only[aa.aR];exact fA
    ·simp only[aa.aR];intro h;omega
    ·simp only[aa.aR];intro h;omega
   ·cases he
  ·rename_i b off hs;split at he
   ·rename_i l1 hr;simp only[aL]at he;subst he;obtain⟨g1,g2,gs,os,g3⟩:=Fk h hr;obtain⟨c,g,⟨hc1,hc2⟩,n8⟩:=Q8 (some ⟨m b,off,none⟩);have sm:c=-2:=by
     by_cases hc:c=-1
     ·have:=aag c g;rw[n8,decide_eq_true hc]at this;cases this
     ·omega
    subst sm;refine⟨λx hx=>?_,by simp[wa]at g2⊢;omega,g::gs,0::os,λx hx=>?_,?_,?_,?_,?_,?_,g3⟩
    ·simp only[ks]at hx;rcases hx with rfl|rfl|rfl|hx
     ·exact aa.cC _ _
     ·exact aa.cC _ _
     ·exact aa.cC _ _
     ·exact g1 x hx
    ·obtain⟨_,y,h2,h3⟩:=h.t.2 s _ hs;rw[h2]at hx;cases hx;have l6:(aa.const (-2)).den ρ<0:=by rw[aa.aR];decide
     simp only[l6,if_true];rw[aa.aR,n8];exact h3
    ·simp only[aa.aR];exact⟨⟨by omega,by omega,by omega,by omega⟩,⟨by omega,by omega⟩,λ_=>rfl,λh=>by omega⟩
    ·simp only[aa.aR];exact⟨bB _,pJ (fa []) (oF (l:=[]) (by simp) (by simp))⟩
    ·intro _;simp only[aa.aR];exact fA
    ·simp only[aa.aR];intro h;omega
    ·simp only[aa.aR];intro h;omega
   ·cases he
  ·rename_i b aM o ro len cap hs;split at he
   ·rename_i cH off code cM kind t hbl;cases hc:(h9 sh cH&&aH kind 1&&aa.beq o off&&aa.beq ro (.const 0)&&aa.beq cap cM&&aH aM sh.length)with
    |false=>rw[hc]at he;cases he
    |true=>
     rw[hc]at he;simp only[cond_true]at he;split at he
     ·rename_i l1 hr;simp only[aL]at he;subst he;simp only[aO]at hc;obtain⟨⟨⟨⟨⟨c1,c2⟩,c3⟩,c4⟩,c5⟩,ff⟩:=hc;have c1:=oW c1;have c2:=bx c2;have c3:=aa.beq_eq c3;have c4:=aa.beq_eq c4;have c5:=aa.beq_eq c5;have ff:=bx ff
      subst c1;subst c2;subst c3;subst c4;subst c5;subst ff;obtain⟨g1,g2,gs,os,g3⟩:=Fk h hr;obtain⟨aX,y,h2,h3⟩:=h.t.2 s _ hs;have aX:(A.sl b sh.length o (.const 0) len cap).ok n bl.length ρ:=aX;obtain⟨x1,⟨x2,x3,eP,iE⟩,iS⟩:=aX;simp only[aa.aR]at iS;have e4:(A.rows sh o code cap 1).ok n bl.length ρ:=h.b _ (c0 hbl) _ (by simp);obtain⟨⟨r1,r2,r3⟩,fL,cS⟩:=e4;have gR:=h.a7.rws b sh o code cap 1 t hbl (by decide);refine⟨λx hx=>?_,by simp[wa]at g2⊢;omega,m b::gs,o.den ρ::os,λx hx=>?_,iS,fL,gR.1,λh0=>?_,λh0=>?_,g3⟩
      ·simp only[ks]at hx;rcases hx with rfl|rfl|rfl|hx
       ·exact r2
       ·exact eP
       ·exact iE
       ·exact g1 x hx
      ·have EG:y=x:=gH (h2.symm.trans hx);subst EG;have h3:y=(A.sl b sh.length o (.const 0) len cap).den ρ m:=h3;rw[h3];simp only[A.den,aa.aR];split<;>simp
      ·obtain⟨q0,cells,gS,fz,k1,⟨k2,k3⟩,k4⟩:=gR.2 h0;exact⟨q0,cells,gS,fz,k1,k3⟩
      ·exact⟨b,_,hbl,rfl,ix (by decide) h0⟩
     ·cases he
   ·cases he
  ·cases he
theorem o7.mono {w:ai} {tmps:Array az} {D F F':Nat->Prop} (hF:∀g,F g->F' g):∀{l:List (Nat×List ay)} {gs:List Nat} {os zs:List Int},o7 w0 w tmps D F l gs os zs->o7 w0 w tmps D F' l gs os zs
 |[],[],[],[],_=>trivial
 |(s,sh)::r,g::gs,o::os,code::len::cap::zs,⟨f1,f2,f3,f4,f5,f6,f7⟩=>⟨f1,f2,f3,f4,f5,λh=>hF g (f6 h),o7.mono hF f7⟩
 |_::_,[],_,_,h=>h.elim
 |_::_,_::_,[],_,h=>h.elim
 |_::_,_::_,_::_,[],h=>h.elim
 |_::_,_::_,_::_,[_],h=>h.elim
 |_::_,_::_,_::_,[_,_],h=>h.elim
 |[],_::_,_,_,h=>h.elim
 |[],[],_::_,_,h=>h.elim
 |[],[],[],_::_,h=>h.elim
theorem Lz {lo:Nat} {tm:List V} {bl:List ao}:∀{l:List (Nat×List ay×aQ)} {used:List Nat} {ls:List aa} {u:List Nat},r5 lo l tm bl used=some (ls,u)->∀b∈u,b∈used∨∃sh off code cap t,bl[b]?=some ([.rows sh off code cap 2],t)
 |[],used,ls,u,he=>by
  simp only[r5,aL,ct]at he;obtain⟨rfl,rfl⟩:=he
  exactλb hb=> .inl hb
 |(s,sh,e)::r,used,ls,u,he=>by
  unfold r5 at he;split at he
  ·split at he
   ·rename_i l1 ia hr;simp only[aL,ct]at he;obtain⟨rfl,rfl⟩:=he;exact Lz hr
   ·cases he
  ·rename_i b aM o ro len cap hs;split at he
   ·rename_i cH off code cM kind t hbl;cases hc:(h9 sh cH&&aH kind 2&&aa.beq o (.const 0)&&aa.beq off (.const 0)&&aa.beq ro (.const 0)&&aa.beq cap cM&&aH t.1 e&&aH aM sh.length&&bu lo b&& !(used.any (aH b)))with
    |false=>rw[hc]at he;cases he
    |true=>
     rw[hc]at he;simp only[cond_true]at he;split at he
     ·rename_i l1 ia hr;simp only[aL,ct]at he;obtain⟨rfl,rfl⟩:=he;simp only[aO]at hc;obtain⟨⟨⟨⟨⟨⟨⟨⟨⟨c1,c2⟩,c3⟩,c4⟩,c5⟩,ff⟩,j7⟩,mD⟩,pT⟩,xc⟩:=hc;have c2:=bx c2;subst c2;intro b' hb';rcases Lz hr b' hb' with h5|h5
      ·rcases List.mem_cons.1 h5 with rfl|h5
       ·exact .inr ⟨_,_,_,_,_,hbl⟩
       ·exact .inl h5
      ·exact .inr h5
     ·cases he
   ·cases he
  ·cases he
theorem OR {i:Nat} {p:ao}:∀{us:List Nat} {bl:List ao},bl[i]?=some p->i∉us->(k7 us bl)[i]?=some p
 |[],bl,h,_=>h
 |b::r,bl,h,hi=>by
  unfold k7;split
  ·refine OR ?_ λh=>hi (cD _ h);rw[iC,Rk (λe=>hi (by simp[e]))];exact h
  ·exact OR h λh=>hi (cD _ h)
theorem Vn {N:Nat} {bo:Env} {a:Act} {w:ai} {D F:Nat->Prop}:∀{l:List (Nat×List ay)} {gs:List Nat} {os zs:List Int} {v u:Nat} {tm:List V} {bl:List ao} {m:Nat->Nat},R w0 N bo m tm bl a w->(∀g,D g->b7 w0 bo m bl g)->qF w0 bo m bl w D->o7 w0 w a.tmps D F l gs os zs->(∀g,F g->∀(i:Nat) (p:ao),bl[i]?=some p->m i=g->aP bo p.1<=1)->
 (∀j,j<zs.length->bo (v+j)=zs.getD j 0)->(∀j,j<os.length->bo (u+j)=os.getD j 0)->v+zs.length<=N->u+os.length<=N->
 ∃m2,(∀b,b<bl.length->m2 b=m b)/\bl.length<=(headD l v u tm bl).2.length/\R w0 N bo m2 (headD l v u tm bl).1 (headD l v u tm bl).2 a w/\(∀(i:Nat) (p:ao),(headD l v u tm bl).2[i]?=some p->(i<bl.length/\bl[i]?=some p)∨(aP bo p.1≠0->F (m2 i)))/\(∀g,D g->b7 w0 bo m2 (headD l v u tm bl).2 g)/\qF w0 bo m2 (headD l v u tm bl).2 w D
 |[],[],[],[],v,u,tm,bl,m,h,tV,ma,_,_,_,_,_,_=>⟨m,λ_ _=>rfl,aV _,h,λi p hp=> .inl ⟨(List.getElem?_eq_some_iff.1 hp).1,hp⟩,tV,ma⟩
 |(s,sh)::r,g::gs,o::os,code::len::cap::zs,v,u,tm,bl,m,h,tV,ma,hf,hF,hv,hu,hN,M7=>by
  obtain⟨f1,f2,f3,f4,f5,f6,f7⟩:=hf;have v0:=hv 0 (by simp);have v1:=hv 1 (by simp);have v2:=hv 2 (by simp);have u0:=hu 0 (by simp);simp only[wG,Ki,lq]at v0 v1 v2 u0;simp only[cW]at hN M7;have hc:(-2:Int)<=cap/\cap<=9223372036854775807:=⟨f2.2.1.1,by have:=f2.2.1.2;omega⟩;have hA:(A.rows sh (.var u) (.var v) (.var (v+2)) 1).ok N bl.length bo:=⟨⟨aa.eo (by omega),aa.eo (by omega),aa.eo (by omega)⟩,by rw[aa.ck,v0];exact f3,by rw[aa.ck,v2];exact hc⟩;have xR:aP bo [A.rows sh (.var u) (.var v) (.var (v+2)) 1]<=1:=by
   simp only[aP];split<;>omega
  have xw:∀bb,D bb->b7 w0 bo (fc m bl.length g) (bl++[([.rows sh (.var u) (.var v) (.var (v+2)) 1],(0,false))]) bb:=λbb ec=>(tV bb ec).push (.inl xR);have iv:gL w0 bo D g sh (.var u) (.var v) (.var (v+2)) 1 0 w:=by
   intro _;simp only[aa.ck,v0,v2,u0];refine⟨f4,λh0=>?_⟩;obtain⟨e7,cells,t,fz,k1,k2⟩:=f5 h0;exact⟨e7,cells,t,fz,k1,⟨f2.1.1,k2⟩,λa8=>by omega⟩
  have M9:qF w0 bo (fc m bl.length g) (bl++[([.rows sh (.var u) (.var v) (.var (v+2)) 1],(0,false))]) w D:=λi cH dT code' dR eT t' hi=>by
   rcases Jr hi with⟨dv,h1⟩|⟨rfl,h1⟩
   ·rw[iD dv];exact ma i cH dT code' dR eT t' h1
   ·cases h1;rw[jX];exact iv
  have hM:=h.a7.push (x:=([.rows sh (.var u) (.var v) (.var (v+2)) 1],(0,false))) (g:=g) h.b (λy hy=>by simp at hy;subst hy;exact hA) (λho=>by cases ho) (λcH dT code' dR eT he=>by
   cases he;exact iv.mono xw) (λi p hi he=>by
   rcases hQ cap 0 with h0|h0
   ·refine .inr (.inr ?_);simp only[aP,aa.ck,v2];rw[if_pos h0]
   ·exact .inl ⟨hF g (f6 h0) i p hi he,xR⟩) (λi cH dT code' dR eT t' hi=>(ma i cH dT code' dR eT t' hi).mono xw)
  have bW:=cR.alloc N bo m bl ([A.rows sh (.var u) (.var v) (.var (v+2)) 1],(0,false)) g;have hR:R w0 N bo (fc m bl.length g) (oh tm s (.w (.one (.sl bl.length sh.length (.var u) (.const 0) (.var (v+1)) (.var (v+2)))))) (bl++[([.rows sh (.var u) (.var v) (.var (v+2)) 1],(0,false))]) a w:=by
   refine⟨dp.set (h.t.ext bW.ha bW.hn bW.hb bW.hm) ?_ λx hx=>?_,h.d,h.b.alloc (λy hy=>by simp at hy;subst hy;exact hA),hM⟩
   ·refine⟨by simp,⟨aa.eo (by omega),aa.cC _ _,aa.eo (by omega),aa.eo (by omega)⟩,?_⟩;simp only[aa.aR,aa.ck,v1,v2,u0];exact f2
   ·rw[f1 x hx];simp only[V.rel,W.den,A.den,aa.aR,aa.ck,v1,v2,u0,jX];split<;>simp
  obtain⟨m2,q1,q2,q3,db,rD,mm⟩:=Vn (F:=F) (l:=r) (gs:=gs) (os:=os) (zs:=zs) (v:=v+3) (u:=u+1) hR xw M9 f7 (λbb ec i p hi he=>by
   rw[F7]at hi;split at hi
   ·rename_i dv;rw[iD dv]at he;exact hF bb ec i p hi he
   ·have dv:=(List.getElem?_eq_some_iff.1 hi).1;have:i=bl.length:=by simp at dv;omega
    subst this;simp only[Kj,m1,aL]at hi;subst hi;exact xR) (λj hj=>by
   have:=hv (j+3) (by simp only[cW];omega);rw[show v+3+j=v+(j+3) by omega];simpa using this) (λj hj=>by
   have:=hu (j+1) (by simp only[cW];omega);rw[show u+1+j=u+(j+1) by omega];simpa using this) (by omega) (by omega)
  simp only[dn,cW,eH]at q1 q2;refine⟨m2,λb hb=>by rw[q1 b (by omega)];exact iD hb,by unfold headD;omega,by unfold headD;exact q3,λi p hp=>?_,by unfold headD;exact rD,by unfold headD;exact mm⟩;unfold headD at hp;rcases db i p hp with⟨iQ,lO⟩|iQ
  ·simp only[dn,cW,eH]at iQ;rw[F7]at lO;split at lO
   ·rename_i dv;exact .inl ⟨dv,lO⟩
   ·rename_i dv;have hi:i=bl.length:=by omega
    subst hi;simp only[Kj,m1,aL]at lO;subst lO;refine .inr λh0=>?_;rw[q1 bl.length (by omega),jX];refine f6 ?_;rcases hQ cap 0 with h1|h1
    ·refine absurd ?_ h0;simp only[aP,aa.ck,v2];rw[if_pos h1]
    ·exact h1
  ·exact .inr iQ
 |_::_,[],_,_,_,_,_,_,_,_,_,_,h,_,_,_,_,_=>h.elim
 |_::_,_::_,[],_,_,_,_,_,_,_,_,_,h,_,_,_,_,_=>h.elim
 |_::_,_::_,_::_,[],_,_,_,_,_,_,_,_,h,_,_,_,_,_=>h.elim
 |_::_,_::_,_::_,[_],_,_,_,_,_,_,_,_,h,_,_,_,_,_=>h.elim
 |_::_,_::_,_::_,[_,_],_,_,_,_,_,_,_,_,h,_,_,_,_,_=>h.elim
 |[],_::_,_,_,_,_,_,_,_,_,_,_,h,_,_,_,_,_=>h.elim
 |[],[],_::_,_,_,_,_,_,_,_,_,_,h,_,_,_,_,_=>h.elim
 |[],[],[],_::_,_,_,_,_,_,_,_,_,h,_,_,_,_,_=>h.elim
theorem Vp {D:Nat->Prop} {li:cX} {n:Nat} {bV ag:Env} {m0 m':Nat->Nat} {tm bw kn uI:List V} {bl aJ dq mC:List ao} {l1 l2 v1 v2 lb la iy:List aa} {b1 b2 zy qK:List (Int×Int)} {n':Nat} {a:Act} {w:ai} {NA ND NN:Nat} {gs:List Nat} {os:List Int}
 (hlen:bl.length<=aJ.length)
 (ha:agree n bV ag) (hm:∀b,b<bl.length->m' b=m0 b) (ht:∀v∈tm,V.ok n bl.length bV v) (iZ:b6 n bl.length bV bl)
 (h:R w0 n' ag m' bw aJ a w) (e1:hs li.ev li.ints 0 (n+1) tm=some (kn,l1,b1)) (e2:hb li.cells 0 (n+1+l1.length) bl=some (dq,l2,b2))
 (e3:hs li.ev li.ints 0 (n+1) bw=some (uI,v1,zy)) (fo:hb li.cells 0 (n+1+v1.length) (aJ.take bl.length)=some (mC,v2,qK))
 (f1:kT kn uI=true) (f2:kS dq mC=true) (sj:zm a.tmps li.oJ (lb.map (·.den ag))) (Ah:wN w0 w a.tmps D (λg=>(∀(i:Nat) (p:ao),i<bl.length->aJ[i]?=some p->m' i=g->aP ag p.1=0)/\¬∃(i:Nat) (p:ao),aJ[i]?=some p/\m' i=g/\aP ag p.1=1) li.nO (la.map (·.den ag)))
 (tV:∀g,D g->b7 w0 ag m' aJ g) (ma:qF w0 ag m' aJ w D)
 (AE:o7 w0 w a.tmps D (λg=>∃(i:Nat) (p:ao),aJ[i]?=some p/\m' i=g/\aP ag p.1=1) li.iA gs os (iy.map (·.den ag)))
 (UR:NA=n+1+l1.length+l2.length+lb.length) (US:ND=n+1+l1.length+l2.length+(lb++la).length) (UT:NN=n+1+l1.length+l2.length+(lb++la++iy).length):
 bd (b1++b2++(Ha li.oJ++wZ li.nO++wa li.iA)) ((v1++v2++(lb++la++iy)).map (·.den ag))/\∃m2,(∀b,b<bl.length->m2 b=m0 b)/\bl.length<=(pk li.nO NA (headD li.iA ND NN (q4 li.oJ (n+1+l1.length+l2.length) kn) dq).1 (headD li.iA ND NN (q4 li.oJ (n+1+l1.length+l2.length) kn) dq).2).2.length/\
  R w0 (NN+li.iA.length) (bf (bf bV (n+1) ((v1++v2++(lb++la++iy)).map (·.den ag))) NN os) m2 (pk li.nO NA (headD li.iA ND NN (q4 li.oJ (n+1+l1.length+l2.length) kn) dq).1 (headD li.iA ND NN (q4 li.oJ (n+1+l1.length+l2.length) kn) dq).2).1 (pk li.nO NA (headD li.iA ND NN (q4 li.oJ (n+1+l1.length+l2.length) kn) dq).1 (headD li.iA ND NN (q4 li.oJ (n+1+l1.length+l2.length) kn) dq).2).2 a w:=by
 obtain⟨ah5,i1,i2,i3,i4,i5,i6⟩:=Vo (D:=D) (ext:=lb++la++iy) hlen ha hm ht iZ h e1 e2 e3 fo f1 f2 tV ma;obtain⟨ahy,awM⟩:=AE.len;subst UR;subst US;subst UT;have po:∀j,j<(lb++la++iy).length->bf bV (n+1) ((v1++v2++(lb++la++iy)).map (·.den ag)) (n+1+l1.length+l2.length+j)=((lb++la++iy).map (·.den ag)).getD j 0:=λj hj=>by
  rw[show n+1+l1.length+l2.length+j=n+1+(v1.length+v2.length+j) by omega,Cb _ _ _ _ (by simp at hj⊢;omega)];rw[fY (l₁:=v1++v2),oz,uW (by simp),oz]
  congr 2
  simp
 generalize Wn:bf bV (n+1) ((v1++v2++(lb++la++iy)).map (·.den ag))=bo at*;have pg:agree (n+1+l1.length+l2.length+(lb++la++iy).length) bo (bf bo (n+1+l1.length+l2.length+(lb++la++iy).length) os):=agree.bf os _ bo;have ail:=i2.later (Nat.le_add_right _ li.iA.length) pg;have NJ:∀j,j<(lb++la++iy).length->bf bo (n+1+l1.length+l2.length+(lb++la++iy).length) os (n+1+l1.length+l2.length+j)=((lb++la++iy).map (·.den ag)).getD j 0:=λj hj=>by
  rw[<-po j hj];exact(pg _ (by omega))
 have VE:∀(i:Nat) (p:ao),dq[i]?=some p->aP (bf bo (n+1+l1.length+l2.length+(lb++la++iy).length) os) p.1=aP bo p.1:=λi p hi=>mi (i2.b p (c0 hi)) pg;have aim:∀g,D g->b7 w0 (bf bo (n+1+l1.length+l2.length+(lb++la++iy).length) os) m0 dq g:=λg hg=>b7.dO i2.b pg (i5 g hg);have ain:qF w0 (bf bo (n+1+l1.length+l2.length+(lb++la++iy).length) os) m0 dq w D:=λi sh off code cap kind t hi=>(i6 i sh off code cap kind t hi).dO (i2.b _ (c0 hi) _ (by simp)) pg;generalize aik:bf bo (n+1+l1.length+l2.length+(lb++la++iy).length) os=eJ at*;have hB:=Vm (v:=n+1+l1.length+l2.length) ail sj (λj hj=>by
  simp only[j2]at hj;rw[NJ j (by simp;omega),gJ,fY,oz,rT (by simpa using hj),oz]) (by simp;omega)
 obtain⟨fT,p1,br,bT,dh,dD,eB⟩:=Vn (D:=D) (v:=n+1+l1.length+l2.length+(lb++la).length) (u:=n+1+l1.length+l2.length+(lb++la++iy).length) hB aim ain AE (λg hg i p hi he=>by
  obtain⟨g1,p',g2,g3⟩:=i4 i p hi;rw[VE i p hi,g3];obtain⟨j,q,q1,q2,q3⟩:=hg;rcases h.a7.inj i j p' q g2 q1 (by rw[q2,<-he,hm i g1])with a8|a8|a8|a8
  ·subst a8;rw[g2]at q1;cases q1;omega
  ·exact a8.1
  ·omega
  ·omega) (λj hj=>by
  simp only[j2]at hj;rw[show n+1+l1.length+l2.length+(lb++la).length+j=n+1+l1.length+l2.length+((lb++la).length+j) by omega,NJ _ (by simp at hj⊢;omega),fY (l₁:=lb++la),oz,uW (by simp),oz]
  congr 2
  simp) (λj hj=>by rw[<-aik,Cb _ _ _ _ hj]) (by simp only[j2,dn];omega) (by rw[ahy];exact aV _)
 obtain⟨m2,q1,q2,q3⟩:=Vl (v:=n+1+l1.length+l2.length+lb.length) bT dD eB Ah (λg hg i p hi he=>by
  rcases dh i p hi with⟨g0,g1⟩|g1
  ·obtain⟨kB,p',g2,g3⟩:=i4 i p g1;rw[VE i p g1,g3];exact hg.1 i p' kB g2 (by rw[hm i kB,<-p1 i g0];exact he)
  ·by_cases h0:aP eJ p.1=0
   ·exact h0
   ·have:=g1 h0;rw[he]at this;exact absurd this hg.2) (λj hj=>by
  simp only[j2]at hj;rw[show n+1+l1.length+l2.length+lb.length+j=n+1+l1.length+l2.length+(lb.length+j) by omega,NJ _ (by simp;omega),gJ,fY,oz,uW (by simp),fY,rT (by simp;omega),oz]
  congr 2
  simp) (by simp;omega)
 refine⟨?_,m2,λb hb=>by rw[q1 b (by rw[i3]at br;omega),p1 b (by rw[i3];exact hb)],by rw[i3]at br;omega,q3⟩;rw[fY,fY (l₁:=lb++la),fY (l₁:=lb)];exact rm i1 (rm (rm (Wy sj) (Ww Ah)) (WA AE))
theorem LR {a b c:Nat} (h:a=c) (h':b=c):b=a:=h'.trans h.symm
theorem IU {n:Nat} {ρ:Env} {m:Nat->Nat} {tm:List V} {a:Act} {w:ai}:∀{l:List (Nat×List ay)} {bl:List ao} (bw:List V),R w0 n ρ m tm bl a w->R w0 n ρ m tm (yp l bw bl) a w/\(yp l bw bl).length=bl.length
 |[],bl,bw,h=>⟨h,rfl⟩
 |(s,_)::r,bl,bw,h=>by
  unfold yp;split
  ·rename_i x _;obtain⟨h1,h2⟩:=Xl h x;obtain⟨h3,h4⟩:=IU (l:=r) bw h1;exact⟨h3,by rw[h4,h2]⟩
  ·exact IU (l:=r) bw h
theorem IM (x:Nat) (r:List Nat):lc (x::r)=2^x*(2*lc r+1):=rfl
theorem ajA (x:Nat) (r:List Nat):lc r<=lc (x::r):=by
 rw[IM];have h1:1<=2^x:=Nat.one_le_two_pow;have h2:2*lc r+1<=2^x*(2*lc r+1):=Nat.le_mul_of_pos_left _ h1;omega
theorem W8:∀(a:Nat) (l:List Nat),lc (l.drop a)<=lc l
 |0,l=>by simp
 |a+1,[]=>by simp
 |a+1,x::r=>by rw[List.drop_succ_cons];exact gk (W8 a r) (ajA x r)
theorem W9:∀(k:Nat) (l:List Nat),lc (l.take k)<=lc l
 |0,l=>by simp[lc]
 |k+1,[]=>by simp
 |k+1,x::r=>by
  rw[List.take_succ_cons,IM,IM];exact Nat.mul_le_mul_left _ (by have:=W9 k r;omega)
theorem PQ (l:List (List Int)) (a k:Nat):rc ((l.drop a).take k)<=rc l:=by
 unfold rc;rw[y6,y7]
 exact_mod_cast gk (W9 k _) (W8 a _)
theorem ave (n:Nat):tq (wz n)=n:=by
 unfold tq wz;by_cases h:n% 2=0
 ·rw[if_pos h,if_pos (by omega)];omega
 ·rw[if_neg h,if_neg (by omega)];omega
theorem ZB:∀(f n:Nat),0<n->n<=f->n=2^nE f n*(2*(n/2^nE f n/2)+1)
 |0,n,h,h'=>by omega
 |f+1,n,h,h'=>by
  unfold nE;by_cases hn:n% 2=0
  ·rw[if_pos hn];have ih:=ZB f (n/2) (by omega) (by omega);have e:n/2^(nE f (n/2)+1)=n/2/2^nE f (n/2):=by rw[y3,y4,Nat.div_div_eq_div_mul]
   rw[e,y3,y4 (2^_) 2,Nat.mul_assoc,<-ih];omega
  ·rw[if_neg hn];simp;omega
theorem O0:∀(f n:Nat),n<=f->lc (uv f n)=n
 |0,n,h=>by
  have:n=0:=by omega
  subst this;rfl
 |f+1,n,h=>by
  unfold uv;by_cases hn:n=0
  ·rw[if_pos hn,hn];rfl
  ·rw[if_neg hn,IM];have hp:0<2^nE n n:=Nat.two_pow_pos _;have hd:n/2^nE n n/2<=f:=by
    have h1:n/2^nE n n<=n:=Nat.div_le_self _ _;omega
   rw[O0 f _ hd];exact(ZB n n (by omega) (aV _)).symm
theorem PO {z:Int} (h:0<=z):rc (ab z)=z:=by
 unfold rc ab;rw[kN];have e:((λrow:List Int=>lc (row.map tq))∘λn=>(uv n n).map wz)=id:=by
  funext n
  simp only[Kg,kN,id];have:(tq∘wz)=id:=by funext k;exact ave k
  rw[this,F5,O0 n n (aV _)]
 rw[e,F5,O0 _ _ (aV _)];omega
theorem BM {a:Act} {w:ai}:∀{l:List (Nat×List ay)} {n:Nat} {ρ:Env} {m:Nat->Nat} {tm:List V} {bl:List ao} {k:Nat->List V->List ao->T} {G:dc},R w0 n ρ m tm bl a w->(we l n tm bl k).holds S L G ρ->
 ∃n' ag m' bw aJ,cR n bl.length ρ m n' (kt aJ) ag m'/\R w0 n' ag m' bw aJ a w/\(k n' bw aJ).holds S L G ag
 |[],n,ρ,m,tm,bl,k,G,h,ah=>⟨n,ρ,m,tm,bl,cR.refl _ _ _ _,h,ah⟩
 |(s,sh)::r,n,ρ,m,tm,bl,k,G,h,ah=>by
  unfold we at ah;split at ah
  ·rename_i b aM o ro len cap hs;split at ah
   ·rename_i cH off code cM kind t hbl;cases hc:(h9 sh cH&&aH kind 1&&aa.beq o off&&aH aM sh.length&& !(aa.beq ro (.const 0)&&aa.beq cap cM))with
    |false=>rw[hc]at ah;exact BM (l:=r) h ah
    |true=>
     rw[hc]at ah;simp only[cond_true,T.holds]at ah;obtain⟨hk,p6,ah⟩:=ah;simp only[aO]at hc;obtain⟨⟨⟨⟨c1,c2⟩,c3⟩,c4⟩,_⟩:=hc;have c1:=oW c1;have c2:=bx c2;have c3:=aa.beq_eq c3;have c4:=bx c4
     subst c1;subst c2;subst c3;subst c4;obtain⟨aX,y,h2,h3⟩:=h.t.2 s _ hs;have x9:(A.sl b sh.length o ro len cap).ok n bl.length ρ:=aX;have h3:y=(A.sl b sh.length o ro len cap).den ρ m:=h3;obtain⟨x1,⟨x2,x3,eP,iE⟩,⟨iS,ot,lk,nH⟩,⟨oo,oq⟩,fB,gT⟩:=x9;simp only[cp,er,af,aa.den_add]at hk p6;have e4:(A.rows sh o code cM 1).ok n bl.length ρ:=h.b _ (c0 hbl) _ (by simp);have hf:aw 22 ([code,ro,ro.add len].map (·.den ρ))=rc (((ab (code.den ρ)).drop (ro.den ρ).toNat).take (len.den ρ).toNat):=by
      simp only[cp,er,aw,aa.den_add]
      congr 2;omega
     have dS:rc (((ab (code.den ρ)).drop (ro.den ρ).toNat).take (len.den ρ).toNat)<=cc:=by
      have h1:=PQ (ab (code.den ρ)) (ro.den ρ).toNat (len.den ρ).toNat;rw[PO e4.2.1.1]at h1;exact pJ h1 e4.2.1.2
     obtain⟨z,hz⟩:∃z,z=rc (((ab (code.den ρ)).drop (ro.den ρ).toNat).take (len.den ρ).toNat):=⟨_,rfl⟩;have ah:=ah z (by rw[hz];exact fa _) (by rw[hz];exact dS) (by rw[hf];exact hz);have ha:agree n ρ (cU ρ n z):=agree.cU _ _ _;have e0:cU ρ n z n=z:=jD ..;generalize mO:cU ρ n z=aD at ah ha e0;have h1:=h.later (ku n) ha;have d1:o.den aD=o.den ρ:=aa.bG ha x2;have d2:ro.den aD=ro.den ρ:=aa.bG ha x3;have d3:len.den aD=len.den ρ:=aa.bG ha eP;have d4:cap.den aD=cap.den ρ:=aa.bG ha iE;have d5:(o.add (ro.smul sh.length)).den aD=o.den ρ+sh.length*ro.den ρ:=by rw[aa.den_add,aa.j9,d1,d2]
     have gP:0<=(sh.length:Int)*ro.den ρ:=Int.mul_nonneg (by omega) (by omega);have Im:aa.aY (n+1) (o.add (ro.smul sh.length)):=aa.rH (aa.aY.mono x2 (ku n)) (aa.sW (aa.aY.mono x3 (ku n)));have hA:(A.rows sh (o.add (ro.smul sh.length)) (.var n) cap 1).ok (n+1) bl.length aD:=⟨⟨Im,aa.eo (rU n),aa.aY.mono iE (ku n)⟩,by rw[aa.ck,e0,hz];exact⟨fa _,dS⟩,by rw[d4];exact⟨oo,by omega⟩⟩;have xR:aP aD [A.rows sh (o.add (ro.smul sh.length)) (.var n) cap 1]<=1:=by
      simp only[aP];split<;>omega
     have hlen:(((ab (code.den ρ)).drop (ro.den ρ).toNat).take (len.den ρ).toNat).length=(len.den ρ).toNat:=by simp;omega
     have hM:=h1.a7.push (x:=([.rows sh (o.add (ro.smul sh.length)) (.var n) cap 1],(0,false))) (g:=m b) h1.b (λy hy=>by simp at hy;subst hy;exact hA) (λho=>by cases ho) (λJP I9 fh CV sF he=>by
      cases he;intro _;rw[aa.ck,e0,hz,du,d4,d5];refine⟨λh0=>?_,λh0=>?_⟩
      ·have:=fB h0;rw[this];simp
      ·have nk:=p6 h0;obtain⟨q0,cells,gS,fz,q1,⟨q2,q3⟩,_⟩:=(h1.a7.rws b sh o code cM 1 t hbl (by decide)).2 (by rw[aa.bG ha e4.1.2.2];exact nk);rw[d1,aa.bG ha e4.1.2.1]at q3;refine⟨q0,cells,gS,fz,q1,⟨by omega,?_⟩,λa8=>by omega⟩;have db:=q3.sub (ro.den ρ).toNat (len.den ρ).toNat (by omega);have e:(o.den ρ+(sh.length:Int)*ro.den ρ).toNat=(o.den ρ).toNat+(ro.den ρ).toNat*sh.length:=by
        obtain⟨u,hu⟩:=td (show 0<=ro.den ρ by omega);obtain⟨v,hv⟩:=td iS;rw[hu,hv,eW,eW,y4];show((v:Int)+(sh.length:Int)*(u:Int)).toNat=_;rw[<-aun,<-auo,eW]
       rw[e];exact db.mono (Fr.of w λbb ec=>ec.push (.inl xR))) (λi p hi he=>by
      rcases hQ (cap.den aD) 0 with h0|h0
      ·refine .inr (.inr ?_);simp only[aP];rw[if_pos h0]
      ·refine .inl ⟨?_,xR⟩;have nk:0<=cM.den aD:=by rw[aa.bG ha e4.1.2.2];exact p6 (by rw[<-d4];exact h0)
       have nZ:aP aD [A.rows sh o code cM 1]=1:=ix (by decide) nk;rcases h1.a7.inj i b p _ hi hbl he with g|g|g|g
       ·subst g;rw[hbl]at hi;cases hi;exact Nat.le_of_eq nZ
       ·exact g.1
       ·omega
       ·simp only at g;omega) (h1.a7.JI xR)
     have bW:cR n bl.length ρ m (n+1) (bl++[([A.rows sh (o.add (ro.smul sh.length)) (.var n) cap 1],((0:aQ),false))]).length aD (fc m bl.length (m b)):=⟨ku n,ha,by simp,λb hb=>iD hb⟩;have hR:R w0 (n+1) aD (fc m bl.length (m b)) (oh tm s (.w (.one (.sl bl.length sh.length (o.add (ro.smul sh.length)) (.const 0) len cap)))) (bl++[([.rows sh (o.add (ro.smul sh.length)) (.var n) cap 1],(0,false))]) a w:=by
      refine⟨dp.set (h.t.ext bW.ha bW.hn bW.hb bW.hm) ?_ λx hx=>?_,h.d,h1.b.alloc (λy hy=>by simp at hy;subst hy;exact hA),hM⟩
      ·refine⟨by simp,⟨Im,aa.cC _ _,aa.aY.mono eP (ku n),aa.aY.mono iE (ku n)⟩,?_⟩;rw[d5,d3,d4,aa.aR];exact⟨⟨by omega,bB _,lk,nH⟩,⟨oo,by omega⟩,fB,gT⟩
      ·have EG:y=x:=gH (h2.symm.trans hx);subst EG;rw[h3];simp only[V.rel,W.den,A.den,jX];rw[d3,d4,d5,aa.aR];split
       ·rfl
       ·have e:(o.den ρ+(sh.length:Int)*ro.den ρ).toNat=(o.den ρ).toNat+(ro.den ρ).toNat*sh.length:=by
         obtain⟨u,hu⟩:=td (show 0<=ro.den ρ by omega);obtain⟨v,hv⟩:=td iS;rw[hu,hv,eW,eW,y4];show((v:Int)+(sh.length:Int)*(u:Int)).toNat=_;rw[<-aun,<-auo,eW]
        rw[e];simp
     obtain⟨n',ag,m',bw,aJ,g1,g2,g3⟩:=BM (l:=r) hR ah;exact⟨n',ag,m',bw,aJ,bW.trans g1,g2,g3⟩
   ·exact BM (l:=r) h ah
  ·exact BM (l:=r) h ah
theorem aku {li:cX} {c:Code} {e:Nat->List V->List ao->m8->T} (hd:rd=none∨kj c=true) (he:Gx rd S L w0 P c e) {Q:Exit->Act->ai->Prop} {n:Nat} {ρ:Env} {m:Nat->Nat} {tm:List V} {bl:List ao} {a:Act} {w:ai} {G:dc} {k:m8}
 (h:R w0 n ρ m tm bl a w) (ah:(Pb li e n tm bl k).holds S L G ρ) (hk:wS S L w0 k n bl.length ρ m G Q):(Code.loop c).wpIn (oE rd) 0 P Q a w:=by
 unfold Pb at ah;obtain⟨bV,n0,tm,nX,ha0,ri,ah⟩:=Dh (S:=S) (L:=L) h.t G _ ah;have Dt:=h.later nX ha0;have h:R w0 n0 bV m tm bl a w:=⟨ri,Dt.d,Dt.b,Dt.a7⟩;have hk:=hk.later (⟨nX,ha0,aV _,λ_ _=>rfl⟩:cR n bl.length ρ m n0 bl.length bV m) (dG.refl _ G);obtain⟨aD,n1,lb,fi,dL,⟨s1,s2,eO⟩,ah⟩:=LS (S:=S) (L:=L) h.t G _ ah;have h1:=h.later fi dL;have hk:=hk.later (⟨fi,dL,aV _,λ_ _=>rfl⟩:cR n0 bl.length bV m n1 bl.length aD m) (dG.refl _ G);split at ah
 rotate_left
 ·exact ah.elim
 rename_i kn l1 b1 la us iy e1 T4 ady;obtain⟨a1,a2,_,_,a5⟩:=GP h1 T4;obtain⟨k1,k2,k3⟩:=OS (us:=us) h1;obtain⟨r1,r2,gs,os,r3⟩:=Fk h1 ady;cases e2:hb li.cells 0 (n1+1+l1.length) (k7 us bl)with
 |none=>rw[e2]at ah;exact ah.elim
 |some q2=>
  obtain⟨dq,l2,b2⟩:=q2;rw[e2]at ah;simp only at ah;cases hf:(kT kn kn&&kS dq dq)with
  |false=>rw[hf]at ah;exact ah.elim
  |true=>
   rw[hf]at ah;simp only[F8,cond_false,T.holds]at ah;simp only[aO]at hf;obtain⟨I,j3,M3,hB⟩:=ah;have Iq:∀v∈tm,V.ok n1 (k7 us bl).length aD v:=λv hv=>by
    obtain⟨i,hi⟩:=List.getElem?_of_mem hv;exact(k1.t.2 i v hi).1
   have Mp:hb li.cells 0 (n1+1+l1.length) ((k7 us bl).take (k7 us bl).length)=some (dq,l2,b2):=by rw[Rm];exact e2
   have agb:wN w0 w a.tmps (b7 w0 aD m bl) (λg=>(∀(i:Nat) (p:ao),i<(k7 us bl).length->(k7 us bl)[i]?=some p->m i=g->aP aD p.1=0)/\¬∃(i:Nat) (p:ao),(k7 us bl)[i]?=some p/\m i=g/\aP aD p.1=1) li.nO (la.map (·.den aD)):=by
    refine a5 _ λb p hb _ hbl iu jv=>?_;have key:∀(i:Nat) (q:ao),(k7 us bl)[i]?=some q->m i=m b->aP aD q.1=0:=λi q hi he=>by
     rcases k3 i q hi with⟨g1,g2⟩|g1
     ·by_cases gO:i=b
      ·subst gO;rw[hbl]at g1;cases g1;rcases g2 hb with g2|g2
       ·rw[jv]at g2;cases g2
       ·exact g2
      ·rcases h1.a7.inj i b q p g1 hbl he with g3|g3|g3|g3
       ·exact absurd g3 gO
       ·omega
       ·exact g3
       ·omega
     ·exact g1
    exact⟨λi q _ hi he=>key i q hi he,λ⟨i,q,hi,he,hk⟩=>by have:=key i q hi he;omega⟩
   have AE:o7 w0 w a.tmps (b7 w0 aD m bl) (λg=>∃(i:Nat) (p:ao),(k7 us bl)[i]?=some p/\m i=g/\aP aD p.1=1) li.iA gs os (iy.map (·.den aD)):=by
    refine r3.mono λg ⟨i,p,hi,he,hk⟩=>⟨i,p,OR hi λhu=>?_,he,hk⟩;rcases Lz T4 i hu with a8|⟨sh,off,code,cap,t,a8⟩
    ·simp at a8
    ·rw[hi]at a8;cases a8;simp only[aP]at hk;split at hk<;>omega
   obtain⟨i1,m2,i2,i3,i4⟩:=Vp (aV _) (agree.refl n1 aD) (λ_ _=>rfl) Iq k1.b k1 e1 e2 e1 Mp hf.1 hf.2 eO agb (λg hg=>⟨hg.1,λi p hi hk=>by
    rcases k3 i p hi with⟨g1,_⟩|g1
    ·exact hg.2 i p g1 hk
    ·omega⟩) (λi sh off code cap kind t hi=>by
    rcases k3 i _ hi with⟨g1,_⟩|g1
    ·exact h1.a7.rws i sh off code cap kind t g1
    ·intro fx;refine⟨(k1.a7.rws i sh off code cap kind t hi fx).1,λhc=>?_⟩;simp only[ix fx hc]at g1;exact absurd g1 fx) AE rfl rfl rfl
   generalize UT:n1+1+l1.length+l2.length+(lb++la++iy).length=NN at*;generalize US:n1+1+l1.length+l2.length+(lb++la).length=ND at*;generalize UR:n1+1+l1.length+l2.length+lb.length=NA at*;generalize agD:headD li.iA ND NN (q4 li.oJ (n1+1+l1.length+l2.length) kn) dq=d at*;refine wpIn_loop_ghost (λN a' w'=>∃zs os m2,bd (b1++b2++(Ha li.oJ++wZ li.nO++wa li.iA)) zs/\I zs/\j3 zs=N/\(os.length=li.iA.length/\∀z∈os,0<=z)/\(∀b,b<(k7 us bl).length->m2 b=m b)/\
    R w0 (NN+li.iA.length) (bf (bf aD (n1+1) zs) NN os) m2 (pk li.nO NA d.1 d.2).1 (pk li.nO NA d.1 d.2).2 a' w') (j3 ((l1++l2++(lb++la++iy)).map (·.den aD))) ⟨_,os,m2,i1,M3,rfl,AE.len,i2,i4⟩ ?_
   rintro N a1 w1 ⟨zs,Pv,m2,hz1,hz2,rfl,⟨mc,lK⟩,Iv,ed⟩
   have ua:=natsM_holds (kx hB hz1 hz2) mc lK;refine he hd _ _ _ _ _ _ _ a1 w1 _ ed ua λx n' ag m' bw aJ de a' w' h1 h2 h3 h4=>?_;have Ai:agree n1 aD (bf aD (n1+1) zs):=(agree.bf _ (n1+1) aD).mono (by omega);have agd:agree n1 aD (bf (bf aD (n1+1) zs) NN Pv):=Ai.trans (agree.bf Pv NN _) (by omega);have M5:cR n1 bl.length aD m (NN+li.iA.length) (pk li.nO NA d.1 d.2).2.length (bf (bf aD (n1+1) zs) NN Pv) m2:=⟨by omega,agd,by rw[k2]at i3;exact i3,λb hb=>Iv b (by rw[k2];exact hb)⟩;have vz:dG n1 G (G.set n1 λvs=>I vs/\j3 vs<j3 zs):=λl hl=>by
    unfold dc.set;cases hb:aH l n1 with
    |true=>have:=bx hb;omega
    |false=>rfl
   have bW:=M5.trans h1;have M1:de n1=λvs=>I vs/\j3 vs<j3 zs:=by
    rw[h2 n1 (by omega)];unfold dc.set;have:aH n1 n1=true:=Cm n1;rw[this];rfl
   cases x with
   |exit id=>exact hk (.exit id) n' ag m' bw aJ de a' w' bW (vz.trans h2 (by omega)) h3 h4
   |ret=>exact hk .ret n' ag m' bw aJ de a' w' bW (vz.trans h2 (by omega)) h3 h4
   |normal=>
    simp only at h4;obtain⟨pq,Eb⟩:=IU (l:=li.iA) bw h3;rw[<-Eb]at bW;obtain⟨n',ag,m',bw,aJ,ae6,h3,h4⟩:=BM pq h4;have bW:=bW.trans ae6;obtain⟨RG,qi,bw,VO,U5,ahX,h4⟩:=Dh (S:=S) (L:=L) h3.t de _ h4;have xu:=h3.later VO U5;have h3:R w0 qi RG m' bw aJ a' w':=⟨ahX,xu.d,xu.b,xu.a7⟩;have bW:=bW.trans (⟨VO,U5,aV _,λ_ _=>rfl⟩:cR n' aJ.length ag m' qi aJ.length RG m');obtain⟨pM,Bw,W7,dY,c7,⟨t1,t2,t3⟩,h4⟩:=LS (S:=S) (L:=L) h3.t de _ h4;have h3:=h3.later dY c7;split at h4
    rotate_left
    ·exact h4.elim
    rename_i uI v1 zy OX jE Xm e3 adx adz;obtain⟨c1,c2,_,c4,c5⟩:=GP h3 adx;obtain⟨d1,d2,awm,E6,d3⟩:=Fk h3 adz;cases fo:hb li.cells 0 (n1+1+v1.length) (aJ.take bl.length)with
    |none=>rw[fo]at h4;exact h4.elim
    |some db=>
     obtain⟨mC,v2,qK⟩:=db;rw[fo]at h4;simp only at h4;cases kc:(kT kn uI&&kS dq mC)with
     |false=>rw[kc]at h4;exact h4.elim
     |true=>
      rw[kc]at h4;simp only[cond_true,T.holds,M1]at h4;simp only[aO]at kc;have xy:=bW.trans (⟨dY,c7,aV _,λ_ _=>rfl⟩:cR qi aJ.length RG m' Bw aJ.length pM m');have agc:wN w0 w' a'.tmps (b7 w0 pM m' aJ) (λg=>(∀(i:Nat) (p:ao),i<(k7 us bl).length->aJ[i]?=some p->m' i=g->aP pM p.1=0)/\¬∃(i:Nat) (p:ao),aJ[i]?=some p/\m' i=g/\aP pM p.1=1) li.nO (OX.map (·.den pM)):=by
       refine c5 _ λb p hb _ hbl iu jv=>⟨λi q dv hi he=>?_,λ⟨i,q,hi,he,hk⟩=>?_⟩
       ·have Nt:bl.length<=b:=by
         rcases c4 b hb with h|h
         ·simp at h
         ·exact h
        rw[k2]at dv;rcases h3.a7.inj i b q p hi hbl he with g3|g3|g3|g3
        ·omega
        ·omega
        ·exact g3
        ·omega
       ·rcases h3.a7.inj i b q p hi hbl he with g3|g3|g3|g3
        ·subst g3;rw[hi]at hbl;cases hbl;omega
        ·omega
        ·omega
        ·omega
      obtain⟨da,m3,kH,mg,nv⟩:=Vp (NA:=NA) (ND:=ND) (NN:=NN) (by rw[k2];exact xy.hb) xy.ha (λb hb=>xy.hm b (by rw[k2]at hb;exact hb)) Iq k1.b h3 e1 e2 e3 (by rw[k2];exact fo) kc.1 kc.2 t3 agc (λg hg=>hg) h3.a7.rws d3 (by have:=t2;have:=LR s2 t2;omega) (by have:=LR s2 t2;simp only[dn]at*;omega) (by have:=LR s2 t2;simp only[dn]at*;omega);rw[agD]at nv;exact⟨_,h4.2,_,E6,m3,da,h4.1,rfl,d3.len,kH,nv⟩
theorem akt {li:cX} {c:Code} {e:Nat->List V->List ao->m8->T} (hd:rd=none∨kj c=true) (he:Gx rd S L w0 P c e) {Q:Exit->Act->ai->Prop} {n:Nat} {ρ:Env} {m:Nat->Nat} {tm:List V} {bl:List ao} {a:Act} {w:ai} {G:dc} {k:m8}
 (h:R w0 n ρ m tm bl a w) (ah:(Pa li e n tm bl k).holds S L G ρ) (hk:wS S L w0 k n bl.length ρ m G Q):(Code.loop c).wpIn (oE rd) 0 P Q a w:=by
 unfold Pa at ah;obtain⟨h1,h2⟩:=IU (l:=li.iA) tm h;rw[<-h2]at hk;obtain⟨n',ag,m',bw,aJ,bW,h3,ah⟩:=BM h1 ah;exact aku hd he h3 ah (hk.later bW (dG.refl _ G))
theorem toL {ops:Array Oper}:ops.toList.toArray=ops:=lU
theorem zW (N:Nat):∀(i:Nat) (bl:List ao),(cQ N i bl).length=bl.length
 |_,[]=>rfl
 |i,_::r=>by simp[cQ,zW N (i+1) r]
theorem qR (N:Nat):∀(i:Nat) (bl:List ao) (k:Nat) (p:ao),(cQ N i bl)[k]?=some p->p=dI∨(i+k<N/\(bO p.1||qe p.1)=true/\bl[k]?=some p)
 |_,[],k,p,h=>by simp[cQ]at h
 |i,q::r,0,p,h=>by
  simp only[cQ,m1,aL]at h;cases hc:(bY i N&&(bO q.1||qe q.1))with
  |false=>rw[hc]at h;exact .inl h.symm
  |true=>
   rw[hc]at h;simp only[cond_true]at h;subst h;simp only[aO]at hc;exact .inr ⟨by simpa using tE hc.1,hc.2,rfl⟩
 |i,q::r,k+1,p,h=>by
  rcases qR N (i+1) r k p (by simpa [cQ]using h)with h1|⟨h1,h2,h3⟩
  ·exact .inl h1
  ·exact .inr ⟨by omega,h2,by simpa using h3⟩
theorem Pz:∀{a b:List ao},preB a b=true->∀(k:Nat) (p:ao),a[k]?=some p->b[k]?=some p
 |[],_,_,_,_,h=>by simp at h
 |(c,t)::r,(c',t')::s,hf,k,p,h=>by
  simp only[preB,aO]at hf;obtain⟨⟨⟨h1,h2⟩,h3⟩,h4⟩:=hf;cases k with
  |zero=>
   have e1:=zA h1;have e2:=bx h2;have e3:t.2=t'.2:=by simpa using h3
   have:t=t':=Prod.ext e2 e3;subst e1;subst this;simpa using h
  |succ k=>have:=Pz h4 k p (by simpa using h);simpa using this
 |_::_,[],h,_,_,_=>by simp[preB]at h
theorem aiO {c:List A} (h:qe c=true):∃sh off code cap,c=[.rows sh off code cap 1]:=by
 unfold qe at h;split at h
 ·rename_i sh off code cap k;have:=bx h;subst this;exact⟨sh,off,code,cap,rfl⟩
 ·cases h
def JF (ρ bo:Env) (c:List A):Prop:=∀sh off code cap k,c=[.rows sh off code cap k]->off.den bo=off.den ρ/\code.den bo=code.den ρ/\cap.den bo=cap.den ρ
theorem OT {ρ bo:Env} {c:List A} (h:(bO c||qe c)=true) (hr:JF ρ bo c):aP bo c=aP ρ c:=by
 rcases ow _ _▸h with h|h
 ·rw[hh h,hh h]
 ·obtain⟨sh,off,code,cap,rfl⟩:=aiO h;simp only[aP,(hr sh off code cap 1 rfl).2.2]
theorem Mem.sub {ρ bo:Env} {m m2:Nat->Nat} {bl gB:List ao} {w:ai} (h:Mem w0 ρ m bl w) (hs:∀(i:Nat) (p:ao),gB[i]?=some p->p=dI∨(bl[i]?=some p/\(bO p.1||qe p.1)=true/\m2 i=m i/\p.1.map (A.den bo m2)=p.1.map (A.den ρ m)/\JF ρ bo p.1)):Mem w0 bo m2 gB w:=by
 have fx:aP bo dI.1=0:=by simp[dI,aP]
 refine⟨h.ext,h.jb,h.je,h.iw,h.eu,h.gg,λi cs t hi ho=>?_,λi sh off code cap kind t hi=>?_,λi j p q hi hj he=>?_⟩
 ·rcases hs i _ hi with h1|⟨h1,_,h3,h4,_⟩
  ·cases h1;simp[bO]at ho
  ·rw[h3,h4];exact h.blk i cs t h1 ho
 ·rcases hs i _ hi with h1|⟨h1,h2,h3,_,h5⟩
  ·cases h1;intro hk;exact absurd rfl hk
  ·obtain⟨e1,e2,e3⟩:=h5 sh off code cap kind rfl;have:=(h.rws i sh off code cap kind t h1).mono (F':=b7 w0 bo m2 gB) (b7.mono λj p hj hk=>by
    rcases hs j p hj with g1|⟨g1,g2,g3,_,g5⟩
    ·subst g1;rw[fx]at hk;omega
    ·exact⟨j,p,g1,by rw[<-OT g2 g5];exact hk,g3.symm⟩)
   unfold gL at this⊢;rw[e1,e2,e3,h3];exact this
 ·rcases hs i _ hi with h1|⟨h1,h2,h3,_,h5⟩
  ·subst h1;exact .inr (.inr (.inl fx))
  ·rcases hs j _ hj with g1|⟨g1,g2,g3,_,g5⟩
   ·subst g1;exact .inr (.inr (.inr fx))
   ·rw[OT h2 h5,OT g2 g5];exact h.inj i j p q h1 g1 (by rw[<-h3,<-g3];exact he)
theorem b6.cQ {n nb:Nat} {ρ:Env} {bl:List ao} (h:b6 n nb ρ bl) (N:Nat):b6 n nb ρ (Go.ba.cQ N 0 bl):=λp hp=>by
 obtain⟨i,hi⟩:=List.mem_iff_getElem?.1 hp;rcases qR N 0 bl i p hi with h1|⟨_,_,h3⟩
 ·subst h1;intro a ha;simp only[dI,List.mem_singleton]at ha;subst ha;exact⟨⟨aa.cC _ _,aa.cC _ _,aa.cC _ _⟩,⟨by simp[aa.aR],by rw[aa.aR];exact pJ (fa []) (oF (by simp) (λ_ h=>by cases h))⟩,by simp[aa.aR]⟩
 ·exact h p (c0 h3)
theorem JG {n nb:Nat} {ρ ag:Env} {c:List A} (aX:∀a∈c,A.ok n nb ρ a) (ha:agree n ρ ag) (back:Bool):cond back (JF ag ρ c) (JF ρ ag c):=by
 have key:∀sh off code cap k,c=[.rows sh off code cap k]->off.den ag=off.den ρ/\code.den ag=code.den ρ/\cap.den ag=cap.den ρ:=λsh off code cap k hc=>by
  have:=aX _ (by rw[hc];exact List.mem_singleton.2 rfl);obtain⟨⟨h1,h2,h3⟩,_⟩:=this;exact⟨aa.bG ha h1,aa.bG ha h2,aa.bG ha h3⟩
 cases back with
 |true=>exactλsh off code cap k hc=>by obtain⟨h1,h2,h3⟩:=key sh off code cap k hc;exact⟨h1.symm,h2.symm,h3.symm⟩
 |false=>exact key
theorem Vs {N:Nat} {tm:List V} {bl:List ao} {o:Oper} {a:Act} {w:ai} {v:az} (ho:DX N tm bl o=true) (h:zq P o a w v):(execOp a.eval o).run P w= .ok (.value v) w:=by
 rcases h with h|⟨f,args,h,_⟩
 ·exact h
 ·exfalso;have key:∀s:Sem az,(do pure (kO (<-s)):Sem Next).run P w= .ok (.enter f args) w->False:=λs hs=>by
   simp only[gm]at hs;cases hx:s.run P w with
   |ok u w'=>rw[hx]at hs;simp at hs
   |halt x w'=>rw[hx]at hs;simp at hs
  unfold DX at ho;split at ho
  ·rename_i op t x y u hop;exact key (eqGuard op t x y (a.eval x) (a.eval y) >>= λ_=>binOp op t (a.eval x) (a.eval y)) (by simpa [execOp,hop]using h)
  ·rename_i t x i hop;exact key (Instr.indexAt t (a.eval x) (a.eval i)) (by simpa [execOp,hop]using h)
  ·rename_i t x lo hi fy hop;exact key (nK t (a.eval x) (lo.map a.eval) (hi.map a.eval) (fy.map a.eval)) (by simpa [execOp,hop]using h)
  ·rename_i t p hop;exact key (oA t (a.eval p)) (by simpa [execOp,hop]using h)
  ·cases ho
theorem NF {ops:Array Oper} {N:Nat} {tm:List V} {bl:List ao} {o:Oper} {a:Act} {w:ai} {v:az} (ho:xF N tm bl o=true) (h:zq P o a w v):(execOp a.eval o).run P w= .ok (.value v) w:=by
 rcases h with h|⟨f,args,h,_⟩
 ·exact h
 ·exfalso;have key:∀s:Sem az,(do pure (kO (<-s)):Sem Next).run P w= .ok (.enter f args) w->False:=λs hs=>by
   simp only[gm]at hs;cases hx:s.run P w with
   |ok u w'=>rw[hx]at hs;simp at hs
   |halt x w'=>rw[hx]at hs;simp at hs
  unfold xF at ho;split at ho
  ·rename_i x hop;simp[execOp,hop]at h
  ·rename_i x hop;simp[execOp,hop]at h
  ·rename_i x i hop;exact key (Rn (a.eval x) i) (by simpa [execOp,hop]using h)
  ·rename_i s x i hop;exact key (Cp s (a.eval x) i) (by simpa [execOp,hop]using h)
  ·rename_i t p hop;exact key (oA t (a.eval p)) (by simpa [execOp,hop]using h)
  ·rename_i t x lo hi fy hop;exact key (nK t (a.eval x) (lo.map a.eval) (hi.map a.eval) (fy.map a.eval)) (by simpa [execOp,hop]using h)
  ·cases ho
section
variable {P:bj} {ops:Array Oper} {Q:Exit->Act->ai->Prop} {S0:ai->Prop}
def pG (P:bj) (ops:Array Oper) (Q:Exit->Act->ai->Prop) (S0:ai->Prop):Nat->Array Bool->Act->ai->Prop
 |0,listed,a,w=>kP .any ops listed=[]/\Q .normal a w
 |fuel+1,listed,a,w=>(kP .any ops listed=[]->Q .normal a w)/\
  ∀i∈kP .any ops listed,wpOp P ops Q i (λa' w'=>(kk ops (listed.setIfInBounds i true)=true->S0 w')/\pG P ops Q S0 fuel (listed.setIfInBounds i true) a' w') a w
theorem ZQ:∀(fuel:Nat) (listed:Array Bool) (a:Act) (w:ai),pG P ops Q S0 fuel listed a w->wpAny P .any ops Q fuel listed a w
 |0,_,_,_,h=>h
 |fuel+1,_,_,_,h=>⟨h.1,λi hi=>wpOp_mono (λa' w' h'=>ZQ fuel _ a' w' h'.2) (h.2 i hi)⟩
theorem I7 {L:Array Bool} {j:Nat} (hj:∀o,ops[j]?=some o->nu o=false):kk ops (L.setIfInBounds j true)=kk ops L:=by
 have hs:JS ops j=false:=by
  unfold JS;cases ho:ops[j]? with
  |none=>rfl
  |some o=>exact hj o ho
 unfold kk;rw[Bool.eq_iff_iff,pI,pI];refine forall_congr' λk=>imp_congr_right λ_=>?_;by_cases hk:j=k
 ·subst hk;rw[hs];simp
 ·rw[getD_set_ne true hk]
theorem I6 {L:Array Bool} {j:Nat} (h:kk ops (L.setIfInBounds j true)=true):kk ops L=true:=by
 unfold kk at h⊢;rw[pI]at h⊢;intro k hk;have:=h k hk;by_cases q7:j=k
 ·subst q7;cases hb:JS ops j with
  |false=>rfl
  |true=>
   rw[hb]at this;rcases mx j L.size with h'|h'
   ·simp[h']at this
   ·simp[uV h']at this
 ·rw[getD_set_ne true q7]at this;exact this
theorem atV {i:Nat} {dU:Oper} {v:az} (hi:ops[i]?=some dU) (Es:∀(j:Nat) (o:Oper) cs b,ops[j]?=some o->o.op≠ .select cs b)
 (kW:∀c a w,Q (.panic c) (a.put dU.dst v) w->Q (.panic c) a w) (hst:nu dU=false) (hw:∀(k:Nat) (o:Oper),ops[k]?=some o->nu o=true->∃e∈o.after,qy .any e=true/\e.on=i):
 ∀(fuel:Nat) (listed:Array Bool) (a:Act) (w:ai),
  (∀j cF,ops[j]?=some cF->j≠i->listed.getD j true=false->(∀e∈cF.after,qy .any e=true->e.on≠i)->dU.apart ops cF=true)->
  i∈kP .any ops listed->kk ops listed=true->YieldsIf P ops S0 dU v a->S0 w->
  pG P ops Q S0 fuel (listed.setIfInBounds i true) (a.put dU.dst v) w->pG P ops Q S0 (fuel+1) listed a w:=by
 intro fuel;induction fuel with
 |zero=>
  intro listed a w _ hr _ hy bX H;refine⟨λh=>(by rw[h]at hr;cases hr),λj hj=>?_⟩;by_cases e5:j=i
  ·subst e5;exact hy.wpOp hi bX ⟨λ_=>bX,H⟩
  ·have:=F9 hj e5;rw[H.1]at this;cases this
 |succ fuel ih=>
  intro listed a w xH hr hn hy bX H;refine⟨λh=>(by rw[h]at hr;cases hr),λj hj=>?_⟩;by_cases e5:j=i
  ·subst e5;exact hy.wpOp hi bX ⟨λ_=>bX,H⟩
  ·have h1:=H.2 j (F9 hj e5);obtain⟨xO,cF,kG,hall⟩:=mem_ready.1 hj;have Ih:∀e∈cF.after,qy .any e=true->e.on≠i:=λe he hb heq=>by
    have h1:=hall e he hb;have h0:=(mem_ready.1 hr).1;rw[heq]at h1;rcases mx i listed.size with h'|h'
    ·simp[h']at h0 h1;rw[h0]at h1;cases h1
    ·simp[uV h']at h1
   have xN:∀o,ops[j]?=some o->nu o=false:=λo ho=>by
    cases hc:nu o with
    |false=>rfl
    |true=>
     obtain⟨e,he,hb,AB⟩:=hw j o ho hc;rw[kG]at ho;cases ho;exact absurd AB (Ih e he hb)
   have ahq:kk ops (listed.setIfInBounds j true)=true:=by rw[I7 xN];exact hn
   have Ee:kk ops ((listed.setIfInBounds i true).setIfInBounds j true)=true:=by
    rw[I7 xN,I7 (λo ho=>by rw[hi]at ho;cases ho;exact hst)];exact hn
   have h2:=wpOp_putIf kG (xH j cF kG e5 xO Ih) (λcs b=>Es i dU cs b hi) (λcs b=>Es j cF cs b kG) kW hy h1;have NH:∀k ok,ops[k]?=some ok->k≠i->(listed.setIfInBounds j true).getD k true=false->
    (∀e∈ok.after,qy .any e=true->e.on≠i)->dU.apart ops ok=true:=λk ok hk xP lI hno=>by
    refine xH k ok hk xP ?_ hno;by_cases q7:j=k
    ·subst q7;exact xO
    ·rw[getD_set_ne true q7]at lI;exact lI
   refine wpOp_mono (λa' w' h3=>⟨λ_=>h3.2.1 Ee,ih (listed.setIfInBounds j true) a' w' NH (F9 hr (Ne.symm e5)) ahq h3.1 (h3.2.1 Ee) ?_⟩) h2;rw[aas _ _ e5];exact h3.2.2
theorem atW {i:Nat} {dU:Oper} {v:az} (hi:ops[i]?=some dU) (Es:∀(j:Nat) (o:Oper) cs b,ops[j]?=some o->o.op≠ .select cs b)
 (kW:∀c a w,Q (.panic c) (a.put dU.dst v) w->Q (.panic c) a w) (hst:nu dU=false):
 ∀(fuel:Nat) (listed:Array Bool) (a:Act) (w:ai),
  (∀j cF,ops[j]?=some cF->j≠i->listed.getD j true=false->(∀e∈cF.after,qy .any e=true->e.on≠i)->dU.apart ops cF=true)->
  i∈kP .any ops listed->YieldsIf P ops (λ_=>True) dU v a->(kk ops listed=true->S0 w)->
  pG P ops Q S0 fuel (listed.setIfInBounds i true) (a.put dU.dst v) w->pG P ops Q S0 (fuel+1) listed a w:=by
 intro fuel;induction fuel with
 |zero=>
  intro listed a w _ hr hy bX H;refine⟨λh=>(by rw[h]at hr;cases hr),λj hj=>?_⟩;by_cases e5:j=i
  ·subst e5;exact hy.wpOp hi trivial ⟨λhn=>bX (I6 hn),H⟩
  ·have:=F9 hj e5;rw[H.1]at this;cases this
 |succ fuel ih=>
  intro listed a w xH hr hy bX H;refine⟨λh=>(by rw[h]at hr;cases hr),λj hj=>?_⟩;by_cases e5:j=i
  ·subst e5;exact hy.wpOp hi trivial ⟨λhn=>bX (I6 hn),H⟩
  ·have h1:=H.2 j (F9 hj e5);obtain⟨xO,cF,kG,hall⟩:=mem_ready.1 hj;have Ih:∀e∈cF.after,qy .any e=true->e.on≠i:=λe he hb heq=>by
    have h1:=hall e he hb;have h0:=(mem_ready.1 hr).1;rw[heq]at h1;rcases mx i listed.size with h'|h'
    ·simp[h']at h0 h1;rw[h0]at h1;cases h1
    ·simp[uV h']at h1
   have Ee:kk ops (listed.setIfInBounds j true)=true->kk ops ((listed.setIfInBounds i true).setIfInBounds j true)=true:=λhn=>by
    rw[<-aas _ _ e5,I7 (λo ho=>by rw[hi]at ho;cases ho;exact hst)];exact hn
   have h2:=wpOp_putIf kG (xH j cF kG e5 xO Ih) (λcs b=>Es i dU cs b hi) (λcs b=>Es j cF cs b kG) kW hy h1;have NH:∀k ok,ops[k]?=some ok->k≠i->(listed.setIfInBounds j true).getD k true=false->
    (∀e∈ok.after,qy .any e=true->e.on≠i)->dU.apart ops ok=true:=λk ok hk xP lI hno=>by
    refine xH k ok hk xP ?_ hno;by_cases q7:j=k
    ·subst q7;exact xO
    ·rw[getD_set_ne true q7]at lI;exact lI
   refine wpOp_mono (λa' w' h3=>⟨λhn=>h3.2.1 (Ee hn),ih (listed.setIfInBounds j true) a' w' NH (F9 hr (Ne.symm e5)) h3.1 (λhn=>h3.2.1 (Ee hn)) ?_⟩) h2;rw[aas _ _ e5];exact h3.2.2
theorem ZN {i:Nat} {dU:Oper} {v:az} {fuel:Nat} {listed:Array Bool} {a:Act} {w:ai} (hi:ops[i]?=some dU)
 (hs:y8 ops=true) (hf:Region.free .any ops listed i=true) (hr:(kP .any ops listed).contains i=true) (hst:nu dU=false) (hw:QS ops i=true) (hn:kk ops listed=true)
 (kW:∀c a w,Q (.panic c) (a.put dU.dst v) w->Q (.panic c) a w) (hy:YieldsIf P ops S0 dU v a) (bX:S0 w)
 (h:pG P ops Q S0 fuel (listed.setIfInBounds i true) (a.put dU.dst v) w):pG P ops Q S0 (fuel+1) listed a w:=
 atV hi (aat hs) kW hst (λk o hk Im=>by
  have hm:o∈ops.toList:=by
   rw[<-Ga]at hk;exact c0 hk
  have h1:=List.all_eq_true.1 hw o hm;rw[Im]at h1;have h1:(o.after.toList.any λe=>qy .any e&&aH e.on i)=true:=h1;obtain⟨e,he,h2⟩:=List.any_eq_true.1 h1;simp only[aO]at h2;exact⟨e,Array.mem_toList_iff.1 he,h2.1,bx h2.2⟩) fuel listed a w (auq hi hf) (by simpa using hr) hn hy bX h
end
theorem abX {ops:Array Oper} {Q:Exit->Act->ai->Prop} {inl:hU} (cw:fl S P gl w0 cal) (hg:eL gl w0) (iq:lr S L w0 P inl) (kW:∀c a w,¬Q (.panic c) a w)
 {N n0:Nat} {eb:List ao} {bV:Env} {m0:Nat->Nat} (hN:N<=eb.length) (iZ:b6 n0 eb.length bV eb):∀(f:Nat) {listed:Array Bool} {n:Nat} {ρ:Env} {m:Nat->Nat} {tm:List V} {bl:List ao} {a:Act} {w:ai} {G:dc} {k:fu},
 R w0 n ρ m tm bl a w->cR n0 eb.length bV m0 n bl.length ρ m->(∀(k:Nat) (p:ao),(cQ N 0 eb)[k]?=some p->(cQ N 0 bl)[k]?=some p)->(tB P gl cal inl ops N (cQ N 0 eb) f listed n tm bl k).holds S L G ρ->jK S L w0 k n bl.length ρ m G (Q .normal)->wpAnyH P .any ops Q (λw=>Mem w0 bV m0 (cQ N 0 eb) w) f listed a w:=by
 have down:∀{n:Nat} {ρ:Env} {m:Nat->Nat} {bl:List ao} {w:ai},cR n0 eb.length bV m0 n bl.length ρ m->(∀(k:Nat) (p:ao),(cQ N 0 eb)[k]?=some p->(cQ N 0 bl)[k]?=some p)->Mem w0 ρ m bl w->Mem w0 bV m0 (cQ N 0 eb) w:=λhl hp hm=>by
  refine hm.sub λi p hi=>?_;rcases qR N 0 eb i p hi with h1|⟨h1,h2,h3⟩
  ·exact .inl h1
  ·refine .inr ?_;rcases qR N 0 _ i p (hp i p hi)with g1|⟨_,_,g3⟩
   ·subst g1;simp[dI,bO,qe]at h2
   ·exact⟨g3,h2,(hl.hm i (by omega)).symm,(qh (iZ p (c0 h3)) hl.ha hl.hm).symm,JG (iZ p (c0 h3)) hl.ha true⟩
 have up:∀{n:Nat} {ρ:Env} {m:Nat->Nat} {bl:List ao} {w:ai},cR n0 eb.length bV m0 n bl.length ρ m->(∀(k:Nat) (p:ao),(cQ N 0 eb)[k]?=some p->(cQ N 0 bl)[k]?=some p)->Mem w0 bV m0 (cQ N 0 eb) w->Mem w0 ρ m (cQ N 0 bl) w:=λ{n ρ m bl w} hl hp hm=>by
  refine hm.sub λi p hi=>?_;rcases qR N 0 bl i p hi with h1|⟨h1,h2,h3⟩
  ·exact .inl h1
  ·refine .inr ?_;have hlt:i<(cQ N 0 eb).length:=by rw[zW];omega
   have hq:=hp i _ (hP hlt);rw[hi]at hq;have hq:p=(cQ N 0 eb)[i]:=gH hq;have h0:(cQ N 0 eb)[i]?=some p:=by rw[hP hlt,hq]
   rcases qR N 0 eb i p h0 with g1|⟨_,_,g3⟩
   ·subst g1;simp[dI,bO,qe]at h2
   ·exact⟨h0,h2,hl.hm i (by omega),qh (iZ p (c0 g3)) hl.ha hl.hm,JG (iZ p (c0 g3)) hl.ha false⟩
 intro f;induction f with
 |zero=>
  intro listed n ρ m tm bl a w G k h hl hp ah hk;unfold tB at ah;unfold wpAnyH;split at ah
  ·rename_i hr;exact⟨hr,hk n ρ m tm bl G a w (cR.refl _ _ _ _) (dG.refl _ _) h ah⟩
  ·exact ah.elim
 |succ f ih=>
  intro listed n ρ m tm bl a w G k h hl hp ah hk;unfold tB at ah;split at ah
  ·rename_i hr;exact⟨λ_=>hk n ρ m tm bl G a w (cR.refl _ _ _ _) (dG.refl _ _) h ah,λi hi=>by rw[hr]at hi;cases hi⟩
  ·rename_i l hl0;split at ah
   ·rename_i i hi;unfold Vq at hi;cases jS:y8 ops with
    |false=>rw[jS]at hi;cases hi
    |true=>
    rw[jS,cond_true]at hi;have cN:=Gb hi;have mK:=y9 hi;simp only[aO]at cN;cases ho:ops[i]? with
    |none=>simp only[ho]at ah;exact ah.elim
    |some o=>
     simp only[ho]at ah;have hV:xF N tm bl o=true∨DX N tm bl o=true:=by
      have:=cN.1;simp only[ho,ow,aO]at this;exact this.imp id And.right
     obtain⟨bw,gZ,hgd⟩:=vy h.t ah;have h:R w0 n ρ m bw bl a w:=⟨gZ,h.d,h.b,h.a7⟩;have bX:=down hl hp h.a7;rcases hgd with⟨hw,ah⟩|⟨hw,ah⟩
     ·have hlen:(cQ N 0 bl).length=bl.length:=zW N 0 bl;obtain⟨ag,n',v,mb,fp,⟨hv,val,hr,hq⟩,sr⟩:=Fh (L:=L) (bl:=cQ N 0 bl) cw (by rw[hlen];exact h.b.cQ N) hg ⟨w,up hl hp bX⟩ (by rw[hlen];exact gZ) o G _ ah;rw[hlen]at hv;have hy:YieldsIf P ops (λw=>Mem w0 bV m0 (cQ N 0 eb) w) o val a:= .inl ⟨hw,λw' ns=>hV.elim (λhf=>NF (ops:=ops) hf (hq w' (up hl hp ns))) (λhf=>Vs hf (hq w' (up hl hp ns)))⟩;refine wpAnyH_take ho jS cN.2 (by simpa using mK) (λc a w hp=>absurd hp (kW _ _ _)) hy bX ?_;have hlt:cR n bl.length ρ m n' bl.length ag m:=⟨mb,fp,aV _,λ_ _=>rfl⟩;exact ih ⟨dp.put (gZ.ext fp mb (aV _) (λ_ _=>rfl)) o.dst hv hr,by rw[put_defers];exact h.d,h.b.ext fp mb (aV _),h.a7.dO h.b fp⟩ (hl.trans hlt) hp sr (hk.later hlt (dG.refl _ _))
     ·refine wpAnyH_take ho jS cN.2 (by simpa using mK) (λc a w hp=>absurd hp (kW _ _ _)) (.inr ⟨hw,rfl⟩) bX ?_;exact ih (h.skip o.dst) hl hp ah hk
   split at ah
   ·rename_i i hi;unfold XL at hi;cases jS:y8 ops with
    |false=>rw[jS]at hi;cases hi
    |true=>
    rw[jS,cond_true]at hi;have cN:=Gb hi;have mK:=y9 hi;simp only[aO]at cN;cases ho:ops[i]? with
    |none=>simp only[ho]at ah;exact ah.elim
    |some o=>
     simp only[ho]at ah;obtain⟨bw,gZ,hgd⟩:=vy h.t ah;have h:R w0 n ρ m bw bl a w:=⟨gZ,h.d,h.b,h.a7⟩;have bX:=down hl hp h.a7;rcases hgd with⟨_,ah⟩|⟨hw,ah⟩
     ·exact ah.elim
     ·refine wpAnyH_take ho jS cN.2 (by simpa using mK) (λc a w hp=>absurd hp (kW _ _ _)) (.inr ⟨hw,rfl⟩) bX ?_;exact ih (h.skip o.dst) hl hp ah hk
   unfold wpAnyH;refine⟨λhr=>absurd hr hl0,λi hi=>?_⟩;have cN:=allT_holds ah i hi;unfold wpOp;cases ho:ops[i]? with
   |none=>simp only[ho]at cN;exact cN.elim
   |some o=>
    simp only[ho]at cN⊢;obtain⟨bw,gZ,hgd⟩:=vy h.t cN;have h:R w0 n ρ m bw bl a w:=⟨gZ,h.d,h.b,h.a7⟩;rcases hgd with⟨hw,su⟩|⟨hw,su⟩
    ·rw[if_pos hw];refine .inl (QA cw hg iq h su λn' ag m' bw aJ de a' w' h1 h2 h3 h4=>?_);cases hf:preB (cQ N 0 eb) (cQ N 0 aJ)with
     |false=>rw[hf]at h4;exact h4.elim
     |true=>
      rw[hf,cond_true]at h4;have sw:=hl.trans h1;have hf:=Pz hf;exact⟨down sw hf h3.a7,ih h3 sw hf h4 (hk.later h1 h2)⟩
    ·rw[if_neg (by simp[hw])];exact⟨down hl hp h.a7,ih (h.skip o.dst) hl hp su hk⟩
theorem adU {P:bj} {s:aQ} {x v:az} {f:Nat} {w w1:ai} {dE:Array Field} {fd:Field} {k:Nat} (hu:P.underlying s=some (.struct dE)) (hf:dE[f]?=some fd) (hk:eG P fd.type=some k) (h0:0<k) (h:(Cp s x f).run P w= .ok v w1) (w':ai):(Cp s x f).run P w'= .ok v w':=by
 have h0:¬k=0:=by omega
 unfold Cp at*;simp only[gm,fe hu,gy,hf]at h⊢;cases x with
 |pointer a=>
  cases a with
  |some a=>
   simp only[lV,gm,hS,gy,fieldPlace,iB hk,if_neg h0,aau]at h⊢;exact⟨h.1,trivial⟩
  |none=>simp[lV]at h
 |_=>simp[lV]at h
theorem aoI {P:bj} {o:Oper} {a:Act} {w:ai} {v:az} (hp:BH P o=true) (h:(execOp a.eval o).run P w= .ok (.value v) w) (w':ai):(execOp a.eval o).run P w'= .ok (.value v) w':=by
 unfold BH at hp;split at hp
 ·rename_i x hop;simp[execOp,hop]at h⊢;exact h
 ·rename_i x hop;simp[execOp,hop]at h⊢;exact h
 ·rename_i x i hop;simp only[execOp,hop,Rn]at h⊢;cases hx:a.eval x with
  |tuple vs=>
   simp only[hx]at h⊢;cases hv:vs[i]? with
   |none=>simp[hv]at h
   |some u=>simp[hv]at h⊢;exact h
  |_=>simp[hx]at h
 ·rename_i s x i hop;split at hp
  ·rename_i dE hu;split at hp
   ·rename_i fd hf;split at hp
    ·rename_i k hk;have h0:=eh hp;have fx:0<k:=h0;simp only[execOp,hop,gm]at h⊢;cases hx:(Cp s (a.eval x) i).run P w with
     |ok u w1=>
      rw[hx]at h;rw[adU hu hf hk fx hx w'];simp at h⊢;exact h.1
     |halt x w1=>rw[hx]at h;simp at h
    ·cases hp
   ·cases hp
  ·cases hp
 ·cases hp
theorem aoH {P:bj} {N:Nat} {tm:List V} {bl:List ao} {o:Oper} (h:BH P o=true):xF N tm bl o=true/\nu o=false:=by
 unfold BH at h;unfold xF nu;cases hop:o.op<;>rw[hop]at h<;>first|exact⟨rfl,rfl⟩|(simp at h)
theorem abY {ops:Array Oper} {Q:Exit->Act->ai->Prop} {inl:hU} (cw:fl S P gl w0 cal) (hg:eL gl w0) (iq:lr S L w0 P inl) (kW:∀c a w,¬Q (.panic c) a w)
 {N n0:Nat} {eb:List ao} {bV:Env} {m0:Nat->Nat} (hN:N<=eb.length) (iZ:b6 n0 eb.length bV eb):∀(f:Nat) {listed:Array Bool} {n:Nat} {ρ:Env} {m:Nat->Nat} {tm:List V} {bl:List ao} {a:Act} {w:ai} {G:dc} {k:fu},
 R w0 n ρ m tm bl a w->cR n0 eb.length bV m0 n bl.length ρ m->(kk ops listed=true->∀(k:Nat) (p:ao),(cQ N 0 eb)[k]?=some p->(cQ N 0 bl)[k]?=some p)->(vk P gl cal inl ops N (cQ N 0 eb) f listed n tm bl k).holds S L G ρ->jK S L w0 k n bl.length ρ m G (Q .normal)->pG P ops Q (λw=>Mem w0 bV m0 (cQ N 0 eb) w) f listed a w:=by
 have down:∀{n:Nat} {ρ:Env} {m:Nat->Nat} {bl:List ao} {w:ai},cR n0 eb.length bV m0 n bl.length ρ m->(∀(k:Nat) (p:ao),(cQ N 0 eb)[k]?=some p->(cQ N 0 bl)[k]?=some p)->Mem w0 ρ m bl w->Mem w0 bV m0 (cQ N 0 eb) w:=λhl hp hm=>by
  refine hm.sub λi p hi=>?_;rcases qR N 0 eb i p hi with h1|⟨h1,h2,h3⟩
  ·exact .inl h1
  ·refine .inr ?_;rcases qR N 0 _ i p (hp i p hi)with g1|⟨_,_,g3⟩
   ·subst g1;simp[dI,bO,qe]at h2
   ·exact⟨g3,h2,(hl.hm i (by omega)).symm,(qh (iZ p (c0 h3)) hl.ha hl.hm).symm,JG (iZ p (c0 h3)) hl.ha true⟩
 have up:∀{n:Nat} {ρ:Env} {m:Nat->Nat} {bl:List ao} {w:ai},cR n0 eb.length bV m0 n bl.length ρ m->(∀(k:Nat) (p:ao),(cQ N 0 eb)[k]?=some p->(cQ N 0 bl)[k]?=some p)->Mem w0 bV m0 (cQ N 0 eb) w->Mem w0 ρ m (cQ N 0 bl) w:=λ{n ρ m bl w} hl hp hm=>by
  refine hm.sub λi p hi=>?_;rcases qR N 0 bl i p hi with h1|⟨h1,h2,h3⟩
  ·exact .inl h1
  ·refine .inr ?_;have hlt:i<(cQ N 0 eb).length:=by rw[zW];omega
   have hq:=hp i _ (hP hlt);rw[hi]at hq;have hq:p=(cQ N 0 eb)[i]:=gH hq;have h0:(cQ N 0 eb)[i]?=some p:=by rw[hP hlt,hq]
   rcases qR N 0 eb i p h0 with g1|⟨_,_,g3⟩
   ·subst g1;simp[dI,bO,qe]at h2
   ·exact⟨h0,h2,hl.hm i (by omega),qh (iZ p (c0 g3)) hl.ha hl.hm,JG (iZ p (c0 g3)) hl.ha false⟩
 intro f;induction f with
 |zero=>
  intro listed n ρ m tm bl a w G k h hl hp ah hk;unfold vk at ah;unfold pG;split at ah
  ·rename_i hr;exact⟨hr,hk n ρ m tm bl G a w (cR.refl _ _ _ _) (dG.refl _ _) h ah⟩
  ·exact ah.elim
 |succ f ih=>
  intro listed n ρ m tm bl a w G k h hl hp ah hk;unfold vk at ah;split at ah
  ·rename_i hr;exact⟨λ_=>hk n ρ m tm bl G a w (cR.refl _ _ _ _) (dG.refl _ _) h ah,λi hi=>by rw[hr]at hi;cases hi⟩
  ·rename_i l hl0;split at ah
   ·rename_i i hi;unfold Vr at hi;cases jS:y8 ops with
    |false=>rw[jS]at hi;cases hi
    |true=>
    rw[jS,cond_true]at hi;have cN:=Gb hi;have mK:=y9 hi;simp only[aO]at cN;cases ho:ops[i]? with
    |none=>simp only[ho]at ah;exact ah.elim
    |some o=>
     simp only[ho]at ah;have su:=cN.1;simp only[ho,ow,aO,fX]at su;cases Oc:BH P o with
     |true=>
      obtain⟨hV,Ip⟩:=aoH (N:=N) (tm:=tm) (bl:=bl) Oc;obtain⟨bw,gZ,hgd⟩:=vy h.t ah;have h:R w0 n ρ m bw bl a w:=⟨gZ,h.d,h.b,h.a7⟩;have afd:kk ops listed=true->Mem w0 bV m0 (cQ N 0 eb) w:=λhn=>down hl (hp hn) h.a7;have nr:kk ops (listed.setIfInBounds i true)=true->∀(k:Nat) (p:ao),(cQ N 0 eb)[k]?=some p->(cQ N 0 bl)[k]?=some p:=λhn=>hp (I6 hn);have take:∀{v:az},YieldsIf P ops (λ_=>True) o v a->pG P ops Q (λw=>Mem w0 bV m0 (cQ N 0 eb) w) f (listed.setIfInBounds i true) (a.put o.dst v) w->pG P ops Q (λw=>Mem w0 bV m0 (cQ N 0 eb) w) (f+1) listed a w:=λhy H=>
       atW ho (aat jS) (λc a w hp=>absurd hp (kW _ _ _)) Ip f listed a w (auq ho cN.2) (by simpa using mK) hy afd H
      rcases hgd with⟨hw,ah⟩|⟨hw,ah⟩
      ·have hlen:(cQ N 0 bl).length=bl.length:=zW N 0 bl;have UQ:Mem w0 ρ m (cQ N 0 bl) w:=h.a7.sub λi p hi=>by
        rcases qR N 0 bl i p hi with h1|⟨_,h2,h3⟩
        ·exact .inl h1
        ·exact .inr ⟨h3,h2,rfl,rfl,λ_ _ _ _ _ _=>⟨rfl,rfl,rfl⟩⟩
       obtain⟨ag,n',v,mb,fp,⟨hv,val,hr,hq⟩,sr⟩:=Fh (L:=L) (bl:=cQ N 0 bl) cw (by rw[hlen];exact h.b.cQ N) hg ⟨w,UQ⟩ (by rw[hlen];exact gZ) o G _ ah;rw[hlen]at hv;have hy:YieldsIf P ops (λ_=>True) o val a:= .inl ⟨hw,λw' _=>aoI Oc (NF (ops:=ops) hV (hq w UQ)) w'⟩;refine take hy ?_;have hlt:cR n bl.length ρ m n' bl.length ag m:=⟨mb,fp,aV _,λ_ _=>rfl⟩;exact ih ⟨dp.put (gZ.ext fp mb (aV _) (λ_ _=>rfl)) o.dst hv hr,by rw[put_defers];exact h.d,h.b.ext fp mb (aV _),h.a7.dO h.b fp⟩ (hl.trans hlt) nr sr (hk.later hlt (dG.refl _ _))
      ·exact take (.inr ⟨hw,rfl⟩) (ih (h.skip o.dst) hl nr ah hk)
     |false=>
     obtain⟨⟨⟨kF,hV⟩,Ip⟩,AI⟩:=su.resolve_left (by rw[Oc];decide);have hp:=hp kF;obtain⟨bw,gZ,hgd⟩:=vy h.t ah;have h:R w0 n ρ m bw bl a w:=⟨gZ,h.d,h.b,h.a7⟩;have bX:=down hl hp h.a7;rcases hgd with⟨hw,ah⟩|⟨hw,ah⟩
     ·have hlen:(cQ N 0 bl).length=bl.length:=zW N 0 bl;obtain⟨ag,n',v,mb,fp,⟨hv,val,hr,hq⟩,sr⟩:=Fh (L:=L) (bl:=cQ N 0 bl) cw (by rw[hlen];exact h.b.cQ N) hg ⟨w,up hl hp bX⟩ (by rw[hlen];exact gZ) o G _ ah;rw[hlen]at hv;have hy:YieldsIf P ops (λw=>Mem w0 bV m0 (cQ N 0 eb) w) o val a:= .inl ⟨hw,λw' ns=>hV.elim (λhf=>NF (ops:=ops) hf (hq w' (up hl hp ns))) (λhf=>Vs hf (hq w' (up hl hp ns)))⟩;refine ZN ho jS cN.2 (by simpa using mK) Ip AI kF (λc a w hp=>absurd hp (kW _ _ _)) hy bX ?_;have hlt:cR n bl.length ρ m n' bl.length ag m:=⟨mb,fp,aV _,λ_ _=>rfl⟩;exact ih ⟨dp.put (gZ.ext fp mb (aV _) (λ_ _=>rfl)) o.dst hv hr,by rw[put_defers];exact h.d,h.b.ext fp mb (aV _),h.a7.dO h.b fp⟩ (hl.trans hlt) (λ_=>hp) sr (hk.later hlt (dG.refl _ _))
     ·refine ZN ho jS cN.2 (by simpa using mK) Ip AI kF (λc a w hp=>absurd hp (kW _ _ _)) (.inr ⟨hw,rfl⟩) bX ?_;exact ih (h.skip o.dst) hl (λ_=>hp) ah hk
   unfold pG;refine⟨λhr=>absurd hr hl0,λi hi=>?_⟩;have cN:=allT_holds ah i hi;unfold wpOp;cases ho:ops[i]? with
   |none=>simp only[ho]at cN;exact cN.elim
   |some o=>
    simp only[ho]at cN⊢;obtain⟨bw,gZ,hgd⟩:=vy h.t cN;have h:R w0 n ρ m bw bl a w:=⟨gZ,h.d,h.b,h.a7⟩;rcases hgd with⟨hw,su⟩|⟨hw,su⟩
    ·rw[if_pos hw];refine .inl (QA cw hg iq h su λn' ag m' bw aJ de a' w' h1 h2 h3 h4=>?_);cases hf:(!(kk ops (listed.setIfInBounds i true))||preB (cQ N 0 eb) (cQ N 0 aJ))with
     |false=>rw[hf]at h4;exact h4.elim
     |true=>
      rw[hf,cond_true]at h4;have sw:=hl.trans h1;simp only[ow,fX]at hf;have hf:kk ops (listed.setIfInBounds i true)=true->∀(k:Nat) (p:ao),(cQ N 0 eb)[k]?=some p->(cQ N 0 aJ)[k]?=some p:=λhn=>Pz (hf.resolve_left (by rw[hn];decide));exact⟨λhn=>down sw (hf hn) h3.a7,ih h3 sw hf h4 (hk.later h1 h2)⟩
    ·rw[if_neg (by simp[hw])];have nr:kk ops (listed.setIfInBounds i true)=true->∀(k:Nat) (p:ao),(cQ N 0 eb)[k]?=some p->(cQ N 0 bl)[k]?=some p:=λhn=>hp (I6 hn);exact⟨λhn=>down hl (nr hn) h.a7,ih (h.skip o.dst) hl nr su hk⟩
theorem zL {inl:hU} {li:Nat->Option cX} {rounds:Nat} (hm:P.follows .mixedOrders=true) (cw:fl S P gl w0 cal) (hg:eL gl w0) (iq:lr S L w0 P inl):∀(c:Code),Gx rd S L w0 P c (kR P gl cal inl li rounds c):=by
 intro c;induction c with
 |skip=>intro hd n tm bl k G ρ m a w Q h ah hk;exact wpIn_skip (hk .normal n ρ m tm bl G a w (cR.refl _ _ _ _) (dG.refl _ _) h ah)
 |exit id=>intro hd n tm bl k G ρ m a w Q h ah hk;exact wpIn_exit (hk (.exit id) n ρ m tm bl G a w (cR.refl _ _ _ _) (dG.refl _ _) h ah)
 |ret=>intro hd n tm bl k G ρ m a w Q h ah hk;exact wpIn_ret (hk .ret n ρ m tm bl G a w (cR.refl _ _ _ _) (dG.refl _ _) h ah)
 |region id ops draw=>
  intro hd n tm bl k G ρ m a w Q h ah hk;have HQ:jK S L w0 (k .normal) n bl.length ρ m G (oj Q .normal):=λn' ag m' bw aJ de a' w' h1 h2 h3 h4=>hk .normal n' ag m' bw aJ de a' w' h1 h2 h3 h4;cases draw with
  |false=>
   simp only[kR,cond_false]at ah;refine ao5 hd ?_;exact Je cw hg iq ops.toList h ah HQ
  |true=>
   simp only[kR,cond_true]at ah;cases ht:(B6 ops (As P cal ops)&&Kd P (ops.toList.take (As P cal ops))&& !Qu P (ops.toList.take (As P cal ops)))with
   |false=>
    simp only[ht,cond_false]at ah;cases hlt:W6 ops with
    |true=>
     simp only[hlt,cond_true]at ah;have pj:R w0 n ρ m tm bl a w.drew:=⟨h.t,h.d,h.b,h.a7.grow (Gc (m4 w))⟩;refine PT hm hd (ZQ (S0:=λw=>Mem w0 ρ m (cQ bl.length 0 bl) w) _ _ _ _ ?_);exact abY cw hg iq (λc a w h=>h) (N:=bl.length) (aV _) h.b ops.size pj (cR.refl _ _ _ _) (λ_ _ _ h=>h) ah HQ
    |false=>
    simp only[hlt,cond_false]at ah;cases hsz:bu (ops.toList.filter λo=> !Pc o).length 24 with
    |false=>simp only[hsz,cond_false]at ah;exact ah.elim
    |true=>
     simp only[hsz,cond_true]at ah;have pj:R w0 n ρ m tm bl a w.drew:=⟨h.t,h.d,h.b,h.a7.grow (Gc (m4 w))⟩;refine PT hm hd (wpAny_of_held (S:=λw=>Mem w0 ρ m (cQ (DW P ops tm bl) 0 bl) w) _ _ _ _ ?_);exact abX cw hg iq (λc a w h=>h) (N:=DW P ops tm bl) (by unfold DW;cases Pf P ops<;>cases ops.toList.any nu<;>simp<;>exact Nat.min_le_left _ _) h.b ops.size pj (cR.refl _ _ _ _) (λ_ _ h=>h) ah HQ
   |true=>
    simp only[ht,cond_true]at ah;simp only[aO]at ht;replace ht:=ht.1;have hle:As P cal ops<=ops.toList.length:=by
     have h1:=ht.1;simp only[B6,aO]at h1;simpa using eh h1.1.1.2
    generalize As P cal ops=hl0 at*;have pj:R w0 n ρ m tm bl a w.drew:=⟨h.t,h.d,h.b,h.a7.grow (Gc (m4 w))⟩;have key:=atY (P:=P) (Q:=oj Q) (a:=a) (w:=w) (l:=ops.toList) (C:=λw'=>Mem w0 ρ m bl w') hl0 (Cl P ops) hm (by rw[toL];exact ht.1) (λw' ns=>pj.a7.grow ns) (λj o hj ho cG b w'=>by
     have:=at6 (l:=ops.toList) (P:=P) ht.2 hj ho cG b w';rw[toL]at this;exact this) (by
     rw[toL];refine HZ cw hg h.b ⟨_,h.a7⟩ _ (aV _) (agree.refl _ _) h.t h.d ah λn' ag bw an h1 h2 h3 h4 h5 eI b w' ud pe Eg=>?_;have hl:cR n bl.length ρ m n' bl.length ag m:=⟨h1,h2,aV _,λ_ _=>rfl⟩;have ae8:=(pj.a7.grow pe).dO h.b h2;refine LH (S:=S) (L:=L) (w0:=w0) (P:=P) (K:=λb w'=>wpList P ops (calm (oj Q)) (ops.toList.drop hl0) b w') ud Eg pj.a7.ext.size pj.a7.eu (ops.toList.take hl0) 0 (λj hj=>?_) (by simp;exact wH (by simpa using hle)) ⟨h3,h4,h.b.ext h2 h1 (aV _),ae8⟩ ((pj.a7.dO h.b h2).under pe) (λaU p ja hp=> .inl ?_) rfl (λt=>⟨λ⟨j,o,hj,_⟩=>by omega,λ_=>rfl⟩) h5 (λBw pM axm Zv avY Lj SK lj k1 k2 k3 k4=>Je cw hg iq _ k3 k4 ((HQ.later hl (dG.refl _ _)).later k1 k2)) h4
     ·have hj':j<hl0:=by simp at hj;omega
      rw[o0,if_pos hj'];simp
     ·rw[mi (h.b _ (c0 ja)) h2]at hp;exact pj.a7.lt ja hp)
    rw[toL]at key;exact PT hm hd key
 |seq x y aiv Iz=>
  intro hd n tm bl k G ρ m a w Q h ah hk;have xE:rd=none∨kj x=true:=hd.imp id λh=>by simp only[kj,aO]at h;exact h.1
  have HY:rd=none∨kj y=true:=hd.imp id λh=>by simp only[kj,aO]at h;exact h.2
  refine wpIn_seq (aiv xE n tm bl _ G ρ m a w _ h ah λx n' ag m' bw aJ de a' w' h1 h2 h3 h4=>?_);cases x with
  |normal=>exact Iz HY n' bw aJ k de ag m' a' w' Q h3 h4 (hk.later h1 h2)
  |exit id=>exact hk (.exit id) n' ag m' bw aJ de a' w' h1 h2 h3 h4
  |ret=>exact hk .ret n' ag m' bw aJ de a' w' h1 h2 h3 h4
 |cond x y z Iz Wv=>
  intro hd n tm bl k G ρ m a w Q h ah hk;simp only[kR]at ah;have hx:=cq h.t x;split at ah
  ·rename_i b hb;rw[hb]at hx;have dr:a.eval x= .bool (b.den ρ):=hx.2;have xE:rd=none∨kj y=true:=hd.imp id λh=>by simp only[kj,aO]at h;exact h.1
   have HY:rd=none∨kj z=true:=hd.imp id λh=>by simp only[kj,aO]at h;exact h.2
   refine wpIn_cond dr ?_;split at ah
   ·rename_i v;cases v with
    |true=>simp only[cond_true]at ah;exact Iz xE n tm bl k G ρ m a w Q h ah hk
    |false=>simp only[cond_false]at ah;exact Wv HY n tm bl k G ρ m a w Q h ah hk
   ·simp only[T.holds]at ah;cases hd:bg.den ρ b with
    |true=>exact Iz xE n _ bl k G ρ m a w Q ⟨B4 hd h.t,h.d,h.b,h.a7⟩ (ah.1 (by simpa using hd)) hk
    |false=>exact Wv HY n _ bl k G ρ m a w Q ⟨B4 hd h.t,h.d,h.b,h.a7⟩ (ah.2 (by simpa using hd)) hk
  ·exact ah.elim
 |block id x ih=>
  intro hd n tm bl k G ρ m a w Q h ah hk;refine wpIn_block (ih hd n tm bl _ G ρ m a w _ h ah λx n' ag m' bw aJ de a' w' h1 h2 h3 h4=>?_);cases x with
  |normal=>exact hk .normal n' ag m' bw aJ de a' w' h1 h2 h3 h4
  |ret=>exact hk .ret n' ag m' bw aJ de a' w' h1 h2 h3 h4
  |exit vH=>
   simp only at h4;simp only[X.to,Exit.inBlock];cases hb:aH vH id with
   |true=>
    simp only[hb,cond_true]at h4;rw[if_pos (bx hb)];exact hk .normal n' ag m' bw aJ de a' w' h1 h2 h3 h4
   |false=>
    simp only[hb,cond_false]at h4;rw[if_neg (λe=>by subst e;rw[show aH vH vH=true from Cm vH]at hb;cases hb)];exact hk (.exit vH) n' ag m' bw aJ de a' w' h1 h2 h3 h4
 |loop x ih=>
  intro hd n tm bl k G ρ m a w Q h ah hk;simp only[kR]at ah;split at ah
  ·exact akt (c:=x) hd ih h ah hk
  ·exact wpIn_loop_rounds rounds (Yv (c:=x) hd ih rounds h ah hk)
 |_=>intro hd n tm bl k G ρ m a w Q h ah hk;exact ah.elim
def yL (a:Act):ResultVar->Sem az
 | .tmp t=>Cq (a.tmps.getD t undef)
 | .cell x t=>do loadVar t (<-asAddr (a.tmps.getD x undef))
theorem apc {n:Nat} {ρ:Env} {m:Nat->Nat} {bl:List ao} {tm:List V} {a:Act} {w:ai} {r:ResultVar} {u:W} (hg:eL gl w0) (h:R w0 n ρ m tm bl a w) (hr:Fq P gl bl tm r=some u):
 u.ok n bl.length ρ/\(yL a r).run P w= .ok (u.den ρ m) w:=by
 cases r with
 |tmp t=>
  simp only[Fq]at hr;cases ht:tm[t]? with
  |none=>simp[ht]at hr
  |some v=>
   obtain⟨h1,x,h2,h3⟩:=h.t.2 t v ht;simp only[ht]at hr;cases v with
   |w aqY=>
    simp only[aL]at hr;subst hr;refine⟨h1,?_⟩;have:a.tmps.getD t undef=aqY.den ρ m:=by simp[h2];exact h3
    simp only[yL,this];rfl
   |_=>simp at hr
 |cell x t=>
  simp only[Fq]at hr;cases ht:tm[x]? with
  |none=>simp[ht]at hr
  |some v=>
   obtain⟨h1,y,h2,h3⟩:=h.t.2 x v ht;simp only[ht]at hr;cases v with
   |eV l=>simp at hr
   |any=>simp at hr
   |oS _ _ _=>simp at hr
   |mE _ _=>simp at hr
   |w q=>
    cases q with
    |agg l=>simp at hr
    |one p=>
     simp only at hr;have hy:a.tmps.getD x undef=p.den ρ m:=by simp[h2];exact h3
     cases hc:zI bl gl p with
     |none=>simp[hc]at hr
     |some cs=>
      obtain⟨g,o,hp,aX,hcell⟩:=L6 h.a7 h.b hg hc;simp only[yL,hy,hp];cases ph:ob P t with
      |none=>simp[hc,ph]at hr
      |some b=>
       cases b with
       |true=>
        cases hs:eG P t with
        |none=>simp[hc,ph,hs]at hr
        |some k=>
         simp only[hc,ph,hs]at hr;cases hk:bu k cs.length with
         |false=>simp[hk]at hr
         |true=>
          simp only[hk,cond_true,aL]at hr;subst hr;have hk:=eh hk;refine⟨λa h=>aX a (j1 h),?_⟩;have hl:=Gd (P:=P) w ⟨g,o,none⟩ ((cs.take k).map (A.den ρ m)) λj v hj=>by
           rw[jr];rw[ox]at hj;cases hq:(cs.take k)[j]? with
           |none=>simp[hq]at hj
           |some a=>
            simp only[hq,tc,aL]at hj;subst hj;refine hcell j a ?_;rw[o0]at hq;split at hq
            ·exact hq
            ·cases hq
          simp only[j2,m5,wH hk]at hl;simp[asAddr,loadVar,rF ph,iB hs,hl,W.den]
       |false=>
        cases cs with
        |nil=>simp[hc,ph]at hr
        |cons z r=>
         simp only[hc,ph,aL]at hr;subst hr;refine⟨aX z (by simp),?_⟩;have:=hcell 0 z rfl;simp only[lq]at this;simp[asAddr,loadVar,rF ph,this,W.den]
theorem Yp {n:Nat} {ρ:Env} {m:Nat->Nat} {bl:List ao} {tm:List V} {a:Act} {w:ai} (hg:eL gl w0) (h:R w0 n ρ m tm bl a w):∀{rs:List ResultVar} {l:List W},yM P gl bl tm rs=some l->
 (∀u∈l,W.ok n bl.length ρ u)/\(rs.mapM (m:=Sem) (yL a)).run P w= .ok (l.map (W.den ρ m)) w
 |[],l,hr=>by simp[yM]at hr;subst hr;exact⟨by simp,by simp⟩
 |r::s,l,hr=>by
  simp only[yM]at hr;cases h1:Fq P gl bl tm r with
  |none=>simp[h1]at hr
  |some u=>
   cases h2:yM P gl bl tm s with
   |none=>simp[h1,h2]at hr
   |some bQ=>
    simp only[h1,h2,aL]at hr;subst hr;have e1:=apc hg h h1;have e2:=Yp hg h h2;refine⟨λx hx=>by rcases List.mem_cons.1 hx with rfl|hx;exact e1.1;exact e2.1 x hx,?_⟩;rw[List.mapM_cons,gm];simp only[e1.2,e2.2,gy,gm,hS,cp]
theorem PU {fn:Func} {n:Nat} {ρ:Env} {m:Nat->Nat} {bl:List ao} {tm:List V} {a:Act} {w:ai} {k:RK} {G:dc} (hg:eL gl w0) (h:R w0 n ρ m tm bl a w) (ah:(Fo P gl fn n tm bl k).holds S L G ρ):
 ∃v val,V.ok n bl.length ρ v/\v.rel ρ m val/\(results fn a.tmps).run P w= .ok val w/\(k n v bl).holds S L G ρ:=by
 unfold Fo at ah;cases hr:yM P gl bl tm fn.results.toList with
 |none=>
  simp only[hr]at ah;cases ho:Pt tm fn.results.toList with
  |none=>simp[ho,T.holds]at ah
  |some v=>
   simp only[ho]at ah;obtain⟨t,e,hv⟩:∃t,fn.results.toList=[.tmp t]/\tm[t]?=some v:=by
    unfold Pt at ho;split at ho
    ·rename_i t he;refine⟨t,he,?_⟩;split at ho<;>first|(cases ho;assumption)|cases ho
    ·cases ho
   obtain⟨h1,x,h2,h3⟩:=h.t.2 t v hv;refine⟨v,x,h1,h3,?_,ah⟩;have tO:fn.results=#[.tmp t]:=by rw[<-lU (xs:=fn.results),e]
   have ex:a.tmps.getD t undef=x:=by simp[h2]
   have e:results fn a.tmps=(do let vs<-fn.results.mapM (yL a);Cq (if h:vs.size=1 then vs[0]else .tuple vs)):=by
    unfold results
    congr 1
   rw[e,tO,aur];simp[gm,Sem.run_map,gy,yL,h2]
 |some l=>
  obtain⟨h1,h2⟩:=Yp hg h hr;have hrun:(results fn a.tmps).run P w= .ok (if h:(l.map (W.den ρ m)).toArray.size=1 then(l.map (W.den ρ m)).toArray[0]else .tuple (l.map (W.den ρ m)).toArray) w:=by
   have e:results fn a.tmps=(do let vs<-fn.results.mapM (yL a);Cq (if h:vs.size=1 then vs[0]else .tuple vs)):=by
    unfold results
    congr 1
   rw[e,aur];simp only[gm,Sem.run_map,gy,h2,hS]
  simp only[hr]at ah;split at ah
  ·rename_i u heq;have heq:=gH heq;subst heq;exact⟨.w u,_,h1 u (by simp),rfl,by rw[hrun];simp,ah⟩
  ·rename_i bQ hne heq;have heq:=gH heq;subst heq;refine⟨.eV l,_,h1,rfl,?_,ah⟩;rw[hrun,dif_neg];intro hs;simp at hs
   match l,hs,hne with
   |[u],_,hne=>exact hne u rfl
  ·rename_i heq;cases heq
theorem Lq {ρ:Env} {m:Nat->Nat}:∀{vs:List V} {xs:List az},df ρ m vs xs->vs.length=xs.length
 |[],[],_=>rfl
 |_::_,_::_,h=>by simp[Lq h.2]
 |[],_::_,h=>h.elim
 |_::_,[],h=>h.elim
theorem Lp {n nb:Nat} {ρ:Env} {m:Nat->Nat} (k:Nat):∀{vs:List V} {xs:List az},(∀v∈vs,V.ok n nb ρ v)->df ρ m vs xs->wW n nb ρ m (vs++BO k) (xs++eX k undef)
 |[],[],_,_=>by
  simp only[jH];induction k with
  |zero=>trivial
  |succ k ih=>exact⟨by intro x hx;simp at hx,rfl,ih⟩
 |v::r,x::s,h,hr=>⟨h v (by simp),hr.1,Lp k (λu hu=>h u (cD _ hu)) hr.2⟩
 |[],_::_,_,h=>h.elim
 |_::_,[],_,h=>h.elim
theorem Te (mJ:w0.ds=[]) {li:cz->Nat->Option cX} {rounds:Nat} {inl:hU} (hm:P.follows .mixedOrders=true) (cw:fl S P gl w0 cal) (hg:eL gl w0) (ih:lr S L w0 P inl):lr S L w0 P (G8 P gl cal inl li rounds):=by
 intro f n vs bl k G ρ m w xs R' hb kE kg hrel ah hk;unfold G8 at ah;cases hf:P.funcs[f]? with
 |none=>simp[hf,T.holds]at ah
 |some fn=>
  cases ua:fn.body with
  |none=>simp[hf,ua,T.holds]at ah
  |some c=>
   simp only[hf,ua]at ah;cases hc:(!(fn.name== "runtime.NumGoroutine")&&bu vs.length fn.ntmps)with
   |false=>simp[hc,T.holds]at ah
   |true=>
    simp only[hc,cond_true]at ah;simp only[aO,fX]at hc;have hlen:=Lq hrel;refine⟨?_,calls_of_wp hf ua ?_⟩
    ·have h1:¬fn.name= "runtime.NumGoroutine" :=by have:=hc.1;simpa using this
     simp[callFunc,hf,ua,h1]
    ·have hR:R w0 n ρ m (vs++BO (fn.ntmps-vs.length)) bl {tmps:=xs.toArray++rN (fn.ntmps-xs.toArray.size) undef,defers:=[]} w:=by
      refine⟨?_,mJ.symm,hb,kE⟩;have:=GM (Lp (fn.ntmps-vs.length) kg hrel);have e:(xs++eX (fn.ntmps-vs.length) undef).toArray=xs.toArray++rN (fn.ntmps-xs.toArray.size) undef:=by
       simp[hlen]
      rw[e]at this;exact this
     refine wpIn_wide.1 (zL (rd:=none) hm cw hg ih c (.inl rfl) n _ bl _ G ρ m _ w _ hR ah λx n' ag m' bw aJ de a' w' h1 h2 h3 h4=>?_);cases x with
     |exit id=>exact h4.elim
     |normal=>
      obtain⟨v,val,p1,br,bT,dh⟩:=PU hg h3 h4;exact⟨h3.d.trans mJ,val,bT,hk n' v aJ de ag m' w' val h1 h2 p1 br h3.b h3.a7 dh⟩
     |ret=>
      obtain⟨v,val,p1,br,bT,dh⟩:=PU hg h3 h4;exact⟨h3.d.trans mJ,val,bT,hk n' v aJ de ag m' w' val h1 h2 p1 br h3.b h3.a7 dh⟩
theorem Tq (mJ:w0.ds=[]) {li:cz->Nat->Option cX} {rounds:Nat} (hm:P.follows .mixedOrders=true) (cw:fl S P gl w0 cal) (hg:eL gl w0):∀d,lr S L w0 P (Hg P gl cal li rounds d)
 |0=>λf n vs bl k G ρ m w xs R' _ _ _ _ ah _=>ah.elim
 |d+1=>Te mJ hm cw hg (Tq mJ hm cw hg d)
def lY (S:Nat->List Int->List Int->Prop) (L:V->Env->Prop) (w0:cP) (P:bj) (bc:hT):Prop:=
 ∀f g,bc f=some g->∀n vs bl k G ρ m w xs R',b6 n (kt bl) ρ bl->Mem w0 ρ m bl w->(∀v∈vs,V.ok n bl.length ρ v)->df ρ m vs xs->(g n vs bl k).holds S L G ρ->o6 S L w0 k n bl.length ρ m G R'->
  (callFunc f xs.toArray).run P w= .ok (.enter f xs.toArray) w/\gU P f xs.toArray w R'
theorem am7 {bc:hT} {inl:hU} (fQ:lY S L w0 P bc) (h:lr S L w0 P inl):lr S L w0 P (Pu bc inl):=by
 intro f n vs bl k G ρ m w xs R' h1 h2 h3 h4 h5 h6;unfold Pu at h5;cases hf:bc f with
 |none=>rw[hf]at h5;exact h f n vs bl k G ρ m w xs R' h1 h2 h3 h4 h5 h6
 |some g=>rw[hf]at h5;exact fQ f g hf n vs bl k G ρ m w xs R' h1 h2 h3 h4 h5 h6
theorem CU (mJ:w0.ds=[]) {bc:hT} {li:cz->Nat->Option cX} {rounds:Nat} (hm:P.follows .mixedOrders=true) (cw:fl S P gl w0 cal) (hg:eL gl w0) (fQ:lY S L w0 P bc):∀d,lr S L w0 P (xd bc P gl cal li rounds d)
 |0=>λf n vs bl k G ρ m w xs R' _ _ _ _ ah _=>ah.elim
 |d+1=>Te mJ hm cw hg (am7 fQ (CU mJ hm cw hg fQ d))
theorem Mem.extends {b w w':ai} {ρ:Env} {m:Nat->Nat} {bl:List ao} (h:Mem ⟨b,w,λ_=>False,λ_=>False,[]⟩ ρ m bl w'):w.Extends w':=by
 have hblk:∀i:Nat,i<w.heap.size->w'.heap[i]?=w.heap[i]?:=λi hi=>h.gg i hi id;exact⟨h.jb,h.je,h.iw,h.eu,λa ha=>by simp only[jI,hblk a.block ha],λa ha=>by simp only[tf,hblk a.block ha],hblk⟩
theorem acI {b w:ai} {li:cz->Nat->Option cX} {rounds d:Nat} (hm:P.follows .mixedOrders=true) (cw:fl S P gl ⟨b,w,λ_=>False,λ_=>False,[]⟩ cal) (hg:eL gl ⟨b,w,λ_=>False,λ_=>False,[]⟩) (f:cz) (n:Nat) (vs:List V) (ρ:Env) (xs:List az) (he:b.Extends w)
 (kg:∀v∈vs,V.ok n 0 ρ v) (hrel:df ρ (λ_=>0) vs xs) (ah:(Hg P gl cal li rounds d f n vs [] λn' v _=> .leaf v).holds S (λv ag=>L v ag) (λ_ _=>False) ρ):
 gU P f xs.toArray w λe w'=>∃v ag m val nb,e= .returned val/\v.rel ag m val/\(∃n',V.ok n' nb ag v)/\L v ag/\w.Extends w':=by
 have kE:Mem ⟨b,w,λ_=>False,λ_=>False,[]⟩ ρ (λ_=>0) [] w:=⟨he,rfl,rfl,rfl,aV _,λ_ _ _=>rfl,λi cs t h=>by simp at h,λi sh off code cap kind t h=>by simp at h,λi j p q h=>by simp at h⟩;refine(Tq rfl (L:=L) (li:=li) (rounds:=rounds) hm cw hg d f n vs [] (λn' v _=> .leaf v) (λ_ _=>False) ρ (λ_=>0) w xs _ (λp hp=>by simp at hp) kE kg hrel ah ?_).2;intro n' v aJ de ag m' w' val h1 h2 h3 h4 h5 h6 h7;exact⟨v,ag,m',val,_,rfl,h4,⟨n',h3⟩,h7,h6.extends⟩
end
end Go.ba
