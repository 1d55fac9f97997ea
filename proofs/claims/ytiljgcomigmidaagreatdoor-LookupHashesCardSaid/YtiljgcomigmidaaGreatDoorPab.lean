/- The evaluator's soundness: operations and regions. -/
import Derived.Test.YtiljgcomigmidaaGreatDoorPaa
import Derived.Laws.Append
import Derived.Deep.AppendSrc
import Derived.Deep.Upon
import Derived.Laws.MakeOwn
import Derived.Lib.MakeNoZero
import Derived.Laws.Externs
import Derived.KernelRfl
import Derived.Lib.ConvBytes
import Derived.ArgAppend
import Derived.OrdersIn
import Derived.TacticsIn
import Derived.LoopNIn
import Derived.Sort.LoopGhostIn
open Array renaming toArray_toList->lx,replicate->sz,getElem?_eq_none->vG,toList_map->vQ,eq_empty_of_size_eq_zero->vS,length_toList->xK,getElem?_toList->CQ,getElem?_eq_getElem->Lx,ext'->SN,setIfInBounds_comm->ac5,size_append->adr,mapM_eq_mapM_toList->ayv,range->ayW,toList_range->ayX,getElem?_push_lt->ay3
open Bool renaming and_eq_true->aQ,not_eq_true'->iP,or_eq_true->pD,false_eq_true->pF,not_true->G7
open Classical renaming byContradiction->adp
open Function renaming comp->Lw
open Go renaming World->ai,Value->ax,TypeId->aR,Program->bk,FuncId->cB,run_underlying->eK,Calls->gZ,setRow_other->zY,run_loadCells_list->CS,ready_mono->G8,setRow_heap->Hi
open Go.Builtin renaming copy_->xL,firstCells->z1,zeroCells->Hl,append_->SQ,lenOf->adA
open Go.Code renaming region->azb
open Go.Extern renaming findNext->adt,find->adu
open Go.Extern.BytealgMakeNoZero renaming digits->uf,makeNoZero->SS
open Go.Fence renaming wide->Aa
open Go.Instr renaming sureAddr->kK,sliceAt->nQ,loadAt->nR,fieldAt->CP,extract->SG,storeAt->SM,buildSlice->adq,alloc->ay0
open Go.Lib renaming bytesWorld->Hm,bytesCells->Hn
open Go.Next renaming value->kJ
open Go.Oper renaming wp->m9,uponIn->ay9,wpIn_mono->aza
open Go.Region renaming ready->kX,binds->ri,wanted->ud,noSelect->zU,noSelect_spec->ac6,free_spec->ayu
open Go.Result renaming andThen_ok->gG
open Go.Result.ok renaming injEq->ac7
open Go.Sem renaming run_bind->gy,run_pure->ie
open Go.Value renaming int->sA
open Go.Value.int renaming injEq->aDw
open Go.World renaming cell?->jx,frozen?->tZ,alloc->CZ,alloc_eq->LK,drew->SU,drew_eq->adv
open Go.World.Extends renaming refl->m8,drew->Ha
open Int renaming le_refl->bO,toNat_natCast->ek,lt_or_le->ic,eq_ofNat_of_zero_le->oI,le_trans->oJ,natCast_mul->ayr,natCast_add->ays
open List renaming getD->ar,map_cons->ch,mem_cons_of_mem->cx,mem_of_getElem?->cM,length_append->c8,length_cons->dj,map_nil->ec,replicate->eh,append_assoc->eG,length_nil->fe,map_append->fl,nil_append->gv,map_congr_left->gw,getElem?_eq_getElem->gF,map_map->jf,length->jg,take_append_drop->jy,length_map->jW,mem_cons->kg,mem_of_mem_take->kh,getD_eq_getElem?_getD->kH,take_of_length_le->lu,append_nil->lv,length_take->ly,getElem?_map->lV,getElem?_cons_zero->m7,mem_of_mem_drop->nS,getElem?_take->oK,getElem?_set->oL,all_eq_true->pC,getElem?_append_left->pE,cons_append->qx,length_drop->q9,eq_nil_of_length_eq_zero->ra,size_toArray->uc,getD_cons_zero->vH,getElem?_append_right->vI,map_take->zS,map_drop->zT,mem_of_find?_eq_some->zV,replicate_succ->z6,getElem?_append->CN,drop_drop->CV,mem_or_eq_of_mem_set->CY,map_id->G3,all_cons->G4,getD_cons_succ->G6,find?_some->G9,take_append_of_le_length->Hc,getElem_mem->Hf,flatten_cons->Hj,take_zero->Hk,getElem?_set_ne->SE,take_length->SF,getElem?_set_self->ac1,ext_getElem?->ads,drop_append_of_le_length->ayV
open List.cons renaming injEq->gY
open Nat renaming beq->aA,le_refl->aV,ble->bp,eq_of_beq_eq_true->bo,blt->ck,le_of_ble_eq_true->et,le_trans->gx,add_zero->kG,le_succ->kI,lt_or_ge->m6,succ_mul->qy,lt_succ_self->sy,add_mul->ue,min_eq_left->vL,pow_succ->xG,mul_comm->xH,beq_refl->CM,sub_self->Ly,mul_le_mul_right->SR,mul_le_mul->ac0,le_of_mul_le_mul_right->ay2
open Option renaming getD_some->qv,map_some->rf,isSome_none->rm
open Option.some renaming injEq->aK,inj->fQ
open Prod.mk renaming injEq->cN
open Pure renaming pure->CR
set_option linter.unusedVariables false
set_option linter.unusedSimpArgs false
namespace Go.aW
open M
structure cJ (n nb:Nat) (ρ:Env) (m:Nat->Nat) (n' jK:Nat) (ae:Env) (m':Nat->Nat):Prop where
 hn:n<=n'
 ha:agree n ρ ae
 hb:nb<=jK
 hm:∀b,b<nb->m' b=m b
theorem cJ.refl (n nb:Nat) (ρ:Env) (m:Nat->Nat):cJ n nb ρ m n nb ρ m:=⟨aV _,agree.refl _ _,aV _,λ_ _=>rfl⟩
theorem cJ.trans {n nb n1 xd n2 ZQ:Nat} {ρ ay bn:Env} {m dE m2:Nat->Nat} (h:cJ n nb ρ m n1 xd ay dE) (h':cJ n1 xd ay dE n2 ZQ bn m2):cJ n nb ρ m n2 ZQ bn m2:=
 ⟨gx h.hn h'.hn,h.ha.trans h'.ha h.hn,gx h.hb h'.hb,λb hb=>(h'.hm b (Nat.lt_of_lt_of_le hb h.hb)).trans (h.hm b hb)⟩
def dI (n:Nat) (G da:c9):Prop:=∀l,l<n->da l=G l
theorem dI.refl (n:Nat) (G:c9):dI n G G:=λ_ _=>rfl
theorem dI.trans {n n':Nat} {G da Mr:c9} (h:dI n G da) (h':dI n' da Mr) (hn:n<=n'):dI n G Mr:=λl hl=>(h' l (by omega)).trans (h l hl)
structure R (w0:cI) (n:Nat) (ρ:Env) (m:Nat->Nat) (tm:List V) (bl:List aj) (a:Act) (w:ai):Prop where
 t:dn n bl.length ρ m tm a.tmps
 d:a.defers=w0.ds
 b:bU n bl.length ρ bl
 a6:Mem w0 ρ m bl w
section
variable (S:Nat->List Int->List Int->Prop) (L:V->Env->Prop) (w0:cI)
def j0 (k:fC) (n nb:Nat) (ρ:Env) (m:Nat->Nat) (G:c9) (K:Act->ai->Prop):Prop:=∀n' ae m' bq aG da a' w',cJ n nb ρ m n' (jg aG) ae m'->dI n G da->R w0 n' ae m' bq aG a' w'->(k n' bq aG).holds S L da ae->K a' w'
def pJ (k:RK) (n nb:Nat) (ρ:Env) (m:Nat->Nat) (G:c9) (R':Ending->ai->Prop):Prop:=∀n' v aG da ae m' w' val,cJ n nb ρ m n' (jg aG) ae m'->dI n G da->V.ok n' aG.length ae v->v.rel ae m' val->bU n' aG.length ae aG->Mem w0 ae m' aG w'->(k n' v aG).holds S L da ae->R' (.returned val) w'
def lA (P:bk) (inl:ij):Prop:=∀f n vs bl k G ρ m w xs R',bU n (jg bl) ρ bl->Mem w0 ρ m bl w->(∀v∈vs,V.ok n bl.length ρ v)->db ρ m vs xs->(inl f n vs bl k).holds S L G ρ->pJ S L w0 k n bl.length ρ m G R'->(callFunc f xs.toArray).run P w= .ok (.enter f xs.toArray) w/\gZ P f xs.toArray w R'
end
section
variable {S:Nat->List Int->List Int->Prop} {L:V->Env->Prop} {w0:cI} {P:bk} {gl:dA} {cal:ed} {inl:ij}
theorem j0.later {k:fC} {n nb n1 xd:Nat} {ρ ay:Env} {m dE:Nat->Nat} {G G1:c9} {K:Act->ai->Prop} (h:j0 S L w0 k n nb ρ m G K) (hl:cJ n nb ρ m n1 xd ay dE) (hA:dI n G G1):j0 S L w0 k n1 xd ay dE G1 K:=
 λn' ae m' bq aG da a' w' h1 h2 h3 h4=>h n' ae m' bq aG da a' w' (hl.trans h1) (hA.trans h2 hl.hn) h3 h4
def fc (m:Nat->Nat) (nb g:Nat):Nat->Nat:=λb=>if b=nb then g else m b
theorem iO {m:Nat->Nat} {nb g b:Nat} (h:b<nb):fc m nb g b=m b:=by simp[fc];omega
theorem kb (m:Nat->Nat) (nb g:Nat):fc m nb g nb=g:=by simp[fc]
theorem Kz {bl:List aj} {x:aj} {i:Nat} {p:aj} (hi:(bl++[x])[i]?=some p):(i<bl.length/\bl[i]?=some p)∨(i=bl.length/\p=x):=by
 rw[CN]at hi;split at hi
 ·rename_i dv;exact .inl ⟨dv,hi⟩
 ·have:i=bl.length:=by
   have:=(List.getElem?_eq_some_iff.1 hi).1;simp at this;omega
  subst this;simp only[Ly,m7,aK]at hi;exact .inr ⟨rfl,hi.symm⟩
theorem bX.push {ρ:Env} {m:Nat->Nat} {bl:List aj} {x:aj} {g g':Nat} (h:bX w0 ρ m bl g') (hx:aS ρ x.1<=1∨g'≠g):bX w0 ρ (fc m bl.length g) (bl++[x]) g':=
 ⟨h.1,λi p hi hk=>by
  rcases Kz hi with⟨dv,h1⟩|⟨rfl,rfl⟩
  ·rw[iO dv];exact h.2 i p h1 hk
  ·rw[kb];rcases hx with hx|hx
   ·omega
   ·exactλe=>hx e.symm⟩
theorem RB {bl:List aj} {b i:Nat} {x p:aj} (hi:(cy bl b x)[i]?=some p):(i=b/\p=x/\b<bl.length)∨(i≠b/\bl[i]?=some p):=by
 rw[iN,oL]at hi;split at hi
 ·rename_i eE;subst eE;split at hi
  ·rename_i hlt;exact .inl ⟨rfl,(fQ hi).symm,hlt⟩
  ·cases hi
 ·rename_i eE;exact .inr ⟨λe=>eE e.symm,hi⟩
theorem bX.set {ρ:Env} {m:Nat->Nat} {bl:List aj} {b:Nat} {p x:aj} {g':Nat} (h:bX w0 ρ m bl g') (hbl:bl[b]?=some p) (hx:2<=aS ρ x.1->2<=aS ρ p.1):bX w0 ρ m (cy bl b x) g':=
 ⟨h.1,λi q hi hk=>by
  rcases RB hi with⟨rfl,rfl,_⟩|⟨_,h1⟩
  ·exact h.2 _ _ hbl (hx hk)
  ·exact h.2 _ _ h1 hk⟩
theorem bX.pX {ρ:Env} {m:Nat->Nat} {bl:List aj} {b:Nat} {p x:aj} {w:ai} {row:Array ax} (hbl:bl[b]?=some p) (hp:2<=aS ρ p.1):Fr (bX w0 ρ m bl) w (bX w0 ρ m (cy bl b x)) (w.setRow (m b) row):=λg' h o ho=>
 ⟨h.set hbl λ_=>hp,by rw[zY w (m b) g' _ (λe=>h.2 _ _ hbl hp (by first|exact e|exact e.symm))];exact ho⟩
theorem Mem.KV {ρ:Env} {m:Nat->Nat} {bl:List aj} {w:ai} {x:aj} {g:Nat} (h:Mem w0 ρ m bl w) (hx:aS ρ x.1<=1) (i:Nat) (sh:List av) (off code cap:U) (kind:Nat) (t:aR×Bool) (hi:bl[i]?=some ([.rows sh off code cap kind],t)):gQ w0 ρ (bX w0 ρ (fc m bl.length g) (bl++[x])) (m i) sh off code cap kind t.1 w:=
 (h.rws i sh off code cap kind t hi).mono λg' h'=>h'.push (.inl hx)
theorem Mem.abc {ρ:Env} {m:Nat->Nat} {bl:List aj} {w:ai} {x:aj} {g:Nat} (h:Mem w0 ρ m bl w) (hx:∀g',bX w0 ρ m bl g'->g'≠g) (i:Nat) (sh:List av) (off code cap:U) (kind:Nat) (t:aR×Bool) (hi:bl[i]?=some ([.rows sh off code cap kind],t)):gQ w0 ρ (bX w0 ρ (fc m bl.length g) (bl++[x])) (m i) sh off code cap kind t.1 w:=
 (h.rws i sh off code cap kind t hi).mono λg' h'=>h'.push (.inr (hx g' h'))
theorem Mem.aty {ρ:Env} {m:Nat->Nat} {bl:List aj} {w1 w:ai} {x:aj} {g:Nat} (h:Mem w0 ρ m bl w1) (he:w1.Extends w) (hg:w1.heap.size<=g) (i:Nat) (sh:List av) (off code cap:U) (kind:Nat) (t:aR×Bool) (hi:bl[i]?=some ([.rows sh off code cap kind],t)):gQ w0 ρ (bX w0 ρ (fc m bl.length g) (bl++[x])) (m i) sh off code cap kind t.1 w:=
 (h.rws i sh off code cap kind t hi).grow (λg' h' o ho=>by
   have hlt:=(Array.getElem?_eq_some_iff.1 ho).1;exact⟨h'.push (.inr (by omega)),by rw[he.block g' hlt];exact ho⟩) λhk hc=>he.block _ (h.lt hi (by simp only[iH hk hc];exact hk))
theorem Mem.push {n:Nat} {ρ:Env} {m:Nat->Nat} {bl:List aj} {w:ai} {x:aj} {g:Nat} (h:Mem w0 ρ m bl w) (hb:bU n bl.length ρ bl) (hx:∀a∈x.1,A.ok n bl.length ρ a)
 (h1:bI x.1=true->w0.b.heap.size<=g/\(w0.ex g∨w0.r.heap.size<=g)/\∃r:List ax,(x.2.2=false->r=[])/\w.heap[g]?=some (.cells (x.1.map (A.den ρ m)++r).toArray x.2.1 (0,0)))
 (h2:∀sh off code cap kind,x.1=[.rows sh off code cap kind]->gQ w0 ρ (bX w0 ρ (fc m bl.length g) (bl++[x])) g sh off code cap kind x.2.1 w)
 (h3:∀(i:Nat) (p:aj),bl[i]?=some p->m i=g->(aS ρ p.1<=1/\aS ρ x.1<=1)∨aS ρ p.1=0∨aS ρ x.1=0)
 (h4:∀(i:Nat) (sh:List av) (off code cap:U) (kind:Nat) (t:aR×Bool),bl[i]?=some ([.rows sh off code cap kind],t)->gQ w0 ρ (bX w0 ρ (fc m bl.length g) (bl++[x])) (m i) sh off code cap kind t.1 w):
 Mem w0 ρ (fc m bl.length g) (bl++[x]) w:=by
 have hold:∀(i:Nat) (p:aj),(bl++[x])[i]?=some p->(i<bl.length/\bl[i]?=some p)∨(i=bl.length/\p=x):=λi p hi=>by
  rw[CN]at hi;split at hi
  ·rename_i dv;exact .inl ⟨dv,hi⟩
  ·have:i=bl.length:=by
    have:=(List.getElem?_eq_some_iff.1 hi).1;simp at this;omega
   subst this;simp only[Ly,m7,aK]at hi;exact .inr ⟨rfl,hi.symm⟩
 refine⟨h.ext,h.jo,h.jr,h.iF,h.ew,h.gi,λi cs' t' hi ho=>?_,λi sh off code cap kind t' hi=>?_,λi j p q hi hj he=>?_⟩
 ·rcases hold i _ hi with⟨dv,hi⟩|⟨rfl,cH⟩
  ·obtain⟨g1,kP,r,hr,g2⟩:=h.blk i cs' t' hi ho;rw[iO dv];refine⟨g1,kP,r,hr,?_⟩;rw[qf (hb _ (cM hi)) (agree.refl n ρ) (λb hb=>iO hb)];exact g2
  ·subst cH;rw[kb];obtain⟨g1,kP,r,hr,g2⟩:=h1 ho;refine⟨g1,kP,r,hr,?_⟩;rw[qf hx (agree.refl n ρ) (λb hb=>iO hb)];exact g2
 ·rcases hold i _ hi with⟨dv,hi⟩|⟨rfl,cH⟩
  ·rw[iO dv];exact h4 i sh off code cap kind t' hi
  ·subst cH;rw[kb];exact h2 sh off code cap kind rfl
 ·rcases hold i p hi with⟨dv,p9⟩|⟨rfl,cH⟩<;>rcases hold j q hj with⟨OW,yI⟩|⟨rfl,n7⟩
  ·rw[iO dv,iO OW]at he;exact h.inj i j p q p9 yI he
  ·rw[iO dv,kb]at he;subst n7;exact .inr (h3 i p p9 he)
  ·rw[iO OW,kb]at he;subst cH;rcases h3 j q yI he.symm with h|h|h
   ·exact .inr (.inl ⟨h.2,h.1⟩)
   ·exact .inr (.inr (.inr h))
   ·exact .inr (.inr (.inl h))
  ·exact .inl rfl
theorem Mem.alloc {n:Nat} {ρ:Env} {m:Nat->Nat} {bl:List aj} {w:ai} {cs:List A} {t:aR} {ex:List ax} {open_:Bool} (h:Mem w0 ρ m bl w) (hb:bU n bl.length ρ bl) (hc:∀a∈cs,A.ok n bl.length ρ a) (hop:open_=false->ex=[]) (jF:bI cs=true):
 Mem w0 ρ (fc m bl.length w.heap.size) (bl++[(cs,(t,open_))]) (w.alloc (.cells (cs.map (A.den ρ m)++ex).toArray t)):=by
 refine(h.grow ((m8 w).alloc _)).push hb hc (λ_=>⟨h.ext.size,.inr h.ew,ex,hop,heap_alloc_new w _⟩) (λsh off code cap kind e=>?_) (λi p hi he=>?_) (h.aty ((m8 w).alloc _) (aV _))
 ·simp only at e;subst e;cases jF
 ·by_cases hk:aS ρ p.1=0
  ·exact .inr (.inl hk)
  ·have:=h.lt hi hk;omega
theorem Mem.put {kd:Nat} {ρ:Env} {m:Nat->Nat} {bl:List aj} {w:ai} {b:Nat} {sh:List av} {off code cap code':U} {t:aR×Bool} {cells row:Array ax} {fz:Nat×Nat} (h:Mem w0 ρ m bl w) (ft:2<=kd) (hbl:bl[b]?=some ([.rows sh off code cap kd],t)) (cv:0<=cap.den ρ)
 (hr:gQ w0 ρ (bX w0 ρ m (cy bl b ([.rows sh off code' cap kd],t))) (m b) sh off code' cap kd t.1 (w.setRow (m b) row)):Mem w0 ρ m (cy bl b ([.rows sh off code' cap kd],t)) (w.setRow (m b) row):=by
 have mL:b<bl.length:=(List.getElem?_eq_some_iff.1 hbl).1;have gK:∀c,aS ρ [.rows sh off c cap kd]=kd:=λc=>iH (by omega) cv;obtain⟨_,hl⟩:=h.rws b sh off code cap kd t hbl (by omega);obtain⟨_,cells,gq,fz,_,_,h5⟩:=hl cv;obtain⟨_,_,_,_,h1,IN⟩:=h5 ft;have c0:∀(i:Nat) (p:aj),(cy bl b ([.rows sh off code' cap kd],t))[i]?=some p->(i=b/\p=([.rows sh off code' cap kd],t))∨(i≠b/\bl[i]?=some p):=λi p hi=>by
  rw[iN,oL]at hi;split at hi
  ·rename_i eE;subst eE;simp only[mL,if_true,aK]at hi;exact .inl ⟨rfl,hi.symm⟩
  ·rename_i eE;exact .inr ⟨λe=>eE e.symm,hi⟩
 refine⟨h.ext.setRow (m b) _ h1,h.jo,h.jr,h.iF,by simp;exact h.ew,λi hi hx=>?_,λi cs' t' hi ho=>?_,λi cF dZ code' dX eZ t' hi=>?_,λi j p q hi hj he=>?_⟩
 ·rw[zY w (m b) i _ (λe=>by
   subst e;rcases IN with h3|h3
   ·exact hx h3
   ·omega)]
  exact h.gi i hi hx
 ·rcases c0 i _ hi with⟨rfl,cH⟩|⟨hne,hi⟩
  ·cases cH;cases ho
  ·obtain⟨g1,kP,g2⟩:=h.blk i cs' t' hi ho;exact⟨g1,kP,by rw[zY w (m b) (m i) _ (λe=>h.ne hbl hi (by rw[gK];exact ft) (by rw[hT ho];decide) (λe=>hne e.symm) (by first|exact e|exact e.symm))];exact g2⟩
 ·rcases c0 i _ hi with⟨rfl,cH⟩|⟨hne,hi⟩
  ·cases cH;exact hr
  ·exact(h.rws i cF dZ _ dX eZ t' hi).grow (bX.pX hbl (by rw[gK];exact ft)) λhk hc=>zY w (m b) (m i) _ (λe=>h.ne hbl hi (by rw[gK];exact ft) (by simp only[iH hk hc];exact hk) (λe=>hne e.symm) (by first|exact e|exact e.symm))
 ·have hk:∀(i:Nat) (p:aj),(cy bl b ([.rows sh off code' cap kd],t))[i]?=some p->∃p',bl[i]?=some p'/\aS ρ p'.1=aS ρ p.1:=λi p hi=>by
   rcases c0 i _ hi with⟨rfl,cH⟩|⟨hne,hi⟩
   ·exact⟨_,hbl,by rw[cH];simp only[gK]⟩
   ·exact⟨p,hi,rfl⟩
  obtain⟨p',hp,ep⟩:=hk i p hi;obtain⟨q',hq,eq⟩:=hk j q hj;rw[<-ep,<-eq];exact h.inj i j p' q' hp hq he
theorem Mem.kill {ρ:Env} {m:Nat->Nat} {bl:List aj} {w:ai} {b k:Nat} {sh:List av} {off code cap:U} {t:aR×Bool} (h:Mem w0 ρ m bl w) (hbl:bl[b]?=some ([.rows sh off code cap k],t)):Mem w0 ρ m (cy bl b ([.rows sh off code cap 0],t)) w:=by
 have mL:b<bl.length:=(List.getElem?_eq_some_iff.1 hbl).1;have c0:∀(i:Nat) (p:aj),(cy bl b ([.rows sh off code cap 0],t))[i]?=some p->(i=b/\p=([.rows sh off code cap 0],t))∨(i≠b/\bl[i]?=some p):=λi p hi=>by
  rw[iN,oL]at hi;split at hi
  ·rename_i eE;subst eE;simp only[mL,if_true,aK]at hi;exact .inl ⟨rfl,hi.symm⟩
  ·rename_i eE;exact .inr ⟨λe=>eE e.symm,hi⟩
 have fE:aS ρ [.rows sh off code cap 0]=0:=by simp[aS]
 refine⟨h.ext,h.jo,h.jr,h.iF,h.ew,h.gi,λi cs' t' hi ho=>?_,λi cF dZ code' dX eZ t' hi=>?_,λi j p q hi hj he=>?_⟩
 ·rcases c0 i _ hi with⟨rfl,cH⟩|⟨hne,hi⟩
  ·cases cH;cases ho
  ·exact h.blk i cs' t' hi ho
 ·rcases c0 i _ hi with⟨rfl,cH⟩|⟨hne,hi⟩
  ·cases cH;exactλhk=>absurd rfl hk
  ·exact(h.rws i cF dZ _ dX eZ t' hi).mono λg' h'=>h'.set hbl (by rw[fE];omega)
 ·rcases c0 i _ hi with⟨rfl,cH⟩|⟨hne,hi⟩
  ·exact .inr (.inr (.inl (by rw[cH];exact fE)))
  ·rcases c0 j _ hj with⟨rfl,n7⟩|⟨hne,hj⟩
   ·exact .inr (.inr (.inr (by rw[n7];exact fE)))
   ·exact h.inj i j p q hi hj he
theorem cJ.alloc (n:Nat) (ρ:Env) (m:Nat->Nat) (bl:List aj) (x:aj) (g:Nat):cJ n bl.length ρ m n (bl++[x]).length ρ (fc m bl.length g):=
 ⟨aV _,agree.refl _ _,by simp,λb hb=>iO hb⟩
theorem bU.alloc {n:Nat} {ρ:Env} {bl:List aj} {cs:List A} {t:aR×Bool} (hb:bU n bl.length ρ bl) (hc:∀a∈cs,A.ok n bl.length ρ a):bU n (bl++[(cs,t)]).length ρ (bl++[(cs,t)]):=by
 intro p hp a ha;rcases List.mem_append.1 hp with hp|hp
 ·exact(hb p hp a ha).ext (agree.refl n ρ) (aV _) (by simp)
 ·simp at hp;subst hp;exact(hc a ha).ext (agree.refl n ρ) (aV _) (by simp)
theorem R.alloc {n:Nat} {ρ:Env} {m:Nat->Nat} {tm:List V} {bl:List aj} {a:Act} {w:ai} {cs:List A} {t:aR} (h:R w0 n ρ m tm bl a w) (hc:∀x∈cs,A.ok n bl.length ρ x) (dst:Option Tmp) (jF:bI cs=true):
 R w0 n ρ (fc m bl.length w.heap.size) (ey tm dst (.w (.one (.ptr bl.length 0)))) (bl++[(cs,(t,false))]) (a.put dst (.pointer (some ⟨w.heap.size,0,none⟩))) (w.alloc (.cells (cs.map (A.den ρ m)).toArray t)):=by
 have hl:=cJ.alloc n ρ m bl (cs,(t,false)) w.heap.size;have lH:=h.a6.alloc (t:=t) (ex:=[]) (open_:=false) h.b hc (λ_=>rfl) jF;rw[lv]at lH;exact⟨dn.put (h.t.ext hl.ha hl.hn hl.hb hl.hm) dst (by simp[V.ok,W.ok,A.ok]) (by simp[V.rel,W.den,A.den,kb]),by rw[put_defers];exact h.d,h.b.alloc hc,lH⟩
theorem R.row {n:Nat} {ρ:Env} {m:Nat->Nat} {tm:List V} {bl:List aj} {a:Act} {w:ai} {cs:List A} {t:aR} {ex:List ax} {open_:Bool} (h:R w0 n ρ m tm bl a w) (hc:∀x∈cs,A.ok n bl.length ρ x) (hop:open_=false->ex=[]) (jF:bI cs=true) (dst:Option Tmp) {v:V} {x:ax}
 (hv:v.ok n (bl.length+1) ρ) (hx:v.rel ρ (fc m bl.length w.heap.size) x):
 R w0 n ρ (fc m bl.length w.heap.size) (ey tm dst v) (bl++[(cs,(t,open_))]) (a.put dst x) (w.alloc (.cells (cs.map (A.den ρ m)++ex).toArray t)):=by
 have hl:=cJ.alloc n ρ m bl (cs,(t,open_)) w.heap.size;exact⟨dn.put (h.t.ext hl.ha hl.hn hl.hb hl.hm) dst (by simpa using hv) hx,by rw[put_defers];exact h.d,h.b.alloc hc,h.a6.alloc h.b hc hop jF⟩
theorem Mem.storeCells {n:Nat} {ρ:Env} {m:Nat->Nat} {bl:List aj} {w:ai} {b off:Nat} {cs l:List A} {bN:aR×Bool} (h:Mem w0 ρ m bl w) (hb:bU n bl.length ρ bl) (hl:∀a∈l,A.ok n bl.length ρ a)
 (hbl:bl[b]?=some (cs,bN)) (s7:off+l.length<=cs.length) (rW:bI cs=true) (ny:bI (cs.take off++l++cs.drop (off+l.length))=true):
 ∃w',(Go.storeCells ⟨m b,off,none⟩ (l.map (A.den ρ m))).run P w= .ok () w'/\Mem w0 ρ m (cy bl b (cs.take off++l++cs.drop (off+l.length),bN)) w':=by
 obtain⟨h1,IN,r,hr,h2⟩:=h.blk b cs bN hbl rW;have hst:=run_storeCells_at P (m b) off bN.1 (l.map (A.den ρ m)) 0 (cs.map (A.den ρ m)++r).toArray w h2 (by simp;omega) (λx hx=>by
  obtain⟨a,ha,rfl⟩:=List.mem_map.1 hx;exact A.Km (hl a ha))
 have Jp:∀k,k<=cs.length->(cs.map (A.den ρ m)++r).take k=(cs.take k).map (A.den ρ m)/\(cs.map (A.den ρ m)++r).drop k=(cs.drop k).map (A.den ρ m)++r:=λk hk=>by
  refine⟨?_,?_⟩
  ·rw[Hc (by simpa using hk),zS]
  ·rw[ayV (by simpa using hk),zT]
 refine⟨w.setRow (m b) ((cs.take off++l++cs.drop (off+l.length)).map (A.den ρ m)++r).toArray,?_,?_⟩
 ·simp only[kG,jW]at hst;rw[hst]
  congr 3
  simp only[fl,eG];rw[(Jp off (by omega)).1,(Jp (off+l.length) (by omega)).2]
 ·have mL:b<bl.length:=(List.getElem?_eq_some_iff.1 hbl).1;have c0:∀(i:Nat) (p:aj),(cy bl b (cs.take off++l++cs.drop (off+l.length),bN))[i]?=some p->(i=b/\p=(cs.take off++l++cs.drop (off+l.length),bN))∨(i≠b/\bl[i]?=some p):=λi p hi=>by
   rw[iN,oL]at hi;split at hi
   ·rename_i eE;subst eE;simp only[mL,if_true,aK]at hi;exact .inl ⟨rfl,hi.symm⟩
   ·rename_i eE;exact .inr ⟨λe=>eE e.symm,hi⟩
  have gK:aS ρ cs=2:=hT rW;refine⟨h.ext.setRow (m b) _ h1,h.jo,h.jr,h.iF,by simp;exact h.ew,λi hi hx=>?_,λi cs' t' hi ho=>?_,λi sh dZ code cap kind t' hi=>?_,λi j p q hi hj he=>?_⟩
  ·rw[zY w (m b) i _ (λe=>by
    subst e;rcases IN with h3|h3
    ·exact hx h3
    ·omega)]
   exact h.gi i hi hx
  ·rcases c0 i _ hi with⟨rfl,cH⟩|⟨hne,hi⟩
   ·cases cH;exact⟨h1,IN,r,hr,Hi w (m i) _ _ _ _ h2⟩
   ·obtain⟨g1,kP,g2⟩:=h.blk i cs' t' hi ho;exact⟨g1,kP,by rw[zY w (m b) (m i) _ (λe=>h.ne hbl hi (by rw[gK];exact aV 2) (by rw[hT ho];decide) (λe=>hne e.symm) (by first|exact e|exact e.symm))];exact g2⟩
  ·rcases c0 i _ hi with⟨rfl,cH⟩|⟨hne,hi⟩
   ·have hi:=(Prod.mk.inj cH).1;rw[<-hi]at ny;cases ny
   ·exact(h.rws i sh dZ code cap kind t' hi).grow (bX.pX hbl (by rw[gK];exact aV 2)) λhk hc=>zY w (m b) (m i) _ (λe=>h.ne hbl hi (by rw[gK];exact aV 2) (by simp only[iH hk hc];exact hk) (λe=>hne e.symm) (by first|exact e|exact e.symm))
  ·have hk:∀(i:Nat) (p:aj),(cy bl b (cs.take off++l++cs.drop (off+l.length),bN))[i]?=some p->∃p',bl[i]?=some p'/\aS ρ p'.1=aS ρ p.1:=λi p hi=>by
    rcases c0 i _ hi with⟨rfl,cH⟩|⟨hne,hi⟩
    ·exact⟨_,hbl,by rw[cH];exact gK.trans (hT ny).symm⟩
    ·exact⟨p,hi,rfl⟩
   obtain⟨p',hp,ep⟩:=hk i p hi;obtain⟨q',hq,eq⟩:=hk j q hj;rw[<-ep,<-eq];exact h.inj i j p' q' hp hq he
theorem Mem.store {n:Nat} {ρ:Env} {m:Nat->Nat} {bl:List aj} {w:ai} {b off:Nat} {cs l:List A} {bN:aR×Bool} (h:Mem w0 ρ m bl w) (hb:bU n bl.length ρ bl) (hl:∀a∈l,A.ok n bl.length ρ a)
 (hbl:bl[b]?=some (cs,bN)) (s7:off+l.length<=cs.length) (mi:0<l.length) (rW:bI cs=true) (ny:bI (cs.take off++l++cs.drop (off+l.length))=true) (ty:aR) (hs:eA P ty=some l.length) (v:ax) (hv:v.cells=(l.map (A.den ρ m)).toArray):
 ∃w',(SM ty (.pointer (some ⟨m b,off,none⟩)) v).run P w= .ok () w'/\Mem w0 ρ m (cy bl b (cs.take off++l++cs.drop (off+l.length),bN)) w':=by
 obtain⟨w',hrun,uS⟩:=h.storeCells (P:=P) hb hl hbl s7 rW ny;refine⟨w',?_,uS⟩;simp only[SM,kK,gy,ie,gG,storeVar,gM hs,hv];simp only[uc,jW,ne_eq,not_true_eq_false,if_false,ie,gG];simp only[ie,gG,hrun]
theorem jN (bl:List aj) (b:Nat) (x:aj):(cy bl b x).length=bl.length:=by rw[iN];simp
theorem bU.set {n:Nat} {ρ:Env} {bl:List aj} {b:Nat} {cs:List A} {t:aR×Bool} (hb:bU n bl.length ρ bl) (hc:∀a∈cs,A.ok n bl.length ρ a):bU n (cy bl b (cs,t)).length ρ (cy bl b (cs,t)):=by
 intro p hp a ha;rw[jN];rw[iN]at hp;rcases CY hp with h|h
 ·exact hb p h a ha
 ·subst h;exact hc a ha
theorem Lt {t:aR} {cs:List A} (h:lT P t=some cs):∃i z,P.info? t=some i/\i.zero=some z/\uA z.cells.toList=some cs:=by
 unfold lT at h;cases hi:P.info? t with
 |none=>simp[hi]at h
 |some i=>
  cases hz:i.zero with
  |none=>simp[hi,hz]at h
  |some z=>simp only[hi,hz]at h;exact⟨i,z,rfl,hz,h⟩
theorem ahu {Z:Array ax} {i:Nat} (h:i<Z.size):Z[i]! =Z[i]:=by simp[h]
theorem asL {z:List A} {Z:Array ax} {n nb:Nat} {ρ:Env} {m:Nat->Nat} (hz:z.map (A.den ρ m)=Z.toList) (bg:∀a∈z,A.ok n nb ρ a) (h0:0<z.length) (len:Nat):
 (∀a∈Gf z len,A.ok n nb ρ a)/\((Gf z len).map (A.den ρ m)).toArray=(ayW (len*Z.size)).map λi=>Z[i% Z.size]! :=by
 have hl:Z.size=z.length:=by have:=congrArg jg hz;simpa using this.symm
 have hi:∀i,i% z.length<z.length:=λi=>Nat.mod_lt _ h0;refine⟨λa ha=>?_,?_⟩
 ·obtain⟨i,_,rfl⟩:=List.mem_map.1 ha;rw[gF (hi i)];exact bg _ (Hf _)
 ·apply SN;rw[vQ,ayX];simp only[Gf,jf,hl];refine gw λi _=>?_;simp only[Lw];have h1:i% z.length<Z.size:=by rw[hl];exact hi i
  rw[ahu h1,gF (hi i)];simp only[qv];have h2:=congrArg (λl=>l[i% z.length]?) hz;simp only[lV,gF (hi i),rf]at h2;rw[CQ,Lx h1]at h2;simpa using h2
theorem afw {t:aR} {len n:Nat} {ρ:Env} {m:Nat->Nat} {bl:List aj} {parts:List (Nat×V)} {vals:Array (Nat×ax)} {cs:List A} {e:aR} (h:MX P t len parts=some (cs,e)) (hr:HF n bl.length ρ m parts vals.toList):
 (∀a∈cs,A.ok n bl.length ρ a)/\∀w,(adq t len vals).run P w= .ok (.slice (some ⟨w.heap.size,0,none⟩) len len) (w.alloc (.cells (cs.map (A.den ρ m)).toArray e)):=by
 unfold MX at h;cases h1:h9 P t with
 |none=>simp[h1]at h
 |some pQ=>
  simp only[h1]at h;cases h2:eA P pQ with
  |none=>simp[h2]at h
  |some s=>
   cases h3:lT P pQ with
   |none=>simp[h2,h3]at h
   |some z=>
    simp only[h2,h3]at h;cases hc:(aA z.length s&&ck 0 s&&bp (len*s) 16777216)with
    |false=>simp[hc]at h
    |true=>
     simp only[hc,cond_true]at h;simp only[aQ]at hc;have c1:=bo hc.1.1;have c2:=uv hc.1.2;have c3:=et hc.2;cases h4:sV (λi=>some (i*s,s)) (Gf z len) parts with
     |none=>simp[h4]at h
     |some l=>
      simp only[h4,aK,cN]at h;obtain⟨rfl,rfl⟩:=h;obtain⟨inf,ug,hi,oq,iW⟩:=Lt h3;have Ec:=yh iW n bl.length ρ m;have X2:=asL (Z:=ug.cells) Ec.2 Ec.1 (by omega) len;have IZ:ug.cells.size=s:=by have:=congrArg jg Ec.2;simp at this;omega
      obtain⟨g1,g2⟩:=Iz (m:=m) h4 X2.1 hr;refine⟨g1,λw=>?_⟩;rw[X2.2,IZ]at g2;have hn:¬(16777216<len*s):=by omega
      by_cases hl0:len=0
      ·subst hl0;have g3:Instr.fill (λi=>some (i*s,s)) ((ayW (0*s)).map λi=>(#[]:Array ax)[i% (#[]:Array ax).size]!) vals.toList=some (l.map (A.den ρ m)).toArray:=by
        rw[<-g2];congr 1;simp
       simp[adq,eK (ia h1),gM h2]at g3⊢;simp[g3,newRow]
      ·have hne:¬(len*s=0):=by
        intro h0;rcases Nat.mul_eq_zero.1 h0 with h0|h0<;>omega
       have Je:¬(s=0):=by omega
       simp[adq,eK (ia h1),gM h2,hn,hne,hl0,Je,zeroValue,typeInfo,hi,oq,IZ,g2,newRow]
theorem OH {w:ai} {n:Nat} {ρ:Env} {m:Nat->Nat} {bl:List aj} {b off k:Nat} {cs:List A} (hm:Mem w0 ρ m bl w) (hb:bU n bl.length ρ bl) (h:o6 bl b off k=some cs):
 cs.length=k/\(∀a∈cs,A.ok n bl.length ρ a)/\∀j v,(cs.map (A.den ρ m))[j]?=some v->w.cell? ((⟨m b,off,none⟩:Addr).add j)=some v:=by
 unfold o6 at h;cases hbl:bl[b]? with
 |none=>simp[hbl]at h
 |some q=>
  obtain⟨C,t⟩:=q;simp only[hbl]at h;cases hc:(bp (off+k) C.length&&bI C)with
  |false=>simp[hc]at h
  |true=>
   simp only[hc,cond_true,aK]at h;simp only[aQ]at hc;have hle:=et hc.1;subst h;obtain⟨_,_,r,_,h2⟩:=hm.blk b C t hbl hc.2;refine⟨by simp;omega,λa ha=>hb _ (cM hbl) a (nS (kh ha)),λj v hj=>?_⟩;rw[iz];rw[lV,oK]at hj;split at hj
   ·rename_i hjk;rw[List.getElem?_drop]at hj;cases hq:C[off+j]? with
    |none=>simp[hq]at hj
    |some y=>
     simp only[hq,rf,aK]at hj;have hlt:off+j<C.length:=(List.getElem?_eq_some_iff.1 hq).1;simp only[jx,h2,rm,pF,if_false,List.getElem?_toArray];rw[pE (by simpa using hlt),lV,hq];simp[hj]
   ·simp at hj
theorem KG {n:Nat} {ρ:Env} {m:Nat->Nat} {tm:List V} {bl:List aj} {a:Act} {w:ai} {G:c9} {o:Oper} {K:Act->ai->Prop} {Q:Exit->Act->ai->Prop} {k:fC}
 (cp:fp S P gl w0 cal) (hg:eN gl w0) (h:R w0 n ρ m tm bl a w) (ag:(tG P cal gl bl tm o n λv n'=>k n' (ey tm o.dst v) bl).holds S L G ρ) (hk:j0 S L w0 k n bl.length ρ m G K):o.wp P a w K Q:=by
 obtain⟨ae,n',v,hn,ha,⟨hv,val,hr,hq⟩,s9⟩:=Gc (L:=L) cp h.b hg ⟨w,h.a6⟩ h.t o G _ ag;have hl:cJ n bl.length ρ m n' bl.length ae m:=⟨hn,ha,aV _,λ_ _=>rfl⟩;have hR:∀w',w.Extends w'->R w0 n' ae m (ey tm o.dst v) bl (a.put o.dst val) w':=λw' he=>
  ⟨dn.put (h.t.ext ha hn (aV _) (λ_ _=>rfl)) o.dst hv hr,by rw[put_defers];exact h.d,h.b.ext ha hn (aV _),(h.a6.grow he).dQ h.b ha⟩
 unfold m9;rcases hq w h.a6 with hq|⟨f,args,hq,hc⟩
 ·rw[hq];exact hk n' ae m _ bl G _ w hl (dI.refl _ _) (hR w (m8 w)) s9
 ·rw[hq];refine hc.mono λe lp ⟨he,hx⟩=>?_;subst he;exact hk n' ae m _ bl G _ lp hl (dI.refl _ _) (hR lp hx) s9
theorem af7 {n nb:Nat} {ρ:Env} {m:Nat->Nat} {v:V} {f:Nat} {hh:List A} {x:ax} (h:Ng v=some (f,hh)) (hv:v.ok n nb ρ) (hr:v.rel ρ m x):
 (∀y∈hh,A.ok n nb ρ y)/\x= .func (.func f) #[] (hh.map (A.den ρ m)).toArray:=by
 unfold Ng at h;split at h
 ·simp only[aK,cN]at h;obtain⟨rfl,rfl⟩:=h;exact⟨hv,hr⟩
 ·rename_i k8 a b;cases hc:(aA a.size 0&&aA b.size 0)with
  |false=>simp[hc]at h
  |true=>
   simp only[hc,cond_true,aK,cN]at h;obtain⟨rfl,rfl⟩:=h;simp only[aQ]at hc;have e1:=vS (bo hc.1);have e2:=vS (bo hc.2);subst e1;subst e2;have hr:x= .func (.func k8) #[] #[]:=hr;exact⟨λy hy=>by simp at hy,by rw[hr];rfl⟩
 ·cases h
end
end Go.aW
namespace Go.aW
open M
theorem bD.row {sh:List av} {row:List Int} (hs:kC sh=true) (h:bD sh row):Rb row:=by
 unfold kC at hs;simp only[aQ]at hs;obtain⟨⟨h0,DQ⟩,h2⟩:=hs;refine⟨by rw[h.len];exact et h0,?_⟩;have hp:=pH;have yS:=C5;clear h0 DQ;induction sh generalizing row with
 |nil=>
  cases row with
  |nil=>intro z hz;simp at hz
  |cons _ _=>exact h.elim
 |cons c sh ih=>
  cases row with
  |nil=>exact h.elim
  |cons x r=>
   simp only[G4,aQ]at h2;intro z hz;rcases List.mem_cons.1 hz with rfl|hz
   ·have h3:=h.1;cases c with
    |int k lo hi=>
     have h4:=h2.1;simp only[aQ,decide_eq_true_eq]at h4;simp only[av.dG]at h3;omega
    |str=>simp only[av.dG]at h3;omega
    |bool=>simp only[av.dG]at h3;omega
    |sub k=>simp only[av.dG]at h3;omega
    |nil=>simp only[av.dG]at h3;omega
   ·exact ih h.2 h2.2 z hz
theorem sH {sh:List av} {rows:List (List Int)} (hs:kC sh=true) (hl:rows.length<=1073741824) (h:∀row∈rows,bD sh row):rc rows<=bV:=
 nU (by unfold maxLen;omega) λrow hr=>(h row hr).row hs
theorem abI (k:Nat):hZ (my k)=true:=by
 unfold my;split<;>rfl
theorem aus {k:Nat} {row:List Int} (h:bD (my k) row):Rc row:=by
 have hp:=pH;refine⟨by rw[h.len];unfold my;split<;>decide,λz hz=>?_⟩;unfold my at h;split at h
 ·match row,h,hz with
  |[x],h,hz=>
   simp at hz;subst hz;have h1:(0:Int)<=z/\z<=255:=h.1;omega
 ·match row,h,hz with
  |[a,b,c,d,e],h,hz=>
   obtain⟨h1,h2,h3,h4,h5,_⟩:=h;have h1:(4:Int)<=a/\a<=4:=h1;have h2:(0:Int)<=b/\b<=0:=h2;have h3:(0:Int)<=c/\c<=b8:=h3;have h4:(0:Int)<=d/\d<=0:=h4;have h5:(0:Int)<=e/\e<=0:=h5;simp only[kg,List.not_mem_nil,or_false]at hz;rcases hz with rfl|rfl|rfl|rfl|rfl<;>omega
 ·match row,h,hz with
  |[x],h,hz=>
   simp at hz;subst hz;have h1:(0:Int)<=z/\z<=b8:=h.1;omega
theorem Uh {k:Nat} {rows:List (List Int)} (hl:(rows.length:Int)<=0x7fffffffffffffff) (h:∀row∈rows,bD (my k) row):rc rows<=sF:=
 Uf (by unfold maxLen;omega) λrow hr=>aus (h row hr)
theorem Rp {P:bk} (w:ai) (size:Nat) (p:Option Addr) (l c:Nat):(z1 size 0 (.slice p l c)).run P w= .ok #[] w:=by
 cases p with
 |none=>exact run_firstCells_none w size 0 l c
 |some a=>
  have:=CS (P:=P) w a ([]:List ax) (λj v hj=>by simp at hj);simpa [z1]using this
theorem Src.Z2 {P:bk} (w:ai) {size:Nat} {mZ pQ:aR} (hk:P.underlying mZ=some (.slice pQ)) (p:Option Addr) (c:Nat):Src P size mZ (.slice p 0 c) 0 [] w:=
 ⟨.inl ⟨pQ,hk⟩,λ_=>rfl,Rp w size p 0 c,Rp w.drew size p 0 c,by simp,λ_ h=>by cases h⟩
theorem afY {F:Nat->Prop} {w:ai} {c:av} {z:Int} {v:ax} (h:qI F w c z v):v.oneCell'=true:=by
 cases c with
 |sub k=>
  rcases h with⟨⟨p,rfl⟩,_⟩|⟨g,o,cap,cells,t,fz,rfl,_⟩<;>rfl
 |_=>have h:v=_:=h;rw[h];rfl
theorem aaV {F:Nat->Prop} {w:ai}:∀{sh:List av} {row:List Int} {vs:List ax},ea F w sh row vs->∀u∈vs,u.oneCell'=true
 |[],[],[],_,u,h=>by simp at h
 |c::sh,z::r,v::vs,h,u,hu=>by
  rcases List.mem_cons.1 hu with rfl|hu
  ·exact afY h.1
  ·exact aaV h.2 u hu
 |[],_::_,_,h,_,_=>h.elim
 |[],[],_::_,h,_,_=>h.elim
 |_::_,[],_,h,_,_=>h.elim
 |_::_,_::_,[],h,_,_=>h.elim
theorem aa3 {F:Nat->Prop} {w:ai} {sh:List av}:∀{rows:List (List Int)} {vs:List ax},eF F w sh rows vs->∀u∈vs,u.oneCell'=true
 |[],vs,h,u,hu=>by
  have h:vs=[]:=h;subst h;simp at hu
 |row::rows,vs,h,u,hu=>by
  obtain⟨a,b,rfl,h2,h3⟩:=h;rcases List.mem_append.1 hu with hu|hu
  ·exact aaV h2 u hu
  ·exact aa3 h3 u hu
theorem av.val_one (c:av) (z:Int):(c.val z).oneCell'=true:=by cases c<;>rfl
theorem aaX:∀{sh:List av} {row:List Int},∀u∈dm sh row,u.oneCell'=true
 |[],_,u,h=>by simp[dm]at h
 |_::_,[],u,h=>by simp[dm]at h
 |c::sh,z::r,u,h=>by
  simp only[dm,kg]at h;rcases h with rfl|h
  ·exact av.val_one c z
  ·exact aaX u h
theorem IE {sh:List av} {rows:List (List Int)}:∀u∈cG sh rows,u.oneCell'=true:=λu h=>by
 obtain⟨row,_,h⟩:=List.mem_flatMap.1 h;exact aaX u h
theorem pL.flat {cells:Array ax} {off:Nat} {sh:List av} {rows:List (List Int)} (h:pL cells off sh rows) {j:Nat} {v:ax} (hj:(cG sh rows)[j]?=some v):cells[off+j]?=some v:=by
 obtain⟨h1,pre,post,h2,h3⟩:=h;have hlt:=(List.getElem?_eq_some_iff.1 hj).1;rw[<-CQ,h2,eG,vI (by omega),pE (by omega)];rw[show off+j-pre.length=j by omega];exact hj
theorem pL.sub {cells:Array ax} {off:Nat} {sh:List av} {rows:List (List Int)} (h:pL cells off sh rows) (a k:Nat) (ha:a<=rows.length):pL cells (off+a*sh.length) sh ((rows.drop a).take k):=by
 obtain⟨h1,pre,post,h2,h3⟩:=h;refine⟨λrow hr=>h1 row (nS (kh hr)),pre++cG sh (rows.take a),cG sh ((rows.drop a).drop k)++post,?_,?_⟩
 ·rw[h2];have:rows=rows.take a++((rows.drop a).take k++(rows.drop a).drop k):=by rw[jy,jy]
  conv=>lhs;rw[this]
  simp only[uE,eG]
 ·rw[c8,h3,pW λrow hr=>h1 row (kh hr),ly,vL ha]
theorem iy.sub {F:Nat->Prop} {w:ai} {cells:Array ax} {off:Nat} {sh:List av} {rows:List (List Int)} (h:iy F w cells off sh rows) (a k:Nat) (ha:a<=rows.length):iy F w cells (off+a*sh.length) sh ((rows.drop a).take k):=by
 obtain⟨h1,pre,vs,post,h2,h3,h4⟩:=h;obtain⟨k1,k2⟩:=h4.split a;obtain⟨k3,k4⟩:=k2.split k;refine⟨λrow hr=>h1 row (nS (kh hr)),pre++vs.take (a*sh.length),_,(vs.drop (a*sh.length)).drop (k*sh.length)++post,?_,?_,k3⟩
 ·rw[h2];have:vs=vs.take (a*sh.length)++((vs.drop (a*sh.length)).take (k*sh.length)++(vs.drop (a*sh.length)).drop (k*sh.length)):=by rw[jy,jy]
  conv=>lhs;rw[this]
  simp only[eG]
 ·have:=k1.len;rw[c8,h3,this,ly,vL ha]
theorem iy.vs {F:Nat->Prop} {w:ai} {cells:Array ax} {off:Nat} {sh:List av} {rows:List (List Int)} (h:iy F w cells off sh rows):∃vs,eF F w sh rows vs/\∀(j:Nat) (v:ax),vs[j]?=some v->cells[off+j]?=some v:=by
 obtain⟨h1,pre,vs,post,h2,h3,h4⟩:=h;refine⟨vs,h4,λj v hj=>?_⟩;have hlt:=(List.getElem?_eq_some_iff.1 hj).1;rw[<-CQ,h2,eG,vI (by omega),pE (by omega)];rw[show off+j-pre.length=j by omega];exact hj
section
variable {S:Nat->List Int->List Int->Prop} {L:V->Env->Prop} {n:Nat} {ρ:Env} {m:Nat->Nat} {bl:List aj} {gl:dA} {w0:cI} {P:bk}
theorem JH {e:bf}:ao S L (y7 e) n ρ λae n' l=>l.aY n'/\(0<=l.den ae/\l.den ae<=1)/\e.den ρ=decide (l.den ae=1):=by
 intro A k hk;cases h:e.den ρ with
 |true=>exact⟨_,n+1,_,kI _,agree.cR _ _ _,⟨U.er (sy n),by simp[U.cj,jQ],by simp[U.cj,jQ]⟩,hk 1 (by decide) (by decide) (by simp[h])⟩
 |false=>exact⟨_,n+1,_,kI _,agree.cR _ _ _,⟨U.er (sy n),by simp[U.cj,jQ],by simp[U.cj,jQ]⟩,hk 0 (by decide) (by decide) (by simp[h])⟩
theorem Dt {nb:Nat} {c:av} {a:A} (ha:a.ok n nb ρ):ao S L (Ia c a) n ρ λae n' l=>l.aY n'/\(c.dG.1<=l.den ae/\l.den ae<=c.dG.2)/\c.val (l.den ae)=a.den ρ m:=by
 unfold Ia;split
 ·refine dR λhc=>ao.pure ?_;simp only[aQ,decide_eq_true_eq]at hc;obtain⟨⟨h1,h2⟩,h3⟩:=hc;have h4:=ha.2;refine⟨ha.1,⟨?_,?_⟩,?_⟩
  ·simp only[av.dG];omega
  ·simp only[av.dG];omega
  ·simp only[av.val,A.den,h1]
 ·exact ao.pure ⟨ha.1,ha.2,rfl⟩
 ·split
  ·rename_i v;refine ao.pure ⟨U.cr _ _,?_,?_⟩
   ·simp only[av.dG,U.aO];cases v<;>decide
   ·simp only[av.val,A.den,bf.den,U.aO];cases v<;>rfl
  ·rename_i e _;exact JH.mono λae n' l _ _ ⟨h1,h2,h3⟩=>⟨h1,h2,by simp only[av.val,A.den,h3]⟩
 ·exact ao.pure ⟨U.cr _ _,⟨by rw[U.aO];exact bO _,by rw[U.aO];exact bO _⟩,rfl⟩
 ·exact ao.fail
theorem KO {nb:Nat}:∀{sh:List av} {l:List A} {n:Nat} {ρ:Env},(∀a∈l,A.ok n nb ρ a)->ao S L (Gl sh l) n ρ λae n' ls=>(∀x∈ls,U.aY n' x)/\bD sh (ls.map (·.den ae))/\dm sh (ls.map (·.den ae))=l.map (A.den ρ m)
 |[],[],n,ρ,_=>ao.pure ⟨λ_ h=>by simp at h,trivial,rfl⟩
 |c::sh,a::r,n,ρ,h=>by
  have h0:=h a (by simp);refine(Dt (m:=m) h0).bind λay n1 x hn ha ⟨g1,g2,g3⟩=>(KO (nb:=nb) (sh:=sh) (l:=r) λb hb=>(h b (cx _ hb)).ext ha hn (aV _)).bind λbn n2 ls dY cU ⟨k1,k2,k3⟩=>ao.pure ⟨λy hy=>?_,?_,?_⟩
  ·rcases List.mem_cons.1 hy with rfl|hy
   ·exact g1.mono dY
   ·exact k1 y hy
  ·simp only[ch];exact⟨by rw[U.bw cU g1];exact g2,k2⟩
  ·simp only[ch,dm,U.bw cU g1,g3,k3];rw[qf (λb hb=>h b (cx _ hb)) ha (λ_ _=>rfl)]
 |[],_::_,_,_,_=>ao.fail
 |_::_,[],_,_,_=>ao.fail
theorem Az {w:Nat}:∀{k:Nat} {l:List A},l.length=k*w->(k6 w k l).length=k/\(k6 w k l).flatten=l
 |0,l,h=>by
  have:l=[]:=ra (by omega);subst this;exact⟨rfl,rfl⟩
 |k+1,l,h=>by
  rw[qy]at h;have ih:=Az (w:=w) (k:=k) (l:=l.drop w) (by simp;omega);exact⟨by simp[k6,ih.1],by simp[k6,ih.2]⟩
theorem AA {w:Nat}:∀{k:Nat} {l:List A},∀row∈k6 w k l,∀a∈row,a∈l
 |0,l,row,h,a,ha=>by simp[k6]at h
 |k+1,l,row,h,a,ha=>by
  simp only[k6,kg]at h;rcases h with rfl|h
  ·exact kh ha
  ·exact nS (AA row h a ha)
theorem HR {nb:Nat} {sh:List av} (iq:kC sh=true):∀{rs:List (List A)} {n:Nat} {ρ:Env} {c:U},(∀row∈rs,∀a∈row,A.ok n nb ρ a)->c.aY n->(0<=c.den ρ/\c.den ρ<=bV)->(∀row∈ab (c.den ρ),bD sh row)->(ab (c.den ρ)).length+rs.length<=1073741824->
 ao S L (x7 sh rs c) n ρ λae n' c'=>c'.aY n'/\(0<=c'.den ae/\c'.den ae<=bV)/\∃dw,ab (c'.den ae)=ab (c.den ρ)++dw/\dw.length=rs.length/\(∀row∈dw,bD sh row)/\cG sh dw=rs.flatten.map (A.den ρ m)
 |[],n,ρ,c,_,h1,h2,_,_=>ao.pure ⟨h1,h2,[],by simp,rfl,λ_ h=>by simp at h,rfl⟩
 |row::rs,n,ρ,c,h0,h1,h2,h3,h4=>by
  refine(KO (nb:=nb) (m:=m) (sh:=sh) (l:=row) (h0 row (by simp))).bind λay n1 ls hn ha ⟨g1,g2,g3⟩=>?_;have e1:c.den ay=c.den ρ:=U.bw ha h1;have hf:aB 23 ((c::ls).map (·.den ay))=rc (ab (c.den ρ)++[ls.map (·.den ay)]):=by
   simp only[ch,aB,e1]
  simp only[dj]at h4;have nB:∀r∈ab (c.den ρ)++[ls.map (·.den ay)],bD sh r:=λr hr=>by
   rcases List.mem_append.1 hr with hr|hr
   ·exact h3 r hr
   ·simp at hr;subst hr;exact g2
  have hb:rc (ab (c.den ρ)++[ls.map (·.den ay)])<=bV:=sH iq (by simp;omega) nB;refine(fY (by rw[hf];exact eJ _) (by rw[hf];exact hb)).bind λbn n2 c' dY cU ⟨k1,k2⟩=>?_;rw[hf]at k2;have e2:ab (c'.den bn)=ab (c.den ρ)++[ls.map (·.den ay)]:=by rw[k2,di]
  have hA:=ha.trans cU hn;refine(HR (nb:=nb) (rs:=rs) (c:=c') iq (λr hr a rN=>(h0 r (cx _ hr) a rN).ext hA (gx hn dY) (aV _)) k1 (by rw[k2];exact⟨eJ _,hb⟩) (by rw[e2];exact nB) (by rw[e2];simp;omega)).mono λeM n3 c3 rV p3 ⟨p1,aJ,dw,bb,b7,dD,eo⟩=>⟨p1,aJ,ls.map (·.den ay)::dw,?_,by simp[b7],λr hr=>?_,?_⟩
  ·rw[bb,e2];simp
  ·rcases List.mem_cons.1 hr with rfl|hr
   ·exact g2
   ·exact dD r hr
  ·show dm sh (ls.map (·.den ay))++cG sh dw=_;rw[eo,g3,Hj,fl]
   congr 1
   refine gw λa AX=>A.j1 (n:=n) (nb:=nb) ?_ hA (λ_ _=>rfl);obtain⟨r,hr,rN⟩:=List.mem_flatten.1 AX;exact h0 r (cx _ hr) a rN
theorem bX.dQ {n nb:Nat} {ρ ae:Env} {m:Nat->Nat} {bl:List aj} (hb:bU n nb ρ bl) (ha:agree n ρ ae) {g:Nat} (h:bX w0 ρ m bl g):bX w0 ae m bl g:=
 bX.mono (λi p hi hk=>⟨i,p,hi,by rw[mn (hb _ (cM hi)) ha]at hk;exact hk,rfl⟩) g h
theorem bX.KK {n nb:Nat} {ρ ae:Env} {m:Nat->Nat} {bl:List aj} (hb:bU n nb ρ bl) (ha:agree n ρ ae) {g:Nat} (h:bX w0 ae m bl g):bX w0 ρ m bl g:=
 bX.mono (λi p hi hk=>⟨i,p,hi,by rw[mn (hb _ (cM hi)) ha];exact hk,rfl⟩) g h
theorem Mem.aoQ {w:ai} (h:Mem w0 ρ m bl w) {b:Nat} {sh:List av} {off code cap:U} {t:aR×Bool} (hbl:bl[b]?=some ([.rows sh off code cap 1],t)) (hc:0<=cap.den ρ):bX w0 ρ m bl (m b):=by
 obtain⟨g1,_⟩:=(h.rws b sh off code cap 1 t hbl (by decide)).2 hc;refine⟨g1,λi p hi hk he=>?_⟩;have gK:aS ρ [A.rows sh off code cap 1]=1:=iH (by decide) hc;rcases h.inj i b p _ hi hbl he with h1|h1|h1|h1
 ·subst h1;rw[hbl]at hi;cases hi;simp only[gK]at hk;omega
 ·omega
 ·omega
 ·simp only[gK]at h1;omega
theorem afL {cap cO:U} {α:Type} {x:M α} {R:Env->Nat->α->Prop} (h:(0<=cap.den ρ->0<=cO.den ρ)->ao S L x n ρ R):ao S L (bind (Au cap cO) λ_=>x) n ρ R:=by
 unfold Au;cases hc:U.beq cap cO with
 |true=>
  have:=U.beq_eq hc;subst this;exact h λh=>h
 |false=>exact fX λhk=>h hk
theorem afX {w:ai} (hb:bU n bl.length ρ bl) (hw:Mem w0 ρ m bl w) {c:av} {a:A} (ha:a.ok n bl.length ρ):ao S L (M7 bl c a) n ρ λae n' l=>l.aY n'/\(c.dG.1<=l.den ae/\l.den ae<=c.dG.2)/\qI (bX w0 ρ m bl) w c (l.den ae) (a.den ρ m):=by
 cases c with
 |sub k=>
  unfold M7;simp only;split
  ·rename_i b aL o ro len cap;split
   ·rename_i sh off code cO kind t hbl;refine dR λhc=>fX λhk=>fX λXK=>afL λA1=>?_;have XK:len.den ρ<=0x7ffffffff000:=by have h:len.den ρ<=(U.const 0x7ffffffff000).den ρ:=XK;rwa [U.aO]at h
    simp only[aQ]at hc;obtain⟨⟨⟨c1,c2⟩,c3⟩,c4⟩:=hc;have c1:=bo c1;have c2:=pt c2;have c3:=U.beq_eq c3;have c4:=bo c4
    subst c1;subst c2;subst c3;subst c4;have hk:0<=ro.den ρ/\ro.den ρ<=(ro.add len).den ρ/\(ro.add len).den ρ<=(ab (code.den ρ)).length:=hk;rw[U.den_add]at hk;obtain⟨ptr,e1,e2,e3⟩:=oA (m:=m) ha;obtain⟨x1,⟨x2,x3,bL,gg⟩,⟨je,oH,lq,nN⟩,⟨oF,oG⟩,fH,gW⟩:=ha;have gU:=hw.rws b _ o code cO 1 t hbl (by decide);have hO:∀row∈ab (code.den ρ),bD (my k) row:=λrow hr=>by
     rcases ic (cO.den ρ) 0 with h|h
     ·rw[gU.1 h]at hr;simp at hr
     ·obtain⟨_,cells,gq,fz,_,⟨_,g3⟩,_⟩:=gU.2 h;exact g3.1 row hr
    have Bl:∀row∈(((ab (code.den ρ)).drop (ro.den ρ).toNat).take (len.den ρ).toNat),bD (my k) row:=λrow hr=>hO row (nS (kh hr));have hlen:(((ab (code.den ρ)).drop (ro.den ρ).toNat).take (len.den ρ).toNat).length=(len.den ρ).toNat:=by simp;omega
    have p7:aB 22 ([code,ro,ro.add len].map (·.den ρ))=rc (((ab (code.den ρ)).drop (ro.den ρ).toNat).take (len.den ρ).toNat):=by
     simp only[ch,ec,aB,U.den_add];have:(ro.den ρ+len.den ρ).toNat-(ro.den ρ).toNat=(len.den ρ).toNat:=by omega
     rw[this]
    have dL:rc (((ab (code.den ρ)).drop (ro.den ρ).toNat).take (len.den ρ).toNat)<=sF:=Uh (k:=k) (by rw[hlen];omega) Bl;refine(fY (by rw[p7];exact eJ _) (by rw[p7];exact dL)).mono λay n1 l eY dz ⟨g1,g2⟩=>⟨g1,?_,?_⟩
    ·rw[g2,p7];exact⟨eJ _,dL⟩
    ·rw[g2,p7];show ry _ _ _ (ab (rc _)) _;rw[di,e1];by_cases cv:cap.den ρ<0
     ·have h0:=fH cv;rw[e2 cv,if_pos cv,h0];exact .inl ⟨⟨_,rfl⟩,by simp⟩
     ·have nt:=A1 (by omega);obtain⟨_,cells,gq,fz,q1,⟨q2,q3⟩,_⟩:=gU.2 nt;have fr:=gW (by omega);rw[e3 (by omega),if_neg cv];exact .inr ⟨m b,_,(cap.den ρ).toNat,cells,gq,fz,by rw[hlen],⟨by rw[hlen];omega,by omega,by rw[hlen];omega⟩,hw.aoQ hbl nt,q1,((k0 (abI k)).1 q3).sub _ _ (by omega)⟩
   ·exact ao.fail
  ·exact ao.pure ⟨U.cr _ _,by simp only[av.dG,U.aO];exact⟨bO _,C5⟩,.inl ⟨⟨_,rfl⟩,by rw[U.aO];exact di []⟩⟩
  ·exact ao.pure ⟨U.cr _ _,by simp only[av.dG,U.aO];exact⟨bO _,C5⟩,.inl ⟨⟨_,rfl⟩,by rw[U.aO];exact di []⟩⟩
  ·exact ao.fail
 |int k lo hi=>exact(Dt (m:=m) ha).mono λ_ _ _ _ _ ⟨h1,h2,h3⟩=>⟨h1,h2,h3.symm⟩
 |str=>exact(Dt (m:=m) ha).mono λ_ _ _ _ _ ⟨h1,h2,h3⟩=>⟨h1,h2,h3.symm⟩
 |bool=>exact(Dt (m:=m) ha).mono λ_ _ _ _ _ ⟨h1,h2,h3⟩=>⟨h1,h2,h3.symm⟩
 |nil=>exact(Dt (m:=m) ha).mono λ_ _ _ _ _ ⟨h1,h2,h3⟩=>⟨h1,h2,h3.symm⟩
theorem Ra {w:ai}:∀{sh:List av} {l:List A} {n:Nat} {ρ:Env},bU n bl.length ρ bl->Mem w0 ρ m bl w->(∀a∈l,A.ok n bl.length ρ a)->ao S L (Gm bl sh l) n ρ λae n' ls=>(∀x∈ls,U.aY n' x)/\bD sh (ls.map (·.den ae))/\ea (bX w0 ρ m bl) w sh (ls.map (·.den ae)) (l.map (A.den ρ m))
 |[],[],n,ρ,_,_,_=>ao.pure ⟨λ_ h=>by simp at h,trivial,trivial⟩
 |c::sh,a::r,n,ρ,hb,hw,h=>by
  have h0:=h a (by simp);refine(afX hb hw h0).bind λay n1 x hn ha ⟨g1,g2,g3⟩=>(Ra (sh:=sh) (l:=r) (hb.ext ha hn (aV _)) (hw.dQ hb ha) λb hb'=>(h b (cx _ hb')).ext ha hn (aV _)).bind λbn n2 ls dY cU ⟨k1,k2,k3⟩=>ao.pure ⟨λy hy=>?_,?_,?_⟩
  ·rcases List.mem_cons.1 hy with rfl|hy
   ·exact g1.mono dY
   ·exact k1 y hy
  ·simp only[ch];exact⟨by rw[U.bw cU g1];exact g2,k2⟩
  ·simp only[ch,U.bw cU g1];refine⟨g3,?_⟩;rw[<-qf (m:=m) (λb hb'=>h b (cx _ hb')) ha (λ_ _=>rfl)];exact k3.mono (Fr.of w λg hg=>bX.KK hb ha hg)
 |[],_::_,_,_,_,_,_=>ao.fail
 |_::_,[],_,_,_,_,_=>ao.fail
theorem MO {w:ai} {sh:List av} (iq:kC sh=true):∀{rs:List (List A)} {n:Nat} {ρ:Env} {c:U},bU n bl.length ρ bl->Mem w0 ρ m bl w->(∀row∈rs,∀a∈row,A.ok n bl.length ρ a)->c.aY n->(0<=c.den ρ/\c.den ρ<=bV)->(∀row∈ab (c.den ρ),bD sh row)->(ab (c.den ρ)).length+rs.length<=1073741824->
 ao S L (HS bl sh rs c) n ρ λae n' c'=>c'.aY n'/\(0<=c'.den ae/\c'.den ae<=bV)/\∃dw,ab (c'.den ae)=ab (c.den ρ)++dw/\dw.length=rs.length/\(∀row∈dw,bD sh row)/\eF (bX w0 ρ m bl) w sh dw (rs.flatten.map (A.den ρ m))
 |[],n,ρ,c,_,_,_,h1,h2,_,_=>ao.pure ⟨h1,h2,[],by simp,rfl,λ_ h=>by simp at h,rfl⟩
 |row::rs,n,ρ,c,hb,hw,h0,h1,h2,h3,h4=>by
  refine(Ra (sh:=sh) (l:=row) hb hw (h0 row (by simp))).bind λay n1 ls hn ha ⟨g1,g2,g3⟩=>?_;have e1:c.den ay=c.den ρ:=U.bw ha h1;have hf:aB 23 ((c::ls).map (·.den ay))=rc (ab (c.den ρ)++[ls.map (·.den ay)]):=by
   simp only[ch,aB,e1]
  simp only[dj]at h4;have nB:∀r∈ab (c.den ρ)++[ls.map (·.den ay)],bD sh r:=λr hr=>by
   rcases List.mem_append.1 hr with hr|hr
   ·exact h3 r hr
   ·simp at hr;subst hr;exact g2
  have hb':rc (ab (c.den ρ)++[ls.map (·.den ay)])<=bV:=sH iq (by simp;omega) nB;refine(fY (by rw[hf];exact eJ _) (by rw[hf];exact hb')).bind λbn n2 c' dY cU ⟨k1,k2⟩=>?_;rw[hf]at k2;have e2:ab (c'.den bn)=ab (c.den ρ)++[ls.map (·.den ay)]:=by rw[k2,di]
  have hA:=ha.trans cU hn;refine(MO (rs:=rs) (c:=c') iq (hb.ext hA (gx hn dY) (aV _)) (hw.dQ hb hA) (λr hr a rN=>(h0 r (cx _ hr) a rN).ext hA (gx hn dY) (aV _)) k1 (by rw[k2];exact⟨eJ _,hb'⟩) (by rw[e2];exact nB) (by rw[e2];simp;omega)).mono λeM n3 c3 rV p3 ⟨p1,aJ,dw,bb,b7,dD,eo⟩=>⟨p1,aJ,ls.map (·.den ay)::dw,?_,by simp[b7],λr hr=>?_,?_⟩
  ·rw[bb,e2];simp
  ·rcases List.mem_cons.1 hr with rfl|hr
   ·exact g2
   ·exact dD r hr
  ·refine⟨row.map (A.den ρ m),rs.flatten.map (A.den ρ m),by rw[Hj,fl],g3,?_⟩;rw[<-qf (m:=m) (n:=n) (nb:=bl.length) (λa AX=>by
    obtain⟨r,hr,rN⟩:=List.mem_flatten.1 AX;exact h0 r (cx _ hr) a rN) hA (λ_ _=>rfl)]
   exact eo.mono (Fr.of w λg hg=>bX.KK hb hA hg)
def aeE (P:bk) (mZ:aR) (sh:List av) (X:ax) (F:Nat->Prop) (w:ai) (old:List (List Int)) (ae:Env) (n':Nat) (p:U×U):Prop:=p.1.aY n'/\p.2.aY n'/\(0<=p.1.den ae/\p.1.den ae<=bV)/\∃dw fy,ab (p.1.den ae)=old++dw/\p.2.den ae=dw.length/\(∀row∈dw,bD sh row)/\old.length+dw.length<=1073741824/\eF F w sh dw fy/\Src P sh.length mZ X dw.length fy w
theorem abD {sh:List av} (iq:kC sh=true) {w:ai} (hb:bU n bl.length ρ bl) (hw:Mem w0 ρ m bl w) {mZ:aR} {x:V} {X:ax} (hx:x.ok n bl.length ρ) (hX:x.rel ρ m X) {base:U} (qK:base.aY n)
 (rO:0<=base.den ρ/\base.den ρ<=bV) (s4:∀row∈ab (base.den ρ),bD sh row):ao S L (K7 P mZ sh bl x base) n ρ (aeE P mZ sh X (bX w0 ρ m bl) w (ab (base.den ρ))):=by
 unfold K7;split
 ·rename_i b off len cap;split
  ·rename_i cs pQ hcs Jt;obtain⟨c1,c2,c3⟩:=OH hw hb hcs;refine fX λhk=>?_;simp only[ch,ec,ah,U.aO]at hk;have iV:=Az (w:=sh.length) (k:=len) c1;refine(MO iq (rs:=k6 sh.length len cs) (c:=base) hb hw (λrow hr a ha=>c2 a (AA row hr a ha)) qK rO s4 (by rw[iV.1];omega)).bind λay n1 c' hn ha ⟨p1,aJ,dw,bb,b7,dD,eo⟩=>ao.pure ⟨p1,U.cr _ _,aJ,dw,_,bb,?_,dD,by rw[b7,iV.1];omega,eo,?_⟩
   ·rw[U.aO,b7,iV.1]
   ·have hX:X= .slice (some ⟨m b,off,none⟩) len cap:=hX;rw[hX,iV.2,b7,iV.1];exact Src.ofSlice w (ia Jt) _ _ _ _ (by simpa using c1) c3 (λu hu=>by
     obtain⟨a,ha,rfl⟩:=List.mem_map.1 hu;exact A.Km (c2 a ha))
  ·exact ao.fail
 ·rename_i b aL o ro len cap;split
  ·rename_i cF off code cO kind bN pQ hbl Jt;refine dR λhc=>fX λiE=>fX λhk2=>?_;simp only[aQ]at hc;obtain⟨⟨⟨c1,c2⟩,c3⟩,c4⟩:=hc;have c1:0<kind:=et c1;have c2:=pt c2;have c3:=U.beq_eq c3;have c4:=bo c4;subst c2;subst c3;subst c4;simp only[ch,ec,ah,U.den_add]at iE hk2;have om:(A.sl b sh.length o ro len cap).ok n bl.length ρ:=hx;obtain⟨ptr,e1,e2,e3⟩:=oA (m:=m) om;have hX:X=(A.sl b sh.length o ro len cap).den ρ m:=hX;rw[e1]at hX;obtain⟨x1,⟨x2,x3,bL,gg⟩,⟨je,oH,lq,nN⟩,⟨oF,oG⟩,fH,gW⟩:=om;have gU:=hw.rws b sh o code cO kind bN hbl (by omega);have hO:∀row∈ab (code.den ρ),bD sh row:=λrow hr=>by
    rcases ic (cO.den ρ) 0 with h|h
    ·rw[gU.1 h]at hr;simp at hr
    ·obtain⟨_,cells,gq,fz,_,⟨_,g3⟩,_⟩:=gU.2 h;exact g3.1 row hr
   have Bl:∀row∈(((ab (code.den ρ)).drop (ro.den ρ).toNat).take (len.den ρ).toNat),bD sh row:=λrow hr=>hO row (nS (kh hr));have hlen:(((ab (code.den ρ)).drop (ro.den ρ).toNat).take (len.den ρ).toNat).length=(len.den ρ).toNat:=by simp;omega
   have p7:aB 22 ([code,ro,ro.add len].map (·.den ρ))=rc (((ab (code.den ρ)).drop (ro.den ρ).toNat).take (len.den ρ).toNat):=by
    simp only[ch,ec,aB,U.den_add];have:(ro.den ρ+len.den ρ).toNat-(ro.den ρ).toNat=(len.den ρ).toNat:=by omega
    rw[this]
   have IX:∃fy,eF (bX w0 ρ m bl) w sh (((ab (code.den ρ)).drop (ro.den ρ).toNat).take (len.den ρ).toNat) fy/\Src P sh.length mZ X (((ab (code.den ρ)).drop (ro.den ρ).toNat).take (len.den ρ).toNat).length fy w:=by
    rw[hX];by_cases cv:cap.den ρ<0
    ·have h0:=fH cv;rw[e2 cv,if_pos cv,h0];simp only[Int.toNat_zero,Hk];exact⟨[],rfl,Src.Z2 w (ia Jt) _ 0⟩
    ·rw[e3 (by omega),if_neg cv];have hv:∃fy,eF (bX w0 ρ m bl) w sh (((ab (code.den ρ)).drop (ro.den ρ).toNat).take (len.den ρ).toNat) fy/\∀(j:Nat) (u:ax),fy[j]?=some u->w.cell? ⟨m b,(o.den ρ).toNat+(ro.den ρ).toNat*sh.length+j,none⟩=some u:=by
      rcases ic (cO.den ρ) 0 with h|h
      ·rw[gU.1 h];exact⟨[],by simp[eF],λj u hu=>by simp at hu⟩
      ·obtain⟨_,cells,gq,fz,g1,⟨_,g3⟩,_⟩:=gU.2 h;obtain⟨fy,k1,k2⟩:=(g3.sub (ro.den ρ).toNat (len.den ρ).toNat (by omega)).vs;refine⟨fy,k1,λj u hu=>?_⟩;simp only[jx,g1,rm,pF,if_false];exact k2 j u hu
     obtain⟨fy,k1,k2⟩:=hv;refine⟨fy,k1,?_⟩;have hl2:=k1.len;rw[hlen]at hl2⊢;refine Src.ofSlice w (ia Jt) _ _ _ _ hl2 (λj u hu=>?_) (aa3 k1);rw[iz];exact k2 j u hu
   obtain⟨fy,Yi,IX⟩:=IX;generalize Ba:(((ab (code.den ρ)).drop (ro.den ρ).toNat).take (len.den ρ).toNat)=mid at Bl hlen p7 IX Yi;have hb1:rc mid<=bV:=sH iq (by omega) Bl;refine(fY (by rw[p7];exact eJ _) (by rw[p7];exact hb1)).bind λay n1 s eY dz ⟨g1,g2⟩=>?_;rw[p7]at g2;have oY:base.den ay=base.den ρ:=U.bw dz qK;have ko:aB 24 ([base,s].map (·.den ay))=rc (ab (base.den ρ)++mid):=by
    simp only[ch,ec,aB,oY,g2,di]
   have hall:∀row∈ab (base.den ρ)++mid,bD sh row:=λrow hr=>(List.mem_append.1 hr).elim (s4 row) (Bl row);have hb2:rc (ab (base.den ρ)++mid)<=bV:=sH iq (by simp;omega) hall;refine(fY (by rw[ko];exact eJ _) (by rw[ko];exact hb2)).bind λbn n2 c dY cU ⟨k1,k2⟩=>ao.pure ⟨k1,bL.mono (gx eY dY),?_,mid,fy,?_,?_,Bl,by omega,Yi,IX⟩
   ·rw[k2,ko];exact⟨eJ _,hb2⟩
   ·rw[k2,ko,di]
   ·rw[U.bw (dz.trans cU eY) bL,hlen];omega
  ·exact ao.fail
 ·exact ao.fail
theorem Rn (w:ai) (t mZ ty e:aR) (i:TypeInfo) (ht:P.underlying t=some (.slice e)) (hi:P.info? e=some i) (g kT vu:Nat) (cur:Array ax) (pS:aR) (hg:w.heap[g]?=some (.cells cur pS (0,0))) (x:ax) (k:Nat) (news:List ax) (hs:Src P i.size mZ x k news w)
 (hroom:kT+k<=vu) (s7:kT*i.size+news.length<=cur.size):
 (SQ #[t,mZ] ty #[.slice (some ⟨g,0,none⟩) kT vu,x]).run P w= .ok (.slice (some ⟨g,0,none⟩) (kT+k) vu) (w.setRow g (cur.toList.take (kT*i.size)++news++cur.toList.drop (kT*i.size+news.length)).toArray):=by
 have hst:=run_storeCells_at P g (kT*i.size) pS news 0 cur w hg (by simpa using s7) hs.one;simp only[kG]at hst;rcases hs.kind with⟨pQ,hk⟩|hk<;>simp[SQ,eK ht,eK hk,sizeOf,typeInfo,hi,hs.len,hroom,hs.cells,Addr.add_lit,hst]
theorem CH (Z:Array ax) (k:Nat):(Hl Z k).size=k*Z.size:=by simp[Hl]
theorem yo (w:ai) (BU old:Nat) (e:aR) (h:BU<=1073741824):BU<=grownCap w BU old e/\grownCap w BU old e<=0x7fffffffffffffff:=by
 have hlt:=Nat.mod_lt (w.tape w.drawn (.appendCap BU old e)) (show 0<2^63-BU by omega);simp only[grownCap,Question.cut];omega
def na (w0:cI) (ρ:Env) (m:Nat->Nat) (bl:List aj) (w:ai) (g:Nat):Prop:=∀(i:Nat) (sh:List av) (off code cap:U) (kind:Nat) (t:aR×Bool),bl[i]?=some ([.rows sh off code cap kind],t)->gQ w0 ρ (λg'=>bX w0 ρ m bl g'/\g'≠g) (m i) sh off code cap kind t.1 w
def C8 (w0:cI) (ρ:Env) (m:Nat->Nat) (bl:List aj) (w:ai) (aL:Nat):Prop:=∀(i:Nat) (sh:List av) (off code cap:U) (kind:Nat) (t:aR×Bool),bl[i]?=some ([.rows sh off code cap kind],t)->gQ w0 ρ (λg'=>bX w0 ρ m bl g'/\g'<aL) (m i) sh off code cap kind t.1 w
theorem Mem.under {w1 w:ai} (h:Mem w0 ρ m bl w1) (he:w1.Extends w):C8 w0 ρ m bl w w1.heap.size:=λi sh off code cap kind t hi=>
 (h.rws i sh off code cap kind t hi).grow (λg' h' o ho=>by
   have hlt:=(Array.getElem?_eq_some_iff.1 ho).1;exact⟨⟨h',hlt⟩,by rw[he.block g' hlt];exact ho⟩) λhk hc=>he.block _ (h.lt hi (by simp only[iH hk hc];exact hk))
theorem C8.push {w:ai} {aL g:Nat} {x:aj} (h:C8 w0 ρ m bl w aL) (hg:aL<=g) (hx:bI x.1=true):C8 w0 ρ (fc m bl.length g) (bl++[x]) w aL:=λi sh off code cap kind t hi=>by
 rcases Kz hi with⟨dv,h1⟩|⟨_,h1⟩
 ·rw[iO dv];exact(h i sh off code cap kind t h1).mono λg' h'=>⟨h'.1.push (.inr (by omega)),h'.2⟩
 ·subst h1;cases hx
theorem Mem.we {w1 w:ai} {g:Nat} (h:Mem w0 ρ m bl w1) (he:w1.Extends w) (hg:w1.heap.size<=g):na w0 ρ m bl w g:=λi sh off code cap kind t hi=>
 (h.rws i sh off code cap kind t hi).grow (λg' h' o ho=>by
   have hlt:=(Array.getElem?_eq_some_iff.1 ho).1;exact⟨⟨h',by omega⟩,by rw[he.block g' hlt];exact ho⟩) λhk hc=>he.block _ (h.lt hi (by simp only[iH hk hc];exact hk))
theorem Mem.UA {w:ai} {b k:Nat} {sh:List av} {off code cap:U} {t:aR×Bool} (h:Mem w0 ρ m bl w) (hbl:bl[b]?=some ([.rows sh off code cap k],t)) (hk:2<=k) (hc:0<=cap.den ρ):na w0 ρ m (cy bl b ([.rows sh off code cap 0],t)) w (m b):=λi cF dZ code' dX eZ t' hi=>by
 rcases RB hi with⟨rfl,cH,_⟩|⟨_,h1⟩
 ·cases cH
  exactλh0=>absurd rfl h0
 ·refine(h.rws i cF dZ code' dX eZ t' h1).mono λg' h'=>⟨h'.set hbl (by simp[aS]),λe=>?_⟩;exact h'.2 b _ hbl (by rw[iH (by omega) hc];exact hk) e.symm
theorem na.dQ {w:ai} {ae:Env} {g n':Nat} (h:na w0 ρ m bl w g) (hb:bU n' bl.length ρ bl) (ha:agree n' ρ ae):na w0 ae m bl w g:=λi sh off code cap kind t hi=>
 ((h i sh off code cap kind t hi).dQ (hb _ (cM hi) _ (by simp)) ha).mono λg' h'=>⟨bX.dQ hb ha h'.1,h'.2⟩
theorem aay {kd:Nat} {tm:List V} {a:Act} {w:ai} {G:c9} {K:Act->ai->Prop} {k:fC} {e:aR} {d:Option Tmp} {sh:List av} {code len:U} {c:Int} {g:Nat}
 (ft:2<=kd) (h:R w0 n ρ m tm bl a w) (hcs:code.aY n) (wQ:len.aY n) (hc1:0<=code.den ρ/\code.den ρ<=bV) (hc:-2<=c/\c<=0x7fffffffffffffff) (o8:Cr 0 0 (len.den ρ) c)
 (qN:c<0->ab (code.den ρ)=[])
 (Ew:0<=c->∃(cells:Array ax) (fz:Nat×Nat),(w.heap[g]?=some (.cells cells e fz)/\uj kd fz cells.size)/\iy (λg'=>bX w0 ρ m bl g'/\g'≠g) w cells 0 sh (ab (code.den ρ))/\cells.size=c.toNat*sh.length/\w0.b.heap.size<=g/\(w0.ex g∨w0.r.heap.size<=g))
 (kn:0<=c->na w0 ρ m bl w g)
 (yH:∀(i:Nat) (p:aj),bl[i]?=some p->m i=g->aS ρ p.1=0∨c<0)
 (ag:(k (n+1) (ey tm d (.w (.one (.sl bl.length sh.length (.const 0) (.const 0) len (.var n))))) (bl++[([.rows sh (.const 0) code (.var n) kd],(e,false))])).holds S L G (cR ρ n c)) (hk:j0 S L w0 k n bl.length ρ m G K):
 K (a.put d (if c<0 then .slice (lS c g) 0 0 else .slice (some ⟨g,0,none⟩) (len.den ρ).toNat c.toNat)) w:=by
 have ha:agree n ρ (cR ρ n c):=agree.cR _ _ _;have jl:=h.b;have hb1:bU (n+1) bl.length (cR ρ n c) bl:=h.b.ext ha (kI _) (aV _);have O3:Mem w0 (cR ρ n c) m bl w:=h.a6.dQ h.b ha;have e1:code.den (cR ρ n c)=code.den ρ:=U.bw ha hcs;have e2:len.den (cR ρ n c)=len.den ρ:=U.bw ha wQ;have e3:(U.var n).den (cR ρ n c)=c:=by simp[U.cj,jQ]
 have hA:(A.rows sh (.const 0) code (.var n) kd).ok (n+1) bl.length (cR ρ n c):=⟨⟨U.cr _ _,hcs.mono (kI _),U.er (sy n)⟩,by rw[e1];exact hc1,by rw[e3];omega⟩;have hM:=O3.push (x:=([.rows sh (.const 0) code (.var n) kd],(e,false))) (g:=g) hb1 (λy hy=>by simp at hy;subst hy;exact hA) (λho=>by cases ho) (λcF dZ code' dX eZ he=>by
  cases he;intro _;refine⟨λh=>by rw[e3]at h;rw[e1];exact qN h,λh=>?_⟩;rw[e3]at h;obtain⟨cells,fz,⟨g1,kP⟩,g2,g3,g4,g5⟩:=Ew h;exact⟨g5.elim .inl λh=> .inr (.inr h),cells,e,fz,g1,⟨by rw[U.aO];exact bO _,by rw[e1,U.aO];exact g2.mono (Fr.of w λg' h'=>(bX.dQ jl ha h'.1).push (.inr h'.2))⟩,λ_=>⟨rfl,U.aO _ _,kP,by rw[e3];exact g3,g4,g5⟩⟩) (λi p hi he=>by
  rcases yH i p hi he with bE|bE
  ·exact .inr (.inl (by rw[mn (h.b _ (cM hi)) ha];exact bE))
  ·refine .inr (.inr ?_);simp only[aS,e3];rw[if_pos bE]) (λi cF dZ code' dX eZ t' hi=>by
  rcases ic c 0 with bE|bE
  ·exact O3.KV (by simp only[aS,e3];rw[if_pos bE];decide) i cF dZ code' dX eZ t' hi
  ·exact((kn bE).dQ h.b ha i cF dZ code' dX eZ t' hi).mono λg' h'=>h'.1.push (.inr h'.2))
 have hL:cJ n bl.length ρ m (n+1) (bl++[([A.rows sh (.const 0) code (.var n) kd],(e,false))]).length (cR ρ n c) (fc m bl.length g):=⟨kI _,ha,by simp,λb hb=>iO hb⟩;refine hk _ _ _ _ _ G _ _ hL (dI.refl _ _) ⟨dn.put (h.t.ext hL.ha hL.hn hL.hb hL.hm) d ?_ ?_,by rw[put_defers];exact h.d,hb1.alloc (λy hy=>by simp at hy;subst hy;exact hA),hM⟩ ag
 ·refine⟨by simp,⟨U.cr _ _,U.cr _ _,wQ.mono (kI _),U.er (sy n)⟩,?_⟩;rw[U.aO,e2,e3];exact o8
 ·simp only[V.rel,W.den,A.den,e2,e3,U.aO,kb];split<;>simp
theorem QK {kd:Nat} {tm:List V} {a:Act} {w:ai} {G:c9} {K:Act->ai->Prop} {k:fC} {e:aR} {d:Option Tmp} {sh:List av} {code len:U} {c:Int} {g:Nat}
 (ft:2<=kd) (h:R w0 n ρ m tm bl a w) (hcs:code.aY n) (wQ:len.aY n) (hc1:0<=code.den ρ/\code.den ρ<=bV) (hc:-2<=c/\c<=0x7fffffffffffffff) (o8:Cr 0 0 (len.den ρ) c)
 (qN:c<0->ab (code.den ρ)=[])
 (Ew:0<=c->∃(cells:Array ax) (fz:Nat×Nat),(w.heap[g]?=some (.cells cells e fz)/\uj kd fz cells.size)/\iy (λg'=>bX w0 ρ m bl g'/\g'≠g) w cells 0 sh (ab (code.den ρ))/\cells.size=c.toNat*sh.length/\w0.b.heap.size<=g/\(w0.ex g∨w0.r.heap.size<=g))
 (kn:0<=c->na w0 ρ m bl w g)
 (yH:∀(i:Nat) (p:aj),bl[i]?=some p->m i=g->aS ρ p.1=0∨c<0)
 (ag:(DP kd e d sh code len n tm bl k).holds S L G ρ) (hk:j0 S L w0 k n bl.length ρ m G K):
 K (a.put d (if c<0 then .slice (lS c g) 0 0 else .slice (some ⟨g,0,none⟩) (len.den ρ).toNat c.toNat)) w:=by
 unfold DP at ag;exact aay ft h hcs wQ hc1 hc o8 qN Ew kn yH (ag c (by omega) (by omega)) hk
theorem QL {tm:List V} {a:Act} {w:ai} {G:c9} {K:Act->ai->Prop} {k:fC} {e:aR} {d:Option Tmp} {sh:List av} {code len:U} {c:Int} {g:Nat}
 (h:R w0 n ρ m tm bl a w) (hcs:code.aY n) (wQ:len.aY n) (hc1:0<=code.den ρ/\code.den ρ<=bV) (hc:-2<=c/\c<=0x7fffffffffffffff) (o8:Cr 0 0 (len.den ρ) c)
 (qN:c<0->ab (code.den ρ)=[])
 (Ew:0<=c->∃cells:Array ax,w.heap[g]?=some (.cells cells e (0,0))/\iy (λg'=>bX w0 ρ m bl g'/\g'≠g) w cells 0 sh (ab (code.den ρ))/\cells.size=c.toNat*sh.length/\w0.b.heap.size<=g/\(w0.ex g∨w0.r.heap.size<=g))
 (kn:0<=c->na w0 ρ m bl w g)
 (yH:∀(i:Nat) (p:aj),bl[i]?=some p->m i=g->aS ρ p.1=0∨c<0)
 (ag:(AS e d sh code len n tm bl k).holds S L G ρ) (hk:j0 S L w0 k n bl.length ρ m G K):
 K (a.put d (if c<0 then .slice (lS c g) 0 0 else .slice (some ⟨g,0,none⟩) (len.den ρ).toNat c.toNat)) w:=
 QK (kd:=2) (aV 2) h hcs wQ hc1 hc o8 qN (λh0=>by
  obtain⟨cells,g1,g2⟩:=Ew h0;exact⟨cells,(0,0),⟨g1,.FG⟩,g2⟩) kn yH ag hk
theorem Wv {tm:List V} {a:Act} {w:ai} {G:c9} {K:Act->ai->Prop} {k:fC} {e:aR} {d:Option Tmp} {sh:List av} {code len:U} {rows:List (List Int)} {c:Nat} {cells:Array ax}
 (h:R w0 n ρ m tm bl a w) (hcs:code.aY n) (wQ:len.aY n) (hc1:0<=code.den ρ/\code.den ρ<=bV) (nB:ab (code.den ρ)=rows) (bg:∀row∈rows,bD sh row) (hlen:len.den ρ=rows.length)
 (cv:rows.length<=c) (D9:c<=0x7fffffffffffffff) (n6:cells.size=c*sh.length) (akc:∃vs post,cells.toList=vs++post/\eF (bX w0 ρ m bl) w sh rows vs)
 (ag:(AS e d sh code len n tm bl k).holds S L G ρ) (hk:j0 S L w0 k n bl.length ρ m G K):
 K (a.put d (.slice (some ⟨w.heap.size,0,none⟩) rows.length c)) (w.drew.alloc (.cells cells e)):=by
 have p5:R w0 n ρ m tm bl a w.drew:=⟨h.t,h.d,h.b,h.a6.grow (Ha (m8 w))⟩;have hR:R w0 n ρ m tm bl a (w.drew.alloc (.cells cells e)):=⟨h.t,h.d,h.b,p5.a6.grow ((m8 w.drew).alloc _)⟩;have rS:w.Extends (w.drew.alloc (.cells cells e)):=(Ha (m8 w)).alloc _;have key:=QL (c:=(c:Int)) (g:=w.heap.size) hR hcs wQ hc1 ⟨by omega,by omega⟩ (by rw[hlen];exact⟨⟨by omega,by omega,by omega,by omega⟩,⟨by omega,by omega⟩,λh=>by omega,λ_=>by omega⟩) (λh=>by omega)
  (λ_=>⟨cells,heap_alloc_new w.drew _,by
    obtain⟨vs,post,hp,kt⟩:=akc;rw[nB];refine⟨bg,[],vs,post,by simpa using hp,rfl,kt.mono λg' h' o ho=>?_⟩;have hlt:=(Array.getElem?_eq_some_iff.1 ho).1;exact⟨⟨h',by omega⟩,by rw[rS.block g' hlt];exact ho⟩,by simpa using n6,h.a6.ext.size,.inr h.a6.ew⟩) (λ_=>h.a6.we rS (aV _)) (λi p hi he=>by
    by_cases fE:aS ρ p.1=0
    ·exact .inl fE
    ·have:=p5.a6.lt hi fE;have bE:w.drew.heap.size=w.heap.size:=rfl;omega) ag hk
 rw[if_neg (by omega),hlen]at key;simpa using key
theorem ayb {nb:Nat} {v:V} {X:ax} (h:Sw v=true) (hv:v.ok n nb ρ) (hr:v.rel ρ m X):∃base,X= .slice base 0 0:=by
 unfold Sw at h;split at h
 ·rename_i b aL o ro len cap;split at h
  ·rename_i l c hl hc;simp only[aQ,decide_eq_true_eq]at h;have e1:=U.il hl (ρ:=ρ);have e2:=U.il hc (ρ:=ρ);have hr:X=(A.sl b aL o ro len cap).den ρ m:=hr;simp only[A.den,e1,e2,h.1,h.2]at hr;exact⟨_,hr⟩
  ·cases h
 ·rename_i b off len cap;simp only[aQ]at h;have e1:=bo h.1;have e2:=bo h.2;subst e1;subst e2;exact⟨_,hr⟩
 ·exact⟨none,hr⟩
 ·cases h
theorem IA (w:ai) (size:Nat) (base:Option Addr) (c:Nat):(z1 size 0 (.slice base 0 c)).run P w= .ok #[] w:=by
 cases base with
 |none=>exact run_firstCells_none w size 0 0 c
 |some b=>exact run_firstCells_some w size 0 b 0 c [] (by simp) (λj v h=>by simp at h)
theorem R.later {n':Nat} {ae:Env} {tm:List V} {a:Act} {w:ai} (h:R w0 n ρ m tm bl a w) (hn:n<=n') (ha:agree n ρ ae):R w0 n' ae m tm bl a w:=
 ⟨h.t.ext ha hn (aV _) (λ_ _=>rfl),h.d,h.b.ext ha hn (aV _),h.a6.dQ h.b ha⟩
theorem eV:ab 0=[]:=di []
theorem R.kill {tm:List V} {a:Act} {w:ai} {b k:Nat} {sh:List av} {off code cap:U} {t:aR×Bool} (h:R w0 n ρ m tm bl a w) (hbl:bl[b]?=some ([.rows sh off code cap k],t)):R w0 n ρ m tm (cy bl b ([.rows sh off code cap 0],t)) a w:=
 ⟨by rw[jN];exact h.t,h.d,h.b.set (λy hy=>by
  simp at hy;subst hy;exact h.b _ (cM hbl) (.rows sh off code cap k) (by simp)),h.a6.kill hbl⟩
theorem ae5 {tm:List V} {a:Act} {w:ai} {G:c9} {o:Oper} {K:Act->ai->Prop} {Q:Exit->Act->ai->Prop} {k:fC} {c:Call} {s x:Operand} {t t':aR} {rz:T}
 (h:R w0 n ρ m tm bl a w) (hop:o.op= .call c) (iW:c.callee= .builtin .append) (gm:c.args.toList=[s,x]) (qb:c.argTypes.toList=[t,t'])
 (bH:MN P o.dst t t' (bK tm s) (bK tm x) n tm bl k=some rz) (ag:rz.holds S L G ρ) (hk:j0 S L w0 k n bl.length ρ m G K):o.wp P a w K Q:=by
 have a1:c.args=#[s,x]:=by rw[<-lx (xs:=c.args),gm]
 have a2:c.argTypes=#[t,t']:=by rw[<-lx (xs:=c.argTypes),qb]
 have hex:execOp a.eval o=(do pure (kJ (<-SQ #[t,t'] o.type #[a.eval s,a.eval x]))):=by
  simp[execOp,hop,resolve,iW,a1,a2,invoke,builtin]
 have EP:∀v w',(SQ #[t,t'] o.type #[a.eval s,a.eval x]).run P w= .ok v w'->K (a.put o.dst v) w'->o.wp P a w K Q:=λv w' h1 h2=>by
  unfold m9;simp only[hex,gy,h1,gG,ie];exact h2
 have hs:=cc h.t s;have hx:=cc h.t x;unfold MN at bH;split at bH
 ·cases bH
 rename_i e EI;split at bH
 rotate_left
 ·cases bH
 rename_i i z hi hz;obtain⟨inf,ug,nv,oq,Ec⟩:=Lt hz;rw[hi]at nv;simp only[aK]at nv;subst nv;have mO:ug.cells.size=z.length:=by
  have:=(yh Ec n bl.length ρ m).2;have:=congrArg jg this;simpa using this.symm
 split at bH
 ·
  rename_i alJ;obtain⟨base,qQ⟩:=ayb alJ hs.1 hs.2;split at bH
  rotate_left
  ·cases bH
  rename_i sh _;cases hgd:AQ sh i z with
  |false=>simp[hgd]at bH
  |true=>
  simp only[hgd,cond_true,aK]at bH;subst bH;unfold AQ at hgd;simp only[aQ]at hgd;obtain⟨⟨⟨d1,d2⟩,d3⟩,d4⟩:=hgd;have d2:=bo d2;have d3:=bo d3;have d4:=et d4;unfold Wh at ag;have e0:(U.const 0).den ρ=0:=U.aO _ _;obtain⟨ae,n',p,hn,ha,⟨q1,q2,q3,dw,fy,dr,kA,ox,se,tD,mu⟩,ag⟩:=(abD (P:=P) d1 h.b h.a6 hx.1 hx.2 (U.cr _ _) (by rw[e0];exact⟨bO _,by have:=nU (l:=[]) (by simp) (by simp);exact oJ (eJ []) this⟩) (by rw[e0,eV];simp)) G _ ag;rw[e0,eV,gv]at dr;rw[e0,eV]at se;simp only[fe,Nat.zero_add]at se;have n4:=h.later hn ha;have jD:=hk.later (G1:=G) (⟨hn,ha,aV _,λ_ _=>rfl⟩:cJ n bl.length ρ m n' bl.length ae m) (dI.refl _ _);rw[<-d2]at mu;have hnone:dw.length=0->(k n' (ey tm o.dst (bK tm s)) bl).holds S L G ae->o.wp P a w K Q:=λh0 I9=>by
   have jq:dw=[]:=ra h0;subst jq;have hv0:fy=[]:=tD;subst hv0;refine EP _ _ (by rw[qQ];exact run_append_nothing w t t' o.type e i (ia EI) hi base 0 0 (aV _) _ mu) ?_;refine jD n' ae m _ bl G _ w (cJ.refl _ _ _ _) (dI.refl _ _) ⟨dn.put n4.t o.dst (cc n4.t s).1 ?_,by rw[put_defers];exact h.d,n4.b,n4.a6⟩ I9;rw[<-qQ];exact(cc n4.t s).2
  have hgrow:0<dw.length->(AS e o.dst sh p.1 p.2 n' tm bl k).holds S L G ae->o.wp P a w K Q:=λh0 I9=>by
   have Ea:=yo w (0+dw.length) 0 e (by omega);refine EP _ _ (by rw[qQ];exact run_append_grow_src w t t' o.type e i ug (ia EI) hi oq base 0 0 [] (IA _ _ _ _) _ _ _ mu (by omega) (by omega) (growslice_fits (by omega) (by
    have:=ac0 (show 0+dw.length<=1073741824 by omega) d4;omega))) ?_
   have key:=Wv (c:=grownCap w (0+dw.length) 0 e) (cells:=([]++fy).toArray++Hl ug.cells (grownCap w (0+dw.length) 0 e-(0+dw.length))) n4 q1 q2 q3 dr ox kA (by omega) Ea.2 (by
    have:=mu.newsLen;rw[adr,CH,mO,d3,uc,gv,this,d2,<-ue]
    congr 1;omega) ⟨fy,(Hl ug.cells (grownCap w (0+dw.length) 0 e-(0+dw.length))).toList,by simp,tD.mono (Fr.of w λg hg=>bX.dQ h.b ha hg)⟩ I9 jD
   simpa using key
  split at ag
  ·rename_i hc0;have:=U.il hc0 (ρ:=ae);exact hnone (by omega) ag
  ·rename_i afM hc0 hne;have:=U.il hne (ρ:=ae);exact hgrow (by
    have:afM≠0:=λe=>hc0 e;omega) ag
  ·simp only[T.holds,bf.den,U.aO,decide_eq_true_eq,decide_eq_false_iff_not]at ag;by_cases h0:dw.length=0
   ·exact hnone h0 (ag.1 (by omega))
   ·exact hgrow (by omega) (ag.2 (by omega))
 ·split at bH
  rotate_left
  ·cases bH
  rename_i b aL off ro len cap rY;split at bH
  rotate_left
  ·cases bH
  rename_i sh dZ code cO kind bN hbl;cases hgd:(AQ sh i z&&aA kind 2&&U.beq off (.const 0)&&U.beq dZ (.const 0)&&U.beq ro (.const 0)&&U.beq cap cO&&aA bN.1 e)with
  |false=>rw[hgd]at bH;cases bH
  |true=>
  rw[hgd]at bH;simp only[cond_true,aK]at bH;subst bH;simp only[aQ]at hgd;obtain⟨⟨⟨⟨⟨⟨hgd,k2⟩,b1⟩,b2⟩,b3⟩,b4⟩,fU⟩:=hgd;have fU:=bo fU;have k2:=bo k2;have b1:=U.beq_eq b1;have b2:=U.beq_eq b2;have b3:=U.beq_eq b3;have b4:=U.beq_eq b4;subst k2;subst b1;subst b2;subst b3;subst b4;unfold AQ at hgd;simp only[aQ]at hgd;obtain⟨⟨⟨d1,d2⟩,d3⟩,d4⟩:=hgd;have d2:=bo d2;have d3:=bo d3;have d4:=et d4;obtain⟨yK,ag⟩:=ag;simp only[ch,ec,ah]at yK;rw[rY]at hs;have tg:(A.sl b aL (.const 0) (.const 0) len cap).ok n bl.length ρ:=hs.1;obtain⟨ptr,e1,e2,e3⟩:=oA (m:=m) tg;have qQ:a.eval s=(A.sl b aL (.const 0) (.const 0) len cap).den ρ m:=hs.2;rw[e1]at qQ;obtain⟨x1,⟨x2,x3,bL,gg⟩,⟨je,oH,lq,nN⟩,⟨oF,oG⟩,fH,gW⟩:=tg;rw[U.aO]at oG;have gU:=h.a6.rws b sh (.const 0) code cap 2 bN hbl (by decide);have eS:(A.rows sh (.const 0) code cap 2).ok n bl.length ρ:=h.b _ (cM hbl) _ (by simp);obtain⟨⟨r1,r2,r3⟩,fN,cw⟩:=eS;have hO:∀row∈ab (code.den ρ),bD sh row:=λrow hr=>by
   rcases ic (cap.den ρ) 0 with h|h
   ·rw[gU.1 h]at hr;simp at hr
   ·obtain⟨_,cells,gq,fz,_,⟨_,g3⟩,_⟩:=gU.2 h;exact g3.1 row hr
  obtain⟨ae,n',p,hn,ha,⟨q1,q2,q3,dw,fy,dr,kA,ox,se,tD,mu⟩,ag⟩:=(abD (P:=P) d1 h.b h.a6 hx.1 hx.2 r2 fN hO) G _ ag;rw[<-d2]at mu;generalize nB:ab (code.den ρ)=rows at*;have Eu:=h.kill hbl;have n4:=Eu.later hn ha;have hb1:=jN bl b ([.rows sh (.const 0) code cap 0],bN);have jD:j0 S L w0 k n' (cy bl b ([.rows sh (.const 0) code cap 0],bN)).length ae m G K:=by
   rw[hb1];exact hk.later (⟨hn,ha,aV _,λ_ _=>rfl⟩:cJ n bl.length ρ m n' bl.length ae m) (dI.refl _ _)
  have Jg:(len.add p.2).den ae=(rows++dw).length:=by
   rw[U.den_add,U.bw ha bL,kA,yK];simp
  have hall:∀row∈rows++dw,bD sh row:=λrow hr=>(List.mem_append.1 hr).elim (hO row) (ox row);have kr:=mu.newsLen;have yP:(len.den ρ).toNat=rows.length:=by omega
  have gS:cap.den ae=cap.den ρ:=U.bw ha gg;have A9:(len.add p.2).aY n':=U.sj (bL.mono hn) q2;have Jc:(rows++dw).length=rows.length+dw.length:=c8;have D1:∀g',bX w0 ρ m bl g'->bX w0 ae m (cy bl b ([.rows sh (.const 0) code cap 0],bN)) g':=λg' h'=>bX.dQ (h.kill hbl).b ha (h'.set hbl (by simp[aS]));by_cases hroom:((rows.length+dw.length:Nat):Int)<=cap.den ρ∨(cap.den ρ<0/\dw.length=0)
  ·by_cases hc0:cap.den ρ<0
   ·
    have jq:dw.length=0:=by rcases hroom with h|h<;>omega
    have jq:dw=[]:=ra jq;subst jq;have hv0:fy=[]:=tD;subst hv0;have Pk:rows=[]:=gU.1 hc0;subst Pk;have hl0:=fH hc0;refine EP _ _ (by rw[qQ,e2 hc0,if_pos hc0,hl0];exact run_append_nothing w t t' o.type e i (ia EI) hi (lS (cap.den ρ) (m b)) 0 0 (aV _) _ mu) ?_;have key:=QL (c:=cap.den ρ) (g:=m b) n4 q1 A9 q3 ⟨by omega,by omega⟩ (by rw[Jg];exact⟨⟨by omega,by omega,by omega,by omega⟩,⟨by omega,by omega⟩,λh=>by simp,λh=>by omega⟩) (λ_=>by rw[dr];rfl) (λh=>by omega) (λh=>by omega) (λ_ _ _ _=> .inr (by omega)) ag jD;rw[if_pos hc0]at key;exact key
   ·
    obtain⟨_,cells,gq,fz,g1,⟨g2,g3⟩,g4⟩:=gU.2 (by omega);obtain⟨g0,g5,g6,g7,g8,g9⟩:=g4 (by decide);subst g0;have g6:=g6.two;subst g6;rw[U.aO]at g3;obtain⟨_,pre,vs,post,g10,g11,g12⟩:=g3;have im:vs.length=rows.length*i.size:=by rw[g12.len,d2]
    have gf:pre=[]:=ra (by simpa using g11);subst gf;simp only[gv]at g10;have hsz:cells.size=vs.length+post.length:=by rw[<-xK,g10,c8]
    have X3:rows.length+dw.length<=(cap.den ρ).toNat:=by rcases hroom with h|h<;>omega
    have s7:rows.length*i.size+fy.length<=cells.size:=by
     rw[kr,g7,<-ue,d2];exact SR _ X3
    have hrun:=Rn w t t' o.type e i (ia EI) hi (m b) rows.length (cap.den ρ).toNat cells bN.1 g1 _ _ _ mu X3 s7;have ald:a.eval s= .slice (some ⟨m b,0,none⟩) rows.length (cap.den ρ).toNat:=by
     rw[qQ,e3 (by omega),if_neg hc0,yP,U.aO];simp
    refine EP _ _ (by rw[ald];exact hrun) ?_;have jm:(cells.toList.take (rows.length*i.size)++fy++cells.toList.drop (rows.length*i.size+fy.length))=(vs++fy)++cells.toList.drop (rows.length*i.size+fy.length):=by
     rw[g10,Hc (by omega),<-im,SF]
    rw[jm];have Ji:=h.a6.put (kd:=2) (cells:=cells) (fz:=(0,0)) (code':=code) (by decide) hbl (by omega) (row:=((vs++fy)++cells.toList.drop (rows.length*i.size+fy.length)).toArray) (λ_=>⟨λh=>by omega,λ_=>⟨g9.elim .inl λh=> .inr (.inr h),_,_,(0,0),Hi w (m b) _ _ _ _ g1,⟨g2,by
     rw[nB,U.aO];exact⟨hO,[],vs,fy++cells.toList.drop (rows.length*i.size+fy.length),by simp,rfl,g12.mono (bX.pX hbl (by rw[iH (by decide) (by omega)];exact aV 2))⟩⟩,λ_=>⟨rfl,g5,.FG,by
     rw[<-g7];simp only[uc,c8,q9,xK];omega,g8,g9⟩⟩⟩)
    have ala:cy bl b ([.rows sh (.const 0) code cap 2],bN)=bl:=by
     rw[iN];exact ads λj=>by
      rw[oL];split
      ·rename_i hj;subst hj
       first|exact hbl.symm|(rw[if_pos (List.getElem?_eq_some_iff.1 hbl).1];exact hbl.symm)
      ·rfl
    rw[ala]at Ji;have rM:R w0 n ρ m tm bl a (w.setRow (m b) ((vs++fy)++cells.toList.drop (rows.length*i.size+fy.length)).toArray):=⟨h.t,h.d,h.b,Ji⟩;have aiu:=(rM.kill hbl).later hn ha;have Ej:Fr (bX w0 ρ m bl) w (λg'=>bX w0 ae m (cy bl b ([A.rows sh (.const 0) code cap 0],bN)) g'/\g'≠m b) (w.setRow (m b) (vs++fy++cells.toList.drop (rows.length*i.size+fy.length)).toArray):=λg' h' o ho=>by
     have hne:m b≠g':=h'.2 b _ hbl (by rw[iH (by decide) (by omega)];exact aV 2);exact⟨⟨D1 g' h',λe=>hne e.symm⟩,by rw[zY w (m b) g' _ (by first|exact hne|exactλe=>hne e.symm)];exact ho⟩
    have key:=QL (e:=e) (d:=o.dst) (c:=cap.den ρ) (g:=m b) aiu q1 A9 q3 ⟨by omega,by omega⟩ (by rw[Jg,Jc];exact⟨⟨by omega,by omega,by omega,by omega⟩,⟨by omega,by omega⟩,λh=>by omega,λh=>by omega⟩) (λh=>by omega)
     (λ_=>⟨_,by rw[<-fU];exact Hi w (m b) _ _ _ _ g1,by
       rw[dr];refine⟨hall,[],vs++fy,cells.toList.drop (rows.length*i.size+fy.length),by simp,rfl,Rj (g12.mono Ej) (tD.mono Ej)⟩,by
       rw[<-g7];simp only[uc,c8,q9,xK];omega,g8,g9⟩) (λ_=>((rM.a6.UA hbl (by decide) (by omega)).dQ (rM.kill hbl).b ha)) (λj q hj he=>by
       by_cases Et:j=b
       ·subst Et;rw[iN,ac1 (List.getElem?_eq_some_iff.1 hbl).1]at hj;simp only[aK]at hj;subst hj;exact .inl (by simp[aS])
       ·rw[iN,SE (λe=>Et e.symm)]at hj;have gK:aS ρ [A.rows sh (.const 0) code cap 2]=2:=iH (by decide) (by omega);have akq:aS ρ q.1=0:=by
         rcases h.a6.inj j b q _ hj hbl he with bE|bE|bE|bE
         ·exact absurd bE Et
         ·have:=bE.2;simp only[gK]at this;omega
         ·exact bE
         ·simp only[gK]at bE;omega
        exact .inl (by rw[mn (h.b _ (cM hj)) ha];exact akq)) ag jD
    rw[if_neg hc0,Jg,Jc,ek]at key;exact key
  ·
   have I8:(if cap.den ρ<0 then 0 else(cap.den ρ).toNat)<rows.length+dw.length:=by
    split
    ·rename_i hc;have:¬dw.length=0:=λe=>hroom (.inr ⟨hc,e⟩);omega
    ·omega
   have hold:∃vs,eF (bX w0 ρ m bl) w sh rows vs/\(z1 i.size rows.length (.slice ptr rows.length (if cap.den ρ<0 then 0 else(cap.den ρ).toNat))).run P w.drew= .ok vs.toArray w.drew:=by
    by_cases hc:cap.den ρ<0
    ·have Pk:rows=[]:=gU.1 hc;subst Pk;exact⟨[],rfl,IA _ _ _ _⟩
    ·obtain⟨_,cells,gq,fz,g1,⟨g2,g3⟩,g4⟩:=gU.2 (by omega);obtain⟨vs,kt,alu⟩:=g3.vs;refine⟨vs,kt,?_⟩;rw[e3 (by omega)];refine run_firstCells_some w.drew i.size rows.length _ rows.length _ vs (by rw[kt.len,d2]) λj v hv=>?_;rw[iz,U.aO];have:=alu j v hv;rw[U.aO]at this;have kP:w.drew.heap[m b]?=some (.cells cells gq fz):=g1;simp only[jx,kP,rm,pF,if_false];simpa using this
   obtain⟨vs,kt,hold⟩:=hold;have im:vs.length=rows.length*i.size:=by rw[kt.len,d2]
   have Ea:=yo w (rows.length+dw.length) (if cap.den ρ<0 then 0 else(cap.den ρ).toNat) e se;refine EP _ _ (by rw[qQ,yP];exact run_append_grow_src w t t' o.type e i ug (ia EI) hi oq ptr rows.length _ vs hold _ _ _ mu I8 (by omega) (growslice_fits I8 (by
    have:=ac0 se d4;omega))) ?_
   have key:=Wv (e:=e) (d:=o.dst) (c:=grownCap w (rows.length+dw.length) (if cap.den ρ<0 then 0 else(cap.den ρ).toNat) e) (cells:=(vs++fy).toArray++Hl ug.cells (grownCap w (rows.length+dw.length) (if cap.den ρ<0 then 0 else(cap.den ρ).toNat) e-(rows.length+dw.length))) n4 q1 A9 q3 dr hall Jg (by rw[Jc];exact Ea.1) Ea.2 (by
    rw[adr,CH,mO,d3,uc,c8,im,kr,<-ue,d2,<-ue]
    congr 1;omega) ⟨vs++fy,(Hl ug.cells (grownCap w (rows.length+dw.length) (if cap.den ρ<0 then 0 else(cap.den ρ).toNat) e-(rows.length+dw.length))).toList,by simp,Rj (kt.mono (Fr.of w D1)) (tD.mono (Fr.of w D1))⟩ ag jD
   rw[Jc]at key;exact key
theorem Mem.low {ρ:Env} {m:Nat->Nat} {bl:List aj} {w:ai} {b k:Nat} {sh:List av} {off code cap:U} {t:aR×Bool} (h:Mem w0 ρ m bl w) (hbl:bl[b]?=some ([.rows sh off code cap (k+1)],t)):Mem w0 ρ m (cy bl b ([.rows sh off code cap 1],t)) w:=by
 have mL:b<bl.length:=(List.getElem?_eq_some_iff.1 hbl).1;have c0:∀(i:Nat) (p:aj),(cy bl b ([.rows sh off code cap 1],t))[i]?=some p->(i=b/\p=([.rows sh off code cap 1],t))∨(i≠b/\bl[i]?=some p):=λi p hi=>by
  rw[iN,oL]at hi;split at hi
  ·rename_i eE;subst eE;simp only[mL,if_true,aK]at hi;exact .inl ⟨rfl,hi.symm⟩
  ·rename_i eE;exact .inr ⟨λe=>eE e.symm,hi⟩
 have hk:∀(i:Nat) (p:aj),(cy bl b ([.rows sh off code cap 1],t))[i]?=some p->∃p',bl[i]?=some p'/\aS ρ p.1<=aS ρ p'.1/\(aS ρ p'.1≠0->True):=λi p hi=>by
  rcases c0 i p hi with⟨rfl,rfl⟩|⟨hne,hi⟩
  ·refine⟨_,hbl,?_,λ_=>trivial⟩;simp only[aS];split<;>omega
  ·exact⟨p,hi,aV _,λ_=>trivial⟩
 have iE:2<=aS ρ [A.rows sh off code cap 1]->2<=aS ρ [A.rows sh off code cap (k+1)]:=λh2=>by
  simp only[aS]at h2;split at h2<;>omega
 refine⟨h.ext,h.jo,h.jr,h.iF,h.ew,h.gi,λi cs' t' hi ho=>?_,λi cF dZ code' dX eZ t' hi=>?_,λi j p q hi hj he=>?_⟩
 ·rcases c0 i _ hi with⟨rfl,cH⟩|⟨hne,hi⟩
  ·cases cH;cases ho
  ·exact h.blk i cs' t' hi ho
 ·rcases c0 i _ hi with⟨rfl,cH⟩|⟨hne,hi⟩
  ·cases cH;intro _;obtain⟨g1,g2⟩:=h.rws i _ _ _ _ (k+1) _ hbl (by omega);refine⟨g1,λhc=>?_⟩;obtain⟨g3,cells,gq,fz,g4,⟨g5,g6⟩,_⟩:=g2 hc;exact⟨g3,cells,gq,fz,g4,⟨g5,g6.mono (Fr.of w λg' h'=>h'.set hbl iE)⟩,λh2=>by omega⟩
  ·exact(h.rws i cF dZ _ dX eZ t' hi).mono λg' h'=>h'.set hbl iE
 ·obtain⟨p',h1,h2,_⟩:=hk i p hi;obtain⟨q',h3,h4,_⟩:=hk j q hj;rcases h.inj i j p' q' h1 h3 he with h5|h5|h5|h5
  ·exact .inl h5
  ·exact .inr (.inl ⟨by omega,by omega⟩)
  ·exact .inr (.inr (.inl (by omega)))
  ·exact .inr (.inr (.inr (by omega)))
theorem R.low {tm:List V} {a:Act} {w:ai} {b k:Nat} {sh:List av} {off code cap:U} {t:aR×Bool} (h:R w0 n ρ m tm bl a w) (hbl:bl[b]?=some ([.rows sh off code cap (k+1)],t)):R w0 n ρ m tm (cy bl b ([.rows sh off code cap 1],t)) a w:=
 ⟨by rw[jN];exact h.t,h.d,h.b.set (λy hy=>by
  simp at hy;subst hy;exact h.b _ (cM hbl) (.rows sh off code cap (k+1)) (by simp)),h.a6.low hbl⟩
theorem Zy {tm:List V} {a:Act} {w:ai} (h:R w0 n ρ m tm bl a w) (x:A):R w0 n ρ m tm (FB bl x) a w/\(FB bl x).length=bl.length:=by
 unfold FB;split
 ·split
  ·rename_i hbl;exact⟨h.low (k:=1) hbl,by rw[jN]⟩
  ·exact⟨h,rfl⟩
 ·exact⟨h,rfl⟩
theorem Qi {tm:List V} {a:Act} {w:ai}:∀(l:List A) {bl:List aj},R w0 n ρ m tm bl a w->R w0 n ρ m tm (xa bl l) a w/\(xa bl l).length=bl.length
 |[],bl,h=>⟨h,rfl⟩
 |x::r,bl,h=>by
  obtain⟨h1,h2⟩:=Zy h x;obtain⟨h3,h4⟩:=Qi r h1;exact⟨h3,h4.trans h2⟩
theorem an0 {tm:List V} {a:Act} {w:ai} (h:R w0 n ρ m tm bl a w) (x:V):R w0 n ρ m tm (J0 bl x) a w/\(J0 bl x).length=bl.length:=by
 unfold J0;split
 ·split
  ·exact Qi _ h
  ·exact⟨h,rfl⟩
 ·exact⟨h,rfl⟩
theorem aue {tm:List V} {a:Act} {w:ai} {G:c9} {o:Oper} {K:Act->ai->Prop} {Q:Exit->Act->ai->Prop} {k:fC} {rz:T}
 (h:R w0 n ρ m tm bl a w) (bH:RS P o n tm bl k=some rz) (ag:rz.holds S L G ρ) (hk:j0 S L w0 k n bl.length ρ m G K):o.wp P a w K Q:=by
 unfold RS at bH;split at bH
 ·rename_i c ho;split at bH
  ·rename_i hc;split at bH
   ·rename_i s x t t' gm qb;obtain⟨h',hlen⟩:=an0 h (bK tm x);exact ae5 h' ho hc gm qb bH ag (by rw[hlen];exact hk)
   ·cases bH
  ·cases bH
 ·cases bH
end
end Go.aW
namespace Go.aW
open M
theorem Gp:∀{s1 s2:List av} {l1 l2:List Int},l1.length=s1.length->dm (s1++s2) (l1++l2)=dm s1 l1++dm s2 l2
 |[],_,[],_,_=>rfl
 |c::s1,s2,z::l1,l2,h=>by
  simp only[qx,dm,Gp (s1:=s1) (s2:=s2) (l1:=l1) (l2:=l2) (by simpa using h)]
 |[],_,_::_,_,h=>by simp at h
 |_::_,_,[],_,h=>by simp at h
theorem C7:∀{s1 s2:List av} {l1 l2:List Int},l1.length=s1.length->(bD (s1++s2) (l1++l2)↔bD s1 l1/\bD s2 l2)
 |[],_,[],_,_=>by simp[bD]
 |c::s1,s2,z::l1,l2,h=>by
  simp only[qx,bD,C7 (s1:=s1) (s2:=s2) (l1:=l1) (l2:=l2) (by simpa using h),and_assoc]
 |[],_,_::_,_,h=>by simp at h
 |_::_,_,[],_,h=>by simp at h
theorem aa0 {sh:List av} {row ls:List Int} {j s:Nat} (h:bD sh row) (hl:bD ((sh.drop j).take s) ls) (hj:j+s<=sh.length):
 bD sh (row.take j++ls++row.drop (j+ls.length))/\dm sh (row.take j++ls++row.drop (j+ls.length))=(dm sh row).take j++dm ((sh.drop j).take s) ls++(dm sh row).drop (j+s):=by
 have hlen:=h.len;have Ex:ls.length=s:=by rw[hl.len];simp;omega
 have e:sh=sh.take j++((sh.drop j).take s++sh.drop (j+s)):=by
  rw[<-CV,jy,jy]
 have hD:row=row.take j++((row.drop j).take s++row.drop (j+s)):=by
  rw[<-CV,jy,jy]
 have l1:(row.take j).length=(sh.take j).length:=by simp[hlen]
 have l2:((row.drop j).take s).length=((sh.drop j).take s).length:=by simp[hlen]
 have l3:ls.length=((sh.drop j).take s).length:=hl.len;have h0:bD (sh.take j++((sh.drop j).take s++sh.drop (j+s))) (row.take j++((row.drop j).take s++row.drop (j+s))):=by rw[<-e,<-hD];exact h
 rw[C7 l1,C7 l2]at h0;have hv:dm sh row=dm (sh.take j) (row.take j)++(dm ((sh.drop j).take s) ((row.drop j).take s)++dm (sh.drop (j+s)) (row.drop (j+s))):=by
  conv=>lhs;rw[e,hD]
  rw[Gp l1,Gp l2]
 have k1:(dm (sh.take j) (row.take j)).length=j:=by rw[Gq h0.1];simp;omega
 have k2:(dm ((sh.drop j).take s) ((row.drop j).take s)).length=s:=by rw[Gq h0.2.1];simp;omega
 rw[Ex];refine⟨?_,?_⟩
 ·rw[eG]
  conv=>lhs;rw[e]
  rw[C7 l1,C7 l3];exact⟨h0.1,hl,h0.2.2⟩
 ·rw[eG]
  conv=>lhs;rw[e]
  have ht:(dm sh row).take j=dm (sh.take j) (row.take j):=by rw[hv];exact List.take_left' k1
  have hd:(dm sh row).drop (j+s)=dm (sh.drop (j+s)) (row.drop (j+s)):=by
   rw[hv,<-eG];exact List.drop_left' (by rw[c8,k1,k2])
  rw[Gp l1,Gp l3,ht,hd,eG]
theorem Rf {F:Nat->Prop} {w:ai}:∀{s1 s2:List av} {l1 l2:List Int} {v1 v2:List ax},ea F w s1 l1 v1->ea F w s2 l2 v2->ea F w (s1++s2) (l1++l2) (v1++v2)
 |[],_,[],_,[],_,_,h=>h
 |c::s1,s2,z::l1,l2,v::v1,v2,h1,h2=>⟨h1.1,Rf h1.2 h2⟩
 |[],_,_::_,_,_,_,h,_=>h.elim
 |[],_,[],_,_::_,_,h,_=>h.elim
 |_::_,_,[],_,_,_,h,_=>h.elim
 |_::_,_,_::_,_,[],_,h,_=>h.elim
theorem ea.split {F:Nat->Prop} {w:ai}:∀(j:Nat) {sh:List av} {row:List Int} {vs:List ax},ea F w sh row vs->ea F w (sh.take j) (row.take j) (vs.take j)/\ea F w (sh.drop j) (row.drop j) (vs.drop j)
 |0,sh,row,vs,h=>⟨trivial,h⟩
 |j+1,[],[],[],h=>⟨trivial,trivial⟩
 |j+1,c::sh,z::r,v::vs,h=>⟨⟨h.1,(ea.split j h.2).1⟩,(ea.split j h.2).2⟩
 |_+1,[],_::_,_,h=>h.elim
 |_+1,[],[],_::_,h=>h.elim
 |_+1,_::_,[],_,h=>h.elim
 |_+1,_::_,_::_,[],h=>h.elim
theorem ea.Zl {F:Nat->Prop} {w:ai}:∀{sh:List av} {row:List Int} {vs:List ax},ea F w sh row vs->row.length=sh.length
 |[],[],[],_=>rfl
 |c::sh,z::r,v::vs,h=>by simp[ea.Zl h.2]
 |[],_::_,_,h=>h.elim
 |[],[],_::_,h=>h.elim
 |_::_,[],_,h=>h.elim
 |_::_,_::_,[],h=>h.elim
theorem as3 {F:Nat->Prop} {w:ai} {sh:List av} {row ls:List Int} {vs us:List ax} {j s:Nat} (h:ea F w sh row vs) (hl:ea F w ((sh.drop j).take s) ls us) (hj:j+s<=sh.length):ea F w sh (row.take j++ls++row.drop (j+ls.length)) (vs.take j++us++vs.drop (j+us.length)):=by
 have e:sh=sh.take j++(sh.drop j).take s++sh.drop (j+s):=by
  rw[eG,<-CV,jy,jy]
 have hs:((sh.drop j).take s).length=s:=by simp;omega
 have h1:=hl.Zl;have h2:=hl.len;rw[hs]at h1 h2;rw[h1,h2];have key:=Rf (Rf (h.split j).1 hl) (h.split (j+s)).2;rw[<-e]at key;exact key
theorem eF.cut {F:Nat->Prop} {w:ai} {sh:List av}:∀{rows:List (List Int)} {vs:List ax} {i:Nat} {row:List Int},eF F w sh rows vs->rows[i]?=some row->∃A B C,vs=A++(B++C)/\A.length=i*sh.length/\ea F w sh row B/\∀xq sD,ea F w sh xq sD->eF F w sh (rows.set i xq) (A++(sD++C))
 |r::rs,vs,0,row,h,hi=>by
  simp only[m7,aK]at hi;subst hi;obtain⟨a,b,rfl,h2,h3⟩:=h;exact⟨[],a,b,rfl,by simp,h2,λxq sD h'=>⟨sD,b,rfl,h',h3⟩⟩
 |r::rs,vs,i+1,row,h,hi=>by
  obtain⟨a,b,rfl,h2,h3⟩:=h;obtain⟨A,B,C,rfl,k1,k2,k3⟩:=eF.cut (i:=i) h3 (by simpa using hi);exact⟨a++A,B,C,by simp,by rw[c8,h2.len,k1,qy,Nat.add_comm],k2,λxq sD h'=>⟨a,A++(sD++C),by simp,h2,k3 xq sD h'⟩⟩
 |[],_,_,_,_,hi=>by simp at hi
theorem Rq {P:bk} (g o:Nat) (t:aR) (fz:Nat×Nat) (kd:Nat):∀(vs:List ax) (i:Nat) (cur:Array ax) (w:ai),uj kd fz cur.size->w.heap[g]?=some (.cells cur t fz)->o+i+vs.length<=cur.size->(∀v∈vs,v.oneCell'=true)->
 (storeCells ⟨g,o,none⟩ vs i).run P w= .ok () (w.setRow g (cur.toList.take (o+i)++vs++cur.toList.drop (o+i+vs.length)).toArray)
 |[],i,cur,w,_,hg,_,_=>by
  simp only[storeCells,lv,fe,kG,jy,lx];rw[setRow_self w g cur t fz hg];rfl
 |v::rest,i,cur,w,I7,hg,hl,h1=>by
  have hi:o+i<cur.size:=by simp at hl;omega
  have hcell:w.cell? ⟨g,o+i,none⟩=some cur[o+i]:=by simp[jx,hg,hi]
  have akd:w.frozen? ⟨g,o+i,none⟩=false:=by
   rcases I7 with⟨_,rfl⟩|⟨_,rfl⟩
   ·simp[tZ,hg]
   ·simp[tZ,hg];omega
  have hst:(store ((⟨g,o,none⟩:Addr).add i) v).run P w= .ok () (w.setRow g (cur.setIfInBounds (o+i) v)):=by
   rw[iz,run_store P w _ v _ (h1 v (by simp)),hcell];simp[akd,setCell_eq_setRow w g (o+i) cur t fz v hg]
  have ih:=Rq (P:=P) g o t fz kd rest (i+1) (cur.setIfInBounds (o+i) v) (w.setRow g (cur.setIfInBounds (o+i) v)) (by simpa using I7) (Hi w g cur _ t _ hg) (by simp at hl⊢;omega) (λx hx=>h1 x (by simp[hx]));simp only[storeCells,gy,hst,gG,ih,setRow_setRow]
  congr 3
  have e:=list_seg_step cur.toList (o+i) v rest (by simp at hl⊢;omega);simpa [Array.toList_setIfInBounds,Nat.add_assoc]using e
section
variable {S:Nat->List Int->List Int->Prop} {L:V->Env->Prop} {n:Nat} {ρ:Env} {m:Nat->Nat} {bl:List aj} {gl:dA} {w0:cI} {P:bk}
theorem YR {tm:List V} {a:Act} (h:dn n bl.length ρ m tm a.tmps) {x:Operand} {l:U} (hl:mQ (bK tm x)=some l):∃k,a.eval x= .int k (l.den ρ)/\l.aY n:=by
 have hx:=cc h x;unfold mQ at hl;split at hl
 ·rename_i k y8 hv;simp only[aK]at hl;subst hl;rw[hv]at hx;exact⟨k,hx.2,hx.1.1⟩
 ·cases hl
theorem Vy:∀(n t:Nat) (acc:Array ax),∃l:List (List Int),l.length=n/\(∀r∈l,bD jC r)/\(uf n t acc).toList=acc.toList++cG jC l
 |0,_,_=>⟨[],rfl,by simp,by simp[uf,cG]⟩
 |n+1,t,acc=>by
  obtain⟨l,h1,h2,h3⟩:=Vy n (t/256) (acc.push (.int .u8 (Int.ofNat (t% 256))));refine⟨[((t% 256:Nat):Int)]::l,by simp[h1],λr hr=>?_,?_⟩
  ·rcases List.mem_cons.1 hr with rfl|hr
   ·exact⟨⟨by simp only[av.dG];omega,by simp only[av.dG];omega⟩,trivial⟩
   ·exact h2 r hr
  ·rw[uf,h3];simp[cG,jC,dm,av.val]
theorem ats {P:bk} (w:ai) (ps:Array aR) (t e:aR) (ht:P.underlying t=some (.slice e)) (n:Nat) (hn:n<=281474976710656):
 ∃(c d:Nat),(SS ps #[t] #[.int .i64 n]).run P w= .ok (.slice (some ⟨w.heap.size,0,none⟩) n c) (w.drew.drew.alloc (.cells (uf c d #[]) e))/\n<=c/\(n<=maxLen->c<=maxLen):=by
 have Ed:SS ps #[t] #[.int .i64 n]=
  (do
    let .slice elem<-underlying t|stuck "bytealg.MakeNoZero: slice type expected"
    if(n:Int)<0||(n:Int)>2^48 then runtimePanic (.error "makeslice: len out of range")
    let cap<-choose (.appendCap (n:Int).toNat 0 elem)
    askRoom cap
    let bytes<-choose (.extern "internal/bytealg.MakeNoZero.bytes" 0);let a<-newRow elem (uf cap bytes #[])
    pure (.slice (some a) (n:Int).toNat cap)):=rfl
 have h1:¬(n:Int)<0:=by omega
 have h2:¬(281474976710656:Int)<(n:Int):=by omega
 exact⟨grownCap w n 0 e,_,by
  rw[Ed];simp[eK ht,h1,h2,Question.forced,newRow,grownCap];rfl,by simpa using grownCap_ge w n 0 e,λhm=>by simpa using grownCap_le_maxLen w n 0 e hm⟩
theorem ahd {fn:Func} (h:JI fn=true):fn.body.isNone=true/\(fn.name== "runtime.NumGoroutine")=false/\adt fn=none/\adu fn=some (SS fn.params fn.resultTypes):=by
 unfold JI at h;simp only[aQ,beq_iff_eq]at h;obtain⟨⟨h1,h2⟩,h3⟩:=h;have g1:Extern.allNextRows.lookup "internal/bytealg.MakeNoZero" =none:=by kernel_rfl
 have g2:Extern.allNextRows.lookup "" =none:=by kernel_rfl
 have g3:Extern.allGenericRows.lookup "internal/bytealg.MakeNoZero" =none:=by kernel_rfl
 have g4:Extern.allTypedRows.lookup "internal/bytealg.MakeNoZero" =some SS:=by kernel_rfl
 refine⟨h2,by rw[h1];decide,?_,?_⟩
 ·unfold adt;simp only[h1,h3,g1,g2];rfl
 ·unfold adu;simp only[h1,g3,g4];rfl
theorem aug {tm:List V} {a:Act} {w:ai} {G:c9} {o:Oper} {K:Act->ai->Prop} {Q:Exit->Act->ai->Prop} {k:fC} {rz:T}
 (h:R w0 n ρ m tm bl a w) (bH:vw P o n tm bl k=some rz) (ag:rz.holds S L G ρ) (hk:j0 S L w0 k n bl.length ρ m G K):o.wp P a w K Q:=by
 unfold vw at bH;split at bH
 ·rename_i t p x ho;have hp:=cc h.t p;have hx:=cc h.t x;split at bH
  ·rename_i b aL cg i j u Pf ET;rw[Pf]at hp;rw[ET]at hx;obtain⟨h,aku⟩:=Qi u.cells h;rw[<-aku]at hp hx hk;generalize aAB:xa bl u.cells=bl at*;split at bH
   ·rename_i sh off code cap kind bN s hbl hs;cases hc:(bp 2 kind&&aA aL sh.length&&U.beq cg off&&aA u.cells.length s&&ck 0 s&&bp (j+s) sh.length&&kC sh)with
    |false=>rw[hc]at bH;cases bH
    |true=>
     rw[hc]at bH;simp only[cond_true,aK]at bH;subst bH;simp only[aQ]at hc;obtain⟨⟨⟨⟨⟨⟨c1,c2⟩,c3⟩,c4⟩,c5⟩,c6⟩,kj⟩:=hc;have c1:=et c1;have c2:=bo c2;have c3:=U.beq_eq c3;have c4:=bo c4;have c5:=uv c5;have c6:=et c6
     subst c2;subst c3;subst c4;have ED:a.eval p= .pointer (some ⟨m b,(cg.den ρ).toNat+(i.den ρ).toNat*sh.length+j,none⟩):=hp.2;have c7:a.eval x=u.den ρ m:=hx.2;have akT:(A.ep b sh.length cg i j).ok n bl.length ρ:=hp.1;have eS:(A.rows sh cg code cap kind).ok n bl.length ρ:=h.b _ (cM hbl) _ (by simp);have hcs:ao S L (bind (eP 21 [code,i]) λ_=>bind (Am 67 [code,i,.const sh.length]) λ_=>bind (Gm bl ((sh.drop j).take u.cells.length) u.cells) λls=>bind (ev 42 (code::i:: .const j::ls) 0 bV) λcode'=>pure code') n ρ λae n' code'=>code'.aY n'/\(0<=code'.den ae/\code'.den ae<=bV)/\(0<=i.den ρ/\i.den ρ<(ab (code.den ρ)).length)/\
      ∃ls:List Int,bD ((sh.drop j).take u.cells.length) ls/\ea (bX w0 ρ m bl) w ((sh.drop j).take u.cells.length) ls (u.cells.map (A.den ρ m))/\
       ab (code'.den ae)=(ab (code.den ρ)).set (i.den ρ).toNat (((ab (code.den ρ)).getD (i.den ρ).toNat []).take j++ls++((ab (code.den ρ)).getD (i.den ρ).toNat []).drop (j+ls.length)):=by
      refine fX λiE=>?_;have iE:0<=i.den ρ/\i.den ρ<(ab (code.den ρ)).length:=iE;have hlt:(i.den ρ).toNat<(ab (code.den ρ)).length:=by omega
      have cv:0<=cap.den ρ:=by
       rcases ic (cap.den ρ) 0 with iX|iX
       ·have:=(h.a6.rws b sh cg code cap kind bN hbl (by omega)).1 iX;rw[this]at hlt;simp at hlt
       ·exact iX
      obtain⟨_,cells,gq,fz,q1,⟨q2,q3⟩,dr⟩:=(h.a6.rws b sh cg code cap kind bN hbl (by omega)).2 cv;have p8:(ab (code.den ρ)).getD (i.den ρ).toNat []=(ab (code.den ρ))[(i.den ρ).toNat]:=by simp[ar,hlt]
      have hrow:bD sh ((ab (code.den ρ)).getD (i.den ρ).toNat []):=by rw[p8];exact q3.1 _ (Hf hlt)
      refine(HV (op:=67) (ls:=[code,i,.const sh.length]) (by simp only[ch,ec,ah,U.aO,ek];exact hrow.len)).bind λbz n0 _ _ _ ⟨y4,mN⟩=>?_;have y4:=y4.symm;have mN:=mN.symm
      subst y4;subst mN;refine(Ra h.b h.a6 (λy hy=>W.Ay hx.1 y hy)).bind λay n1 ls eY dz ⟨g1,g2,g3⟩=>?_;have hf:aB 42 ((code::i::U.const j::ls).map (·.den ay))=rc ((ab (code.den ρ)).set (i.den ρ).toNat (((ab (code.den ρ)).getD (i.den ρ).toNat []).take j++ls.map (·.den ay)++((ab (code.den ρ)).getD (i.den ρ).toNat []).drop (j+(ls.map (·.den ay)).length))):=by
       simp only[ch,aB,U.aO,ek,U.bw dz eS.1.2.1,U.bw dz akT.2.1.2]
      have hput:=aa0 hrow g2 c6;have nB:∀r∈(ab (code.den ρ)).set (i.den ρ).toNat (((ab (code.den ρ)).getD (i.den ρ).toNat []).take j++ls.map (·.den ay)++((ab (code.den ρ)).getD (i.den ρ).toNat []).drop (j+(ls.map (·.den ay)).length)),bD sh r:=λr hr=>by
       rcases CY hr with hr|hr
       ·exact q3.1 r hr
       ·subst hr;exact hput.1
      have mi:0<sh.length:=by omega
      have hlen:(ab (code.den ρ)).length<=maxLen:=by
       have B5:=q3;obtain⟨_,pre,vs,post,p1,aJ,bb⟩:=B5;have h4:=congrArg jg p1;simp only[c8,bb.len,xK]at h4;obtain⟨_,_,_,h5,_⟩:=dr c1;rw[h5]at h4;have h6:(ab (code.den ρ)).length*sh.length<=(cap.den ρ).toNat*sh.length:=by omega
       have h7:=ay2 h6 mi;have:=eS.2.2.2;unfold maxLen;omega
      have dL:=nU (l:=(ab (code.den ρ)).set (i.den ρ).toNat (((ab (code.den ρ)).getD (i.den ρ).toNat []).take j++ls.map (·.den ay)++((ab (code.den ρ)).getD (i.den ρ).toNat []).drop (j+(ls.map (·.den ay)).length))) (by simpa using hlen) λr hr=>(nB r hr).row kj;refine(fY (by rw[hf];exact eJ _) (by rw[hf];exact dL)).bind λbn n2 code' dY cU ⟨k1,k2⟩=>ao.pure ?_;rw[hf]at k2;exact⟨k1,by rw[k2];exact⟨eJ _,dL⟩,iE,ls.map (·.den ay),g2,g3,by rw[k2,di]⟩
     obtain⟨ae,n',code',hn,ha,⟨g1,g2,g3,ls,g4,g5,g6⟩,ag⟩:=hcs G _ ag;have hR:=h.later hn ha;have hlt:(i.den ρ).toNat<(ab (code.den ρ)).length:=by omega
     have cv:0<=cap.den ρ:=by
      rcases ic (cap.den ρ) 0 with iX|iX
      ·have:=(h.a6.rws b sh cg code cap kind bN hbl (by omega)).1 iX;rw[this]at hlt;simp at hlt
      ·exact iX
     obtain⟨q0,cells,gq,fz,q1,⟨q2,q3⟩,dr⟩:=(h.a6.rws b sh cg code cap kind bN hbl (by omega)).2 cv;obtain⟨r0,r1,r2,r3,fN,cw⟩:=dr c1;subst r0;obtain⟨zo,pre,vs,post,B6,FP,aaA⟩:=q3;have Pj:(ab (code.den ρ))[(i.den ρ).toNat]?=some ((ab (code.den ρ)).getD (i.den ρ).toNat []):=by simp[ar,hlt]
     generalize aAZ:(ab (code.den ρ)).getD (i.den ρ).toNat []=row at g6 Pj;have Bi:=zo row (cM Pj);have p1:=(aa0 Bi g4 c6).1;obtain⟨qA,vU,xP,rfl,af,z2,z3⟩:=aaA.cut Pj;have aJ:=z3 _ _ (as3 z2 g5 c6);rw[<-g6]at aJ;have alv:u.cells.length=(u.cells.map (A.den ρ m)).length:=by simp
     have Xm:cells.toList=(pre++qA)++(vU++(xP++post)):=by
      rw[B6];simp only[eG]
     have hA:(pre++qA).length=(cg.den ρ).toNat+(i.den ρ).toNat*sh.length:=by
      rw[c8,FP,af]
     have hB:=z2.len;have aka:(cg.den ρ).toNat+(i.den ρ).toNat*sh.length+j+0+(u.cells.map (A.den ρ m)).length<=cells.size:=by
      have:=congrArg jg Xm;simp only[c8,xK,hB]at this hA;simp;omega
     have hst:=Rq (P:=P) (m b) ((cg.den ρ).toNat+(i.den ρ).toNat*sh.length+j) _ fz kind (u.cells.map (A.den ρ m)) 0 cells w r2 q1 aka (λv hv=>by
      obtain⟨y,hy,rfl⟩:=List.mem_map.1 hv;exact A.Km (W.Ay hx.1 y hy))
     simp only[kG]at hst;have jm:cells.toList.take ((cg.den ρ).toNat+(i.den ρ).toNat*sh.length+j)++u.cells.map (A.den ρ m)++cells.toList.drop ((cg.den ρ).toNat+(i.den ρ).toNat*sh.length+j+(u.cells.map (A.den ρ m)).length)=pre++(qA++((vU.take j++u.cells.map (A.den ρ m)++vU.drop (j+(u.cells.map (A.den ρ m)).length))++xP))++post:=by
      rw[Xm,<-hA];rw[List.take_append,lu (by omega),Nat.add_sub_cancel_left,Hc (by omega)];rw[List.drop_append,List.drop_of_length_le (by omega),gv];rw[show(pre++qA).length+j+(u.cells.map (A.den ρ m)).length-(pre++qA).length=j+(u.cells.map (A.den ρ m)).length by omega];rw[ayV (by simp;omega)];simp only[eG]
     generalize aAz:qA++((vU.take j++u.cells.map (A.den ρ m)++vU.drop (j+(u.cells.map (A.den ρ m)).length))++xP)=nM at jm aJ;rw[jm]at hst;have ak6:∀r∈ab (code'.den ae),bD sh r:=λr hr=>by
      rw[g6]at hr;rcases CY hr with hr|hr
      ·exact zo r hr
      ·subst hr;exact p1
     have te:(ab (code'.den ae)).length=(ab (code.den ρ)).length:=by rw[g6];simp
     have hsz:(pre++nM++post).length=cells.size:=by
      have e1:=congrArg jg B6;have e2:=aJ.len;have e3:=aaA.len;rw[te]at e2;simp only[c8,xK]at e1 e3⊢;omega
     have d1:cap.den ae=cap.den ρ:=U.bw ha eS.1.2.2;have d2:cg.den ae=cg.den ρ:=U.bw ha eS.1.1;have Ji:=hR.a6.put (kd:=kind) (cells:=cells) (fz:=fz) (code':=code') c1 hbl (by rw[d1];exact cv) (row:=(pre++nM++post).toArray) (λ_=>⟨λbE=>by rw[d1]at bE;omega,λ_=>⟨q0,_,_,fz,Hi w (m b) _ _ _ _ q1,⟨by rw[d2];exact q2,by
      rw[d2];exact⟨ak6,pre,nM,post,rfl,FP,aJ.mono ((Fr.of w λg' h'=>bX.dQ h.b ha h').trans (bX.pX hbl (by rw[iH (by omega) (by rw[d1];exact cv)];exact c1)))⟩⟩,λ_=>⟨rfl,by rw[d2];exact r1,by simp only[uc,hsz];exact r2,by rw[d1];simp only[uc,hsz];exact r3,fN,cw⟩⟩⟩)
     unfold m9;have hrun:(SM t (.pointer (some ⟨m b,(cg.den ρ).toNat+(i.den ρ).toNat*sh.length+j,none⟩)) (u.den ρ m)).run P w= .ok () (w.setRow (m b) (pre++nM++post).toArray):=by
      simp only[SM,kK,gy,ie,gG,storeVar,gM hs,W.Ic (m:=m) u hx.1];simp only[uc,jW,ne_eq,not_true_eq_false,if_false,ie,gG];simp only[ie,gG,hst]
     simp only[execOp,ho,gy,ED,c7,hrun,gG,ie];refine hk n' ae m _ _ G _ _ ⟨hn,ha,by rw[jN];exact aV _,λ_ _=>rfl⟩ (dI.refl _ _) ⟨?_,by rw[put_defers];exact h.d,hR.b.set (λy hy=>by
      simp at hy;subst hy;exact⟨⟨eS.1.1.mono hn,g1,eS.1.2.2.mono hn⟩,g2,by rw[d1];exact eS.2.2⟩),Ji⟩ ag
     rw[jN];exact dn.put hR.t o.dst (by intro x hx;simp at hx) rfl
   ·cases bH
  ·cases bH
 ·rename_i s d x ho;have hx:=cc h.t x;split at bH
  ·rename_i l ET;rw[ET]at hx;split at bH
   ·rename_i e hs hd;split at bH
    ·rename_i he;simp only[aK]at bH;subst bH;have oa:(A.str l).ok n bl.length ρ:=hx.1;have c7:a.eval x= .string (az (aa (l.den ρ))):=hx.2;have hcs:ao S L (bind (ev 27 [l] 0 bV) λcode=>bind (ev 0 [l] 0 0x7fffffffffffffff) λlen=>pure (code,len)) n ρ λae n' p=>(p.1.aY n'/\p.2.aY n')/\(0<=p.1.den ae/\p.1.den ae<=bV)/\(aa (l.den ρ)).length<=0x7fffffffffffffff/\ab (p.1.den ae)=(aa (l.den ρ)).map (λb=>[(b.toNat:Int)])/\p.2.den ae=(aa (l.den ρ)).length:=by
      have iE:(aa (l.den ρ)).length<=0x7fffffffffffffff:=by have:=vV oa.2.2;unfold dP at this;omega
      have dL:rc ((aa (l.den ρ)).map λb=>[(b.toNat:Int)])<=bV:=nU (by simp;unfold maxLen;omega) λr hr=>by
       obtain⟨b,_,rfl⟩:=List.mem_map.1 hr;have hp:=pH;have yS:=C5;have:=b.toNat_lt;exact⟨by simp,λz hz=>by simp at hz;subst hz;omega⟩
      refine(fY (op:=27) (args:=[l]) (eJ _) dL).bind λay n1 code eY dz ⟨g1,g2⟩=>?_;have g2:code.den ay=rc ((aa (l.den ρ)).map λb=>[(b.toNat:Int)]):=g2;have n9:l.den ay=l.den ρ:=U.bw dz oa.1;refine(fY (op:=0) (args:=[l]) (lo:=0) (hi:=0x7fffffffffffffff) (Int.natCast_nonneg _) (by
       show((aa (l.den ay)).length:Int)<=_;rw[n9];omega)).bind λbn n2 len dY cU ⟨k1,k2⟩=>ao.pure ?_
      have k2:len.den bn=((aa (l.den ay)).length:Nat):=k2;have e3:code.den bn=code.den ay:=U.bw cU g1;refine⟨⟨g1.mono dY,k1⟩,by rw[e3,g2];exact⟨eJ _,dL⟩,iE,by rw[e3,g2,di],by rw[k2,n9]⟩
     obtain⟨ae,n',p,hn,ha,⟨⟨g1,kP⟩,g2,g3,g4,g5⟩,ag⟩:=hcs G (λp n=>DP 3 e o.dst jC p.1 p.2 n tm bl k) ag;have hR:=h.later hn ha;have hrun:=Lib.run_convert_string_bytes (P:=P) w s d e (az (aa (l.den ρ))) hs (ia hd) he;generalize cv:grownCap w (az (aa (l.den ρ))).size 0 e=c at hrun;have e8:(az (aa (l.den ρ))).size<=c:=by rw[<-cv];exact grownCap_ge w _ 0 e
     have hle:c<=0x7fffffffffffffff:=by rw[<-cv];exact grownCap_le_maxLen w _ 0 e (by rw[l6];exact g3)
     have ta:(Hm w e (az (aa (l.den ρ)))).heap[w.heap.size]?=some (.cells (Hn w e (az (aa (l.den ρ)))) e ((Hn w e (az (aa (l.den ρ)))).size,(Hn w e (az (aa (l.den ρ)))).size+1)):=Lib.bytesWorld_at_new w e _;have ajY:(Hn w e (az (aa (l.den ρ)))).size=c:=by
      have akg:=e8;rw[l6]at akg;simp only[Hn,adr,Array.size_map,Array.size_replicate,cv];show(az (aa (l.den ρ))).size+_=_;omega
     have rS:w.Extends (Hm w e (az (aa (l.den ρ)))):=by
      have hb:∀i:Nat,i<w.heap.size->(Hm w e (az (aa (l.den ρ)))).heap[i]?=w.heap[i]?:=λi hi=>Lib.bytesWorld_at_old w e _ i hi;exact⟨rfl,rfl,rfl,by simp[Hm,World.freeze,CZ,SU,-LK,-adv],λy hy=>by simp only[jx,hb y.block hy],λy hy=>by simp only[tZ,hb y.block hy],hb⟩
     have rM:R w0 n' ae m tm bl a (Hm w e (az (aa (l.den ρ)))):=⟨hR.t,hR.d,hR.b,hR.a6.grow rS⟩;unfold m9;simp only[execOp,ho,gy,c7,hrun,gG,ie];have jD:j0 S L w0 k n' bl.length ae m G K:=hk.later ⟨hn,ha,aV _,λ_ _=>rfl⟩ (dI.refl _ _);have ew:(az (aa (l.den ρ))).size=(aa (l.den ρ)).length:=l6 _;have key:=QK (kd:=3) (c:=(c:Int)) (g:=w.heap.size) (by omega) rM g1 kP g2 ⟨by omega,by omega⟩ (by rw[g5];exact⟨⟨by omega,by omega,by omega,by omega⟩,⟨by omega,by omega⟩,λh=>by omega,λ_=>by omega⟩) (λh=>by omega)
      (λ_=>⟨_,_,⟨ta,.inr ⟨by decide,rfl⟩⟩,by
        rw[g4];refine(k0 (sh:=jC) (by decide)).2 ⟨λr hr=>?_,[],eh (c-(aa (l.den ρ)).length) (.int .u8 0),?_,rfl⟩
        ·obtain⟨b,_,rfl⟩:=List.mem_map.1 hr;have:=b.toNat_lt;exact⟨⟨by simp[av.dG],by simp only[av.dG];omega⟩,trivial⟩
        ·simp only[Hn,cv,Array.toList_append,vQ,Array.toList_replicate,gv]
         congr 1
         ·show(aa (l.den ρ)).map _=_;simp only[cG,List.flatMap_map];induction aa (l.den ρ)with
          |nil=>rfl
          |cons b r ih=>simp[dm,av.val,jC,ih],by
        rw[ajY];simp[jC],h.a6.ext.size,.inr h.a6.ew⟩) (λ_=>hR.a6.we rS (aV _)) (λi p hi he=>by
         by_cases fE:aS ae p.1=0
         ·exact .inl fE
         ·have:=hR.a6.lt hi fE;omega) ag jD
     rw[if_neg (by omega),g5]at key;have key:K (a.put o.dst (.slice (some ⟨w.heap.size,0,none⟩) (aa (l.den ρ)).length c)) (Hm w e (az (aa (l.den ρ)))):=by simpa using key
     rw[ew];exact key
    ·cases bH
   ·cases bH
  ·cases bH
 ·rename_i t x y ho;split at bH
  ·rename_i e j7 jJ hd aky akz;cases hi:P.info? e with
   |none=>simp[hi]at bH
   |some i=>
    simp only[hi]at bH;split at bH
    ·rename_i z hz;cases hc:(aA i.size 1&&bp i.bytes 1024&&decide (z=0))with
     |false=>rw[hc]at bH;cases bH
     |true=>
      rw[hc]at bH;simp only[cond_true,aK]at bH;subst bH;simp only[aQ,decide_eq_true_eq]at hc;have c1:=bo hc.1.1;have c2:=et hc.1.2;have c3:=hc.2;subst c3;obtain⟨amW,hx,gm⟩:=YR h.t aky;obtain⟨amX,hy,JA⟩:=YR h.t akz;obtain⟨OY,ag⟩:=ag;have OY:0<=j7.den ρ/\j7.den ρ<=jJ.den ρ/\jJ.den ρ<=1073741824:=OY;obtain⟨q1,q2,q3⟩:=OY;have q0:0<=jJ.den ρ:=by omega
      have hrow:∀r∈eh (j7.den ρ).toNat [(0:Int)],bD jC r:=λr hr=>by
       rw[List.eq_of_mem_replicate hr];exact⟨⟨by simp[av.dG],by simp[av.dG]⟩,trivial⟩
      have dL:rc (eh (j7.den ρ).toNat [(0:Int)])<=bV:=sH (sh:=jC) (by decide) (by simp;omega) hrow;have hf:aB 26 ([j7,U.const 0].map (·.den ρ))=rc (eh (j7.den ρ).toNat [(0:Int)]):=by
       simp only[ch,ec,aB,U.aO]
      obtain⟨ae,n',code,hn,ha,⟨g1,g2⟩,ag⟩:=fY (S:=S) (L:=L) (n:=n) (op:=26) (args:=[j7,.const 0]) (lo:=0) (hi:=bV) (by rw[hf];exact eJ _) (by rw[hf];exact dL) G _ ag;rw[hf]at g2;have hR:=h.later hn ha;have d1:j7.den ae=j7.den ρ:=U.bw ha gm;have hrun:=run_make (P:=P) w t e i (.int .u8 0) (ia hd) hi hz amW amX (j7.den ρ) (jJ.den ρ) q1 q2 (by
       have h0:(i.bytes:Int)<=1024:=by omega
       have h2:(i.bytes:Int)*jJ.den ρ<=1024*1073741824:=Int.mul_le_mul h0 q3 q0 (by decide);omega) (by omega)
      have XQ:(madeCells (sA .u8 0).cells ((jJ.den ρ).toNat*i.size)).toList=eh (jJ.den ρ).toNat (.int .u8 0):=by
       rw[c1,Nat.mul_one];refine ads λj=>?_;simp only[madeCells,Value.cells,vQ,ayX];rw[lV,List.getElem?_replicate];by_cases hj:j<(jJ.den ρ).toNat
       ·rw[if_pos hj,List.getElem?_range hj];simp[Nat.mod_one]
       ·rw[if_neg hj,List.getElem?_eq_none (by simp;omega)];rfl
      have hsz:(madeCells (sA .u8 0).cells ((jJ.den ρ).toNat*i.size)).size=(jJ.den ρ).toNat:=by
       have:=congrArg jg XQ;simpa using this
      have ta:(w.alloc (.cells (madeCells (sA .u8 0).cells ((jJ.den ρ).toNat*i.size)) e)).heap[w.heap.size]?=some (.cells (madeCells (sA .u8 0).cells ((jJ.den ρ).toNat*i.size)) e (0,0)):=by simp[CZ,-LK]
      have rS:w.Extends (w.alloc (.cells (madeCells (sA .u8 0).cells ((jJ.den ρ).toNat*i.size)) e)):=by
       have hb:∀j:Nat,j<w.heap.size->(w.alloc (.cells (madeCells (sA .u8 0).cells ((jJ.den ρ).toNat*i.size)) e)).heap[j]?=w.heap[j]?:=λj hj=>by
        simp only[CZ];rw[ay3 hj,Lx hj]
       exact⟨rfl,rfl,rfl,by simp[CZ,-LK],λy hy=>by simp only[jx,hb y.block hy],λy hy=>by simp only[tZ,hb y.block hy],hb⟩
      generalize hW:w.alloc (.cells (madeCells (sA .u8 0).cells ((jJ.den ρ).toNat*i.size)) e)=W at*;have rM:R w0 n' ae m tm bl a W:=⟨hR.t,hR.d,hR.b,hR.a6.grow rS⟩;unfold m9;simp only[execOp,ho,gy,hx,hy,hrun,gG,ie];have jD:j0 S L w0 k n' bl.length ae m G K:=hk.later ⟨hn,ha,aV _,λ_ _=>rfl⟩ (dI.refl _ _);have key:=QK (kd:=2) (c:=jJ.den ρ) (g:=w.heap.size) (aV _) rM g1 (gm.mono hn) (by rw[g2];exact⟨eJ _,dL⟩) ⟨by omega,by omega⟩ (by rw[d1];exact⟨⟨by omega,by omega,by omega,by omega⟩,⟨by omega,by omega⟩,λh=>by omega,λ_=>by omega⟩) (λh=>by omega)
       (λ_=>⟨_,_,⟨ta,.inl ⟨rfl,rfl⟩⟩,by
         rw[g2,di];refine(k0 (sh:=jC) (by decide)).2 ⟨hrow,[],eh ((jJ.den ρ).toNat-(j7.den ρ).toNat) (.int .u8 0),?_,rfl⟩;rw[XQ,gv];have e1:cG jC (eh (j7.den ρ).toNat [(0:Int)])=eh (j7.den ρ).toNat (.int .u8 0):=by
          generalize (j7.den ρ).toNat=q;induction q with
          |zero=>rfl
          |succ q ih=>
           rw[z6,z6];simp only[cG,List.flatMap_cons]at ih⊢;rw[ih];rfl
         rw[e1,List.replicate_append_replicate]
         congr 1;omega,by rw[hsz];simp[jC],h.a6.ext.size,.inr h.a6.ew⟩) (λ_=>hR.a6.we rS (aV _)) (λj p hj he=>by
         by_cases fE:aS ae p.1=0
         ·exact .inl fE
         ·have:=hR.a6.lt hj fE;omega) ag jD
      rw[if_neg (by omega),d1]at key;have key:K (a.put o.dst (.slice (some ⟨w.heap.size,0,none⟩) (j7.den ρ).toNat (jJ.den ρ).toNat)) W:=key;exact key
    ·cases bH
  ·cases bH
 ·rename_i c ho;split at bH
  ·rename_i f hc;split at bH
   ·rename_i fn x hf mf;split at bH
    ·rename_i y t hx jG;split at bH
     ·rename_i e hd;split at bH
      ·rename_i he;cases hm:JI fn with
       |false=>rw[hm]at bH;cases bH
       |true=>
        rw[hm]at bH;simp only[cond_true,aK]at bH;subst bH;obtain⟨dE,m2,m3,sb⟩:=ahd hm;have gm:=cc h.t x;rw[hx]at gm;have JA:y.l.aY n:=gm.1.1;obtain⟨OX,ag⟩:=ag;have OX:0<=y.l.den ρ/\y.l.den ρ<=1073741824:=OX;obtain⟨q1,q2⟩:=OX;obtain⟨N,hN⟩:∃N:Nat,y.l.den ρ=N:=⟨(y.l.den ρ).toNat,by omega⟩;have c7:a.eval x= .int .i64 (N:Int):=by rw[<-hN];exact gm.2
        have ak2:fn.resultTypes=#[t]:=SN (by rw[jG]);obtain⟨ji,yi,hrun,hle,nw⟩:=ats (P:=P) w fn.params t e (ia hd) N (by omega);have nw:=nw (by unfold maxLen;omega);unfold maxLen at nw;obtain⟨l,l1,l2,l3⟩:=Vy ji yi #[];have AZ:(execOp a.eval o).run P w= .ok (.value (.slice (some ⟨w.heap.size,0,none⟩) N ji)) (w.drew.drew.alloc (.cells (uf ji yi #[]) e)):=by
         rw[Ro hc o ho,run_callFunc_extern hf m2 dE m3 sb];have:c.args.map a.eval=#[.int .i64 (N:Int)]:=SN (by rw[vQ,mf];simp[c7]);rw[this,ak2,hrun];rfl
        have PB:∀r∈l.take N,bD jC r:=λr hr=>l2 r (kh hr);have mO:(l.take N).length=N:=by rw[ly,l1];omega
        have YA:rc (l.take N)<=bV:=sH (sh:=jC) (by decide) (by rw[mO];omega) PB;have ag:=ag (rc (l.take N)) (eJ _) YA;have dz:agree n ρ (cR ρ n (rc (l.take N))):=agree.cR _ _ _;have aH:y.l.den (cR ρ n (rc (l.take N)))=N:=by rw[U.bw dz JA,hN]
        have Ni:(U.var n).den (cR ρ n (rc (l.take N)))=rc (l.take N):=by simp[U.cj,jQ]
        have ag:=ag (by
         show y.l.den (cR ρ n (rc (l.take N)))=((ab ((U.var n).den (cR ρ n (rc (l.take N))))).length:Int);rw[aH,Ni,di,mO])
        have ag:=ag (ji:Int) (by omega) (by omega);have ag:=ag (by
         have cU:agree (n+1) (cR ρ n (rc (l.take N))) (cR (cR ρ n (rc (l.take N))) (n+1) (ji:Int)):=agree.cR _ _ _;show y.l.den (cR (cR ρ n (rc (l.take N))) (n+1) (ji:Int))<=(U.var (n+1)).den (cR (cR ρ n (rc (l.take N))) (n+1) (ji:Int));rw[U.bw cU (JA.mono (kI _)),aH];simp only[U.cj,jQ];omega)
        have hR:=h.later (kI n) dz;have ta:(w.drew.drew.alloc (.cells (uf ji yi #[]) e)).heap[w.heap.size]?=some (.cells (uf ji yi #[]) e (0,0)):=by simp[CZ,SU,-LK,-adv]
        have rS:w.Extends (w.drew.drew.alloc (.cells (uf ji yi #[]) e)):=by
         have hb:∀j:Nat,j<w.heap.size->(w.drew.drew.alloc (.cells (uf ji yi #[]) e)).heap[j]?=w.heap[j]?:=λj hj=>by
          simp only[CZ,SU];rw[ay3 hj,Lx hj]
         exact⟨rfl,rfl,rfl,by simp[CZ,SU,-LK,-adv],λy hy=>by simp only[jx,hb y.block hy],λy hy=>by simp only[tZ,hb y.block hy],hb⟩
        generalize hW:w.drew.drew.alloc (.cells (uf ji yi #[]) e)=W at*;have rM:R w0 (n+1) (cR ρ n (rc (l.take N))) m tm bl a W:=⟨hR.t,hR.d,hR.b,hR.a6.grow rS⟩;unfold m9;simp only[AZ];have jD:j0 S L w0 k (n+1) bl.length (cR ρ n (rc (l.take N))) m G K:=hk.later ⟨kI n,dz,aV _,λ_ _=>rfl⟩ (dI.refl _ _);have key:=aay (kd:=2) (c:=(ji:Int)) (g:=w.heap.size) (code:= .var n) (len:=y.l) (e:=e) (d:=o.dst) (sh:=jC) (aV _) rM (U.er (sy n)) (JA.mono (kI _)) (by rw[Ni];exact⟨eJ _,YA⟩) ⟨by omega,by omega⟩ (by rw[aH];exact⟨⟨by omega,by omega,by omega,by omega⟩,⟨by omega,by omega⟩,λh=>by omega,λ_=>by omega⟩) (λh=>by omega)
         (λ_=>⟨_,_,⟨ta,.inl ⟨rfl,rfl⟩⟩,by
           rw[Ni,di];refine(k0 (sh:=jC) (by decide)).2 ⟨PB,[],cG jC (l.drop N),?_,rfl⟩;rw[l3];show cG jC l=cG jC (l.take N)++cG jC (l.drop N);rw[<-uE,jy],by
           have e1:=congrArg jg l3;simp only[c8,pW l2,l1]at e1;simpa [jC]using e1,h.a6.ext.size,.inr h.a6.ew⟩) (λ_=>hR.a6.we rS (aV _)) (λj p hj he=>by
           by_cases fE:aS (cR ρ n (rc (l.take N))) p.1=0
           ·exact .inl fE
           ·have:=hR.a6.lt hj fE;omega) ag jD
        rw[if_neg (by omega),aH]at key;have key:K (a.put o.dst (.slice (some ⟨w.heap.size,0,none⟩) N ji)) W:=by simpa using key
        exact key
      ·cases bH
     ·cases bH
    ·cases bH
   ·cases bH
  ·cases bH
 ·cases bH
end
end Go.aW
namespace Go.aW
open M
section
variable {S:Nat->List Int->List Int->Prop} {L:V->Env->Prop} {n:Nat} {ρ:Env} {m:Nat->Nat} {bl:List aj} {gl:dA} {w0:cI} {P:bk}
theorem Mem.rewrite {w:ai} {b:Nat} {sh:List av} {off code cap code':U} {kind:Nat} {bN:aR×Bool} (h:Mem w0 ρ m bl w) (hbl:bl[b]?=some ([.rows sh off code cap kind],bN)) (hk:2<=kind) (cv:0<=cap.den ρ)
 (hp:hZ sh=true) (nB:∀r∈ab (code'.den ρ),bD sh r) (hlen:(ab (code'.den ρ)).length=(ab (code.den ρ)).length):
 ∃(cells:Array ax) (post:List ax) (fz:Nat×Nat),w.heap[m b]?=some (.cells cells bN.1 fz)/\uj kind fz cells.size/\off.den ρ=0/\(∀r∈ab (code.den ρ),bD sh r)/\cells.toList=cG sh (ab (code.den ρ))++post/\cells.size=(cap.den ρ).toNat*sh.length/\
  Mem w0 ρ m (cy bl b ([.rows sh off code' cap kind],bN)) (w.setRow (m b) (cG sh (ab (code'.den ρ))++post).toArray):=by
 obtain⟨q0,cells,gq,fz,q1,⟨q2,q3⟩,dr⟩:=(h.rws b sh off code cap kind bN hbl (by omega)).2 cv;obtain⟨r0,r1,r2,r3,fN,cw⟩:=dr hk;subst r0;obtain⟨zo,pre,post,B6,FP⟩:=(k0 hp).1 q3;rw[r1]at FP;have gf:pre=[]:=ra (by simpa using FP);subst gf;rw[gv]at B6;have hsz:(cG sh (ab (code'.den ρ))++post).length=cells.size:=by
  have e1:=congrArg jg B6;simp only[c8,pW nB,pW zo,xK,hlen]at e1⊢;omega
 refine⟨cells,post,fz,q1,r2,r1,zo,B6,r3,?_⟩;exact h.put (kd:=kind) (cells:=cells) (fz:=fz) (code':=code') hk hbl cv (row:=(cG sh (ab (code'.den ρ))++post).toArray) (λ_=>⟨λbE=>by omega,λ_=>⟨q0,_,_,fz,Hi w (m b) _ _ _ _ q1,⟨by rw[r1];exact bO _,by
  rw[r1];exact(k0 hp).2 ⟨nB,[],post,by simp,rfl⟩⟩,λ_=>⟨rfl,r1,by simp only[uc,hsz];exact r2,by simp only[uc,hsz];exact r3,fN,cw⟩⟩⟩)
theorem aoz {sh:List av} {rows mid:List (List Int)} {post:List ax} {cells:List ax} {a:Nat} (hr:∀r∈rows,bD sh r) (hm:∀r∈mid,bD sh r) (hc:cells=cG sh rows++post) (ha:a+mid.length<=rows.length):
 cells.take (a*sh.length)++cG sh mid++cells.drop (a*sh.length+(cG sh mid).length)=cG sh (rows.take a++mid++rows.drop (a+mid.length))++post:=by
 have h1:cG sh rows=cG sh (rows.take a)++cG sh (rows.drop a):=by rw[<-uE,jy]
 have h2:cG sh rows=cG sh (rows.take (a+mid.length))++cG sh (rows.drop (a+mid.length)):=by rw[<-uE,jy]
 have l1:(cG sh (rows.take a)).length=a*sh.length:=by rw[pW λr h=>hr r (kh h),ly,vL (by omega)]
 have l2:(cG sh (rows.take (a+mid.length))).length=a*sh.length+(cG sh mid).length:=by rw[pW λr h=>hr r (kh h),pW hm,ly,vL (by omega),ue]
 have e1:cells.take (a*sh.length)=cG sh (rows.take a):=by
  rw[hc,h1,eG,Hc (by omega),lu (by omega)]
 have e2:cells.drop (a*sh.length+(cG sh mid).length)=cG sh (rows.drop (a+mid.length))++post:=by
  rw[hc,h2,eG,<-l2,List.drop_left]
 rw[e1,e2,uE,uE];simp only[eG]
theorem ZH {sh:List av} {rows mid:List (List Int)} {a k:Nat} (hr:∀r∈rows,bD sh r) (hm:∀r∈mid,bD sh r):∀r∈rows.take a++mid++rows.drop k,bD sh r:=λr h=>by
 rcases List.mem_append.1 h with h|h
 ·rcases List.mem_append.1 h with h|h
  ·exact hr r (kh h)
  ·exact hm r h
 ·exact hr r (nS h)
theorem ZG {rows mid:List (List Int)} {a:Nat} (ha:a+mid.length<=rows.length):(rows.take a++mid++rows.drop (a+mid.length)).length=rows.length:=by
 simp only[c8,ly,q9];omega
theorem aa4 {w:ai} {b:Nat} {sh:List av} {off code cap:U} {kind:Nat} {bN:aR×Bool} (h:Mem w0 ρ m bl w) (hbl:bl[b]?=some ([.rows sh off code cap kind],bN)) (hk:2<=kind) (cv:0<=cap.den ρ) (s5:cap.den ρ<=0x7fffffffffffffff) (mi:0<sh.length):(ab (code.den ρ)).length<=maxLen/\∀r∈ab (code.den ρ),bD sh r:=by
 obtain⟨q0,cells,gq,fz,q1,⟨q2,q3⟩,dr⟩:=(h.rws b sh off code cap kind bN hbl (by omega)).2 cv;obtain⟨_,_,_,h5,_⟩:=dr hk;obtain⟨zo,pre,vs,post,p1,aJ,bb⟩:=q3;refine⟨?_,zo⟩;have h4:=congrArg jg p1;simp only[c8,bb.len,xK]at h4;rw[h5]at h4;have h6:(ab (code.den ρ)).length*sh.length<=(cap.den ρ).toNat*sh.length:=by omega
 have h7:=ay2 h6 mi;unfold maxLen;omega
theorem atP {sh:List av} (h:kC sh=true):0<sh.length:=by
 unfold kC at h;simp only[aQ]at h;exact uv h.1.2
theorem as9 {w:ai} {b:Nat} {sh:List av} {off code cap:U} {kind:Nat} {bN:aR×Bool} (h:Mem w0 ρ m bl w) (hbl:bl[b]?=some ([.rows sh off code cap kind],bN)) (hk:2<=kind) (s5:cap.den ρ<=0x7fffffffffffffff) (mi:0<sh.length):(ab (code.den ρ)).length<=maxLen/\∀r∈ab (code.den ρ),bD sh r:=by
 rcases ic (cap.den ρ) 0 with hc|hc
 ·rw[(h.rws b sh off code cap kind bN hbl (by omega)).1 hc];exact⟨Nat.zero_le _,λr hr=>by simp at hr⟩
 ·exact aa4 h hbl hk hc s5 mi
theorem Mem.asI {w:ai} {b:Nat} {sh:List av} {off code cap code':U} {kind:Nat} {bN:aR×Bool} (h:Mem w0 ρ m bl w) (hbl:bl[b]?=some ([.rows sh off code cap kind],bN)) (he:ab (code'.den ρ)=ab (code.den ρ)):Mem w0 ρ m (cy bl b ([.rows sh off code' cap kind],bN)) w:=by
 rw[iN];have hlt:=(List.getElem?_eq_some_iff.1 hbl).1;have hg:∀(i:Nat) (p:aj),(bl.set b ([.rows sh off code' cap kind],bN))[i]?=some p->(i=b/\p=([.rows sh off code' cap kind],bN))∨(i≠b/\bl[i]?=some p):=λi p hi=>by
  rw[oL]at hi;by_cases gT:b=i
  ·subst gT;rw[if_pos rfl,if_pos hlt]at hi;exact .inl ⟨rfl,(fQ hi).symm⟩
  ·rw[if_neg gT]at hi;exact .inr ⟨λe=>gT e.symm,hi⟩
 have ft:∀(i:Nat) (p:aj),(bl.set b ([.rows sh off code' cap kind],bN))[i]?=some p->∃q:aj,bl[i]?=some q/\aS ρ p.1=aS ρ q.1:=λi p hi=>by
  rcases hg i p hi with⟨rfl,rfl⟩|⟨_,h2⟩
  ·exact⟨_,hbl,rfl⟩
  ·exact⟨_,h2,rfl⟩
 have ob:∀g',bX w0 ρ m bl g'->bX w0 ρ m (bl.set b ([.rows sh off code' cap kind],bN)) g':=λg' h'=>⟨h'.1,λi p hi hk=>by
  obtain⟨q,h1,h2⟩:=ft i p hi;exact h'.2 i q h1 (by rw[<-h2];exact hk)⟩
 refine⟨h.ext,h.jo,h.jr,h.iF,h.ew,h.gi,λi cs t hi ho=>?_,λi cF dZ ff dX eZ t hi=>?_,λi j p q hi hj hm=>?_⟩
 ·rcases hg i _ hi with⟨_,h2⟩|⟨_,h2⟩
  ·cases h2;exact absurd ho (by simp[bI])
  ·exact h.blk i cs t h2 ho
 ·rcases hg i _ hi with⟨rfl,h2⟩|⟨_,h2⟩
  ·cases h2;have:=(h.rws _ sh off code cap kind bN hbl).mono ob;unfold gQ at this⊢;rw[he];exact this
  ·exact(h.rws i _ _ _ _ _ t h2).mono ob
 ·obtain⟨p',hp,ep⟩:=ft i p hi;obtain⟨q',hq,eq⟩:=ft j q hj;rw[ep,eq];exact h.inj i j p' q' hp hq hm
theorem auh {tm:List V} {a:Act} {w:ai} {G:c9} {o:Oper} {K:Act->ai->Prop} {Q:Exit->Act->ai->Prop} {k:fC} {rz:T}
 (h:R w0 n ρ m tm bl a w) (bH:RT P o n tm bl k=some rz) (ag:rz.holds S L G ρ) (hk:j0 S L w0 k n bl.length ρ m G K):o.wp P a w K Q:=by
 unfold RT at bH;split at bH
 rotate_left
 ·cases bH
 rename_i c ho;split at bH
 ·rename_i iW;split at bH
  rotate_left
  ·cases bH
  rename_i x y t t' gm qb;have hx:=cc h.t x;have hy:=cc h.t y;split at bH
  rotate_left
  ·rename_i b aL cg ro len cap e hv hv2 he;rw[hv]at hx;rw[hv2]at hy;split at bH
   rotate_left
   ·cases bH
   rename_i s hs;simp only[aK]at bH;subst bH;have a1:c.args=#[x,y]:=by rw[<-lx (xs:=c.args),gm]
   have a2:c.argTypes=#[t,t']:=by rw[<-lx (xs:=c.argTypes),qb]
   have om:(A.sl b aL cg ro len cap).ok n bl.length ρ:=hx.1;obtain⟨ptr,e1,e2,e3⟩:=oA (m:=m) om;have c7:a.eval x=(A.sl b aL cg ro len cap).den ρ m:=hx.2;rw[e1]at c7;have r4:a.eval y= .slice none 0 0:=hy.2;obtain⟨qA,vU,xP,hX⟩:∃A B C,a.eval x= .slice A B C:=⟨_,_,_,c7⟩;have hrun:(xL #[t,t'] o.type #[.slice qA vU xP,.slice none 0 0]).run P w= .ok (goInt 0) w:=by
    cases qA<;>simp[xL,eK (ia he),adA,gM hs,z1,storeCells]
   unfold m9;have hex:execOp a.eval o=(do pure (kJ (<-xL #[t,t'] o.type #[a.eval x,a.eval y]))):=by
    simp[execOp,ho,resolve,iW,a1,a2,invoke,builtin]
   simp only[hex,hX,r4,gy,hrun,gG,ie];exact hk n ρ m _ _ G _ _ (cJ.refl _ _ _ _) (dI.refl _ _) ⟨dn.put (v:= .w (.one (.int .i64 ⟨.const 0,0,0⟩))) h.t o.dst ⟨U.cr _ _,by simp[U.aO],by simp[U.aO]⟩ rfl,by rw[put_defers];exact h.d,h.b,h.a6⟩ ag
  ·cases bH
  rename_i b aL cg ro len cap b2 RY mq fi iY Ds e hv hv2 he;rw[hv]at hx;rw[hv2]at hy;split at bH
  rotate_left
  ·cases bH
  rename_i sh off code cO kind bN K2 Ki ff uy tp H5 s hbl uL hs;cases hc:(bp 2 kind&&ck 0 tp&&U.beq cg off&&U.beq mq Ki&&jc sh K2&&aA aL sh.length&&aA RY sh.length&&aA s sh.length&&kC sh&&hZ sh)with
  |false=>rw[hc]at bH;cases bH
  |true=>
   rw[hc]at bH;simp only[cond_true,aK]at bH;subst bH;simp only[aQ]at hc;obtain⟨⟨⟨⟨⟨⟨⟨⟨⟨c1,c2⟩,c3⟩,c4⟩,c5⟩,c6⟩,kj⟩,mG⟩,qH⟩,ji⟩:=hc;have c1:=et c1;have c2:0<tp:=et c2;have c3:=U.beq_eq c3;have c4:=U.beq_eq c4;have c5:=pt c5;have c6:=bo c6;have kj:=bo kj;have mG:=bo mG
   subst c3;subst c4;subst c5;subst c6;subst kj;subst mG;have a1:c.args=#[x,y]:=by rw[<-lx (xs:=c.args),gm]
   have a2:c.argTypes=#[t,t']:=by rw[<-lx (xs:=c.argTypes),qb]
   have om:(A.sl b sh.length cg ro len cap).ok n bl.length ρ:=hx.1;have Yo:(A.sl b2 sh.length mq fi iY Ds).ok n bl.length ρ:=hy.1;obtain⟨ptr,e1,e2,e3⟩:=oA (m:=m) om;obtain⟨asg,f1,f2,f3⟩:=oA (m:=m) Yo;have c7:a.eval x=(A.sl b sh.length cg ro len cap).den ρ m:=hx.2;have r4:a.eval y=(A.sl b2 sh.length mq fi iY Ds).den ρ m:=hy.2;rw[e1]at c7;rw[f1]at r4;obtain⟨x1,⟨x2,x3,bL,gg⟩,⟨je,oH,lq,nN⟩,⟨oF,oG⟩,fH,gW⟩:=om;obtain⟨eb,⟨gP,kc,iv,nO⟩,⟨tR,GJ,Sn,xB⟩,⟨GI,Sm⟩,Ln,Sl⟩:=Yo;have eS:(A.rows sh cg code cO kind).ok n bl.length ρ:=h.b _ (cM hbl) _ (by simp);have aia:(A.rows sh mq ff uy tp).ok n bl.length ρ:=h.b _ (cM uL) _ (by simp);have mi:=atP qH;have hcs:ao S L (bind (eP 80 [code,ro,len]) λ_=>bind (eP 22 [ff,fi,fi.add iY]) λ_=>bind (ev 62 [iY,len] 0 0x7fffffffffffffff) λq=>bind (ev 22 [ff,fi,fi.add q] 0 bV) λsrc=>bind (ev 63 [code,ro,src] 0 bV) λcode'=>pure (q,code')) n ρ λae n' p=>(p.1.aY n'/\p.2.aY n')/\(0<=p.2.den ae/\p.2.den ae<=bV)/\(0<=ro.den ρ/\0<=len.den ρ/\ro.den ρ+len.den ρ<=(ab (code.den ρ)).length)/\
    p.1.den ae=min (iY.den ρ) (len.den ρ)/\(0<=fi.den ρ/\fi.den ρ+iY.den ρ<=(ab (ff.den ρ)).length)/\ab (p.2.den ae)=(ab (code.den ρ)).take (ro.den ρ).toNat++((ab (ff.den ρ)).drop (fi.den ρ).toNat).take (min (iY.den ρ) (len.den ρ)).toNat++(ab (code.den ρ)).drop ((ro.den ρ).toNat+(((ab (ff.den ρ)).drop (fi.den ρ).toNat).take (min (iY.den ρ) (len.den ρ)).toNat).length)/\∀r∈ab (ff.den ρ),bD sh r:=by
    refine fX λiE=>fX λhk2=>?_;have iE:0<=ro.den ρ/\0<=len.den ρ/\ro.den ρ+len.den ρ<=(ab (code.den ρ)).length:=iE;have hk2:0<=fi.den ρ/\fi.den ρ<=(fi.add iY).den ρ/\(fi.add iY).den ρ<=(ab (ff.den ρ)).length:=hk2;rw[U.den_add]at hk2;obtain⟨nw,hO⟩:=as9 h.a6 hbl c1 eS.2.2.2 mi;have EF:∀r∈ab (ff.den ρ),bD sh r:=by
     rcases ic (uy.den ρ) 0 with iX|iX
     ·have:=(h.a6.rws b2 sh mq ff uy tp H5 uL (by omega)).1 iX;rw[this];intro _ h;simp at h
     ·obtain⟨_,_,_,_,_,⟨_,q3⟩,_⟩:=(h.a6.rws b2 sh mq ff uy tp H5 uL (by omega)).2 iX;exact q3.1
    have Bb:aB 62 ([iY,len].map (·.den ρ))=min (iY.den ρ) (len.den ρ):=rfl;refine(fY (by rw[Bb];omega) (by rw[Bb];omega)).bind λay n1 q eY dz ⟨q1,q2⟩=>?_;rw[Bb]at q2;have b1:ff.den ay=ff.den ρ:=U.bw dz aia.1.2.1;have rD:fi.den ay=fi.den ρ:=U.bw dz kc;have hf:aB 22 ([ff,fi,fi.add q].map (·.den ay))=rc (((ab (ff.den ρ)).drop (fi.den ρ).toNat).take (min (iY.den ρ) (len.den ρ)).toNat):=by
     simp only[ch,ec,aB,U.den_add,b1,rD,q2]
     congr 2;omega
    have dL:rc (((ab (ff.den ρ)).drop (fi.den ρ).toNat).take (min (iY.den ρ) (len.den ρ)).toNat)<=bV:=nU (by
     simp only[ly,q9];have:(ab (code.den ρ)).length<=maxLen:=nw;omega) λr hr=>(EF r (nS (kh hr))).row qH
    refine(fY (by rw[hf];exact eJ _) (by rw[hf];exact dL)).bind λbn n2 src dY cU ⟨s1,s2⟩=>?_;rw[hf]at s2;have W5:=dz.trans cU eY;have OK:aB 63 ([code,ro,src].map (·.den bn))=rc ((ab (code.den ρ)).take (ro.den ρ).toNat++((ab (ff.den ρ)).drop (fi.den ρ).toNat).take (min (iY.den ρ) (len.den ρ)).toNat++(ab (code.den ρ)).drop ((ro.den ρ).toNat+(((ab (ff.den ρ)).drop (fi.den ρ).toNat).take (min (iY.den ρ) (len.den ρ)).toNat).length)):=by
     simp only[ch,ec,aB,U.bw W5 eS.1.2.1,U.bw W5 x3,s2,di]
    have Ba:∀r∈((ab (ff.den ρ)).drop (fi.den ρ).toNat).take (min (iY.den ρ) (len.den ρ)).toNat,bD sh r:=λr hr=>EF r (nS (kh hr));have Xc:rc ((ab (code.den ρ)).take (ro.den ρ).toNat++((ab (ff.den ρ)).drop (fi.den ρ).toNat).take (min (iY.den ρ) (len.den ρ)).toNat++(ab (code.den ρ)).drop ((ro.den ρ).toNat+(((ab (ff.den ρ)).drop (fi.den ρ).toNat).take (min (iY.den ρ) (len.den ρ)).toNat).length))<=bV:=nU (by
     rw[ZG (by simp only[ly,q9];omega)];exact nw) λr hr=>(ZH hO Ba r hr).row qH
    refine(fY (by rw[OK];exact eJ _) (by rw[OK];exact Xc)).bind λeM n3 code' rV p3 ⟨k1,k2⟩=>ao.pure ?_;rw[OK]at k2;refine⟨⟨q1.mono (gx dY rV),k1⟩,by rw[k2];exact⟨eJ _,Xc⟩,iE,?_,⟨hk2.1,hk2.2.2⟩,by rw[k2,di],EF⟩;rw[U.bw (cU.trans p3 dY) q1,q2]
   obtain⟨ae,n',p,hn,ha,⟨⟨g1,kP⟩,g2,g3,g4,g5,g6,EF⟩,ag⟩:=hcs G (λp n=>k n (ey tm o.dst (.w (.one (.int .i64 ⟨p.1,0,0x7fffffffffffffff⟩)))) (cy bl b ([.rows sh cg p.2 cO kind],bN))) ag;have hR:=h.later hn ha;have d1:code.den ae=code.den ρ:=U.bw ha eS.1.2.1;have d2:cO.den ae=cO.den ρ:=U.bw ha eS.1.2.2;rcases ic 0 (len.den ρ)with uT|uT
   rotate_left
   ·have hl0:len.den ρ=0:=by omega
    have qP:p.1.den ae=0:=by rw[g4];omega
    have lH:min (iY.den ρ) (len.den ρ)=0:=by omega
    have Bk:ab (p.2.den ae)=ab (code.den ae):=by
     rw[g6,lH,d1];simp
    obtain⟨qA,vU,xP,hX⟩:∃A B C,a.eval x= .slice A B C/\B=0:=⟨_,_,_,c7,by rw[hl0];rfl⟩;obtain⟨hX,rfl⟩:=hX;obtain⟨LP,S6,TV,hY⟩:∃A B C,a.eval y= .slice A B C:=⟨_,_,_,r4⟩;have I6:(z1 sh.length 0 (.slice LP S6 TV)).run P w= .ok #[] w:=by
     cases LP<;>simp[z1,loadCells,loadCellsFrom]
    have hrun:(xL #[t,t'] o.type #[.slice qA 0 xP,.slice LP S6 TV]).run P w= .ok (goInt 0) w:=by
     cases qA<;>simp[xL,eK (ia he),adA,gM hs,I6,storeCells]
    unfold m9;have hex:execOp a.eval o=(do pure (kJ (<-xL #[t,t'] o.type #[a.eval x,a.eval y]))):=by
     simp[execOp,ho,resolve,iW,a1,a2,invoke,builtin]
    simp only[hex,hX,hY,gy,hrun,gG,ie];refine hk n' ae m _ _ G _ _ ⟨hn,ha,by rw[jN];exact aV _,λ_ _=>rfl⟩ (dI.refl _ _) ⟨?_,by rw[put_defers];exact h.d,hR.b.set (λy hy=>by
     simp at hy;subst hy;exact⟨⟨eS.1.1.mono hn,kP,eS.1.2.2.mono hn⟩,g2,by rw[d2];exact eS.2.2⟩),hR.a6.asI hbl Bk⟩ ag
    rw[jN];refine dn.put hR.t o.dst ⟨g1,by show(0:Int)<=p.1.den ae;omega,by show p.1.den ae<=0x7fffffffffffffff;omega⟩ ?_;show goInt 0=sA .i64 (p.1.den ae);rw[qP];rfl
   have cv:0<=cO.den ρ:=by
    rcases ic (cO.den ρ) 0 with iX|iX
    ·have:=(h.a6.rws b sh cg code cO kind bN hbl (by omega)).1 iX;rw[this]at g3;simp at g3;omega
    ·exact iX
   generalize hq:(min (iY.den ρ) (len.den ρ)).toNat=q at*;have Ba:∀r∈((ab (ff.den ρ)).drop (fi.den ρ).toNat).take q,bD sh r:=λr hr=>EF r (nS (kh hr));have XR:(((ab (ff.den ρ)).drop (fi.den ρ).toNat).take q).length=q:=by simp only[ly,q9];omega
   have hle:(ro.den ρ).toNat+(((ab (ff.den ρ)).drop (fi.den ρ).toNat).take q).length<=(ab (code.den ρ)).length:=by rw[XR];omega
   have nB:∀r∈ab (code.den ρ),bD sh r:=(aa4 h.a6 hbl c1 cv eS.2.2.2 mi).2;obtain⟨cells,post,fz,p1,aJ,bb,b7,dD,eo,pn⟩:=hR.a6.rewrite (code':=p.2) hbl c1 (by rw[d2];exact cv) ji (by rw[g6];exact ZH nB Ba) (by rw[g6,d1];exact ZG hle);rw[d1]at b7 dD;have bb:cg.den ρ=0:=by rw[<-U.bw ha x2];exact bb
   have OB:0<=cap.den ρ:=by
    rcases ic (cap.den ρ) 0 with iX|iX
    ·have:=fH iX;omega
    ·exact iX
   have hX:a.eval x= .slice (some ⟨m b,(ro.den ρ).toNat*sh.length,none⟩) (len.den ρ).toNat (cap.den ρ).toNat:=by
    rw[c7,e3 OB,if_neg (by omega),bb];simp
   have im:(cG sh (((ab (ff.den ρ)).drop (fi.den ρ).toNat).take q)).length=q*sh.length:=by rw[pW Ba,XR]
   have ajU:=congrArg jg dD;simp only[c8,xK,pW b7]at ajU;have s7:(ro.den ρ).toNat*sh.length+0+(cG sh (((ab (ff.den ρ)).drop (fi.den ρ).toNat).take q)).length<=cells.size:=by
    rw[im];have:((ro.den ρ).toNat+q)*sh.length<=(ab (code.den ρ)).length*sh.length:=SR _ (by omega);rw[ue]at this;omega
   have hst:=Rq (P:=P) (m b) ((ro.den ρ).toNat*sh.length) bN.1 fz kind (cG sh (((ab (ff.den ρ)).drop (fi.den ρ).toNat).take q)) 0 cells w aJ p1 s7 IE;rw[kG,aoz b7 Ba dD hle]at hst;rw[<-g6]at hst;have akX:Nat.min (iY.den ρ).toNat (len.den ρ).toNat=q:=by show min _ _=q;omega
   have I6:(z1 sh.length q (a.eval y)).run P w= .ok (cG sh (((ab (ff.den ρ)).drop (fi.den ρ).toNat).take q)).toArray w:=by
    rcases ic (Ds.den ρ) 0 with iX|iX
    ·have h0:=Ln iX;have qP:q=0:=by omega
     rw[r4,f2 iX,qP,Hk];exact Rp w sh.length _ _ _
    ·rw[r4,f3 iX];have nt:0<=uy.den ρ∨q=0:=by
      rcases ic (uy.den ρ) 0 with s5|s5
      ·have:=(h.a6.rws b2 sh mq ff uy tp H5 uL (by omega)).1 s5;rw[this]at g5;simp at g5;right;omega
      ·exact .inl s5
     refine run_firstCells_some w sh.length q _ _ _ _ im λj v hj=>?_;rcases nt with nt|nt
     ·obtain⟨_,aAc,gq,aAs,q1,⟨q2,q3⟩,_⟩:=(h.a6.rws b2 sh mq ff uy tp H5 uL (by omega)).2 nt;have:=(((k0 ji).1 q3).sub (fi.den ρ).toNat q (by omega)).flat hj;rw[iz];simp only[jx,q1,rm,pF,if_false];exact this
     ·rw[nt,Hk]at hj;simp[cG]at hj
   obtain⟨anc,aAb,hY⟩:∃B C,a.eval y= .slice asg B C:=⟨_,_,r4⟩;have wP:anc=(iY.den ρ).toNat:=by rw[r4]at hY;injection hY with _ h2 _;exact h2.symm
   subst wP;have hrun:(xL #[t,t'] o.type #[.slice (some ⟨m b,(ro.den ρ).toNat*sh.length,none⟩) (len.den ρ).toNat (cap.den ρ).toNat,a.eval y]).run P w= .ok (goInt q) (w.setRow (m b) (cG sh (ab (p.2.den ae))++post).toArray):=by
    rw[hY]at I6⊢;simp[xL,eK (ia he),adA,gM hs,akX,I6,hst]
   unfold m9;have hex:execOp a.eval o=(do pure (kJ (<-xL #[t,t'] o.type #[a.eval x,a.eval y]))):=by
    simp[execOp,ho,resolve,iW,a1,a2,invoke,builtin]
   simp only[hex,hX,gy,hrun,gG,ie];refine hk n' ae m _ _ G _ _ ⟨hn,ha,by rw[jN];exact aV _,λ_ _=>rfl⟩ (dI.refl _ _) ⟨?_,by rw[put_defers];exact h.d,hR.b.set (λy hy=>by
    simp at hy;subst hy;exact⟨⟨eS.1.1.mono hn,kP,eS.1.2.2.mono hn⟩,g2,by rw[d2];exact eS.2.2⟩),pn⟩ ag
   rw[jN];refine dn.put hR.t o.dst ⟨g1,by show(0:Int)<=p.1.den ae;rw[g4];omega,by show p.1.den ae<=0x7fffffffffffffff;rw[g4];omega⟩ ?_;show goInt q=sA .i64 (p.1.den ae);have oX:((q:Nat):Int)=p.1.den ae:=by rw[g4,<-hq];omega
   rw[<-oX];rfl
 ·cases bH
end
end Go.aW
namespace Go.aW
open M
section
variable {S:Nat->List Int->List Int->Prop} {L:V->Env->Prop} {w0:cI} {P:bk} {gl:dA} {cal:ed} {inl:ij}
theorem cond_holds {c:Bool} {t:T} {G:c9} {ρ:Env} (h:(cond c t .stuck).holds S L G ρ):c=true/\t.holds S L G ρ:=by
 cases c with
 |true=>exact⟨rfl,h⟩
 |false=>exact h.elim
theorem aud {n:Nat} {ρ:Env} {m:Nat->Nat} {tm:List V} {bl:List aj} {a:Act} {w:ai} {G:c9} {o:Oper} {K:Act->ai->Prop} {Q:Exit->Act->ai->Prop} {k:fC}
 (cp:fp S P gl w0 cal) (hg:eN gl w0) (iD:lA S L w0 P inl) (h:R w0 n ρ m tm bl a w) (ag:(RQ P gl cal inl o n tm bl k).holds S L G ρ) (hk:j0 S L w0 k n bl.length ρ m G K):o.wp P a w K Q:=by
 unfold RQ at ag;split at ag
 ·rename_i t ho;cases hz:lT P t with
  |none=>simp[hz,T.holds]at ag
  |some cs=>
   simp only[hz]at ag;unfold lT at hz;cases hi:P.info? t with
   |none=>simp[hi]at hz
   |some i=>
    cases oq:i.zero with
    |none=>simp[hi,oq]at hz
    |some z=>
     simp only[hi,oq]at hz;have hc:=yh hz n bl.length ρ m;obtain⟨jF,ag⟩:=cond_holds ag;have hw:=hk n ρ _ _ _ G _ _ (cJ.alloc n ρ m bl (cs,(t,false)) w.heap.size) (dI.refl _ _) (h.alloc (t:=t) hc.1 o.dst jF) ag;unfold m9;simp only[execOp,ho,ay0,gy,zeroValue,typeInfo,run_program,gG,hi,oq,ie,newVar,newRow,run_newObj];have e:(cs.map (A.den ρ m)).toArray=z.cells:=by rw[hc.2]
     rw[e]at hw;exact hw
 ·rename_i t x ho;have hx:=cc h.t x;split at ag
  ·rename_i u hu;rw[hu]at hx;have c7:a.eval x=u.den ρ m:=hx.2;obtain⟨jF,ag⟩:=cond_holds ag;have hw:=hk n ρ _ _ _ G _ _ (cJ.alloc n ρ m bl (u.cells,(t,false)) w.heap.size) (dI.refl _ _) (h.alloc (t:=t) (W.Ay hx.1) o.dst jF) ag;unfold m9;simp only[execOp,ho,Instr.box,gy,gG,ie,newVar,newRow,run_newObj,c7];rw[<-W.Ic u hx.1]at hw;exact hw
  ·exact ag.elim
 ·rename_i t len parts ho;split at ag
  ·rename_i cs e qK;obtain⟨g1,g2⟩:=afw (m:=m) (vals:=parts.map λ(i,x)=>(i,a.eval x)) qK (by
    rw[vQ];generalize parts.toList=ps;induction ps with
    |nil=>exact trivial
    |cons p r ih=>exact⟨⟨rfl,cc h.t p.2⟩,ih⟩)
   obtain⟨jF,ag⟩:=cond_holds ag;have hR:=R.row (t:=e) (cs:=cs) (ex:=[]) (open_:=false) h g1 (λ_=>rfl) jF o.dst (v:= .w (.one (.slc bl.length 0 len len))) (x:= .slice (some ⟨w.heap.size,0,none⟩) len len) (by simp[V.ok,W.ok,A.ok]) (by
    show Value.slice (some ⟨w.heap.size,0,none⟩) _ _=_;simp[W.den,A.den,kb])
   have hw:=hk n ρ _ _ _ G _ _ (cJ.alloc n ρ m bl (cs,(e,false)) w.heap.size) (dI.refl _ _) hR ag;rw[lv]at hw;unfold m9;simp only[execOp,ho,gy,g2,gG,ie];exact hw
  ·exact ag.elim
 ·rename_i t p x ho;have hp:=cc h.t p;have hx:=cc h.t x;split at ag
  ·rename_i b off u Pf ET;rw[Pf]at hp;rw[ET]at hx;have ED:a.eval p= .pointer (some ⟨m b,off,none⟩):=hp.2;have c7:a.eval x=u.den ρ m:=hx.2;split at ag
   ·rename_i cs bN s hbl hs;cases hc:(aA u.cells.length s&&bp (off+s) cs.length&&ck 0 s&&bI cs&&bI (cs.take off++u.cells++cs.drop (off+s)))with
    |false=>rw[hc]at ag;exact ag.elim
    |true=>
     simp only[hc,cond_true]at ag;simp only[aQ]at hc;obtain⟨⟨hc,rW⟩,ny⟩:=hc;have e1:=bo hc.1.1;have e2:=et hc.1.2;have e3:=uv hc.2;subst e1;obtain⟨w',hrun,uS⟩:=h.a6.store h.b (W.Ay hx.1) hbl e2 e3 rW ny t hs (u.den ρ m) (W.Ic u hx.1);have bg:∀a∈cs.take off++u.cells++cs.drop (off+u.cells.length),A.ok n bl.length ρ a:=λa ha=>by
      have hcs:=h.b _ (cM hbl);rcases List.mem_append.1 ha with ha|ha
      ·rcases List.mem_append.1 ha with ha|ha
       ·exact hcs a (kh ha)
       ·exact W.Ay hx.1 a ha
      ·exact hcs a (nS ha)
     unfold m9;simp only[execOp,ho,gy,ED,c7,hrun,gG,ie];refine hk n ρ m _ _ G _ w' ⟨aV _,agree.refl _ _,by rw[jN];exact aV _,λ_ _=>rfl⟩ (dI.refl _ _) ⟨?_,by rw[put_defers];exact h.d,h.b.set bg,uS⟩ ag;rw[jN];exact dn.put h.t o.dst (by intro x hx;simp at hx) rfl
   ·exact ag.elim
  ·exact ag.elim
 ·rename_i c ho;split at ag
  ·rename_i f hc;split at ag
   ·exact KG cp hg h ag hk
   ·have mf:∀v∈c.args.toList.map (bK tm),V.ok n bl.length ρ v:=λv hv=>by
     obtain⟨x,_,rfl⟩:=List.mem_map.1 hv;exact(cc h.t x).1
    have hr:=iD f n _ bl _ G ρ m w _ (λe lp=>match e with
     | .returned v=>K (a.put o.dst v) lp
     | .panicked chain=>Q (.panic chain) a lp
     | .outgrown=>LetsOut Q) h.b h.a6 mf (Hz (xs:=c.args.toList) h.t) ag (by
     intro n' v aG da ae m' w' val h1 h2 h3 h4 h5 h6 h7;exact hk n' ae m' _ aG da _ w' h1 h2 ⟨dn.put (h.t.ext h1.ha h1.hn h1.hb h1.hm) o.dst h3 h4,by rw[put_defers];exact h.d,h5,h6⟩ h7)
    have ha:(c.args.toList.map a.eval).toArray=c.args.map a.eval:=by rw[<-vQ]
    rw[ha]at hr;unfold m9;rw[Ro hc o ho,hr.1];refine hr.2.mono λe lp he=>?_;cases e<;>exact he
  ·rename_i x hc;split at ag
   ·exact KG cp hg h ag hk
   split at ag
   ·rename_i f hh aj0;have hx:=cc h.t (.tmp x);obtain⟨hx1,c7⟩:(∀y∈hh,A.ok n bl.length ρ y)/\a.eval (.tmp x)= .func (.func f) #[] (hh.map (A.den ρ m)).toArray:=af7 aj0 hx.1 hx.2;have mf:∀v∈c.args.toList.map (bK tm)++hh.map (λy=>V.w (.one y)),V.ok n bl.length ρ v:=λv hv=>by
     rcases List.mem_append.1 hv with hv|hv
     ·obtain⟨x,_,rfl⟩:=List.mem_map.1 hv;exact(cc h.t x).1
     ·obtain⟨y,hy,rfl⟩:=List.mem_map.1 hv;exact hx1 y hy
    have hrel:db ρ m (c.args.toList.map (bK tm)++hh.map λy=>V.w (.one y)) (c.args.toList.map a.eval++hh.map (A.den ρ m)):=by
     generalize c.args.toList=l;induction l with
     |nil=>
      simp only[ec,gv];generalize hh=q;induction q with
      |nil=>trivial
      |cons y r ih=>exact⟨rfl,ih⟩
     |cons x r ih=>exact⟨(cc h.t x).2,ih⟩
    have hr:=iD f n _ bl _ G ρ m w _ (λe lp=>match e with
     | .returned v=>K (a.put o.dst v) lp
     | .panicked chain=>Q (.panic chain) a lp
     | .outgrown=>LetsOut Q) h.b h.a6 mf hrel ag (by
     intro n' v aG da ae m' w' val h1 h2 h3 h4 h5 h6 h7;exact hk n' ae m' _ aG da _ w' h1 h2 ⟨dn.put (h.t.ext h1.ha h1.hn h1.hb h1.hm) o.dst h3 h4,by rw[put_defers];exact h.d,h5,h6⟩ h7)
    have hex:execOp a.eval o=callFunc f (c.args.toList.map a.eval++hh.map (A.den ρ m)).toArray:=by
     have e:(c.args.toList.map a.eval++hh.map (A.den ρ m)).toArray=#[]++c.args.map a.eval++(hh.map (A.den ρ m)).toArray:=by
      apply SN;simp
     rw[e];simp only[execOp,ho,resolve,hc,c7,Deferred.ofValue,pure_bind,invoke]
    unfold m9;rw[hex,hr.1];refine hr.2.mono λe lp he=>?_;cases e<;>exact he
   ·exact ag.elim
  ·exact KG cp hg h ag hk
 ·exact KG cp hg h ag hk
theorem RR {n:Nat} {ρ:Env} {m:Nat->Nat} {tm:List V} {bl:List aj} {a:Act} {w:ai} {G:c9} {o:Oper} {K:Act->ai->Prop} {Q:Exit->Act->ai->Prop} {k:fC}
 (cp:fp S P gl w0 cal) (hg:eN gl w0) (iD:lA S L w0 P inl) (h:R w0 n ρ m tm bl a w) (ag:(Gv P gl cal inl o n tm bl k).holds S L G ρ) (hk:j0 S L w0 k n bl.length ρ m G K):o.wp P a w K Q:=by
 unfold Gv at ag;split at ag
 ·rename_i t ht;exact aue h ht ag hk
 ·split at ag
  ·rename_i t ht;exact aug h ht ag hk
  ·split at ag
   ·rename_i t ht;exact auh h ht ag hk
   ·exact aud cp hg iD h ag hk
theorem UQ {ρ:Env}:∀{b:bf} {v:Bool} {r:U×Option Int×Option Int},b.den ρ=v->qF b v=some r->(∀c,r.2.1=some c->c<=r.1.den ρ)/\(∀c,r.2.2=some c->r.1.den ρ<=c)
 | .le p q,true,r,hb,h| .le p q,false,r,hb,h| .lt p q,true,r,hb,h| .lt p q,false,r,hb,h=>by
  simp only[bf.den,decide_eq_true_eq,decide_eq_false_iff_not]at hb;simp only[qF]at h;split at h
  ·rename_i c h1 h2;have e:=U.il h1 (ρ:=ρ);simp only[aK]at h;subst h;constructor<;>intro c' hc<;>simp only[aK,reduceCtorEq]at hc<;>subst hc<;>simp only<;>omega
  ·rename_i c h1 h2;have e:=U.il h2 (ρ:=ρ);simp only[aK]at h;subst h;constructor<;>intro c' hc<;>simp only[aK,reduceCtorEq]at hc<;>subst hc<;>simp only<;>omega
  ·cases h
 | .not b,v,r,hb,h=>by
  simp only[qF]at h;refine UQ (b:=b) (v:= !v) ?_ h;simp only[bf.den]at hb;rw[<-hb,Bool.not_not]
 | .lit _,_,_,_,h=>by simp[qF]at h
 | .eq _ _,_,_,_,h=>by simp[qF]at h
 | .and _ _,_,_,_,h=>by simp[qF]at h
 | .iff _ _,_,_,_,h=>by simp[qF]at h
theorem agk {n nb:Nat} {ρ:Env} {m:Nat->Nat} {b:bf} {v:Bool} (hb:b.den ρ=v) (u:V) (hu:u.ok n nb ρ):(Il b v (qF b v) u).ok n nb ρ/\∀x,u.rel ρ m x->(Il b v (qF b v) u).rel ρ m x:=by
 unfold Il;split
 ·rename_i e;cases hc:bf.beq e b with
  |false=>simp only[cond_false];exact⟨hu,λ_ h=>h⟩
  |true=>
   have:=bf.beq_eq hc;subst this;simp only[cond_true];refine⟨trivial,λx hx=>?_⟩;simp only[V.rel,W.den,A.den,bf.den]at hx⊢;rw[hx,hb]
 ·rename_i k y;cases hr:qF b v with
  |none=>exact⟨hu,λ_ h=>h⟩
  |some r=>
   obtain⟨l,lo,hi⟩:=r;simp only;cases hc:U.beq y.l l with
   |false=>simp only[cond_false];exact⟨hu,λ_ h=>h⟩
   |true=>
    have:=U.beq_eq hc;have hs:=UQ hb hr;have hy:y.ok n ρ:=hu;simp only[cond_true];have b1:BQ y.lo lo<=y.l.den ρ:=by
     unfold BQ;cases lo with
     |none=>exact hy.2.1
     |some c=>
      simp only;have:=hs.1 c rfl;have:=hy.2.1;cases decide (y.lo<=c)with
      |true=>simp only[cond_true];rw[‹y.l=l›];assumption
      |false=>simp only[cond_false];assumption
    have b2:y.l.den ρ<=FE y.hi hi:=by
     unfold FE;cases hi with
     |none=>exact hy.2.2
     |some c=>
      simp only;have:=hs.2 c rfl;have:=hy.2.2;cases decide (c<=y.hi)with
      |true=>simp only[cond_true];rw[‹y.l=l›];assumption
      |false=>simp only[cond_false];assumption
    cases hd:decide (BQ y.lo lo=FE y.hi hi)with
    |true=>
     simp only[cond_true];have hd:=of_decide_eq_true hd;refine⟨br.nj _ _ _,λx h=>?_⟩;have h:x= .int k (y.l.den ρ):=h;rw[h];simp only[V.rel,W.den,A.den,br.const,U.aO]
     congr 1;omega
    |false=>simp only[cond_false];exact⟨⟨hy.1,b1,b2⟩,λx h=>h⟩
 ·exact⟨hu,λ_ h=>h⟩
theorem Cw {n nb:Nat} {ρ:Env} {m:Nat->Nat} {b:bf} {v:Bool} (hb:b.den ρ=v) {tm:List V} {xs:Array ax} (h:dn n nb ρ m tm xs):dn n nb ρ m (qm b v tm) xs:=by
 refine⟨by simp[qm,h.1],λi u hu=>?_⟩;simp only[qm,lV,Option.map_eq_some_iff]at hu;obtain⟨u0,h0,rfl⟩:=hu;obtain⟨h1,x,h2,h3⟩:=h.2 i u0 h0;have:=agk (m:=m) hb u0 h1;exact⟨this.1,x,h2,this.2 x h3⟩
theorem wA {n nb:Nat} {ρ:Env} {m:Nat->Nat} {tm:List V} {a:Act} {G:c9} {ops:Array Oper} {o:Oper} {yes no:List V->T} (ht:dn n nb ρ m tm a.tmps) (h:(uH ops tm o yes no).holds S L G ρ):
 ∃bq,dn n nb ρ m bq a.tmps/\((ud o (yielded ops a.tmps)=true/\(yes bq).holds S L G ρ)∨(ud o (yielded ops a.tmps)=false/\(no bq).holds S L G ρ)):=by
 unfold uH at h;unfold ud;cases hgd:o.guard with
 |none=>simp only[hgd]at h;exact⟨tm,ht,.inl ⟨rfl,h⟩⟩
 |some NY=>
  obtain⟨g,want⟩:=NY;simp only[hgd]at h⊢;unfold yielded;cases hd:(ops[g]?).bind (·.dst)with
  |none=>simp[hd,T.holds]at h
  |some d=>
   simp only[hd]at h;simp only[Option.bind_some];cases Pq:tm[d]? with
   |none=>simp[Pq,T.holds]at h
   |some v=>
    obtain⟨_,x,hx,hr⟩:=ht.2 d v Pq;simp only[Pq]at h;revert hr h;cases v with
    |any=>intro hr h;exact h.elim
    |pj _ _ _=>intro hr h;exact h.elim
    |mI _ _=>intro hr h;exact h.elim
    |e6 l=>
     cases l with
     |nil=>
      intro hr h;have hr:x= .tuple #[]:=hr;subst hr;simp only[hx];exact⟨tm,ht,.inr ⟨by simp,h⟩⟩
     |cons _ _=>intro hr h;exact h.elim
    |w y=>
     cases y with
     |agg l=>intro hr h;exact h.elim
     |one c=>
      cases c with
      |bool b=>
       intro hr h;have hr:x= .bool (b.den ρ):=hr;subst hr;simp only[hx];have key:∀b:bf,(T.ux b (cond want (yes (qm b true tm)) (no (qm b true tm))) (cond want (no (qm b false tm)) (yes (qm b false tm)))).holds S L G ρ->∃bq,dn n nb ρ m bq a.tmps/\(((some (b.den ρ)==some want)=true/\(yes bq).holds S L G ρ)∨((some (b.den ρ)==some want)=false/\(no bq).holds S L G ρ)):=λb hb=>by
        simp only[T.holds]at hb;cases hq:b.den ρ with
        |true=>
         have:=hb.1 hq;cases want with
         |true=>exact⟨_,Cw hq ht,.inl ⟨by simp,this⟩⟩
         |false=>exact⟨_,Cw hq ht,.inr ⟨by simp,this⟩⟩
        |false=>
         have:=hb.2 hq;cases want with
         |true=>exact⟨_,Cw hq ht,.inr ⟨by simp,this⟩⟩
         |false=>exact⟨_,Cw hq ht,.inl ⟨by simp,this⟩⟩
       cases b with
       |lit v=>
        simp only[bf.den];cases hv:(v==want)with
        |true=>simp only[hv,cond_true]at h;exact⟨tm,ht,.inl ⟨by simpa using hv,h⟩⟩
        |false=>simp only[hv,cond_false]at h;exact⟨tm,ht,.inr ⟨by simpa using hv,h⟩⟩
       |eq _ _=>exact key _ h
       |lt _ _=>exact key _ h
       |le _ _=>exact key _ h
       |not _=>exact key _ h
       |and _ _=>exact key _ h
       |iff _ _=>exact key _ h
      |_=>intro hr h;exact h.elim
theorem R.skip {n:Nat} {ρ:Env} {m:Nat->Nat} {tm:List V} {bl:List aj} {a:Act} {w:ai} (h:R w0 n ρ m tm bl a w) (d:Option Tmp):R w0 n ρ m (ey tm d (.e6 [])) bl (a.put d undef) w:=
 ⟨dn.put h.t d (by intro x hx;simp at hx) rfl,by rw[put_defers];exact h.d,h.b,h.a6⟩
theorem Ko {ops:Array Oper} {Q:Exit->Act->ai->Prop} (cp:fp S P gl w0 cal) (hg:eN gl w0) (iD:lA S L w0 P inl):∀(l:List Oper) {n:Nat} {ρ:Env} {m:Nat->Nat} {tm:List V} {bl:List aj} {a:Act} {w:ai} {G:c9} {k:fC},
 R w0 n ρ m tm bl a w->(BZ P gl cal inl ops l n tm bl k).holds S L G ρ->j0 S L w0 k n bl.length ρ m G (Q .normal)->wpList P ops Q l a w
 |[],n,ρ,m,tm,bl,a,w,G,k,h,ag,hk=>hk n ρ m tm bl G a w (cJ.refl _ _ _ _) (dI.refl _ _) h ag
 |o::r,n,ρ,m,tm,bl,a,w,G,k,h,ag,hk=>by
  unfold BZ at ag;unfold wpList;obtain⟨bq,hP,hgd⟩:=wA h.t ag;have h:R w0 n ρ m bq bl a w:=⟨hP,h.d,h.b,h.a6⟩;rcases hgd with⟨hw,ag⟩|⟨hw,ag⟩
  ·rw[if_pos hw];refine .inl (RR cp hg iD h ag λn' ae m' bq aG da a' w' h1 h2 h3 h4=>?_);exact Ko cp hg iD r h3 h4 (hk.later h1 h2)
  ·rw[if_neg (by simp[hw])];exact Ko cp hg iD r (h.skip o.dst) ag hk
theorem allT_holds {g:Nat->T} {L:V->Env->Prop} {G:c9} {ρ:Env}:∀{l:List Nat},(HP g l).holds S L G ρ->∀i∈l,(g i).holds S L G ρ
 |[],ag,_,hi=>by cases hi
 |[j],ag,i,hi=>by simp at hi;subst hi;exact ag
 |j::PL::r,ag,i,hi=>by
  rcases List.mem_cons.1 hi with rfl|hi
  ·exact ag.1
  ·exact allT_holds (l:=PL::r) ag.2 i hi
theorem I5 {ops:Array Oper} {bl:List aj} {m:Nat->Nat} {n0:Nat} {bz:Env} (cp:fp S P gl w0 cal) (hg:eN gl w0) (jl:bU n0 bl.length bz bl) (hex:∃w,Mem w0 bz m bl w) {F:Act->Prop} {G:c9}:∀(l:List Oper) {n:Nat} {ρ:Env} {tm:List V} {a:Act} {k:Nat->List V->T},
 n0<=n->agree n0 bz ρ->dn n bl.length ρ m tm a.tmps->a.defers=w0.ds->(A3 P gl cal ops l n tm bl k).holds S L G ρ->
 (∀n' ae bq a',n<=n'->agree n ρ ae->dn n' bl.length ae m bq a'.tmps->a'.defers=w0.ds->(k n' bq).holds S L G ae->F a')->xQ P ops (λw=>Mem w0 bz m bl w) F l a
 |[],n,ρ,tm,a,k,hn,ha,ht,hd,ag,hk=>hk n ρ tm a (aV _) (agree.refl _ _) ht hd ag
 |o::r,n,ρ,tm,a,k,hn,ha,ht,hd,ag,hk=>by
  unfold A3 at ag;unfold xQ;obtain⟨cd,qR⟩:=hex;cases dk:e7 o with
  |true=>
   simp only[dk,cond_true]at ag⊢;exact I5 cp hg jl ⟨cd,qR⟩ r hn ha ht hd ag hk
  |false=>
   simp only[dk,cond_false]at ag⊢;obtain⟨bq,ht,hgd⟩:=wA ht ag;rcases hgd with⟨hw,ag⟩|⟨hw,ag⟩
   ·have hb:bU n bl.length ρ bl:=jl.ext ha hn (aV _);obtain⟨ae,n',v,mg,fs,⟨hv,val,hr,hq⟩,s9⟩:=Gc (L:=L) cp hb hg ⟨cd,qR.dQ jl ha⟩ ht o G _ ag;refine⟨val,.inl ⟨hw,λw alA=>hq w (alA.dQ jl ha)⟩,?_⟩;exact I5 cp hg jl ⟨cd,qR⟩ r (gx hn mg) (ha.trans fs hn) (dn.put (ht.ext fs mg (aV _) (λ_ _=>rfl)) o.dst hv hr) (by rw[put_defers];exact hd) s9
     λBT qz abN Un h1 h2 h3 h4 h5=>hk BT qz abN Un (gx mg h1) (fs.trans h2 mg) h3 h4 h5
   ·exact⟨undef,.inr ⟨hw,rfl⟩,I5 cp hg jl ⟨cd,qR⟩ r hn ha (dn.put (v:= .e6 []) ht o.dst (by intro x hx;simp at hx) rfl) (by rw[put_defers];exact hd) ag hk⟩
def CI (P:bk) (ops:Array Oper) (j:Nat):Obj:=
 match ops[j]? with
 |some o=>match o.op with
  | .alloc t=>match P.info? t with
   |some i=>match i.zero with
    |some z=> .cells z.cells t
    |none=>default
   |none=>default
  |_=>default
 |none=>default
theorem ayd {l:List Oper} {h j:Nat} {o:Oper} (hz:Lu P (l.take h)=true) (hj:j<h) (ho:l.toArray[j]?=some o) (dk:e7 o=true) (b:Act) (w:ai):
 (execOp b.eval o).run P w= .ok (.value (.pointer (some ⟨w.heap.size,0,none⟩))) (w.alloc (CI P l.toArray j)):=by
 have gk:l[j]?=some o:=by simpa using ho
 have hm:o∈l.take h:=cM (i:=j) (by rw[oK,if_pos hj];exact gk);have h1:=List.all_eq_true.1 hz o hm;simp only[dk,G7,Bool.false_or]at h1;unfold CI;simp only[ho];cases hop:o.op with
 |alloc t=>
  simp only[hop]at h1;obtain⟨cs,hcs⟩:=Option.isSome_iff_exists.1 h1;obtain⟨i,z,hi,oq,_⟩:=Lt hcs;simp only[execOp,hop,ay0,gy,zeroValue,typeInfo,run_program,gG,hi,oq,ie,newVar,newRow,run_newObj];rfl
 |_=>simp[hop]at h1
theorem ML {ops:Array Oper} {h:Nat} {an b:Act} {eL:Nat->Nat} {aL:Nat} {w:ai} {n:Nat} {ρ:Env} {G:c9} {k:fC} {K:Act->ai->Prop} (qL:Fin ops h an b eL) (jm:vY ops h (λ_=>True) (CI P ops) eL aL w) (hsz:w0.b.heap.size<=aL) (Yc:w0.r.heap.size<=aL):
 ∀(l:List Oper) (i:Nat) {m:Nat->Nat} {tm:List V} {bl:List aj} {c:Act},(∀j,j<l.length->ops[i+j]?=l[j]?)->i+l.length=h->R w0 n ρ m tm bl c w->C8 w0 ρ m bl w aL->
  (∀(cf:Nat) (p:aj),bl[cf]?=some p->aS ρ p.1≠0->m cf<aL∨∃j,j<i/\pM ops j=true/\m cf=eL j)->c.tmps.size=an.tmps.size->
  (∀t:Nat,((∃j o,j<i/\ops[j]?=some o/\e7 o=true/\o.dst=some t)->c.tmps[t]?=b.tmps[t]?)/\((∀j o,j<i->ops[j]?=some o->e7 o=true->o.dst≠some t)->c.tmps[t]?=an.tmps[t]?))->
  (Da P l n tm bl k).holds S L G ρ->j0 S L w0 k n bl.length ρ m G K->an.defers=w0.ds->K b w
 |[],i,m,tm,bl,c,hl,hi,hR,hU,hm,hcs,hc,ag,hk,hd=>by
  simp only[fe,kG]at hi;subst hi;have gd:c=b:=aeO (by rw[hR.d,qL.d,hd]) λt=>by
   by_cases ht:∃j o,j<i/\ops[j]?=some o/\e7 o=true/\o.dst=some t
   ·exact(hc t).1 ht
   ·have hno:∀j o,j<i->ops[j]?=some o->e7 o=true->o.dst≠some t:=λj o h1 h2 h3 h4=>ht ⟨j,o,h1,h2,h3,h4⟩;rw[(hc t).2 hno,qL.no t hno]
  subst gd;exact hk n ρ m tm bl G c w (cJ.refl _ _ _ _) (dI.refl _ _) hR ag
 |o::r,i,m,tm,bl,c,hl,hi,hR,hU,hm,hcs,hc,ag,hk,hd=>by
  have ho:ops[i]?=some o:=by have:=hl 0 (by simp);simpa using this
  have hr:∀j,j<r.length->ops[i+1+j]?=r[j]?:=λj hj=>by
   have:=hl (j+1) (by simp;omega);rw[show i+1+j=i+(j+1) by omega,this];simp
  have nv:i+1+r.length=h:=by simp at hi;omega
  unfold Da at ag;cases dk:e7 o with
  |false=>
   simp only[dk,cond_false]at ag;refine ML qL jm hsz Yc r (i+1) hr nv hR hU (λcf p kq hp=>(hm cf p kq hp).imp id λ⟨j,h1,h2⟩=>⟨j,by omega,h2⟩) hcs (λt=>⟨λ⟨j,cg,h1,h2,h3,h4⟩=>?_,λhno=>(hc t).2 λj cg h1=>hno j cg (by omega)⟩) ag hk hd;by_cases ef:j=i
   ·subst ef;have:cg=o:=fQ (h2.symm.trans ho);subst this;rw[dk]at h3;cases h3
   ·exact(hc t).1 ⟨j,cg,by omega,h2,h3,h4⟩
  |true=>
   simp only[dk,cond_true]at ag;cases hop:o.op with
   |alloc ty=>
    simp only[hop]at ag;cases hz:lT P ty with
    |none=>simp[hz,T.holds]at ag
    |some cs=>
     simp only[hz]at ag;obtain⟨jF,ag⟩:=cond_holds ag;obtain⟨inf,z,akk,oq,iW⟩:=Lt hz;have OE:=yh iW n bl.length ρ m;have gT:pM ops i=true:=by simp[pM,ho,dk]
     have OS:i<h:=by simp at hi;omega
     obtain⟨g1,g2⟩:=jm.1 i OS trivial gT;have alL:CI P ops i= .cells (cs.map (A.den ρ m)).toArray ty (0,0):=by
      unfold CI;simp only[ho,hop,akk,oq,OE.2]
     rw[alL]at g2;have hne:∀(cf:Nat) (p:aj),bl[cf]?=some p->aS ρ p.1≠0->m cf≠eL i:=λcf p kq hp e=>by
      rcases hm cf p kq hp with h1|⟨j,h1,h2,h3⟩
      ·omega
      ·have:=jm.2 j i (by omega) OS trivial trivial h2 gT (h3.symm.trans e);omega
     have hM:=hR.a6.push (x:=(cs,(ty,false))) hR.b OE.1 (λ_=>⟨by omega,.inr (by omega),[],λ_=>rfl,by rw[lv];exact g2⟩) (λsh off code cap kind e=>by simp only at e;subst e;cases jF) (λi p hi he=> .inr (.inl (adp λhk=>hne i p hi hk he))) (λy5 sh off code cap kind t hi=>(hU y5 sh off code cap kind t hi).mono λg' h'=>h'.1.push (.inr (by omega)));have hL:=cJ.alloc n ρ m bl (cs,(ty,false)) (eL i);have n4:R w0 n ρ (fc m bl.length (eL i)) (ey tm o.dst (.w (.one (.ptr bl.length 0)))) (bl++[(cs,(ty,false))]) (c.put o.dst (.pointer (some ⟨eL i,0,none⟩))) w:=
      ⟨dn.put (hR.t.ext hL.ha hL.hn hL.hb hL.hm) o.dst (by simp[V.ok,W.ok,A.ok]) (by simp[V.rel,W.den,A.den,kb]),by rw[put_defers];exact hR.d,hR.b.alloc OE.1,hM⟩
     refine ML qL jm hsz Yc r (i+1) hr nv n4 (hU.push (by omega) jF) (λcf p kq hp=>?_) ((zn _ _ _).trans hcs) (λt=>⟨λ⟨j,cg,h1,h2,h3,h4⟩=>?_,λhno=>?_⟩) ag (hk.later hL (dI.refl _ _)) hd
     ·by_cases gK:cf<bl.length
      ·rw[iO gK];rw[pE gK]at kq;exact(hm cf p kq hp).imp id λ⟨j,h1,h2⟩=>⟨j,by omega,h2⟩
      ·have:cf=bl.length:=by have:=(List.getElem?_eq_some_iff.1 kq).1;simp at this;omega
       subst this;rw[kb];exact .inr ⟨i,by omega,gT,rfl⟩
     ·by_cases ht:o.dst=some t
      ·rw[ht];simp only[Act.put];rcases m6 t c.tmps.size with h5|h5
       ·have qK:t<b.tmps.size:=by rw[qL.aL,<-hcs];exact h5
        rw[qL.al t i o OS ho dk ht qK];simp[h5]
       ·rw[vG (by simpa using h5),vG (by rw[qL.aL,<-hcs];exact h5)]
      ·rw[tC ht];by_cases ef:j=i
       ·subst ef;have:cg=o:=fQ (h2.symm.trans ho);subst this;exact absurd h4 ht
       ·exact(hc t).1 ⟨j,cg,by omega,h2,h3,h4⟩
     ·have ht:o.dst≠some t:=hno i o (by omega) ho dk;rw[tC ht];exact(hc t).2 λj cg h1=>hno j cg (by omega)
   |_=>simp[hop,T.holds]at ag
end
end Go.aW
namespace Go.aW
open M
theorem age {a b:ax} (h:Nh a b=true):a=b:=by
 unfold Nh at h;split at h
 ·rfl
 ·rfl
 ·rename_i f a b k8 a' b';simp only[aQ]at h;obtain⟨⟨⟨⟨h1,h2⟩,h3⟩,h4⟩,h5⟩:=h;rw[bo h1,vS (bo h2),vS (bo h3),vS (bo h4),vS (bo h5)]
 ·cases h
theorem A.beq_eq {a b:A} (h:A.beq a b=true):a=b:=by
 cases a<;>cases b<;>simp only[A.beq]at h<;>(try(cases h;done))
 case int.int k x k' y=>
  simp only[aQ,decide_eq_true_eq,beq_iff_eq]at h;obtain⟨⟨⟨h1,h2⟩,h3⟩,h4⟩:=h;cases x;cases y;simp only at h2 h3 h4;rw[h1,U.beq_eq h2,h3,h4]
 case bool.bool x y=>
  rw[bf.beq_eq h]
 case con.con=>rw[age h]
 case ptr.ptr=>simp only[aQ]at h;rw[bo h.1,bo h.2]
 case gptr.gptr=>simp only[aQ]at h;rw[bo h.1,bo h.2]
 case slc.slc=>
  simp only[aQ]at h;rw[bo h.1.1.1,bo h.1.1.2,bo h.1.2,bo h.2]
 case str.str=>rw[U.beq_eq h]
 case rows.rows=>
  simp only[aQ]at h;rw[pt h.1.1.1.1,U.beq_eq h.1.1.1.2,U.beq_eq h.1.1.2,U.beq_eq h.1.2,bo h.2]
 case sl.sl=>
  simp only[aQ]at h;rw[bo h.1.1.1.1.1,bo h.1.1.1.1.2,U.beq_eq h.1.1.1.2,U.beq_eq h.1.1.2,U.beq_eq h.1.2,U.beq_eq h.2]
 case ep.ep=>
  simp only[aQ]at h;rw[bo h.1.1.1.1,bo h.1.1.1.2,U.beq_eq h.1.1.2,U.beq_eq h.1.2,bo h.2]
theorem Ap:∀{a b:List A},nh a b=true->a=b
 |[],[],_=>rfl
 |x::r,y::s,h=>by
  simp only[nh,aQ]at h;rw[A.beq_eq h.1,Ap h.2]
 |[],_::_,h=>by simp[nh]at h
 |_::_,[],h=>by simp[nh]at h
theorem V.beq_eq {a b:V} (h:V.beq a b=true):a=b:=by
 cases a with
 |any=>cases b<;>simp[V.beq]at h
 |e6 l=>cases l<;>cases b<;>simp[V.beq]at h;rename_i bJ;cases bJ<;>simp[V.beq]at h;rfl
 |w x=>
  cases b with
  |w y=>cases x<;>cases y<;>simp[V.beq]at h;rw[A.beq_eq h];rw[Ap h]
  |_=>cases x<;>simp[V.beq]at h
 |pj _ _ _=>simp[V.beq]at h
 |mI f l=>
  cases b with
  |mI k8 bJ=>
   simp only[V.beq,aQ]at h;rw[bo h.1,Ap h.2]
  |_=>simp[V.beq]at h
theorem Cz:∀(zs:List Int) (n:Nat) (ρ:Env) (j:Nat),j<zs.length->bh ρ n zs (n+j)=zs.getD j 0
 |[],_,_,_,h=>by simp at h
 |z::zs,n,ρ,0,_=>by
  show bh (cR ρ n z) (n+1) zs (n+0)=z;rw[agree.bh zs (n+1) _ (n+0) (by omega)];exact jQ ρ n z
 |z::zs,n,ρ,j+1,h=>by
  show bh (cR ρ n z) (n+1) zs (n+(j+1))=_;rw[show n+(j+1)=n+1+j by omega,Cz zs (n+1) _ j (by simpa using h)];rfl
def xW (n nb:Nat) (ρ:Env) (m:Nat->Nat):List V->List ax->Prop
 |[],[]=>True
 |v::r,x::s=>v.ok n nb ρ/\v.rel ρ m x/\xW n nb ρ m r s
 |_,_=>False
theorem T5 {n nb:Nat} {ρ:Env} {m:Nat->Nat}:∀{tm:List V} {xs:List ax},dn n nb ρ m tm xs.toArray->xW n nb ρ m tm xs
 |[],[],_=>trivial
 |v::r,x::s,h=>by
  have h0:=h.2 0 v rfl;obtain⟨h1,y,h2,h3⟩:=h0;simp at h2;subst h2;refine⟨h1,h3,T5 (tm:=r) (xs:=s) ⟨by simpa using h.1,λi u hu=>?_⟩⟩;have:=h.2 (i+1) u (by simpa using hu);simpa using this
 |[],_::_,h=>by have:=h.1;simp at this
 |_::_,[],h=>by have:=h.1;simp at this
theorem HH {n nb:Nat} {ρ:Env} {m:Nat->Nat}:∀{tm:List V} {xs:List ax},xW n nb ρ m tm xs->dn n nb ρ m tm xs.toArray
 |[],[],_=>⟨rfl,λi v h=>by simp at h⟩
 |v::r,x::s,h=>by
  have ih:=HH h.2.2;refine⟨by simpa using ih.1,λi u hu=>?_⟩;cases i with
  |zero=>simp at hu;subst hu;exact⟨h.1,x,by simp,h.2.1⟩
  |succ i=>have:=ih.2 i u (by simpa using hu);simpa using this
 |[],_::_,h=>h.elim
 |_::_,[],h=>h.elim
theorem r5:∀{b b':List (Int×Int)} {l bJ:List Int},bd b l->bd b' bJ->bd (b++b') (l++bJ)
 |[],_,[],_,_,h=>h
 |_::_,_,_::_,_,h,h'=>⟨h.1,h.2.1,r5 h.2.2 h'⟩
 |[],_,_::_,_,h,_=>h.elim
 |_::_,_,[],_,h,_=>h.elim
theorem agree.symm {n:Nat} {ρ ae:Env} (h:agree n ρ ae):agree n ae ρ:=λi hi=>(h i hi).symm
theorem V.back {n nb:Nat} {bz ae bn:Env} {m0 m':Nat->Nat} {v:V} {x:ax} (h0:v.ok n nb bz) (ha:agree n bz ae) (h2:agree n bz bn) (hm:∀b,b<nb->m' b=m0 b) (hr:v.rel ae m' x):v.ok n nb bn/\v.rel bn m0 x:=by
 have akL:v.ok n nb ae:=h0.ext ha (aV _) (aV _);exact⟨h0.ext h2 (aV _) (aV _),hr.ext akL (ha.symm.trans h2 (aV _)) λb hb=>(hm b hb).symm⟩
section
variable {eC:List Nat} {ints:List (Nat×Int×Int)}
theorem Bj:∀{tm:List V} {i s:Nat} {t:List V} {l:List U} {b:List (Int×Int)},hs eC ints i s tm=some (t,l,b)->l.length=b.length/\t.length=tm.length
 |[],i,s,t,l,b,h=>by simp[hs]at h;obtain⟨rfl,rfl,rfl⟩:=h;exact⟨rfl,rfl⟩
 |v::r,i,s,t,l,b,h=>by
  unfold hs at h;cases hk:eC.any (aA i)with
  |true=>
   simp only[hk,cond_true]at h;cases hr:hs eC ints (i+1) s r with
   |none=>simp[hr]at h
   |some q=>
    obtain⟨t',bJ,b'⟩:=q;simp only[hr,aK,cN]at h;obtain⟨rfl,rfl,rfl⟩:=h;have:=Bj hr;simp[this]
  |false=>
   simp only[hk,cond_false]at h;cases hf:wq i ints with
   |none=>
    simp only[hf]at h;cases hr:hs eC ints (i+1) s r with
    |none=>simp[hr]at h
    |some q=>
     obtain⟨t',bJ,b'⟩:=q;simp only[hr,aK,cN]at h;obtain⟨rfl,rfl,rfl⟩:=h;have:=Bj hr;simp[this]
   |some q=>
    obtain⟨lo,hi⟩:=q;simp only[hf]at h;split at h
    ·rename_i k x;cases hc:(decide (lo<=x.lo)&&decide (x.hi<=hi))with
     |false=>simp[hc]at h
     |true=>
      simp only[hc,cond_true]at h;cases hr:hs eC ints (i+1) (s+1) r with
      |none=>simp[hr]at h
      |some q=>
       obtain⟨t',bJ,b'⟩:=q;simp only[hr,aK,cN]at h;obtain⟨rfl,rfl,rfl⟩:=h;have:=Bj hr;simp[this]
    ·cases hr:hs eC ints (i+1) (s+1) r with
     |none=>simp[hr]at h
     |some q=>
      obtain⟨t',bJ,b'⟩:=q;simp only[hr,aK,cN]at h;obtain⟨rfl,rfl,rfl⟩:=h;have:=Bj hr;simp[this]
    ·cases h
theorem EH {n nb N:Nat} {bz ae bn:Env} {m0 m':Nat->Nat} {n' jK:Nat} (ha:agree n bz ae) (h2:agree n bz bn) (hm:∀b,b<nb->m' b=m0 b) (nx:n<=N):
 ∀{tm bq:List V} {xs:List ax} {i s:Nat} {t t':List V} {l bJ:List U} {b b':List (Int×Int)},
 (∀v∈tm,V.ok n nb bz v)->xW n' jK ae m' bq xs->hs eC ints i s tm=some (t,l,b)->hs eC ints i s bq=some (t',bJ,b')->ld t t'=true->
 (∀j,j<bJ.length->bn (s+j)=(bJ.getD j (.const 0)).den ae)->s+bJ.length<=N->xW N nb bn m0 t xs/\bd b (bJ.map (·.den ae))/\bJ.length=l.length
 |[],[],[],i,s,t,t',l,bJ,b,b',h0,hr,e1,e2,hf,hv,hN=>by
  simp[hs]at e1 e2;obtain⟨rfl,rfl,rfl⟩:=e1;obtain⟨rfl,rfl,rfl⟩:=e2;exact⟨trivial,trivial,rfl⟩
 |v::r,v'::r',x::xs,i,s,t,t',l,bJ,b,b',h0,hr,e1,e2,hf,hv,hN=>by
  obtain⟨bg,hrel,yW⟩:=hr;have yp:∀v∈r,V.ok n nb bz v:=λu hu=>h0 u (cx _ hu);unfold hs at e1 e2;cases hk:eC.any (aA i)with
  |true=>
   simp only[hk,cond_true]at e1 e2;cases eH:hs eC ints (i+1) s r with
   |none=>simp[eH]at e1
   |some q1=>
    obtain⟨t1,l1,b1⟩:=q1;cases fM:hs eC ints (i+1) s r' with
    |none=>simp[fM]at e2
    |some q2=>
     obtain⟨t2,l2,b2⟩:=q2;simp only[eH,aK,cN]at e1;simp only[fM,aK,cN]at e2;obtain⟨rfl,rfl,rfl⟩:=e1;obtain⟨rfl,rfl,rfl⟩:=e2;have hv0:=h0 v (by simp);have key:ld t1 t2=true/\(v= .any∨v=v'):=by
      unfold ld at hf;split at hf
      ·rename_i heq _;cases heq
      ·rename_i h1 h2;cases h1;cases h2;exact⟨hf,.inl rfl⟩
      ·rename_i h1 h2;cases h1;cases h2;simp only[aQ]at hf;exact⟨hf.2,.inr (V.beq_eq hf.1)⟩
      ·cases hf
     obtain⟨p1,aJ,bb⟩:=EH ha h2 hm nx yp yW eH fM key.1 hv hN;refine⟨⟨?_,?_,p1⟩,aJ,bb⟩
     ·exact hv0.ext h2 nx (aV _)
     ·rcases key.2 with rfl|rfl
      ·trivial
      ·exact(V.back hv0 ha h2 hm hrel).2
  |false=>
   simp only[hk,cond_false]at e1 e2;cases ko:wq i ints with
   |none=>
    simp only[ko]at e1 e2;cases eH:hs eC ints (i+1) s r with
    |none=>simp[eH]at e1
    |some q1=>
     obtain⟨t1,l1,b1⟩:=q1;cases fM:hs eC ints (i+1) s r' with
     |none=>simp[fM]at e2
     |some q2=>
      obtain⟨t2,l2,b2⟩:=q2;simp only[eH,aK,cN]at e1;simp only[fM,aK,cN]at e2;obtain⟨rfl,rfl,rfl⟩:=e1;obtain⟨rfl,rfl,rfl⟩:=e2;obtain⟨p1,aJ,bb⟩:=EH ha h2 hm nx yp yW eH fM (by simpa [ld]using hf) hv hN;exact⟨⟨trivial,trivial,p1⟩,aJ,bb⟩
   |some q=>
    obtain⟨lo,hi⟩:=q;simp only[ko]at e1 e2;split at e1
    ·rename_i k y;split at e2
     ·rename_i k' jS;cases hc1:(decide (lo<=y.lo)&&decide (y.hi<=hi))with
      |false=>simp[hc1]at e1
      |true=>
       cases hc2:(decide (lo<=jS.lo)&&decide (jS.hi<=hi))with
       |false=>simp[hc2]at e2
       |true=>
        simp only[hc1,cond_true]at e1;simp only[hc2,cond_true]at e2;cases eH:hs eC ints (i+1) (s+1) r with
        |none=>simp[eH]at e1
        |some q1=>
         obtain⟨t1,l1,b1⟩:=q1;cases fM:hs eC ints (i+1) (s+1) r' with
         |none=>simp[fM]at e2
         |some q2=>
          obtain⟨t2,l2,b2⟩:=q2;simp only[eH,aK,cN]at e1;simp only[fM,aK,cN]at e2;obtain⟨rfl,rfl,rfl⟩:=e1;obtain⟨rfl,rfl,rfl⟩:=e2;simp only[ld,aQ]at hf;have kq:=V.beq_eq hf.1;simp only[V.w.injEq,W.one.injEq,A.int.injEq]at kq;simp only[aQ,decide_eq_true_eq]at hc2;obtain⟨p1,aJ,bb⟩:=EH ha h2 hm nx yp yW eH fM hf.2 (λj hj=>by
           have:=hv (j+1) (by simpa using hj);rw[show s+1+j=s+(j+1) by omega];simpa using this) (by simp at hN;omega)
          have hv0:=hv 0 (by simp);simp only[kG,vH]at hv0;have hb:=bg.2;simp only[V.rel,W.den,A.den]at hrel;refine⟨⟨⟨U.er (by simp at hN;omega),?_,?_⟩,?_,p1⟩,⟨?_,?_,aJ⟩,by simp[bb]⟩
          ·simp only[U.cj,hv0];omega
          ·simp only[U.cj,hv0];omega
          ·simp only[V.rel,W.den,A.den,U.cj,hv0,kq.1];exact hrel
          ·simp only;omega
          ·simp only;omega
     ·cases eH:hs eC ints (i+1) (s+1) r' with
      |none=>simp[eH]at e2
      |some q2=>
       obtain⟨t2,l2,b2⟩:=q2;simp only[eH,aK,cN]at e2;obtain⟨rfl,rfl,rfl⟩:=e2;cases hc1:(decide (lo<=y.lo)&&decide (y.hi<=hi))with
       |false=>simp[hc1]at e1
       |true=>
        simp only[hc1,cond_true]at e1;cases fM:hs eC ints (i+1) (s+1) r with
        |none=>simp[fM]at e1
        |some q1=>
         obtain⟨t1,l1,b1⟩:=q1;simp only[fM,aK,cN]at e1;obtain⟨rfl,rfl,rfl⟩:=e1;simp[ld,V.beq,A.beq]at hf
     ·cases e2
    ·rename_i y;split at e2
     ·rename_i k' jS;cases eH:hs eC ints (i+1) (s+1) r with
      |none=>simp[eH]at e1
      |some q1=>
       obtain⟨t1,l1,b1⟩:=q1;simp only[eH,aK,cN]at e1;obtain⟨rfl,rfl,rfl⟩:=e1;cases hc2:(decide (lo<=jS.lo)&&decide (jS.hi<=hi))with
       |false=>simp[hc2]at e2
       |true=>
        simp only[hc2,cond_true]at e2;cases fM:hs eC ints (i+1) (s+1) r' with
        |none=>simp[fM]at e2
        |some q2=>
         obtain⟨t2,l2,b2⟩:=q2;simp only[fM,aK,cN]at e2;obtain⟨rfl,rfl,rfl⟩:=e2;simp[ld,V.beq,A.beq]at hf
     ·rename_i jS;cases eH:hs eC ints (i+1) (s+1) r with
      |none=>simp[eH]at e1
      |some q1=>
       obtain⟨t1,l1,b1⟩:=q1;cases fM:hs eC ints (i+1) (s+1) r' with
       |none=>simp[fM]at e2
       |some q2=>
        obtain⟨t2,l2,b2⟩:=q2;simp only[eH,aK,cN]at e1;simp only[fM,aK,cN]at e2;obtain⟨rfl,rfl,rfl⟩:=e1;obtain⟨rfl,rfl,rfl⟩:=e2;simp only[ld,aQ]at hf;obtain⟨p1,aJ,bb⟩:=EH ha h2 hm nx yp yW eH fM hf.2 (λj hj=>by
         have:=hv (j+1) (by simpa using hj);rw[show s+1+j=s+(j+1) by omega];simpa using this) (by simp at hN;omega)
        have hv0:=hv 0 (by simp);simp only[kG,vH]at hv0;have hb:0<=jS.den ae/\jS.den ae<=b8:=bg.2;have hrel:x= .string (az (aa (jS.den ae))):=hrel;refine⟨⟨⟨U.er (by simp at hN;omega),?_⟩,?_,p1⟩,⟨hb.1,hb.2,aJ⟩,by simp[bb]⟩
        ·simp only[U.cj,hv0];exact hb
        ·simp only[V.rel,W.den,A.den,U.cj,hv0];exact hrel
     ·cases e2
    ·cases e1
 |[],_::_,_,i,s,t,t',l,bJ,b,b',h0,hr,e1,e2,hf,hv,hN=>by
  simp[hs]at e1;obtain⟨rfl,_,_⟩:=e1;have:=(Bj e2).2;cases t' with
  |nil=>simp at this
  |cons _ _=>simp[ld]at hf
 |_::_,[],_,i,s,t,t',l,bJ,b,b',h0,hr,e1,e2,hf,hv,hN=>by
  simp[hs]at e2;obtain⟨rfl,_,_⟩:=e2;have:=(Bj e1).2;cases t with
  |nil=>simp at this
  |cons y z=>cases y<;>simp[ld]at hf
 |_::_,_::_,[],i,s,t,t',l,bJ,b,b',h0,hr,e1,e2,hf,hv,hN=>hr.elim
 |[],[],_::_,i,s,t,t',l,bJ,b,b',h0,hr,e1,e2,hf,hv,hN=>hr.elim
end
def C2 (n nb:Nat) (ρ:Env) (m:Nat->Nat):List A->List ax->Prop
 |[],[]=>True
 |a::r,x::s=>A.ok n nb ρ a/\x=a.den ρ m/\C2 n nb ρ m r s
 |_,_=>False
theorem T2 {n nb:Nat} {ρ:Env} {m:Nat->Nat}:∀{l:List A},(∀a∈l,A.ok n nb ρ a)->C2 n nb ρ m l (l.map (A.den ρ m))
 |[],_=>trivial
 |a::r,h=>⟨h a (by simp),rfl,T2 λx hx=>h x (cx _ hx)⟩
theorem T3 {n nb:Nat} {ρ:Env} {m:Nat->Nat}:∀{l:List A} {xs:List ax},C2 n nb ρ m l xs->(∀a∈l,A.ok n nb ρ a)/\xs=l.map (A.den ρ m)
 |[],[],_=>⟨by simp,rfl⟩
 |a::r,x::s,h=>by
  have ih:=T3 h.2.2;exact⟨λy hy=>by rcases List.mem_cons.1 hy with rfl|hy;exact h.1;exact ih.1 y hy,by rw[h.2.1,ih.2];rfl⟩
 |[],_::_,h=>h.elim
 |_::_,[],h=>h.elim
theorem A.back {n nb:Nat} {bz ae bn:Env} {m0 m':Nat->Nat} {v:A} (h0:v.ok n nb bz) (ha:agree n bz ae) (h2:agree n bz bn) (hm:∀b,b<nb->m' b=m0 b):v.den ae m'=v.den bn m0:=by
 rw[A.j1 h0 ha hm,A.j1 (m':=m0) h0 h2 (λ_ _=>rfl)]
section
variable {ints:List (Nat×Int×Int)}
theorem AW:∀{cs:List A} {i s:Nat} {t:List A} {l:List U} {b:List (Int×Int)},ha ints i s cs=some (t,l,b)->l.length=b.length/\t.length=cs.length
 |[],i,s,t,l,b,h=>by simp[ha]at h;obtain⟨rfl,rfl,rfl⟩:=h;exact⟨rfl,rfl⟩
 |v::r,i,s,t,l,b,h=>by
  unfold ha at h;cases hf:wq i ints with
  |none=>
   simp only[hf]at h;cases hr:ha ints (i+1) s r with
   |none=>simp[hr]at h
   |some q=>
    obtain⟨t',bJ,b'⟩:=q;simp only[hr,aK,cN]at h;obtain⟨rfl,rfl,rfl⟩:=h;have:=AW hr;simp[this]
  |some q=>
   obtain⟨lo,hi⟩:=q;simp only[hf]at h;cases hc:jh lo hi s v with
   |none=>simp[hc]at h
   |some p=>
    obtain⟨a,x,dG⟩:=p;simp only[hc]at h;cases hr:ha ints (i+1) (s+1) r with
    |none=>simp[hr]at h
    |some q=>
     obtain⟨t',bJ,b'⟩:=q;simp only[hr,aK,cN]at h;obtain⟨rfl,rfl,rfl⟩:=h;have:=AW hr;simp[this]
theorem afW {n nb N:Nat} {bz ae bn:Env} {m0 m':Nat->Nat} {n' jK:Nat} {lo hi:Int} {s:Nat} {v v' a a':A} {x fP:U} {dG afj:Int×Int} (jk:agree n bz ae) (h2:agree n bz bn) (nx:n<=N)
 (h0:v.ok n nb bz) (h':v'.ok n' jK ae) (e1:jh lo hi s v=some (a,x,dG)) (e2:jh lo hi s v'=some (a',fP,afj)) (hf:a=a') (hv:bn s=fP.den ae) (hN:s<N):
 a.ok N nb bn/\a.den bn m0=v'.den ae m'/\dG.1<=fP.den ae/\fP.den ae<=dG.2:=by
 subst hf;have rY:(U.var s).den bn=fP.den ae:=by rw[U.cj,hv]
 cases v with
 |int k y=>
  simp only[jh]at e1;cases hc1:(decide (lo<=y.lo)&&decide (y.hi<=hi))with
  |false=>simp[hc1]at e1
  |true=>
   simp only[hc1,cond_true,aK,cN]at e1;obtain⟨rfl,rfl,rfl⟩:=e1;cases v' with
   |int k' jS=>
    simp only[jh]at e2;cases hc2:(decide (lo<=jS.lo)&&decide (jS.hi<=hi))with
    |false=>simp[hc2]at e2
    |true=>
     simp only[hc2,cond_true,aK,cN,A.int.injEq]at e2;obtain⟨⟨rfl,_⟩,rfl,rfl⟩:=e2;simp only[aQ,decide_eq_true_eq]at hc2;have h':jS.ok n' ae:=h';have hb:=h'.2;refine⟨⟨U.er hN,by simp only[rY];omega,by simp only[rY];omega⟩,by simp only[A.den,rY],by simp only;omega,by simp only;omega⟩
   |str _=>simp[jh]at e2
   |rows _ _ _ _ _=>simp[jh]at e2
   |_=>simp[jh]at e2
 |str y=>
  simp only[jh,aK,cN]at e1;obtain⟨rfl,rfl,rfl⟩:=e1;cases v' with
  |str jS=>
   simp only[jh,aK,cN]at e2;obtain⟨_,rfl,rfl⟩:=e2;have hb:0<=jS.den ae/\jS.den ae<=b8:=h'.2;exact⟨⟨U.er hN,by rw[rY];exact hb⟩,by simp only[A.den,rY],hb.1,hb.2⟩
  |int k' jS=>
   simp only[jh]at e2;cases hc2:(decide (lo<=jS.lo)&&decide (jS.hi<=hi))<;>simp[hc2]at e2
  |rows _ _ _ _ _=>simp[jh]at e2
  |_=>simp[jh]at e2
 |rows sh off code cap k=>
  simp only[jh,aK,cN]at e1;obtain⟨rfl,rfl,rfl⟩:=e1;cases v' with
  |rows cF dZ code' dX k'=>
   simp only[jh,aK,cN,A.rows.injEq]at e2;obtain⟨_,rfl,rfl⟩:=e2;obtain⟨⟨s1,s2,ez⟩,_,b3⟩:=h0;obtain⟨_,b2,_⟩:=h';refine⟨⟨⟨s1.mono nx,U.er hN,ez.mono nx⟩,by rw[rY];exact b2,by rw[U.bw h2 ez];exact b3⟩,by simp only[A.den,rY],b2.1,b2.2⟩
  |int k' jS=>
   simp only[jh]at e2;cases hc2:(decide (lo<=jS.lo)&&decide (jS.hi<=hi))<;>simp[hc2]at e2
  |str _=>simp[jh]at e2
  |_=>simp[jh]at e2
 |_=>simp[jh]at e1
theorem Oo {n nb N:Nat} {bz ae bn:Env} {m0 m':Nat->Nat} {n' jK:Nat} (jk:agree n bz ae) (h2:agree n bz bn) (hm:∀b,b<nb->m' b=m0 b) (nx:n<=N):
 ∀{cs cs':List A} {xs:List ax} {i s:Nat} {t t':List A} {l bJ:List U} {b b':List (Int×Int)},
 (∀v∈cs,A.ok n nb bz v)->C2 n' jK ae m' cs' xs->ha ints i s cs=some (t,l,b)->ha ints i s cs'=some (t',bJ,b')->nh t t'=true->
 (∀j,j<bJ.length->bn (s+j)=(bJ.getD j (.const 0)).den ae)->s+bJ.length<=N->C2 N nb bn m0 t xs/\bd b (bJ.map (·.den ae))/\bJ.length=l.length
 |[],[],[],i,s,t,t',l,bJ,b,b',h0,hr,e1,e2,hf,hv,hN=>by
  simp[ha]at e1 e2;obtain⟨rfl,rfl,rfl⟩:=e1;obtain⟨rfl,rfl,rfl⟩:=e2;exact⟨trivial,trivial,rfl⟩
 |v::r,v'::r',x::xs,i,s,t,t',l,bJ,b,b',h0,hr,e1,e2,hf,hv,hN=>by
  obtain⟨bg,hrel,yW⟩:=hr;have yp:∀v∈r,A.ok n nb bz v:=λu hu=>h0 u (cx _ hu);unfold ha at e1 e2;cases ko:wq i ints with
  |none=>
   simp only[ko]at e1 e2;cases eH:ha ints (i+1) s r with
   |none=>simp[eH]at e1
   |some q1=>
    obtain⟨t1,l1,b1⟩:=q1;cases fM:ha ints (i+1) s r' with
    |none=>simp[fM]at e2
    |some q2=>
     obtain⟨t2,l2,b2⟩:=q2;simp only[eH,aK,cN]at e1;simp only[fM,aK,cN]at e2;obtain⟨rfl,rfl,rfl⟩:=e1;obtain⟨rfl,rfl,rfl⟩:=e2;simp only[nh,aQ]at hf;have y2:=A.beq_eq hf.1;subst y2;have hv0:=h0 v (by simp);obtain⟨p1,aJ,bb⟩:=Oo jk h2 hm nx yp yW eH fM hf.2 hv hN;exact⟨⟨hv0.ext h2 nx (aV _),by rw[hrel,A.back hv0 jk h2 hm],p1⟩,aJ,bb⟩
  |some q=>
   obtain⟨lo,hi⟩:=q;simp only[ko]at e1 e2;cases hc1:jh lo hi s v with
   |none=>simp[hc1]at e1
   |some p1=>
    obtain⟨a1,x1,d1⟩:=p1;cases hc2:jh lo hi s v' with
    |none=>simp[hc2]at e2
    |some aJ=>
     obtain⟨a2,x2,d2⟩:=aJ;simp only[hc1]at e1;simp only[hc2]at e2;cases eH:ha ints (i+1) (s+1) r with
     |none=>simp[eH]at e1
     |some q1=>
      obtain⟨t1,l1,b1⟩:=q1;cases fM:ha ints (i+1) (s+1) r' with
      |none=>simp[fM]at e2
      |some q2=>
       obtain⟨t2,l2,b2⟩:=q2;simp only[eH,aK,cN]at e1;simp only[fM,aK,cN]at e2;obtain⟨rfl,rfl,rfl⟩:=e1;obtain⟨rfl,rfl,rfl⟩:=e2;simp only[nh,aQ]at hf;obtain⟨p1,aJ,bb⟩:=Oo jk h2 hm nx yp yW eH fM hf.2 (λj hj=>by
        have:=hv (j+1) (by simpa using hj);rw[show s+1+j=s+(j+1) by omega];simpa using this) (by simp at hN;omega)
       have hv0:=hv 0 (by simp);simp only[kG,vH]at hv0;obtain⟨c1,c2,c3,c4⟩:=afW (m0:=m0) (m':=m') jk h2 nx (h0 v (by simp)) bg hc1 hc2 (A.beq_eq hf.1) hv0 (by simp at hN;omega);exact⟨⟨c1,by rw[hrel,c2],p1⟩,⟨c3,c4,aJ⟩,by simp[bb]⟩
 |[],_::_,_,i,s,t,t',l,bJ,b,b',h0,hr,e1,e2,hf,hv,hN=>by
  simp[ha]at e1;obtain⟨rfl,_,_⟩:=e1;have:=(AW e2).2;cases t' with
  |nil=>simp at this
  |cons _ _=>simp[nh]at hf
 |_::_,[],_,i,s,t,t',l,bJ,b,b',h0,hr,e1,e2,hf,hv,hN=>by
  simp[ha]at e2;obtain⟨rfl,_,_⟩:=e2;have:=(AW e1).2;cases t with
  |nil=>simp at this
  |cons y z=>simp[nh]at hf
 |_::_,_::_,[],i,s,t,t',l,bJ,b,b',h0,hr,e1,e2,hf,hv,hN=>hr.elim
 |[],[],_::_,i,s,t,t',l,bJ,b,b',h0,hr,e1,e2,hf,hv,hN=>hr.elim
end
section
variable {cells:List (Nat×Nat×Int×Int)}
theorem D5:∀{bl:List aj} {i s:Nat} {t:List aj} {l:List U} {b:List (Int×Int)},hb cells i s bl=some (t,l,b)->l.length=b.length/\t.length=bl.length
 |[],i,s,t,l,b,h=>by simp[hb]at h;obtain⟨rfl,rfl,rfl⟩:=h;exact⟨rfl,rfl⟩
 |(cs,ty)::r,i,s,t,l,b,h=>by
  unfold hb at h;cases hc:ha (cellsOf i cells) 0 s cs with
  |none=>simp[hc]at h
  |some q=>
   obtain⟨c,l1,b1⟩:=q;simp only[hc]at h;cases hr:hb cells (i+1) (s+l1.length) r with
   |none=>simp[hr]at h
   |some q=>
    obtain⟨t',bJ,b'⟩:=q;simp only[hr,aK,cN]at h;obtain⟨rfl,rfl,rfl⟩:=h;have h1:=AW hc;have h2:=D5 hr;simp[h1,h2]
theorem Wm {l bJ:List U} {j:Nat} (h:j<l.length) (d:U):(l++bJ).getD j d=l.getD j d:=by
 simp[ar,pE h]
theorem Wn {l bJ:List U} {j:Nat} (d:U):(l++bJ).getD (l.length+j) d=bJ.getD j d:=by
 simp only[ar];rw[vI (by omega)];simp
theorem Xb {n nb N:Nat} {bz ae bn:Env} {m0 m':Nat->Nat} {n' jK:Nat} (jk:agree n bz ae) (h2:agree n bz bn) (hm:∀b,b<nb->m' b=m0 b) (nx:n<=N):
 ∀{bl aG:List aj} {i s:Nat} {t t':List aj} {l bJ:List U} {b b':List (Int×Int)},
 bU n nb bz bl->bU n' jK ae aG->hb cells i s bl=some (t,l,b)->hb cells i s aG=some (t',bJ,b')->k9 t t'=true->
 (∀j,j<bJ.length->bn (s+j)=(bJ.getD j (.const 0)).den ae)->s+bJ.length<=N->
 bU N nb bn t/\bd b (bJ.map (·.den ae))/\bJ.length=l.length/\∀(j:Nat) (c:List A) (ty:aR×Bool),t[j]?=some (c,ty)->∃c':List A,aG[j]?=some (c',ty)/\c.map (A.den bn m0)=c'.map (A.den ae m')
 |[],[],i,s,t,t',l,bJ,b,b',h0,hr,e1,e2,hf,hv,hN=>by
  simp[hb]at e1 e2;obtain⟨rfl,rfl,rfl⟩:=e1;obtain⟨rfl,rfl,rfl⟩:=e2;exact⟨λp hp=>by simp at hp,trivial,rfl,λj c ty h=>by simp at h⟩
 |(cs,ty)::r,(cs',auY)::r',i,s,t,t',l,bJ,b,b',h0,hr,e1,e2,hf,hv,hN=>by
  unfold hb at e1 e2;cases hc1:ha (cellsOf i cells) 0 s cs with
  |none=>simp[hc1]at e1
  |some q1=>
   obtain⟨c1,l1,b1⟩:=q1;cases hc2:ha (cellsOf i cells) 0 s cs' with
   |none=>simp[hc2]at e2
   |some q2=>
    obtain⟨c2,l2,b2⟩:=q2;simp only[hc1]at e1;simp only[hc2]at e2;cases eH:hb cells (i+1) (s+l1.length) r with
    |none=>simp[eH]at e1
    |some q1=>
     obtain⟨t1,Za,Ao⟩:=q1;cases fM:hb cells (i+1) (s+l2.length) r' with
     |none=>simp[fM]at e2
     |some q2=>
      obtain⟨t2,Zc,rD⟩:=q2;simp only[eH,aK,cN]at e1;simp only[fM,aK,cN]at e2;obtain⟨rfl,rfl,rfl⟩:=e1;obtain⟨rfl,rfl,rfl⟩:=e2;simp only[k9,aQ]at hf;have EL:ty=auY:=Prod.ext (bo hf.1.1.2) (by simpa using hf.1.2);subst EL;have Oe:s+l2.length+Zc.length<=N:=by simp at hN;omega
      obtain⟨p1,aJ,bb⟩:=Oo jk h2 hm nx (λv hv=>h0 (cs,ty) (by simp) v hv) (T2 (m:=m') λv hv=>hr (cs',ty) (by simp) v hv) hc1 hc2 hf.1.1.1 (λj hj=>by
       have:=hv j (by simp;omega)
       rwa [Wm hj]at this) (by omega)
      rw[<-bb]at eH;obtain⟨q1,q2,q3,dr⟩:=Xb jk h2 hm nx (λp hp=>h0 p (cx _ hp)) (λp hp=>hr p (cx _ hp)) eH fM hf.2 (λj hj=>by
       have:=hv (l2.length+j) (by simp;omega);rw[Wn]at this;rw[<-this];congr 1;omega) Oe
      have hp:=T3 p1;refine⟨λp Pd a W8=>?_,by rw[fl];exact r5 aJ q2,by simp[bb,q3],λj c auZ hj=>?_⟩
      ·rcases List.mem_cons.1 Pd with rfl|Pd
       ·exact hp.1 a W8
       ·exact q1 p Pd a W8
      ·cases j with
       |zero=>simp at hj;obtain⟨rfl,rfl⟩:=hj;exact⟨cs',rfl,hp.2.symm⟩
       |succ j=>simp at hj;obtain⟨c',h1,h2⟩:=dr j c auZ hj;exact⟨c',by simpa using h1,h2⟩
 |[],_::_,i,s,t,t',l,bJ,b,b',h0,hr,e1,e2,hf,hv,hN=>by
  simp[hb]at e1;obtain⟨rfl,_,_⟩:=e1;have:=(D5 e2).2;cases t' with
  |nil=>simp at this
  |cons _ _=>simp[k9]at hf
 |_::_,[],i,s,t,t',l,bJ,b,b',h0,hr,e1,e2,hf,hv,hN=>by
  simp[hb]at e2;obtain⟨rfl,_,_⟩:=e2;have:=(D5 e1).2;cases t with
  |nil=>simp at this
  |cons y z=>simp[k9]at hf
def Cp (p q:List A):Prop:=∃sh off code code' cap k,p=[.rows sh off code cap k]/\q=[.rows sh off code' cap k]
theorem Cp.refl {p:List A} (h:bI p=false):Cp p p:=by
 unfold bI at h;split at h
 ·exact⟨_,_,_,_,_,_,rfl,rfl⟩
 ·cases h
theorem afV {lo hi:Int} {s:Nat} {v a:A} {x:U} {dG:Int×Int} (h:jh lo hi s v=some (a,x,dG)):bI [a]=bI [v]/\(bI [a]=false->Cp [a] [v]):=by
 unfold jh at h;split at h
 ·rename_i k x;cases hc:(decide (lo<=x.lo)&&decide (x.hi<=hi))with
  |false=>simp[hc]at h
  |true=>
   simp only[hc,cond_true,aK,cN]at h;obtain⟨rfl,_,_⟩:=h;exact⟨rfl,λh=>by cases h⟩
 ·simp only[aK,cN]at h;obtain⟨rfl,_,_⟩:=h;exact⟨rfl,λh=>by cases h⟩
 ·simp only[aK,cN]at h;obtain⟨rfl,_,_⟩:=h;exact⟨rfl,λ_=>⟨_,_,_,_,_,_,rfl,rfl⟩⟩
 ·cases h
theorem PK (a b:A) (l:List A):bI (a::b::l)=true:=by cases a<;>rfl
theorem ajz {ints:List (Nat×Int×Int)} {i s:Nat} {cs:List A} {l:List U} {b:List (Int×Int)} {t:List A} (h:ha ints i s cs=some (t,l,b)):(bI t=bI cs)/\(bI t=false->Cp t cs):=by
 have hl:=(AW h).2
 match cs,t,hl with
 |[],[],_=>exact⟨rfl,λh=>by cases h⟩
 |a::b::r,a'::b'::r',_=>exact⟨by rw[PK,PK],λh=>by rw[PK]at h;cases h⟩
 |[v],[a],_=>
  unfold ha at h;cases hf:wq i ints with
  |none=>
   simp[hf,ha]at h;obtain⟨rfl,_,_⟩:=h;exact⟨rfl,λh=>Cp.refl h⟩
  |some q=>
   obtain⟨lo,hi⟩:=q;simp only[hf]at h;cases hc:jh lo hi s v with
   |none=>simp[hc]at h
   |some p=>
    obtain⟨a',x,dG⟩:=p;simp[hc,ha]at h;obtain⟨rfl,_,_⟩:=h;exact afV hc
theorem Ow:∀{bl:List aj} {i s:Nat} {t:List aj} {l:List U} {b:List (Int×Int)},hb cells i s bl=some (t,l,b)->∀(k:Nat) (p:aj),t[k]?=some p->∃q:aj,bl[k]?=some q/\bI p.1=bI q.1/\p.2=q.2/\(bI p.1=false->Cp p.1 q.1)
 |[],i,s,t,l,b,h=>by simp[hb]at h;obtain⟨rfl,rfl,rfl⟩:=h;intro k p hp;simp at hp
 |(cs,ty)::r,i,s,t,l,b,h=>by
  unfold hb at h;cases hc1:ha (cellsOf i cells) 0 s cs with
  |none=>simp[hc1]at h
  |some q1=>
   obtain⟨c1,l1,b1⟩:=q1;simp only[hc1]at h;cases eH:hb cells (i+1) (s+l1.length) r with
   |none=>simp[eH]at h
   |some q1=>
    obtain⟨t1,Za,Ao⟩:=q1;simp only[eH,aK,cN]at h;obtain⟨rfl,rfl,rfl⟩:=h;intro k p hp;cases k with
    |zero=>
     simp only[m7,aK]at hp;subst hp;have:=ajz hc1;exact⟨(cs,ty),rfl,this.1,rfl,this.2⟩
    |succ k=>obtain⟨q,h1,h2⟩:=Ow eH k p (by simpa using hp);exact⟨q,by simpa using h1,h2⟩
theorem V1:∀{a b:List aj},k9 a b=true->∀(k:Nat) (p:aj),a[k]?=some p->b[k]?=some p
 |[],[],_,k,p,h=>by simp at h
 |(c,t)::r,(c',t')::s,hf,k,p,h=>by
  simp only[k9,aQ]at hf;have EL:t=t':=Prod.ext (bo hf.1.1.2) (by simpa using hf.1.2);have hc:=Ap hf.1.1.1;subst EL;subst hc;cases k with
  |zero=>simpa using h
  |succ k=>have:=V1 hf.2 k p (by simpa using h);simpa using this
 |[],_::_,h,_,_,_=>by simp[k9]at h
 |_::_,[],h,_,_,_=>by simp[k9]at h
end
end Go.aW
namespace Go.aW
variable {P:bk} {rd:Option Nat}
def oQ (rd:Option Nat):Fence:={Aa with round:=rd}
def oC (Q:Exit->Act->ai->Prop):Exit->Act->ai->Prop
 | .normal,a,w=>Q .normal a w
 |_,_,_=>False
theorem oC.imp {Q:Exit->Act->ai->Prop}:∀(e:Exit) (a:Act) (w:ai),calm (oC Q) e a w->Q e a w:=λe a w h=>by
 cases e<;>first|exact h|exact(h:False).elim
theorem oC.let {Q:Exit->Act->ai->Prop}:¬LetsOut (oC Q):=λ⟨a,w,h⟩=>h
theorem oC.anh {Q:Exit->Act->ai->Prop}:¬LetsOut (calm (oC Q)):=λ⟨a,w,h⟩=>h
def sc (o:Oper):Bool:=match o.op with| .defer _=>false|_=>true
def kx:Code->Bool
 | .region _ ops _=>ops.toList.all sc
 | .seq a b=>kx a&&kx b
 | .cond _ a b=>kx a&&kx b
 | .block _ c=>kx c
 | .loop c=>kx c
 |_=>true
theorem aoU {o:Oper} (h:sc o=true):∀c,o.op≠ .defer c:=λc e=>by simp[sc,e]at h
theorem afI {n:Nat} {f:cB} {args:Array ax} {w:ai} {R:Ending->ai->Prop} (h:gZ P f args w R):CallsIn (oQ rd) n P f args w R:=callsIn_wide.2 h
theorem as5 {n:Nat} {row:String} {args:Array ax} {w:ai} {R:ax->ai->Prop} (h:Rows P row args w R):RowsIn (oQ rd) n P row args w R:=
 λc cs _=>let⟨v,w',r,s⟩:=h c cs;⟨v,w',r,stepsIn_wide.2 s⟩
theorem aac {o:Oper} {a:Act} {w:ai} {K:Act->ai->Prop} {Q:Exit->Act->ai->Prop} (hd:rd=none∨sc o=true) (h:o.wp P a w K Q):o.wpIn (oQ rd) 0 P a w K Q:=by
 refine⟨λ_ _=>trivial,?_⟩;have e:o.semAt (oQ rd).round a.eval=execOp a.eval o:=by
  rcases hd with h|h
  ·subst h;rfl
  ·exact o.semAt_eq _ _ (aoU h)
 rw[e];unfold m9 at h;generalize (execOp a.eval o).run P w=r at*;cases r with
 |ok n w'=>
  cases n<;>simp only[Oper.upon,ay9]at h⊢
  case value u=>exact h
  case skip=>exact h
  case defer d=>exact h
  case enter f args=>exact⟨λhs=>by simp[oQ,Aa]at hs,afI h⟩
  case row row args=>exact⟨λhs=>by simp[oQ,Aa]at hs,as5 h⟩
 |halt x w'=>
  cases x<;>simp only[Oper.upon,ay9]at h⊢
  case panic u=>exact h
variable {ops:Array Oper} {Q:Exit->Act->ai->Prop}
theorem Sg (hL:¬LetsOut Q):∀{l:List Oper} {a:Act} {w:ai},(rd=none∨l.all sc=true)->wpList P ops Q l a w->wpListIn (oQ rd) 0 P ops Q l a w
 |[],_,_,_,h=>h
 |o::r,a,w,hd,h=>by
  have h1:rd=none∨sc o=true:=hd.imp id λh=>by simp only[G4,aQ]at h;exact h.1
  have h2:rd=none∨r.all sc=true:=hd.imp id λh=>by simp only[G4,aQ]at h;exact h.2
  unfold wpList at h;unfold wpListIn;split
  ·rename_i hw;rw[if_pos hw]at h;rcases h with h|h
   ·exact aza (λa w h=>Sg hL h2 h) (aac h1 h)
   ·exact absurd h.2 hL
  ·rename_i hw;rw[if_neg hw]at h;exact⟨λ_ _=>trivial,Sg hL h2 h⟩
theorem Lk {md:Region.Mode} (hd:rd=none∨ops.toList.all sc=true) (hL:¬LetsOut Q):∀{f:Nat} {listed:Array Bool} {a:Act} {w:ai},wpAny P md ops Q f listed a w->wpAnyIn (oQ rd) 0 P md ops Q f listed a w
 |0,_,_,_,h=>h
 |f+1,listed,a,w,h=>by
  refine⟨h.1,λi hi=>?_⟩;have h2:=h.2 i hi;unfold wpOp at h2;unfold wpOpIn;cases ho:ops[i]? with
  |none=>simp only[ho]at h2⊢;exact Lk hd hL h2
  |some o=>
   simp only[ho]at h2⊢;have h1:rd=none∨sc o=true:=hd.imp id λh=>List.all_eq_true.1 h o (by simpa using Array.mem_of_getElem? ho);split
   ·rename_i hw;rw[if_pos hw]at h2;rcases h2 with h2|h2
    ·exact aza (λa w h=>Lk hd hL h) (aac h1 h2)
    ·exact absurd h2.2 hL
   ·rename_i hw;rw[if_neg hw]at h2;exact⟨λ_ _=>trivial,Lk hd hL h2⟩
theorem asJ {id:Nat} {a:Act} {w:ai} (hd:rd=none∨ops.toList.all sc=true) (h:wpList P ops (oC Q) ops.toList a w):(azb id ops false).wpIn (oQ rd) 0 P Q a w:=
 wpIn_mono (wpIn_region_list (Sg oC.let hd h)) λe a w h=>oC.imp e a w (by cases e<;>first|exact h|exact(h:False).elim)
theorem Q2 {id:Nat} {a:Act} {w:ai} (hm:P.follows .mixedOrders=true) (hd:rd=none∨ops.toList.all sc=true)
 (h:wpAny P .any ops (calm (oC Q)) ops.size (sz ops.size false) a {w with drawn:=w.drawn+1}):(azb id ops true).wpIn (oQ rd) 0 P Q a w:=
 wpIn_mono (wpIn_region_any hm (Lk hd oC.anh h)) oC.imp
end Go.aW
namespace Go.aW
open M
section
variable {S:Nat->List Int->List Int->Prop} {L:V->Env->Prop} {w0:cI} {P:bk} {gl:dA} {cal:ed} {rd:Option Nat}
def xR (S:Nat->List Int->List Int->Prop) (L:V->Env->Prop) (w0:cI) (k:nc) (n nb:Nat) (ρ:Env) (m:Nat->Nat) (G:c9) (Q:Exit->Act->ai->Prop):Prop:=∀x n' ae m' bq aG da a' w',cJ n nb ρ m n' (jg aG) ae m'->dI n G da->R w0 n' ae m' bq aG a' w'->(k x n' bq aG).holds S L da ae->Q x.to a' w'
theorem xR.later {k:nc} {n nb n1 xd:Nat} {ρ ay:Env} {m dE:Nat->Nat} {G G1:c9} {Q:Exit->Act->ai->Prop} (h:xR S L w0 k n nb ρ m G Q) (hl:cJ n nb ρ m n1 xd ay dE) (hA:dI n G G1):xR S L w0 k n1 xd ay dE G1 Q:=
 λx n' ae m' bq aG da a' w' h1 h2 h3 h4=>h x n' ae m' bq aG da a' w' (hl.trans h1) (hA.trans h2 hl.hn) h3 h4
def Hs (rd:Option Nat) (S:Nat->List Int->List Int->Prop) (L:V->Env->Prop) (w0:cI) (P:bk) (c:Code) (e:Nat->List V->List aj->nc->T):Prop:=(rd=none∨kx c=true)->∀n tm bl k G ρ m a w Q,R w0 n ρ m tm bl a w->(e n tm bl k).holds S L G ρ->xR S L w0 k n bl.length ρ m G Q->c.wpIn (oQ rd) 0 P Q a w
theorem aaT {c:Code} {e:Nat->List V->List aj->nc->T} (hd:rd=none∨kx c=true) (he:Hs rd S L w0 P c e) {Q:Exit->Act->ai->Prop}:∀(r:Nat) {n:Nat} {ρ:Env} {m:Nat->Nat} {tm:List V} {bl:List aj} {a:Act} {w:ai} {G:c9} {k:nc},
 R w0 n ρ m tm bl a w->(Q9 e r n tm bl k).holds S L G ρ->xR S L w0 k n bl.length ρ m G Q->Code.roundsIn (oQ rd) 0 P c Q r a w
 |0,_,_,_,_,_,_,_,_,_,_,ag,_=>ag.elim
 |r+1,n,ρ,m,tm,bl,a,w,G,k,h,ag,hk=>by
  rw[roundsIn_succ];refine he hd n tm bl _ G ρ m a w _ h ag λx n' ae m' bq aG da a' w' h1 h2 h3 h4=>?_;cases x with
  |normal=>exact aaT hd he r h3 h4 (hk.later h1 h2)
  |exit id=>exact hk (.exit id) n' ae m' bq aG da a' w' h1 h2 h3 h4
  |ret=>exact hk .ret n' ae m' bq aG da a' w' h1 h2 h3 h4
theorem ad0 {n nb:Nat} {ρ:Env} {m:Nat->Nat} {tm:List V} {xs:Array ax} (h:dn n nb ρ m tm xs):xW n nb ρ m tm xs.toList:=T5 (by simpa using h)
def rq (w0:cI) (ρ:Env) (m:Nat->Nat) (bl:List aj) (w:ai) (D:Nat->Prop):Prop:=∀(i:Nat) (sh:List av) (off code cap:U) (kind:Nat) (t:aR×Bool),bl[i]?=some ([.rows sh off code cap kind],t)->gQ w0 ρ D (m i) sh off code cap kind t.1 w
theorem Xt {D:Nat->Prop} {li:dc} {n:Nat} {bz ae:Env} {m0 m':Nat->Nat} {tm bq kD vx:List V} {bl aG dp mF:List aj} {l1 l2 v1 v2 ext:List U} {b1 b2 Ao rD:List (Int×Int)} {n':Nat} {a:Act} {w:ai}
 (hlen:bl.length<=aG.length)
 (ha:agree n bz ae) (hm:∀b,b<bl.length->m' b=m0 b) (ht:∀v∈tm,V.ok n bl.length bz v) (jl:bU n bl.length bz bl)
 (h:R w0 n' ae m' bq aG a w) (e1:hs li.eC li.ints 0 (n+1) tm=some (kD,l1,b1)) (e2:hb li.cells 0 (n+1+l1.length) bl=some (dp,l2,b2))
 (e3:hs li.eC li.ints 0 (n+1) bq=some (vx,v1,Ao)) (e4:hb li.cells 0 (n+1+v1.length) (aG.take bl.length)=some (mF,v2,rD))
 (f1:ld kD vx=true) (f2:k9 dp mF=true) (uI:∀g,D g->bX w0 ae m' aG g) (hU:rq w0 ae m' aG w D):
 v1.length+v2.length=l1.length+l2.length/\bd (b1++b2) ((v1++v2).map (·.den ae))/\R w0 (n+1+l1.length+l2.length+ext.length) (bh bz (n+1) ((v1++v2++ext).map (·.den ae))) m0 kD dp a w/\dp.length=bl.length/\(∀(i:Nat) (p:aj),dp[i]?=some p->i<bl.length/\∃p':aj,aG[i]?=some p'/\aS (bh bz (n+1) ((v1++v2++ext).map (·.den ae))) p.1=aS ae p'.1)/\(∀g,D g->bX w0 (bh bz (n+1) ((v1++v2++ext).map (·.den ae))) m0 dp g)/\rq w0 (bh bz (n+1) ((v1++v2++ext).map (·.den ae))) m0 dp w D:=by
 have Oq:agree n bz (bh bz (n+1) ((v1++v2++ext).map (·.den ae))):=(agree.bh _ (n+1) bz).mono (by omega);have p8:∀j,j<(v1++v2).length->bh bz (n+1) ((v1++v2++ext).map (·.den ae)) (n+1+j)=((v1++v2).getD j (.const 0)).den ae:=λj hj=>by
  rw[Cz _ _ _ j (by simp at hj⊢;omega)];have n7:j<(v1++v2++ext).length:=by simp at hj⊢;omega
  have e:(v1++v2++ext)[j]=(v1++v2)[j]:=List.getElem_append_left hj;simp only[ar,lV,gF hj,gF n7,rf,qv,e]
 have Jf:v1.length+v2.length=(v1++v2).length:=by simp
 obtain⟨p1,aJ,bb⟩:=EH (N:=n+1+v1.length+v2.length+ext.length) ha Oq hm (by omega) ht (ad0 h.t) e1 e3 f1 (λj hj=>by
  rw[p8 j (by simp;omega),Wm hj]) (by omega)
 rw[<-bb]at e2;have D7:bU n' aG.length ae (aG.take bl.length):=λp hp=>h.b p (kh hp);obtain⟨q1,q2,q3,dr⟩:=Xb (N:=n+1+v1.length+v2.length+ext.length) ha Oq hm (by omega) jl D7 e2 e4 f2 (λj hj=>by
  rw[show n+1+v1.length+j=n+1+(v1.length+j) by omega,p8 (v1.length+j) (by simp;omega),Wn]) (by omega)
 have hbl:dp.length=bl.length:=(D5 e2).2;refine⟨by omega,by rw[fl];exact r5 aJ q2,?_⟩;rw[<-bb,<-q3];have wI:∀(i:Nat) (p:aj),dp[i]?=some p->i<bl.length/\∃p':aj,aG[i]?=some p'/\bI p.1=bI p'.1/\p.2=p'.2/\(bI p.1=false->∃sh off code code' cap k,p.1=[.rows sh off code cap k]/\p'.1=[.rows sh off code' cap k]/\off.aY n/\cap.aY n):=λi p hi=>by
  have gT:i<bl.length:=by rw[<-hbl];exact(List.getElem?_eq_some_iff.1 hi).1
  obtain⟨p',h1,h2,yq,h3⟩:=Ow e4 i p (V1 f2 i p hi);rw[oK,if_pos gT]at h1;obtain⟨p0,g1,_,_,g3⟩:=Ow e2 i p hi;refine⟨gT,p',h1,h2,yq,λho=>?_⟩;obtain⟨sh,off,code,code',cap,k,s1,s2⟩:=h3 ho;obtain⟨cF,dZ,c1,c2,dX,k',ez,Ck⟩:=g3 ho;rw[s1]at ez;cases ez;have bg:A.ok n bl.length bz (.rows sh off c2 cap k):=jl _ (cM g1) _ (by rw[Ck];simp);exact⟨sh,off,code,code',cap,k,s1,s2,bg.1.1,bg.1.2.2⟩
 have Ot:agree n ae (bh bz (n+1) ((v1++v2++ext).map (·.den ae))):=ha.sym.trans Oq (aV _);have hk2:∀(p p':aj),bI p.1=bI p'.1->(bI p.1=false->∃sh off code code' cap k,p.1=[.rows sh off code cap k]/\p'.1=[.rows sh off code' cap k]/\off.aY n/\cap.aY n)->aS (bh bz (n+1) ((v1++v2++ext).map (·.den ae))) p.1=aS ae p'.1:=λp p' h1 h2=>by
  cases ho:bI p.1 with
  |true=>rw[hT ho,hT (h1▸ho)]
  |false=>
   obtain⟨sh,off,code,code',cap,k,s1,s2,ez,Ck⟩:=h2 ho;rw[s1,s2];simp only[aS];rw[U.bw Ot Ck]
 have hrel:∀(F:Nat->Prop),rq w0 ae m' aG w F->rq w0 (bh bz (n+1) ((v1++v2++ext).map (·.den ae))) m0 dp w F:=λF hF i sh off code cap kind t hi=>by
  obtain⟨gT,p',k1,_,k2,k3⟩:=wI i _ hi;obtain⟨cF,dZ,c1,c2,dX,k',s1,s2,ez,Ck⟩:=k3 rfl;cases s1;obtain⟨C,t'⟩:=p';simp only at s2 k2;subst s2;subst k2;obtain⟨c',h1,h2⟩:=dr i _ t hi;rw[oK,if_pos gT,k1]at h1;cases h1;simp only[ch,ec,A.den,gY,aDw,and_true,true_and]at h2;rw[<-hm i gT];have hR:=hF i sh off c2 cap kind t k1;unfold gQ at hR⊢;rw[U.bw Ot ez,U.bw Ot Ck,h2];exact hR
 have ob:∀g,bX w0 ae m' aG g->bX w0 (bh bz (n+1) ((v1++v2++ext).map (·.den ae))) m0 dp g:=bX.mono λi p hi hk=>by
  obtain⟨g1,p',g2,g3,_,g4⟩:=wI i p hi;exact⟨i,p',g2,by rw[<-hk2 p p' g3 g4];exact hk,hm i g1⟩
 refine⟨?_,hbl,λi p hi=>by
  obtain⟨g1,p',g2,g3,_,g4⟩:=wI i p hi;exact⟨g1,p',g2,hk2 p p' g3 g4⟩,λg hg=>ob g (uI g hg),hrel D hU⟩
 refine⟨?_,h.d,by rw[hbl];exact q1,⟨h.a6.ext,h.a6.jo,h.a6.jr,h.a6.iF,h.a6.ew,h.a6.gi,λi cs t hi ho=>?_,λi sh off code cap kind t hi=>?_,λi j p q hi hj he=>?_⟩⟩
 ·rw[hbl];have:=HH p1;simpa using this
 ·obtain⟨c',h1,h2⟩:=dr i cs t hi;obtain⟨gT,p',k1,k2,_⟩:=wI i _ hi;rw[oK,if_pos gT,k1]at h1;have h1:=fQ h1;subst h1;obtain⟨g1,kP,r,hr,g2⟩:=h.a6.blk i c' t k1 (k2▸ho);rw[<-hm i gT];exact⟨g1,kP,r,hr,by rw[h2];exact g2⟩
 ·exact(hrel _ h.a6.rws i sh off code cap kind t hi).mono ob
 ·obtain⟨gT,p',k1,k2,_,k3⟩:=wI i p hi;obtain⟨Et,q',l1,l2,_,l3⟩:=wI j q hj;rw[hk2 p p' k2 k3,hk2 q q' l2 l3];rw[<-hm i gT,<-hm j Et]at he;exact h.a6.inj i j p' q' k1 l1 he
theorem dn.set {n nb:Nat} {ρ:Env} {m:Nat->Nat} {tm:List V} {xs:Array ax} {s:Nat} {v:V} (h:dn n nb ρ m tm xs) (hv:v.ok n nb ρ) (hr:∀x,xs[s]?=some x->v.rel ρ m x):dn n nb ρ m (oz tm s v) xs:=by
 rw[RC];refine⟨by simp[h.1],λi u hu=>?_⟩;rw[oL]at hu;split at hu
 ·rename_i EJ;subst EJ;split at hu
  ·rename_i hlt;cases hu;rw[h.1]at hlt;exact⟨hv,_,Lx hlt,hr _ (Lx hlt)⟩
  ·cases hu
 ·exact h.2 i u hu
def Ad (tmps:Array ax):List Nat->List Int->Prop
 |[],[]=>True
 |s::r,z::zs=>(0<=z/\z<=1)/\(∀x,tmps[s]?=some x->x= .bool (decide (z=1)))/\Ad tmps r zs
 |_,_=>False
def xN (w0:cI) (w:ai) (tmps:Array ax) (D:Nat->Prop) (F:Nat->Prop):List (Nat×List av×aR)->List Int->Prop
 |[],[]=>True
 |(s,sh,e)::r,code::len::cap::zs=>∃g:Nat,(∀x,tmps[s]?=some x->x=if cap<0 then .slice (lS cap g) 0 0 else .slice (some ⟨g,0,none⟩) len.toNat cap.toNat)/\Cr 0 0 len cap/\(0<=code/\code<=bV)/\(cap<0->ab code=[])/\
    (0<=cap->∃cells:Array ax,w.heap[g]?=some (.cells cells e (0,0))/\iy D w cells 0 sh (ab code)/\cells.size=cap.toNat*sh.length/\w0.b.heap.size<=g/\(w0.ex g∨w0.r.heap.size<=g)/\∀g',D g'->g'≠g)/\
    (0<=cap->F g)/\xN w0 w tmps D (λg'=>F g'/\(0<=cap->g'≠g)) r zs
 |_,_=>False
theorem MV {nb:Nat} {tm:List V} {m:Nat->Nat} {tmps:Array ax}:∀{l:List Nat} {n:Nat} {ρ:Env},dn n nb ρ m tm tmps->ao S L (Dm tm l) n ρ λae n' ls=>(∀x∈ls,U.aY n' x)/\ls.length=l.length/\Ad tmps l (ls.map (·.den ae))
 |[],n,ρ,ht=>ao.pure ⟨λ_ h=>by simp at h,rfl,trivial⟩
 |s::r,n,ρ,ht=>by
  unfold Dm;split
  ·rename_i e hs;obtain⟨h1,x,h2,h3⟩:=ht.2 s _ hs;have h3:x= .bool (e.den ρ):=h3;have key:ao S L (match e with| .lit v=>pure (U.const (cond v 1 0))|e=>y7 e) n ρ λae n' l=>l.aY n'/\(0<=l.den ae/\l.den ae<=1)/\e.den ρ=decide (l.den ae=1):=by
    cases e with
    |lit v=>cases v<;>exact ao.pure ⟨U.cr _ _,by simp only[U.aO];decide,by simp only[U.aO,bf.den];rfl⟩
    |_=>exact JH
   refine key.bind λay n1 l hn ha ⟨g1,g2,g3⟩=>(MV (l:=r) (ht.ext ha hn (aV _) (λ_ _=>rfl))).bind λbn n2 ls dY cU ⟨k1,k2,k3⟩=>ao.pure ⟨λy hy=>?_,by simp[k2],?_⟩
   ·rcases List.mem_cons.1 hy with rfl|hy
    ·exact g1.mono dY
    ·exact k1 y hy
   ·have e1:=U.bw cU g1;simp only[ch,Ad,e1];refine⟨g2,λy hy=>?_,k3⟩;rw[h2]at hy;cases hy;rw[h3,g3]
  ·exact ao.fail
theorem DG {nb:Nat} {m:Nat->Nat} {tmps:Array ax}:∀{l:List (Nat×Int×Int)} {tm:List V} {n:Nat} {ρ:Env},dn n nb ρ m tm tmps->ao S L (ym l tm) n ρ λae n' bq=>dn n' nb ae m bq tmps
 |[],tm,n,ρ,ht=>ao.pure ht
 |(s,lo,hi)::r,tm,n,ρ,ht=>by
  unfold ym;split
  ·rename_i k x hs;cases hc:(decide (lo<=x.lo)&&decide (x.hi<=hi))with
   |true=>simp only[cond_true];exact DG ht
   |false=>
    simp only[cond_false];refine fX λhk=>?_;simp only[ch,ec,ah,U.aO]at hk;obtain⟨h1,y,h2,h3⟩:=ht.2 s _ hs;have h1:x.ok n ρ:=h1;exact DG (ht.set (v:= .w (.one (.int k ⟨x.l,lo,hi⟩))) ⟨h1.1,hk.1,hk.2⟩ λz hz=>by
     rw[h2]at hz;cases hz;exact h3)
  ·exact DG ht
theorem HL {n lo:Nat} {ρ:Env} {m:Nat->Nat} {tm:List V} {bl:List aj} {a:Act} {w:ai} (h:R w0 n ρ m tm bl a w):∀{l:List (Nat×List av×aR)} {used:List Nat} {ls:List U} {u:List Nat},sJ lo l tm bl used=some (ls,u)->
 (∀x∈ls,U.aY n x)/\ls.length=(x4 l).length/\(∀b∈used,b∈u)/\(∀b∈u,b∈used∨lo<=b)/\∀F:Nat->Prop,(∀(b:Nat) (p:aj),b∈u->b∉used->bl[b]?=some p->aS ρ p.1=2->bI p.1=false->F (m b))->xN w0 w a.tmps (bX w0 ρ m bl) F l (ls.map (·.den ρ))
 |[],used,ls,u,he=>by
  simp only[sJ,aK,cN]at he;obtain⟨rfl,rfl⟩:=he;exact⟨λ_ h=>by simp at h,rfl,λ_ h=>h,λ_ h=> .inl h,λ_ _=>trivial⟩
 |(s,sh,e)::r,used,ls,u,he=>by
  unfold sJ at he;split at he
  ·rename_i hs;split at he
   ·rename_i l1 fO hr;simp only[aK,cN]at he;obtain⟨rfl,rfl⟩:=he;obtain⟨g1,g2,g3,g4,g5⟩:=HL h hr;refine⟨λx hx=>?_,by simp[x4]at g2⊢;omega,g3,g4,λF hF=>⟨0,λx hx=>?_,?_,?_,?_,?_,?_,?_⟩⟩
    ·simp only[kg]at hx;rcases hx with rfl|rfl|rfl|hx
     ·exact U.cr _ _
     ·exact U.cr _ _
     ·exact U.cr _ _
     ·exact g1 x hx
    ·obtain⟨_,y,h2,h3⟩:=h.t.2 s _ hs;rw[h2]at hx;cases hx;have oX:(U.const (-1)).den ρ<0:=by rw[U.aO];decide
     simp only[oX,if_true];exact h3
    ·simp only[U.aO];exact⟨⟨by omega,by omega,by omega,by omega⟩,⟨by omega,by omega⟩,λ_=>rfl,λh=>by omega⟩
    ·simp only[U.aO];exact⟨bO _,oJ (eJ []) (nU (l:=[]) (by simp) (by simp))⟩
    ·intro _;simp only[U.aO];exact eV
    ·simp only[U.aO];intro h;omega
    ·simp only[U.aO];intro h;omega
    ·refine g5 _ λb p hb hu hbl hk ho=>⟨hF b p hb hu hbl hk ho,?_⟩;simp only[U.aO];intro h;omega
   ·cases he
  ·rename_i b aL o ro len cap hs;split at he
   ·rename_i cF off code cO kind t hbl;cases hc:(jc sh cF&&aA kind 2&&U.beq o (.const 0)&&U.beq off (.const 0)&&U.beq ro (.const 0)&&U.beq cap cO&&aA t.1 e&&aA aL sh.length&&bp lo b&& !(used.any (aA b)))with
    |false=>rw[hc]at he;cases he
    |true=>
     rw[hc]at he;simp only[cond_true]at he;split at he
     ·rename_i l1 fO hr;simp only[aK,cN]at he;obtain⟨rfl,rfl⟩:=he;simp only[aQ]at hc;obtain⟨⟨⟨⟨⟨⟨⟨⟨⟨c1,c2⟩,c3⟩,c4⟩,c5⟩,c6⟩,kj⟩,mG⟩,qH⟩,ye⟩:=hc;have c1:=pt c1;have c2:=bo c2;have c3:=U.beq_eq c3;have c4:=U.beq_eq c4;have c5:=U.beq_eq c5;have c6:=U.beq_eq c6
      have kj:=bo kj;have mG:=bo mG;have qH:=et qH
      have akI:b∉used:=λhb=>by
       have:used.any (aA b)=true:=List.any_eq_true.2 ⟨b,hb,CM b⟩;rw[this]at ye;cases ye
      subst c1;subst c2;subst c3;subst c4;subst c5;subst c6;subst kj;subst mG;obtain⟨g1,g2,g3,g4,g5⟩:=HL h hr;obtain⟨bg,y,h2,h3⟩:=h.t.2 s _ hs;have bg:(A.sl b sh.length (.const 0) (.const 0) len cap).ok n bl.length ρ:=bg;obtain⟨x1,⟨x2,x3,bL,gg⟩,je⟩:=bg;simp only[U.aO]at je;have eS:(A.rows sh (.const 0) code cap 2).ok n bl.length ρ:=h.b _ (cM hbl) _ (by simp);obtain⟨⟨r1,r2,r3⟩,fN,cw⟩:=eS;have gU:=h.a6.rws b sh (.const 0) code cap 2 t hbl (by decide);refine⟨λx hx=>?_,by simp[x4]at g2⊢;omega,λb' hb'=>g3 b' (cx _ hb'),λb' hb'=>?_,λF hF=>⟨m b,λx hx=>?_,je,fN,gU.1,λh0=>?_,λh0=>?_,?_⟩⟩
      ·simp only[kg]at hx;rcases hx with rfl|rfl|rfl|hx
       ·exact r2
       ·exact bL
       ·exact gg
       ·exact g1 x hx
      ·rcases g4 b' hb' with h5|h5
       ·rcases List.mem_cons.1 h5 with rfl|h5
        ·exact .inr qH
        ·exact .inl h5
       ·exact .inr h5
      ·have EW:y=x:=fQ (h2.symm.trans hx);subst EW;have h3:y=(A.sl b sh.length (.const 0) (.const 0) len cap).den ρ m:=h3;rw[h3];simp only[A.den,U.aO];split<;>simp
      ·obtain⟨_,cells,gq,fz,k1,⟨k2,k3⟩,k4⟩:=gU.2 h0;obtain⟨iG,mm,mR,amq,amr,ams⟩:=k4 (by decide);subst iG;have mR:=mR.two;subst mR;rw[U.aO]at k3;exact⟨cells,k1,k3,amq,amr,ams,λg' ej e=>ej.2 b _ hbl (by rw[iH (by decide) h0];exact aV 2) e.symm⟩
      ·exact hF b _ (g3 b (by simp)) akI hbl (iH (by decide) h0) rfl
      ·refine g5 _ λb' p hb' hu Xg hk ho=>⟨hF b' p hb' (λh=>hu (cx _ h)) Xg hk ho,λh0=>?_⟩;have gK:aS ρ [A.rows sh (.const 0) code cap 2]=2:=iH (by decide) h0;exact h.a6.ne Xg hbl (by rw[hk];exact aV 2) (by simp only[gK];decide) λe=>hu (by simp[e])
     ·cases he
   ·cases he
  ·cases he
theorem Kq {c:List A} (h:bI c=false):∃sh off code cap k,c=[.rows sh off code cap k]:=by
 unfold bI at h;split at h
 ·exact⟨_,_,_,_,_,rfl⟩
 ·cases h
theorem PX {n:Nat} {ρ:Env} {m:Nat->Nat} {tm:List V} {a:Act} {w:ai}:∀{us:List Nat} {bl:List aj},R w0 n ρ m tm bl a w->R w0 n ρ m tm (ll us bl) a w/\(ll us bl).length=bl.length/\∀(i:Nat) (p:aj),(ll us bl)[i]?=some p->(bl[i]?=some p/\(i∈us->bI p.1=true∨aS ρ p.1=0))∨aS ρ p.1=0
 |[],bl,h=>⟨h,rfl,λi p hp=> .inl ⟨hp,λh=>by simp at h⟩⟩
 |b::r,bl,h=>by
  unfold ll;split
  ·rename_i sh off code cap k t hbl;obtain⟨g1,g2,g3⟩:=PX (us:=r) (h.kill hbl);refine⟨g1,by rw[g2,jN],λi p hp=>?_⟩;rcases g3 i p hp with⟨g4,g5⟩|g4
   ·by_cases gT:i=b
    ·subst gT;rw[iN,ac1 (List.getElem?_eq_some_iff.1 hbl).1]at g4;cases g4;exact .inr (by simp[aS])
    ·rw[iN,SE (λe=>gT e.symm)]at g4;exact .inl ⟨g4,λhi=>g5 (by simpa [gT]using hi)⟩
   ·exact .inr g4
  ·rename_i hno;obtain⟨g1,g2,g3⟩:=PX (us:=r) h;refine⟨g1,g2,λi p hp=>?_⟩;rcases g3 i p hp with⟨g4,g5⟩|g4
   ·refine .inl ⟨g4,λhi=>?_⟩;rcases List.mem_cons.1 hi with rfl|hi
    ·cases ho:bI p.1 with
     |true=>exact .inl rfl
     |false=>
      exfalso;obtain⟨c,t⟩:=p;obtain⟨sh,off,code,cap,k,rfl⟩:=Kq ho;exact hno _ _ _ _ _ _ g4
    ·exact g5 hi
   ·exact .inr g4
theorem Xr {N:Nat} {bn:Env} {m:Nat->Nat} {bl:List aj} {a:Act} {w:ai}:∀{l:List Nat} {zs:List Int} {v:Nat} {tm:List V},R w0 N bn m tm bl a w->Ad a.tmps l zs->(∀j,j<zs.length->bn (v+j)=zs.getD j 0)->v+zs.length<=N->R w0 N bn m (o5 l v tm) bl a w
 |[],[],v,tm,h,_,_,_=>h
 |s::r,z::zs,v,tm,h,hb,hv,hN=>by
  unfold o5;have h0:=hv 0 (by simp);simp only[kG,vH]at h0;simp only[dj]at hN;refine Xr (l:=r) (zs:=zs) ⟨dn.set h.t ?_ λx hx=>?_,h.d,h.b,h.a6⟩ hb.2.2 (λj hj=>by
   have:=hv (j+1) (by simpa using hj);rw[show v+1+j=v+(j+1) by omega];simpa using this) (by omega)
  ·exact⟨U.er (by omega),U.cr _ _⟩
  ·rw[hb.2.1 x hx];simp[V.rel,W.den,A.den,bf.den,U.cj,U.aO,h0]
 |[],_::_,_,_,_,h,_,_=>h.elim
 |_::_,[],_,_,_,h,_,_=>h.elim
theorem Xq {N:Nat} {bn:Env} {a:Act} {w:ai}:∀{l:List (Nat×List av×aR)} {zs:List Int} {v:Nat} {tm:List V} {bl:List aj} {m:Nat->Nat} {D F:Nat->Prop},R w0 N bn m tm bl a w->(∀g,D g->bX w0 bn m bl g)->rq w0 bn m bl w D->xN w0 w a.tmps D F l zs->(∀g,F g->∀(i:Nat) (p:aj),bl[i]?=some p->m i=g->aS bn p.1=0)->
 (∀j,j<zs.length->bn (v+j)=zs.getD j 0)->v+zs.length<=N->∃m2,(∀b,b<bl.length->m2 b=m b)/\bl.length<=(p6 l v tm bl).2.length/\R w0 N bn m2 (p6 l v tm bl).1 (p6 l v tm bl).2 a w
 |[],[],v,tm,bl,m,D,F,h,_,_,_,_,_,_=>⟨m,λ_ _=>rfl,aV _,h⟩
 |(s,sh,e)::r,code::len::cap::zs,v,tm,bl,m,D,F,h,uI,hU,hf,hF,hv,hN=>by
  obtain⟨g,f1,f2,f3,f4,f5,f6,f7⟩:=hf;have v0:=hv 0 (by simp);have v1:=hv 1 (by simp);have v2:=hv 2 (by simp);simp only[vH,G6,kG]at v0 v1 v2;simp only[dj]at hN;have hc:(-2:Int)<=cap/\cap<=0x7fffffffffffffff:=⟨f2.2.1.1,by have:=f2.2.1.2;omega⟩;have hA:(A.rows sh (.const 0) (.var v) (.var (v+2)) 2).ok N bl.length bn:=⟨⟨U.cr _ _,U.er (by omega),U.er (by omega)⟩,by rw[U.cj,v0];exact f3,by rw[U.cj,v2];exact hc⟩;have yv:∀g',D g'->bX w0 bn (fc m bl.length g) (bl++[([.rows sh (.const 0) (.var v) (.var (v+2)) 2],(e,false))]) g':=λg' ej=>(uI g' ej).push (by
   rcases ic cap 0 with h0|h0
   ·refine .inl ?_;simp only[aS,U.cj,v2];rw[if_pos h0];decide
   ·obtain⟨_,_,_,_,_,_,mR⟩:=f5 h0;exact .inr (mR g' ej))
  have jm:gQ w0 bn D g sh (.const 0) (.var v) (.var (v+2)) 2 e w:=by
   intro _;simp only[U.cj,v0,v2,U.aO];refine⟨f4,λh0=>?_⟩;obtain⟨cells,k1,k2,k3,k4,mm,_⟩:=f5 h0;exact⟨mm.elim .inl λh=> .inr (.inr h),cells,e,(0,0),k1,⟨bO _,k2⟩,λ_=>⟨rfl,by trivial,.FG,k3,k4,mm⟩⟩
  have Oh:rq w0 bn (fc m bl.length g) (bl++[([.rows sh (.const 0) (.var v) (.var (v+2)) 2],(e,false))]) w D:=λi cF dZ code' dX eZ t' hi=>by
   rcases Kz hi with⟨dv,h1⟩|⟨rfl,h1⟩
   ·rw[iO dv];exact hU i cF dZ code' dX eZ t' h1
   ·cases h1;rw[kb];exact jm
  have hM:=h.a6.push (x:=([.rows sh (.const 0) (.var v) (.var (v+2)) 2],(e,false))) (g:=g) h.b (λy hy=>by simp at hy;subst hy;exact hA) (λho=>by cases ho) (λcF dZ code' dX eZ he=>by
   cases he;exact jm.mono yv) (λi p hi he=>by
   rcases ic cap 0 with h0|h0
   ·refine .inr (.inr ?_);simp only[aS,U.cj,v2];rw[if_pos h0]
   ·exact .inr (.inl (hF g (f6 h0) i p hi he))) (λi cF dZ code' dX eZ t' hi=>(hU i cF dZ code' dX eZ t' hi).mono yv)
  have hL:=cJ.alloc N bn m bl ([A.rows sh (.const 0) (.var v) (.var (v+2)) 2],(e,false)) g;have hR:R w0 N bn (fc m bl.length g) (oz tm s (.w (.one (.sl bl.length sh.length (.const 0) (.const 0) (.var (v+1)) (.var (v+2)))))) (bl++[([.rows sh (.const 0) (.var v) (.var (v+2)) 2],(e,false))]) a w:=by
   refine⟨dn.set (h.t.ext hL.ha hL.hn hL.hb hL.hm) ?_ λx hx=>?_,h.d,h.b.alloc (λy hy=>by simp at hy;subst hy;exact hA),hM⟩
   ·refine⟨by simp,⟨U.cr _ _,U.cr _ _,U.er (by omega),U.er (by omega)⟩,?_⟩;simp only[U.aO,U.cj,v1,v2];exact f2
   ·rw[f1 x hx];simp only[V.rel,W.den,A.den,U.aO,U.cj,v1,v2,kb];split<;>simp
  obtain⟨m2,q1,q2,q3⟩:=Xq (l:=r) (zs:=zs) (v:=v+3) hR yv Oh f7 (λg' ej i p hi he=>by
   rw[CN]at hi;split at hi
   ·rename_i dv;rw[iO dv]at he;exact hF g' ej.1 i p hi he
   ·have dv:=(List.getElem?_eq_some_iff.1 hi).1;have:i=bl.length:=by simp at dv;omega
    subst this;simp only[Ly,m7,aK]at hi;subst hi;rw[kb]at he;rcases ic cap 0 with h0|h0
    ·simp only[aS,U.cj,v2];rw[if_pos h0]
    ·exact absurd he.symm (ej.2 h0)) (λj hj=>by
   have:=hv (j+3) (by simp only[dj];omega);rw[show v+3+j=v+(j+3) by omega];simpa using this) (by omega)
  simp only[c8,dj,fe]at q1 q2;exact⟨m2,λb hb=>by rw[q1 b (by omega)];exact iO hb,by unfold p6;omega,by unfold p6;exact q3⟩
 |[],_::_,_,_,_,_,_,_,_,_,_,h,_,_,_=>h.elim
 |_::_,[],_,_,_,_,_,_,_,_,_,h,_,_,_=>h.elim
 |_::_,[_],_,_,_,_,_,_,_,_,_,h,_,_,_=>h.elim
 |_::_,[_,_],_,_,_,_,_,_,_,_,_,h,_,_,_=>h.elim
theorem YK {tmps:Array ax}:∀{l:List Nat} {zs:List Int},Ad tmps l zs->bd (H4 l) zs
 |[],[],_=>trivial
 |s::r,z::zs,h=>⟨h.1.1,h.1.2,YK h.2.2⟩
 |[],_::_,h=>h.elim
 |_::_,[],h=>h.elim
theorem YI {w:ai} {tmps:Array ax}:∀{l:List (Nat×List av×aR)} {zs:List Int} {D F:Nat->Prop},xN w0 w tmps D F l zs->bd (x4 l) zs
 |[],[],_,_,_=>trivial
 |(s,sh,e)::r,code::len::cap::zs,D,F,⟨g,f1,f2,f3,f4,f5,f6,f7⟩=>⟨f3.1,f3.2,f2.1.2.2.1,f2.1.2.2.2,f2.2.1.1,by have:=f2.2.1.2;omega,YI f7⟩
 |[],_::_,_,_,h=>h.elim
 |_::_,[],_,_,h=>h.elim
 |_::_,[_],_,_,h=>h.elim
 |_::_,[_,_],_,_,h=>h.elim
theorem Mem.Ci {n:Nat} {ρ:Env} {m:Nat->Nat} {bl:List aj} {w:ai} {b c:Nat} {C:List A} {sh:List av} {code:U} {t:aR×Bool} (h:Mem w0 ρ m bl w) (hbl:bl[b]?=some (C,t)) (ho:bI C=true) (ht:t.2=false)
 (hp:hZ sh=true) (hO:∀row∈ab (code.den ρ),bD sh row) (im:cG sh (ab (code.den ρ))=C.map (A.den ρ m)) (hlen:C.length=c*sh.length):Mem w0 ρ m (cy bl b ([.rows sh (.const 0) code (.const c) 2],t)) w:=by
 have mL:b<bl.length:=(List.getElem?_eq_some_iff.1 hbl).1;obtain⟨q1,q2,r,hr,q3⟩:=h.blk b C t hbl ho;have hr:=hr ht;subst hr;rw[lv]at q3;have c0:∀(i:Nat) (p:aj),(cy bl b ([.rows sh (.const 0) code (.const c) 2],t))[i]?=some p->(i=b/\p=([.rows sh (.const 0) code (.const c) 2],t))∨(i≠b/\bl[i]?=some p):=λi p hi=>by
  rw[iN,oL]at hi;split at hi
  ·rename_i eE;subst eE;simp only[mL,if_true,aK]at hi;exact .inl ⟨rfl,hi.symm⟩
  ·rename_i eE;exact .inr ⟨λe=>eE e.symm,hi⟩
 have hk2:aS ρ [.rows sh (.const 0) code (.const c) 2]=2:=iH (by decide) (by rw[U.aO];omega);refine⟨h.ext,h.jo,h.jr,h.iF,h.ew,h.gi,λi cs' t' hi gk=>?_,λi cF dZ code' dX eZ t' hi=>?_,λi j p q hi hj he=>?_⟩
 ·rcases c0 i _ hi with⟨rfl,cH⟩|⟨hne,hi⟩
  ·cases cH;cases gk
  ·exact h.blk i cs' t' hi gk
 ·rcases c0 i _ hi with⟨rfl,cH⟩|⟨hne,hi⟩
  ·cases cH;intro _;simp only[U.aO];refine⟨λh0=>by omega,λ_=>⟨q2.elim .inl λh=> .inr (.inr h),_,_,_,q3,⟨bO _,(k0 hp).2 ⟨hO,[],[],by simp[im],rfl⟩⟩,λ_=>⟨rfl,by trivial,.FG,by simp[hlen],q1,q2⟩⟩⟩
  ·exact(h.rws i cF dZ _ dX eZ t' hi).mono λg' h'=>h'.set hbl λ_=>by rw[hT ho];exact aV 2
 ·have hk:∀(i:Nat) (p:aj),(cy bl b ([.rows sh (.const 0) code (.const c) 2],t))[i]?=some p->∃p',bl[i]?=some p'/\aS ρ p'.1=aS ρ p.1:=λi p hi=>by
   rcases c0 i _ hi with⟨rfl,cH⟩|⟨hne,hi⟩
   ·exact⟨_,hbl,by rw[cH];simp only[hk2,hT ho]⟩
   ·exact⟨p,hi,rfl⟩
  obtain⟨p',hp,ep⟩:=hk i p hi;obtain⟨q',hq,eq⟩:=hk j q hj;rw[<-ep,<-eq];exact h.inj i j p' q' hp hq he
theorem Rl {m:Nat->Nat} {tm:List V} {a:Act} {w:ai}:∀{l:List (Nat×List av×Nat)} {bl:List aj} {n:Nat} {ρ:Env},R w0 n ρ m tm bl a w->ao S L (Gr l bl) n ρ λae n' aG=>R w0 n' ae m tm aG a w/\aG.length=bl.length
 |[],bl,n,ρ,h=>ao.pure ⟨h,rfl⟩
 |(b,sh,c)::r,bl,n,ρ,h=>by
  unfold Gr;split
  ·rename_i C t hbl;cases ho:bI C with
   |false=>simp only[cond_false];exact Rl h
   |true=>
    simp only[cond_true];refine dR λhc=>?_;simp only[aQ]at hc;obtain⟨⟨⟨⟨c1,c2⟩,c3⟩,c4⟩,c5⟩:=hc;have c1:t.2=false:=by simpa using c1
    have c2:=bo c2;have c4:=et c4;have bg:∀x∈C,A.ok n bl.length ρ x:=h.b _ (cM hbl);have iV:=Az (w:=sh.length) (k:=c) c2;have e0:ab ((U.const 0).den ρ)=[]:=by rw[U.aO];exact eV
    have hz:(0:Int)<=bV:=oJ (eJ []) (nU (l:=[]) (by simp) (by simp));refine(HR (nb:=bl.length) (m:=m) c3 (rs:=k6 sh.length c C) (c:= .const 0) (λrow hr x hx=>bg x (AA row hr x hx)) (U.cr _ _) (by rw[U.aO];exact⟨bO _,hz⟩) (by rw[e0];intro _ h;simp at h) (by rw[e0,iV.1];simp;omega)).bind λay n1 code eY dz ⟨p1,aJ,dw,bb,b7,dD,eo⟩=>?_;rw[e0,gv]at bb;have h1:=h.later eY dz;have O4:C.map (A.den ay m)=C.map (A.den ρ m):=qf bg dz (λ_ _=>rfl);have hM:=h1.a6.Ci (n:=n1) (c:=c) (sh:=sh) (code:=code) hbl ho c1 c5 (by rw[bb];exact dD) (by rw[bb,eo,iV.2,O4]) c2;have hb1:bU n1 (cy bl b ([.rows sh (.const 0) code (.const c) 2],t)).length ay (cy bl b ([.rows sh (.const 0) code (.const c) 2],t)):=h1.b.set (λy hy=>by
     have hy:y= .rows sh (.const 0) code (.const c) 2:=by simpa using hy
     subst hy;exact⟨⟨U.cr _ _,p1,U.cr _ _⟩,aJ,by rw[U.aO];omega⟩)
    have hR:R w0 n1 ay m tm (cy bl b ([.rows sh (.const 0) code (.const c) 2],t)) a w:=⟨by rw[jN];exact h1.t,h1.d,hb1,hM⟩;exact(Rl (l:=r) hR).mono λbn n2 gC _ _ ⟨g1,g2⟩=>⟨g1,by rw[g2,jN]⟩
  ·exact ao.fail
theorem natsM_holds {G:c9} {Ab:Unit->Nat->T}:∀{k n:Nat} {ρ:Env} {offs:List Int},(Kd k n Ab).holds S L G ρ->offs.length=k->(∀z∈offs,0<=z)->(Ab () (n+k)).holds S L G (bh ρ n offs)
 |0,n,ρ,[],h,_,_=>h
 |k+1,n,ρ,z::zs,h,hl,h0=>by
  have h1:(Kd k (n+1) Ab).holds S L G (cR ρ n z):=h z (h0 z (by simp));have:=natsM_holds (offs:=zs) h1 (by simpa using hl) λy hy=>h0 y (cx _ hy);rw[show n+(k+1)=n+1+k by omega];exact this
 |0,_,_,_::_,_,hl,_=>by simp at hl
 |_+1,_,_,[],_,hl,_=>by simp at hl
def pK (w0:cI) (w:ai) (tmps:Array ax) (D:Nat->Prop) (F:Nat->Prop):List (Nat×List av)->List Nat->List Int->List Int->Prop
 |[],[],[],[]=>True
 |(s,sh)::r,g::gs,o::os,code::len::cap::zs=>(∀x,tmps[s]?=some x->x=if cap<0 then .slice (lS cap g) 0 0 else .slice (some ⟨g,o.toNat,none⟩) len.toNat cap.toNat)/\Cr o 0 len cap/\(0<=code/\code<=bV)/\(cap<0->ab code=[])/\
    (0<=cap->(w0.ex g∨w0.ro g∨w0.r.heap.size<=g)/\∃(cells:Array ax) (t:aR) (fz:Nat×Nat),w.heap[g]?=some (.cells cells t fz)/\iy D w cells o.toNat sh (ab code))/\
    (0<=cap->F g)/\pK w0 w tmps D F r gs os zs
 |_,_,_,_=>False
theorem pK.len {w:ai} {tmps:Array ax} {D F:Nat->Prop}:∀{l:List (Nat×List av)} {gs:List Nat} {os zs:List Int},pK w0 w tmps D F l gs os zs->os.length=l.length/\∀z∈os,0<=z
 |[],[],[],[],_=>⟨rfl,λ_ h=>by simp at h⟩
 |(s,sh)::r,g::gs,o::os,code::len::cap::zs,h=>by
  obtain⟨_,h2,_,_,_,_,h7⟩:=h;obtain⟨i1,i2⟩:=pK.len h7;exact⟨by simp[i1],λz hz=>by
   rcases List.mem_cons.1 hz with rfl|hz
   ·exact h2.1.1
   ·exact i2 z hz⟩
 |_::_,[],_,_,h=>h.elim
 |_::_,_::_,[],_,h=>h.elim
 |_::_,_::_,_::_,[],h=>h.elim
 |_::_,_::_,_::_,[_],h=>h.elim
 |_::_,_::_,_::_,[_,_],h=>h.elim
 |[],_::_,_,_,h=>h.elim
 |[],[],_::_,_,h=>h.elim
 |[],[],[],_::_,h=>h.elim
theorem YL {w:ai} {tmps:Array ax} {D F:Nat->Prop}:∀{l:List (Nat×List av)} {gs:List Nat} {os zs:List Int},pK w0 w tmps D F l gs os zs->bd (xm l) zs
 |[],[],[],[],_=>trivial
 |(s,sh)::r,g::gs,o::os,code::len::cap::zs,⟨f1,f2,f3,f4,f5,f6,f7⟩=>⟨f3.1,f3.2,f2.1.2.2.1,f2.1.2.2.2,f2.2.1.1,by have:=f2.2.1.2;omega,YL f7⟩
 |_::_,[],_,_,h=>h.elim
 |_::_,_::_,[],_,h=>h.elim
 |_::_,_::_,_::_,[],h=>h.elim
 |_::_,_::_,_::_,[_],h=>h.elim
 |_::_,_::_,_::_,[_,_],h=>h.elim
 |[],_::_,_,_,h=>h.elim
 |[],[],_::_,_,h=>h.elim
 |[],[],[],_::_,h=>h.elim
theorem Ge {n:Nat} {ρ:Env} {m:Nat->Nat} {tm:List V} {bl:List aj} {a:Act} {w:ai} (h:R w0 n ρ m tm bl a w):∀{l:List (Nat×List av)} {ls:List U},xn l tm bl=some ls->
 (∀x∈ls,U.aY n x)/\ls.length=(xm l).length/\∃gs os,pK w0 w a.tmps (bX w0 ρ m bl) (λg=>∃(i:Nat) (p:aj),bl[i]?=some p/\m i=g/\aS ρ p.1=1) l gs os (ls.map (·.den ρ))
 |[],ls,he=>by
  simp only[xn,aK]at he;subst he;exact⟨λ_ h=>by simp at h,rfl,[],[],trivial⟩
 |(s,sh)::r,ls,he=>by
  unfold xn at he;split at he
  ·rename_i hs;split at he
   ·rename_i l1 hr;simp only[aK]at he;subst he;obtain⟨g1,g2,gs,os,g3⟩:=Ge h hr;refine⟨λx hx=>?_,by simp[xm]at g2⊢;omega,0::gs,0::os,λx hx=>?_,?_,?_,?_,?_,?_,g3⟩
    ·simp only[kg]at hx;rcases hx with rfl|rfl|rfl|hx
     ·exact U.cr _ _
     ·exact U.cr _ _
     ·exact U.cr _ _
     ·exact g1 x hx
    ·obtain⟨_,y,h2,h3⟩:=h.t.2 s _ hs;rw[h2]at hx;cases hx;have oX:(U.const (-1)).den ρ<0:=by rw[U.aO];decide
     simp only[oX,if_true];exact h3
    ·simp only[U.aO];exact⟨⟨by omega,by omega,by omega,by omega⟩,⟨by omega,by omega⟩,λ_=>rfl,λh=>by omega⟩
    ·simp only[U.aO];exact⟨bO _,oJ (eJ []) (nU (l:=[]) (by simp) (by simp))⟩
    ·intro _;simp only[U.aO];exact eV
    ·simp only[U.aO];intro h;omega
    ·simp only[U.aO];intro h;omega
   ·cases he
  ·rename_i b off hs;split at he
   ·rename_i l1 hr;simp only[aK]at he;subst he;obtain⟨g1,g2,gs,os,g3⟩:=Ge h hr;obtain⟨c,g,⟨hc1,hc2⟩,oq⟩:=Sv (some ⟨m b,off,none⟩);have s5:c=-2:=by
     by_cases hc:c=-1
     ·have:=acO c g;rw[oq,decide_eq_true hc]at this;cases this
     ·omega
    subst s5;refine⟨λx hx=>?_,by simp[xm]at g2⊢;omega,g::gs,0::os,λx hx=>?_,?_,?_,?_,?_,?_,g3⟩
    ·simp only[kg]at hx;rcases hx with rfl|rfl|rfl|hx
     ·exact U.cr _ _
     ·exact U.cr _ _
     ·exact U.cr _ _
     ·exact g1 x hx
    ·obtain⟨_,y,h2,h3⟩:=h.t.2 s _ hs;rw[h2]at hx;cases hx;have oX:(U.const (-2)).den ρ<0:=by rw[U.aO];decide
     simp only[oX,if_true];rw[U.aO,oq];exact h3
    ·simp only[U.aO];exact⟨⟨by omega,by omega,by omega,by omega⟩,⟨by omega,by omega⟩,λ_=>rfl,λh=>by omega⟩
    ·simp only[U.aO];exact⟨bO _,oJ (eJ []) (nU (l:=[]) (by simp) (by simp))⟩
    ·intro _;simp only[U.aO];exact eV
    ·simp only[U.aO];intro h;omega
    ·simp only[U.aO];intro h;omega
   ·cases he
  ·rename_i b aL o ro len cap hs;split at he
   ·rename_i cF off code cO kind t hbl;cases hc:(jc sh cF&&aA kind 1&&U.beq o off&&U.beq ro (.const 0)&&U.beq cap cO&&aA aL sh.length)with
    |false=>rw[hc]at he;cases he
    |true=>
     rw[hc]at he;simp only[cond_true]at he;split at he
     ·rename_i l1 hr;simp only[aK]at he;subst he;simp only[aQ]at hc;obtain⟨⟨⟨⟨⟨c1,c2⟩,c3⟩,c4⟩,c5⟩,c6⟩:=hc;have c1:=pt c1;have c2:=bo c2;have c3:=U.beq_eq c3;have c4:=U.beq_eq c4;have c5:=U.beq_eq c5;have c6:=bo c6
      subst c1;subst c2;subst c3;subst c4;subst c5;subst c6;obtain⟨g1,g2,gs,os,g3⟩:=Ge h hr;obtain⟨bg,y,h2,h3⟩:=h.t.2 s _ hs;have bg:(A.sl b sh.length o (.const 0) len cap).ok n bl.length ρ:=bg;obtain⟨x1,⟨x2,x3,bL,gg⟩,je⟩:=bg;simp only[U.aO]at je;have eS:(A.rows sh o code cap 1).ok n bl.length ρ:=h.b _ (cM hbl) _ (by simp);obtain⟨⟨r1,r2,r3⟩,fN,cw⟩:=eS;have gU:=h.a6.rws b sh o code cap 1 t hbl (by decide);refine⟨λx hx=>?_,by simp[xm]at g2⊢;omega,m b::gs,o.den ρ::os,λx hx=>?_,je,fN,gU.1,λh0=>?_,λh0=>?_,g3⟩
      ·simp only[kg]at hx;rcases hx with rfl|rfl|rfl|hx
       ·exact r2
       ·exact bL
       ·exact gg
       ·exact g1 x hx
      ·have EW:y=x:=fQ (h2.symm.trans hx);subst EW;have h3:y=(A.sl b sh.length o (.const 0) len cap).den ρ m:=h3;rw[h3];simp only[A.den,U.aO];split<;>simp
      ·obtain⟨q0,cells,gq,fz,k1,⟨k2,k3⟩,k4⟩:=gU.2 h0;exact⟨q0,cells,gq,fz,k1,k3⟩
      ·exact⟨b,_,hbl,rfl,iH (by decide) h0⟩
     ·cases he
   ·cases he
  ·cases he
theorem pK.mono {w:ai} {tmps:Array ax} {D F F':Nat->Prop} (hF:∀g,F g->F' g):∀{l:List (Nat×List av)} {gs:List Nat} {os zs:List Int},pK w0 w tmps D F l gs os zs->pK w0 w tmps D F' l gs os zs
 |[],[],[],[],_=>trivial
 |(s,sh)::r,g::gs,o::os,code::len::cap::zs,⟨f1,f2,f3,f4,f5,f6,f7⟩=>⟨f1,f2,f3,f4,f5,λh=>hF g (f6 h),pK.mono hF f7⟩
 |_::_,[],_,_,h=>h.elim
 |_::_,_::_,[],_,h=>h.elim
 |_::_,_::_,_::_,[],h=>h.elim
 |_::_,_::_,_::_,[_],h=>h.elim
 |_::_,_::_,_::_,[_,_],h=>h.elim
 |[],_::_,_,_,h=>h.elim
 |[],[],_::_,_,h=>h.elim
 |[],[],[],_::_,h=>h.elim
theorem MI {lo:Nat} {tm:List V} {bl:List aj}:∀{l:List (Nat×List av×aR)} {used:List Nat} {ls:List U} {u:List Nat},sJ lo l tm bl used=some (ls,u)->∀b∈u,b∈used∨∃sh off code cap t,bl[b]?=some ([.rows sh off code cap 2],t)
 |[],used,ls,u,he=>by
  simp only[sJ,aK,cN]at he;obtain⟨rfl,rfl⟩:=he
  exactλb hb=> .inl hb
 |(s,sh,e)::r,used,ls,u,he=>by
  unfold sJ at he;split at he
  ·split at he
   ·rename_i l1 fO hr;simp only[aK,cN]at he;obtain⟨rfl,rfl⟩:=he;exact MI hr
   ·cases he
  ·rename_i b aL o ro len cap hs;split at he
   ·rename_i cF off code cO kind t hbl;cases hc:(jc sh cF&&aA kind 2&&U.beq o (.const 0)&&U.beq off (.const 0)&&U.beq ro (.const 0)&&U.beq cap cO&&aA t.1 e&&aA aL sh.length&&bp lo b&& !(used.any (aA b)))with
    |false=>rw[hc]at he;cases he
    |true=>
     rw[hc]at he;simp only[cond_true]at he;split at he
     ·rename_i l1 fO hr;simp only[aK,cN]at he;obtain⟨rfl,rfl⟩:=he;simp only[aQ]at hc;obtain⟨⟨⟨⟨⟨⟨⟨⟨⟨c1,c2⟩,c3⟩,c4⟩,c5⟩,c6⟩,kj⟩,mG⟩,qH⟩,ye⟩:=hc;have c2:=bo c2;subst c2;intro b' hb';rcases MI hr b' hb' with h5|h5
      ·rcases List.mem_cons.1 h5 with rfl|h5
       ·exact .inr ⟨_,_,_,_,_,hbl⟩
       ·exact .inl h5
      ·exact .inr h5
     ·cases he
   ·cases he
  ·cases he
theorem PW {i:Nat} {p:aj}:∀{us:List Nat} {bl:List aj},bl[i]?=some p->i∉us->(ll us bl)[i]?=some p
 |[],bl,h,_=>h
 |b::r,bl,h,hi=>by
  unfold ll;split
  ·refine PW ?_ λh=>hi (cx _ h);rw[iN,SE (λe=>hi (by simp[e]))];exact h
  ·exact PW h λh=>hi (cx _ h)
theorem Xs {N:Nat} {bn:Env} {a:Act} {w:ai} {D F:Nat->Prop}:∀{l:List (Nat×List av)} {gs:List Nat} {os zs:List Int} {v u:Nat} {tm:List V} {bl:List aj} {m:Nat->Nat},R w0 N bn m tm bl a w->(∀g,D g->bX w0 bn m bl g)->rq w0 bn m bl w D->pK w0 w a.tmps D F l gs os zs->(∀g,F g->∀(i:Nat) (p:aj),bl[i]?=some p->m i=g->aS bn p.1<=1)->
 (∀j,j<zs.length->bn (v+j)=zs.getD j 0)->(∀j,j<os.length->bn (u+j)=os.getD j 0)->v+zs.length<=N->u+os.length<=N->
 ∃m2,(∀b,b<bl.length->m2 b=m b)/\bl.length<=(headD l v u tm bl).2.length/\R w0 N bn m2 (headD l v u tm bl).1 (headD l v u tm bl).2 a w/\(∀(i:Nat) (p:aj),(headD l v u tm bl).2[i]?=some p->(i<bl.length/\bl[i]?=some p)∨(aS bn p.1≠0->F (m2 i)))/\(∀g,D g->bX w0 bn m2 (headD l v u tm bl).2 g)/\rq w0 bn m2 (headD l v u tm bl).2 w D
 |[],[],[],[],v,u,tm,bl,m,h,uI,hU,_,_,_,_,_,_=>⟨m,λ_ _=>rfl,aV _,h,λi p hp=> .inl ⟨(List.getElem?_eq_some_iff.1 hp).1,hp⟩,uI,hU⟩
 |(s,sh)::r,g::gs,o::os,code::len::cap::zs,v,u,tm,bl,m,h,uI,hU,hf,hF,hv,hu,hN,Oe=>by
  obtain⟨f1,f2,f3,f4,f5,f6,f7⟩:=hf;have v0:=hv 0 (by simp);have v1:=hv 1 (by simp);have v2:=hv 2 (by simp);have u0:=hu 0 (by simp);simp only[vH,G6,kG]at v0 v1 v2 u0;simp only[dj]at hN Oe;have hc:(-2:Int)<=cap/\cap<=0x7fffffffffffffff:=⟨f2.2.1.1,by have:=f2.2.1.2;omega⟩;have hA:(A.rows sh (.var u) (.var v) (.var (v+2)) 1).ok N bl.length bn:=⟨⟨U.er (by omega),U.er (by omega),U.er (by omega)⟩,by rw[U.cj,v0];exact f3,by rw[U.cj,v2];exact hc⟩;have yN:aS bn [A.rows sh (.var u) (.var v) (.var (v+2)) 1]<=1:=by
   simp only[aS];split<;>omega
  have yv:∀g',D g'->bX w0 bn (fc m bl.length g) (bl++[([.rows sh (.var u) (.var v) (.var (v+2)) 1],(0,false))]) g':=λg' ej=>(uI g' ej).push (.inl yN);have jm:gQ w0 bn D g sh (.var u) (.var v) (.var (v+2)) 1 0 w:=by
   intro _;simp only[U.cj,v0,v2,u0];refine⟨f4,λh0=>?_⟩;obtain⟨iG,cells,t,fz,k1,k2⟩:=f5 h0;exact⟨iG,cells,t,fz,k1,⟨f2.1.1,k2⟩,λbE=>by omega⟩
  have Oh:rq w0 bn (fc m bl.length g) (bl++[([.rows sh (.var u) (.var v) (.var (v+2)) 1],(0,false))]) w D:=λi cF dZ code' dX eZ t' hi=>by
   rcases Kz hi with⟨dv,h1⟩|⟨rfl,h1⟩
   ·rw[iO dv];exact hU i cF dZ code' dX eZ t' h1
   ·cases h1;rw[kb];exact jm
  have hM:=h.a6.push (x:=([.rows sh (.var u) (.var v) (.var (v+2)) 1],(0,false))) (g:=g) h.b (λy hy=>by simp at hy;subst hy;exact hA) (λho=>by cases ho) (λcF dZ code' dX eZ he=>by
   cases he;exact jm.mono yv) (λi p hi he=>by
   rcases ic cap 0 with h0|h0
   ·refine .inr (.inr ?_);simp only[aS,U.cj,v2];rw[if_pos h0]
   ·exact .inl ⟨hF g (f6 h0) i p hi he,yN⟩) (λi cF dZ code' dX eZ t' hi=>(hU i cF dZ code' dX eZ t' hi).mono yv)
  have hL:=cJ.alloc N bn m bl ([A.rows sh (.var u) (.var v) (.var (v+2)) 1],(0,false)) g;have hR:R w0 N bn (fc m bl.length g) (oz tm s (.w (.one (.sl bl.length sh.length (.var u) (.const 0) (.var (v+1)) (.var (v+2)))))) (bl++[([.rows sh (.var u) (.var v) (.var (v+2)) 1],(0,false))]) a w:=by
   refine⟨dn.set (h.t.ext hL.ha hL.hn hL.hb hL.hm) ?_ λx hx=>?_,h.d,h.b.alloc (λy hy=>by simp at hy;subst hy;exact hA),hM⟩
   ·refine⟨by simp,⟨U.er (by omega),U.cr _ _,U.er (by omega),U.er (by omega)⟩,?_⟩;simp only[U.aO,U.cj,v1,v2,u0];exact f2
   ·rw[f1 x hx];simp only[V.rel,W.den,A.den,U.aO,U.cj,v1,v2,u0,kb];split<;>simp
  obtain⟨m2,q1,q2,q3,dr,se,mu⟩:=Xs (F:=F) (l:=r) (gs:=gs) (os:=os) (zs:=zs) (v:=v+3) (u:=u+1) hR yv Oh f7 (λg' ej i p hi he=>by
   rw[CN]at hi;split at hi
   ·rename_i dv;rw[iO dv]at he;exact hF g' ej i p hi he
   ·have dv:=(List.getElem?_eq_some_iff.1 hi).1;have:i=bl.length:=by simp at dv;omega
    subst this;simp only[Ly,m7,aK]at hi;subst hi;exact yN) (λj hj=>by
   have:=hv (j+3) (by simp only[dj];omega);rw[show v+3+j=v+(j+3) by omega];simpa using this) (λj hj=>by
   have:=hu (j+1) (by simp only[dj];omega);rw[show u+1+j=u+(j+1) by omega];simpa using this) (by omega) (by omega)
  simp only[c8,dj,fe]at q1 q2;refine⟨m2,λb hb=>by rw[q1 b (by omega)];exact iO hb,by unfold headD;omega,by unfold headD;exact q3,λi p hp=>?_,by unfold headD;exact se,by unfold headD;exact mu⟩;unfold headD at hp;rcases dr i p hp with⟨kA,ox⟩|kA
  ·simp only[c8,dj,fe]at kA;rw[CN]at ox;split at ox
   ·rename_i dv;exact .inl ⟨dv,ox⟩
   ·rename_i dv;have hi:i=bl.length:=by omega
    subst hi;simp only[Ly,m7,aK]at ox;subst ox;refine .inr λh0=>?_;rw[q1 bl.length (by omega),kb];refine f6 ?_;rcases ic cap 0 with h1|h1
    ·refine absurd ?_ h0;simp only[aS,U.cj,v2];rw[if_pos h1]
    ·exact h1
  ·exact .inr kA
 |_::_,[],_,_,_,_,_,_,_,_,_,_,h,_,_,_,_,_=>h.elim
 |_::_,_::_,[],_,_,_,_,_,_,_,_,_,h,_,_,_,_,_=>h.elim
 |_::_,_::_,_::_,[],_,_,_,_,_,_,_,_,h,_,_,_,_,_=>h.elim
 |_::_,_::_,_::_,[_],_,_,_,_,_,_,_,_,h,_,_,_,_,_=>h.elim
 |_::_,_::_,_::_,[_,_],_,_,_,_,_,_,_,_,h,_,_,_,_,_=>h.elim
 |[],_::_,_,_,_,_,_,_,_,_,_,_,h,_,_,_,_,_=>h.elim
 |[],[],_::_,_,_,_,_,_,_,_,_,_,h,_,_,_,_,_=>h.elim
 |[],[],[],_::_,_,_,_,_,_,_,_,_,h,_,_,_,_,_=>h.elim
theorem Xu {D:Nat->Prop} {li:dc} {n:Nat} {bz ae:Env} {m0 m':Nat->Nat} {tm bq kD vx:List V} {bl aG dp mF:List aj} {l1 l2 v1 v2 lb la iJ:List U} {b1 b2 Ao rD:List (Int×Int)} {n':Nat} {a:Act} {w:ai} {NA ND NN:Nat} {gs:List Nat} {os:List Int}
 (hlen:bl.length<=aG.length)
 (ha:agree n bz ae) (hm:∀b,b<bl.length->m' b=m0 b) (ht:∀v∈tm,V.ok n bl.length bz v) (jl:bU n bl.length bz bl)
 (h:R w0 n' ae m' bq aG a w) (e1:hs li.eC li.ints 0 (n+1) tm=some (kD,l1,b1)) (e2:hb li.cells 0 (n+1+l1.length) bl=some (dp,l2,b2))
 (e3:hs li.eC li.ints 0 (n+1) bq=some (vx,v1,Ao)) (e4:hb li.cells 0 (n+1+v1.length) (aG.take bl.length)=some (mF,v2,rD))
 (f1:ld kD vx=true) (f2:k9 dp mF=true) (Xd:Ad a.tmps li.oT (lb.map (·.den ae))) (AX:xN w0 w a.tmps D (λg=>(∀(i:Nat) (p:aj),i<bl.length->aG[i]?=some p->m' i=g->aS ae p.1=0)/\¬∃(i:Nat) (p:aj),aG[i]?=some p/\m' i=g/\aS ae p.1=1) li.nW (la.map (·.den ae)))
 (uI:∀g,D g->bX w0 ae m' aG g) (hU:rq w0 ae m' aG w D)
 (Bh:pK w0 w a.tmps D (λg=>∃(i:Nat) (p:aj),aG[i]?=some p/\m' i=g/\aS ae p.1=1) li.iL gs os (iJ.map (·.den ae)))
 (WN:NA=n+1+l1.length+l2.length+lb.length) (WO:ND=n+1+l1.length+l2.length+(lb++la).length) (WQ:NN=n+1+l1.length+l2.length+(lb++la++iJ).length):
 bd (b1++b2++(H4 li.oT++x4 li.nW++xm li.iL)) ((v1++v2++(lb++la++iJ)).map (·.den ae))/\∃m2,(∀b,b<bl.length->m2 b=m0 b)/\bl.length<=(p6 li.nW NA (headD li.iL ND NN (o5 li.oT (n+1+l1.length+l2.length) kD) dp).1 (headD li.iL ND NN (o5 li.oT (n+1+l1.length+l2.length) kD) dp).2).2.length/\
  R w0 (NN+li.iL.length) (bh (bh bz (n+1) ((v1++v2++(lb++la++iJ)).map (·.den ae))) NN os) m2 (p6 li.nW NA (headD li.iL ND NN (o5 li.oT (n+1+l1.length+l2.length) kD) dp).1 (headD li.iL ND NN (o5 li.oT (n+1+l1.length+l2.length) kD) dp).2).1 (p6 li.nW NA (headD li.iL ND NN (o5 li.oT (n+1+l1.length+l2.length) kD) dp).1 (headD li.iL ND NN (o5 li.oT (n+1+l1.length+l2.length) kD) dp).2).2 a w:=by
 obtain⟨alv,i1,i2,i3,i4,i5,i6⟩:=Xt (D:=D) (ext:=lb++la++iJ) hlen ha hm ht jl h e1 e2 e3 e4 f1 f2 uI hU;obtain⟨akN,aAW⟩:=Bh.len;subst WN;subst WO;subst WQ;have p8:∀j,j<(lb++la++iJ).length->bh bz (n+1) ((v1++v2++(lb++la++iJ)).map (·.den ae)) (n+1+l1.length+l2.length+j)=((lb++la++iJ).map (·.den ae)).getD j 0:=λj hj=>by
  rw[show n+1+l1.length+l2.length+j=n+1+(v1.length+v2.length+j) by omega,Cz _ _ _ _ (by simp at hj⊢;omega)];rw[fl (l₁:=v1++v2),kH,vI (by simp),kH]
  congr 2
  simp
 generalize YC:bh bz (n+1) ((v1++v2++(lb++la++iJ)).map (·.den ae))=bn at*;have p3:agree (n+1+l1.length+l2.length+(lb++la++iJ).length) bn (bh bn (n+1+l1.length+l2.length+(lb++la++iJ).length) os):=agree.bh os _ bn;have alN:=i2.later (Nat.le_add_right _ li.iL.length) p3;have ON:∀j,j<(lb++la++iJ).length->bh bn (n+1+l1.length+l2.length+(lb++la++iJ).length) os (n+1+l1.length+l2.length+j)=((lb++la++iJ).map (·.den ae)).getD j 0:=λj hj=>by
  rw[<-p8 j hj];exact(p3 _ (by omega))
 have XJ:∀(i:Nat) (p:aj),dp[i]?=some p->aS (bh bn (n+1+l1.length+l2.length+(lb++la++iJ).length) os) p.1=aS bn p.1:=λi p hi=>mn (i2.b p (cM hi)) p3;have alO:∀g,D g->bX w0 (bh bn (n+1+l1.length+l2.length+(lb++la++iJ).length) os) m0 dp g:=λg hg=>bX.dQ i2.b p3 (i5 g hg);have alP:rq w0 (bh bn (n+1+l1.length+l2.length+(lb++la++iJ).length) os) m0 dp w D:=λi sh off code cap kind t hi=>(i6 i sh off code cap kind t hi).dQ (i2.b _ (cM hi) _ (by simp)) p3;generalize alM:bh bn (n+1+l1.length+l2.length+(lb++la++iJ).length) os=eM at*;have hB:=Xr (v:=n+1+l1.length+l2.length) alN Xd (λj hj=>by
  simp only[jW]at hj;rw[ON j (by simp;omega),eG,fl,kH,pE (by simpa using hj),kH]) (by simp;omega)
 obtain⟨dE,p1,aJ,bb,b7,dD,eo⟩:=Xs (D:=D) (v:=n+1+l1.length+l2.length+(lb++la).length) (u:=n+1+l1.length+l2.length+(lb++la++iJ).length) hB alO alP Bh (λg hg i p hi he=>by
  obtain⟨g1,p',g2,g3⟩:=i4 i p hi;rw[XJ i p hi,g3];obtain⟨j,q,q1,q2,q3⟩:=hg;rcases h.a6.inj i j p' q g2 q1 (by rw[q2,<-he,hm i g1])with bE|bE|bE|bE
  ·subst bE;rw[g2]at q1;cases q1;omega
  ·exact bE.1
  ·omega
  ·omega) (λj hj=>by
  simp only[jW]at hj;rw[show n+1+l1.length+l2.length+(lb++la).length+j=n+1+l1.length+l2.length+((lb++la).length+j) by omega,ON _ (by simp at hj⊢;omega),fl (l₁:=lb++la),kH,vI (by simp),kH]
  congr 2
  simp) (λj hj=>by rw[<-alM,Cz _ _ _ _ hj]) (by simp only[jW,c8];omega) (by rw[akN];exact aV _)
 obtain⟨m2,q1,q2,q3⟩:=Xq (v:=n+1+l1.length+l2.length+lb.length) bb dD eo AX (λg hg i p hi he=>by
  rcases b7 i p hi with⟨g0,g1⟩|g1
  ·obtain⟨kP,p',g2,g3⟩:=i4 i p g1;rw[XJ i p g1,g3];exact hg.1 i p' kP g2 (by rw[hm i kP,<-p1 i g0];exact he)
  ·by_cases h0:aS eM p.1=0
   ·exact h0
   ·have:=g1 h0;rw[he]at this;exact absurd this hg.2) (λj hj=>by
  simp only[jW]at hj;rw[show n+1+l1.length+l2.length+lb.length+j=n+1+l1.length+l2.length+(lb.length+j) by omega,ON _ (by simp;omega),eG,fl,kH,vI (by simp),fl,pE (by simp;omega),kH]
  congr 2
  simp) (by simp;omega)
 refine⟨?_,m2,λb hb=>by rw[q1 b (by rw[i3]at aJ;omega),p1 b (by rw[i3];exact hb)],by rw[i3]at aJ;omega,q3⟩;rw[fl,fl (l₁:=lb++la),fl (l₁:=lb)];exact r5 i1 (r5 (r5 (YK Xd) (YI AX)) (YL Bh))
theorem MU {a b c:Nat} (h:a=c) (h':b=c):b=a:=h'.trans h.symm
theorem JZ {n:Nat} {ρ:Env} {m:Nat->Nat} {tm:List V} {a:Act} {w:ai}:∀{l:List (Nat×List av)} {bl:List aj} (bq:List V),R w0 n ρ m tm bl a w->R w0 n ρ m tm (zb l bq bl) a w/\(zb l bq bl).length=bl.length
 |[],bl,bq,h=>⟨h,rfl⟩
 |(s,_)::r,bl,bq,h=>by
  unfold zb;split
  ·rename_i x _;obtain⟨h1,h2⟩:=Zy h x;obtain⟨h3,h4⟩:=JZ (l:=r) bq h1;exact⟨h3,by rw[h4,h2]⟩
  ·exact JZ (l:=r) bq h
theorem JT (x:Nat) (r:List Nat):lc (x::r)=2^x*(2*lc r+1):=rfl
theorem ana (x:Nat) (r:List Nat):lc r<=lc (x::r):=by
 rw[JT];have h1:1<=2^x:=Nat.one_le_two_pow;have h2:2*lc r+1<=2^x*(2*lc r+1):=Nat.le_mul_of_pos_left _ h1;omega
theorem Zi:∀(a:Nat) (l:List Nat),lc (l.drop a)<=lc l
 |0,l=>by simp
 |a+1,[]=>by simp
 |a+1,x::r=>by rw[List.drop_succ_cons];exact gx (Zi a r) (ana x r)
theorem Zj:∀(k:Nat) (l:List Nat),lc (l.take k)<=lc l
 |0,l=>by simp[lc]
 |k+1,[]=>by simp
 |k+1,x::r=>by
  rw[List.take_succ_cons,JT,JT];exact Nat.mul_le_mul_left _ (by have:=Zj k r;omega)
theorem QZ (l:List (List Int)) (a k:Nat):rc ((l.drop a).take k)<=rc l:=by
 unfold rc;rw[zS,zT]
 exact_mod_cast gx (Zj k _) (Zi a _)
theorem azj (n:Nat):uh (xz n)=n:=by
 unfold uh xz;by_cases h:n% 2=0
 ·rw[if_pos h,if_pos (by omega)];omega
 ·rw[if_neg h,if_neg (by omega)];omega
theorem ab0:∀(f n:Nat),0<n->n<=f->n=2^nL f n*(2*(n/2^nL f n/2)+1)
 |0,n,h,h'=>by omega
 |f+1,n,h,h'=>by
  unfold nL;by_cases hn:n% 2=0
  ·rw[if_pos hn];have ih:=ab0 f (n/2) (by omega) (by omega);have e:n/2^(nL f (n/2)+1)=n/2/2^nL f (n/2):=by rw[xG,xH,Nat.div_div_eq_div_mul]
   rw[e,xG,xH (2^_) 2,Nat.mul_assoc,<-ih];omega
  ·rw[if_neg hn];simp;omega
theorem P5:∀(f n:Nat),n<=f->lc (vg f n)=n
 |0,n,h=>by
  have:n=0:=by omega
  subst this;rfl
 |f+1,n,h=>by
  unfold vg;by_cases hn:n=0
  ·rw[if_pos hn,hn];rfl
  ·rw[if_neg hn,JT];have hp:0<2^nL n n:=Nat.two_pow_pos _;have hd:n/2^nL n n/2<=f:=by
    have h1:n/2^nL n n<=n:=Nat.div_le_self _ _;omega
   rw[P5 f _ hd];exact(ab0 n n (by omega) (aV _)).symm
theorem QY {z:Int} (h:0<=z):rc (ab z)=z:=by
 unfold rc ab;rw[jf];have e:((λrow:List Int=>lc (row.map uh))∘λn=>(vg n n).map xz)=id:=by
  funext n
  simp only[Lw,jf,id];have:(uh∘xz)=id:=by funext k;exact azj k
  rw[this,G3,P5 n n (aV _)]
 rw[e,G3,P5 _ _ (aV _)];omega
theorem Ca {a:Act} {w:ai}:∀{l:List (Nat×List av)} {n:Nat} {ρ:Env} {m:Nat->Nat} {tm:List V} {bl:List aj} {k:Nat->List V->List aj->T} {G:c9},R w0 n ρ m tm bl a w->(xo l n tm bl k).holds S L G ρ->
 ∃n' ae m' bq aG,cJ n bl.length ρ m n' (jg aG) ae m'/\R w0 n' ae m' bq aG a w/\(k n' bq aG).holds S L G ae
 |[],n,ρ,m,tm,bl,k,G,h,ag=>⟨n,ρ,m,tm,bl,cJ.refl _ _ _ _,h,ag⟩
 |(s,sh)::r,n,ρ,m,tm,bl,k,G,h,ag=>by
  unfold xo at ag;split at ag
  ·rename_i b aL o ro len cap hs;split at ag
   ·rename_i cF off code cO kind t hbl;cases hc:(jc sh cF&&aA kind 1&&U.beq o off&&aA aL sh.length&& !(U.beq ro (.const 0)&&U.beq cap cO))with
    |false=>rw[hc]at ag;exact Ca (l:=r) h ag
    |true=>
     rw[hc]at ag;simp only[cond_true,T.holds]at ag;obtain⟨hk,Eb,ag⟩:=ag;simp only[aQ]at hc;obtain⟨⟨⟨⟨c1,c2⟩,c3⟩,c4⟩,_⟩:=hc;have c1:=pt c1;have c2:=bo c2;have c3:=U.beq_eq c3;have c4:=bo c4
     subst c1;subst c2;subst c3;subst c4;obtain⟨bg,y,h2,h3⟩:=h.t.2 s _ hs;have y1:(A.sl b sh.length o ro len cap).ok n bl.length ρ:=bg;have h3:y=(A.sl b sh.length o ro len cap).den ρ m:=h3;obtain⟨x1,⟨x2,x3,bL,gg⟩,⟨je,oH,lq,nN⟩,⟨oF,oG⟩,fH,gW⟩:=y1;simp only[ch,ec,ah,U.den_add]at hk Eb;have eS:(A.rows sh o code cO 1).ok n bl.length ρ:=h.b _ (cM hbl) _ (by simp);have hf:aB 22 ([code,ro,ro.add len].map (·.den ρ))=rc (((ab (code.den ρ)).drop (ro.den ρ).toNat).take (len.den ρ).toNat):=by
      simp only[ch,ec,aB,U.den_add]
      congr 2;omega
     have dL:rc (((ab (code.den ρ)).drop (ro.den ρ).toNat).take (len.den ρ).toNat)<=bV:=by
      have h1:=QZ (ab (code.den ρ)) (ro.den ρ).toNat (len.den ρ).toNat;rw[QY eS.2.1.1]at h1;exact oJ h1 eS.2.1.2
     obtain⟨z,hz⟩:∃z,z=rc (((ab (code.den ρ)).drop (ro.den ρ).toNat).take (len.den ρ).toNat):=⟨_,rfl⟩;have ag:=ag z (by rw[hz];exact eJ _) (by rw[hz];exact dL) (by rw[hf];exact hz);have ha:agree n ρ (cR ρ n z):=agree.cR _ _ _;have e0:cR ρ n z n=z:=jQ ..;generalize mP:cR ρ n z=ay at ag ha e0;have h1:=h.later (kI n) ha;have d1:o.den ay=o.den ρ:=U.bw ha x2;have d2:ro.den ay=ro.den ρ:=U.bw ha x3;have d3:len.den ay=len.den ρ:=U.bw ha bL;have d4:cap.den ay=cap.den ρ:=U.bw ha gg;have d5:(o.add (ro.smul sh.length)).den ay=o.den ρ+sh.length*ro.den ρ:=by rw[U.den_add,U.kk,d1,d2]
     have mi:0<=(sh.length:Int)*ro.den ρ:=Int.mul_nonneg (by omega) (by omega);have Jo:U.aY (n+1) (o.add (ro.smul sh.length)):=U.sj (U.aY.mono x2 (kI n)) (U.tI (U.aY.mono x3 (kI n)));have hA:(A.rows sh (o.add (ro.smul sh.length)) (.var n) cap 1).ok (n+1) bl.length ay:=⟨⟨Jo,U.er (sy n),U.aY.mono gg (kI n)⟩,by rw[U.cj,e0,hz];exact⟨eJ _,dL⟩,by rw[d4];exact⟨oF,by omega⟩⟩;have yN:aS ay [A.rows sh (o.add (ro.smul sh.length)) (.var n) cap 1]<=1:=by
      simp only[aS];split<;>omega
     have hlen:(((ab (code.den ρ)).drop (ro.den ρ).toNat).take (len.den ρ).toNat).length=(len.den ρ).toNat:=by simp;omega
     have hM:=h1.a6.push (x:=([.rows sh (o.add (ro.smul sh.length)) (.var n) cap 1],(0,false))) (g:=m b) h1.b (λy hy=>by simp at hy;subst hy;exact hA) (λho=>by cases ho) (λK2 Ki ff Ds tp he=>by
      cases he;intro _;rw[U.cj,e0,hz,di,d4,d5];refine⟨λh0=>?_,λh0=>?_⟩
      ·have:=fH h0;rw[this];simp
      ·have nt:=Eb h0;obtain⟨q0,cells,gq,fz,q1,⟨q2,q3⟩,_⟩:=(h1.a6.rws b sh o code cO 1 t hbl (by decide)).2 (by rw[U.bw ha eS.1.2.2];exact nt);rw[d1,U.bw ha eS.1.2.1]at q3;refine⟨q0,cells,gq,fz,q1,⟨by omega,?_⟩,λbE=>by omega⟩;have dr:=q3.sub (ro.den ρ).toNat (len.den ρ).toNat (by omega);have e:(o.den ρ+(sh.length:Int)*ro.den ρ).toNat=(o.den ρ).toNat+(ro.den ρ).toNat*sh.length:=by
        obtain⟨u,hu⟩:=oI (show 0<=ro.den ρ by omega);obtain⟨v,hv⟩:=oI je;rw[hu,hv,ek,ek,xH];show((v:Int)+(sh.length:Int)*(u:Int)).toNat=_;rw[<-ayr,<-ays,ek]
       rw[e];exact dr.mono (Fr.of w λg' ej=>ej.push (.inl yN))) (λi p hi he=>by
      rcases ic (cap.den ay) 0 with h0|h0
      ·refine .inr (.inr ?_);simp only[aS];rw[if_pos h0]
      ·refine .inl ⟨?_,yN⟩;have nt:0<=cO.den ay:=by rw[U.bw ha eS.1.2.2];exact Eb (by rw[<-d4];exact h0)
       have nA:aS ay [A.rows sh o code cO 1]=1:=iH (by decide) nt;rcases h1.a6.inj i b p _ hi hbl he with g|g|g|g
       ·subst g;rw[hbl]at hi;cases hi;exact Nat.le_of_eq nA
       ·exact g.1
       ·omega
       ·simp only at g;omega) (h1.a6.KV yN)
     have hL:cJ n bl.length ρ m (n+1) (bl++[([A.rows sh (o.add (ro.smul sh.length)) (.var n) cap 1],((0:aR),false))]).length ay (fc m bl.length (m b)):=⟨kI n,ha,by simp,λb hb=>iO hb⟩;have hR:R w0 (n+1) ay (fc m bl.length (m b)) (oz tm s (.w (.one (.sl bl.length sh.length (o.add (ro.smul sh.length)) (.const 0) len cap)))) (bl++[([.rows sh (o.add (ro.smul sh.length)) (.var n) cap 1],(0,false))]) a w:=by
      refine⟨dn.set (h.t.ext hL.ha hL.hn hL.hb hL.hm) ?_ λx hx=>?_,h.d,h1.b.alloc (λy hy=>by simp at hy;subst hy;exact hA),hM⟩
      ·refine⟨by simp,⟨Jo,U.cr _ _,U.aY.mono bL (kI n),U.aY.mono gg (kI n)⟩,?_⟩;rw[d5,d3,d4,U.aO];exact⟨⟨by omega,bO _,lq,nN⟩,⟨oF,by omega⟩,fH,gW⟩
      ·have EW:y=x:=fQ (h2.symm.trans hx);subst EW;rw[h3];simp only[V.rel,W.den,A.den,kb];rw[d3,d4,d5,U.aO];split
       ·rfl
       ·have e:(o.den ρ+(sh.length:Int)*ro.den ρ).toNat=(o.den ρ).toNat+(ro.den ρ).toNat*sh.length:=by
         obtain⟨u,hu⟩:=oI (show 0<=ro.den ρ by omega);obtain⟨v,hv⟩:=oI je;rw[hu,hv,ek,ek,xH];show((v:Int)+(sh.length:Int)*(u:Int)).toNat=_;rw[<-ayr,<-ays,ek]
        rw[e];simp
     obtain⟨n',ae,m',bq,aG,g1,g2,g3⟩:=Ca (l:=r) hR ag;exact⟨n',ae,m',bq,aG,hL.trans g1,g2,g3⟩
   ·exact Ca (l:=r) h ag
  ·exact Ca (l:=r) h ag
theorem anY {li:dc} {c:Code} {e:Nat->List V->List aj->nc->T} (hd:rd=none∨kx c=true) (he:Hs rd S L w0 P c e) {Q:Exit->Act->ai->Prop} {n:Nat} {ρ:Env} {m:Nat->Nat} {tm:List V} {bl:List aj} {a:Act} {w:ai} {G:c9} {k:nc}
 (h:R w0 n ρ m tm bl a w) (ag:(Qg li e n tm bl k).holds S L G ρ) (hk:xR S L w0 k n bl.length ρ m G Q):(Code.loop c).wpIn (oQ rd) 0 P Q a w:=by
 unfold Qg at ag;obtain⟨adS,ph,UP,XW,Xa,⟨hz1,hz2⟩,ag⟩:=Rl (S:=S) (L:=L) h G _ ag;have hk:=hk.later (⟨XW,Xa,by rw[hz2];exact aV _,λ_ _=>rfl⟩:cJ n bl.length ρ m ph UP.length adS m) (dI.refl _ G);clear h;have h:=hz1;clear hz1 hz2 XW Xa;revert h hk ag;generalize ph=n;generalize adS=ρ;generalize UP=bl;intro ag hk h;obtain⟨bz,n0,tm,mN,ha0,Pn,ag⟩:=DG (S:=S) (L:=L) h.t G _ ag;have DQ:=h.later mN ha0;have h:R w0 n0 bz m tm bl a w:=⟨Pn,DQ.d,DQ.b,DQ.a6⟩;have hk:=hk.later (⟨mN,ha0,aV _,λ_ _=>rfl⟩:cJ n bl.length ρ m n0 bl.length bz m) (dI.refl _ G);obtain⟨ay,n1,lb,eY,dz,⟨s1,s2,ez⟩,ag⟩:=MV (S:=S) (L:=L) h.t G _ ag;have h1:=h.later eY dz;have hk:=hk.later (⟨eY,dz,aV _,λ_ _=>rfl⟩:cJ n0 bl.length bz m n1 bl.length ay m) (dI.refl _ G);split at ag
 rotate_left
 ·exact ag.elim
 rename_i kD l1 b1 la us iJ e1 VI agK;obtain⟨a1,a2,_,_,a5⟩:=HL h1 VI;obtain⟨k1,k2,k3⟩:=PX (us:=us) h1;obtain⟨r1,r2,gs,os,r3⟩:=Ge h1 agK;cases e2:hb li.cells 0 (n1+1+l1.length) (ll us bl)with
 |none=>rw[e2]at ag;exact ag.elim
 |some q2=>
  obtain⟨dp,l2,b2⟩:=q2;rw[e2]at ag;simp only at ag;cases hf:(ld kD kD&&k9 dp dp)with
  |false=>rw[hf]at ag;exact ag.elim
  |true=>
   rw[hf]at ag;simp only[G7,cond_false,T.holds]at ag;simp only[aQ]at hf;obtain⟨I,fo,N9,hB⟩:=ag;have Js:∀v∈tm,V.ok n1 (ll us bl).length ay v:=λv hv=>by
    obtain⟨i,hi⟩:=List.getElem?_of_mem hv;exact(k1.t.2 i v hi).1
   have Nr:hb li.cells 0 (n1+1+l1.length) ((ll us bl).take (ll us bl).length)=some (dp,l2,b2):=by rw[SF];exact e2
   have ajA:xN w0 w a.tmps (bX w0 ay m bl) (λg=>(∀(i:Nat) (p:aj),i<(ll us bl).length->(ll us bl)[i]?=some p->m i=g->aS ay p.1=0)/\¬∃(i:Nat) (p:aj),(ll us bl)[i]?=some p/\m i=g/\aS ay p.1=1) li.nW (la.map (·.den ay)):=by
    refine a5 _ λb p hb _ hbl gK jF=>?_;have key:∀(i:Nat) (q:aj),(ll us bl)[i]?=some q->m i=m b->aS ay q.1=0:=λi q hi he=>by
     rcases k3 i q hi with⟨g1,g2⟩|g1
     ·by_cases gT:i=b
      ·subst gT;rw[hbl]at g1;cases g1;rcases g2 hb with g2|g2
       ·rw[jF]at g2;cases g2
       ·exact g2
      ·rcases h1.a6.inj i b q p g1 hbl he with g3|g3|g3|g3
       ·exact absurd g3 gT
       ·omega
       ·exact g3
       ·omega
     ·exact g1
    exact⟨λi q _ hi he=>key i q hi he,λ⟨i,q,hi,he,hk⟩=>by have:=key i q hi he;omega⟩
   have Bh:pK w0 w a.tmps (bX w0 ay m bl) (λg=>∃(i:Nat) (p:aj),(ll us bl)[i]?=some p/\m i=g/\aS ay p.1=1) li.iL gs os (iJ.map (·.den ay)):=by
    refine r3.mono λg ⟨i,p,hi,he,hk⟩=>⟨i,p,PW hi λhu=>?_,he,hk⟩;rcases MI VI i hu with bE|⟨sh,off,code,cap,t,bE⟩
    ·simp at bE
    ·rw[hi]at bE;cases bE;simp only[aS]at hk;split at hk<;>omega
   obtain⟨i1,m2,i2,i3,i4⟩:=Xu (aV _) (agree.refl n1 ay) (λ_ _=>rfl) Js k1.b k1 e1 e2 e1 Nr hf.1 hf.2 ez ajA (λg hg=>⟨hg.1,λi p hi hk=>by
    rcases k3 i p hi with⟨g1,_⟩|g1
    ·exact hg.2 i p g1 hk
    ·omega⟩) (λi sh off code cap kind t hi=>by
    rcases k3 i _ hi with⟨g1,_⟩|g1
    ·exact h1.a6.rws i sh off code cap kind t g1
    ·intro fE;refine⟨(k1.a6.rws i sh off code cap kind t hi fE).1,λhc=>?_⟩;simp only[iH fE hc]at g1;exact absurd g1 fE) Bh rfl rfl rfl
   generalize WQ:n1+1+l1.length+l2.length+(lb++la++iJ).length=NN at*;generalize WO:n1+1+l1.length+l2.length+(lb++la).length=ND at*;generalize WN:n1+1+l1.length+l2.length+lb.length=NA at*;generalize aj1:headD li.iL ND NN (o5 li.oT (n1+1+l1.length+l2.length) kD) dp=d at*;refine wpIn_loop_ghost (λN a' w'=>∃zs os m2,bd (b1++b2++(H4 li.oT++x4 li.nW++xm li.iL)) zs/\I zs/\fo zs=N/\(os.length=li.iL.length/\∀z∈os,0<=z)/\(∀b,b<(ll us bl).length->m2 b=m b)/\
    R w0 (NN+li.iL.length) (bh (bh ay (n1+1) zs) NN os) m2 (p6 li.nW NA d.1 d.2).1 (p6 li.nW NA d.1 d.2).2 a' w') (fo ((l1++l2++(lb++la++iJ)).map (·.den ay))) ⟨_,os,m2,i1,N9,rfl,Bh.len,i2,i4⟩ ?_
   rintro N a1 w1 ⟨zs,QC,m2,hz1,hz2,rfl,⟨pa,oo⟩,JB,gn⟩
   have uM:=natsM_holds (kM hB hz1 hz2) pa oo;refine he hd _ _ _ _ _ _ _ a1 w1 _ gn uM λx n' ae m' bq aG da a' w' h1 h2 h3 h4=>?_;have AY:agree n1 ay (bh ay (n1+1) zs):=(agree.bh _ (n1+1) ay).mono (by omega);have ajD:agree n1 ay (bh (bh ay (n1+1) zs) NN QC):=AY.trans (agree.bh QC NN _) (by omega);have Ob:cJ n1 bl.length ay m (NN+li.iL.length) (p6 li.nW NA d.1 d.2).2.length (bh (bh ay (n1+1) zs) NN QC) m2:=⟨by omega,ajD,by rw[k2]at i3;exact i3,λb hb=>JB b (by rw[k2];exact hb)⟩;have wG:dI n1 G (G.set n1 λvs=>I vs/\fo vs<fo zs):=λl hl=>by
    unfold c9.set;cases hb:aA l n1 with
    |true=>have:=bo hb;omega
    |false=>rfl
   have hL:=Ob.trans h1;have N8:da n1=λvs=>I vs/\fo vs<fo zs:=by
    rw[h2 n1 (by omega)];unfold c9.set;have:aA n1 n1=true:=CM n1;rw[this];rfl
   cases x with
   |exit id=>exact hk (.exit id) n' ae m' bq aG da a' w' hL (wG.trans h2 (by omega)) h3 h4
   |ret=>exact hk .ret n' ae m' bq aG da a' w' hL (wG.trans h2 (by omega)) h3 h4
   |normal=>
    simp only at h4;obtain⟨oa,Ex⟩:=JZ (l:=li.iL) bq h3;rw[<-Ex]at hL;obtain⟨n',ae,m',bq,aG,aim,h3,h4⟩:=Ca oa h4;have hL:=hL.trans aim;obtain⟨S3,pg,bq,XS,W6,alg,h4⟩:=DG (S:=S) (L:=L) h3.t da _ h4;have ys:=h3.later XS W6;have h3:R w0 pg S3 m' bq aG a' w':=⟨alg,ys.d,ys.b,ys.a6⟩;have hL:=hL.trans (⟨XS,W6,aV _,λ_ _=>rfl⟩:cJ n' aG.length ae m' pg aG.length S3 m');obtain⟨qz,BT,Zg,dY,cU,⟨t1,t2,t3⟩,h4⟩:=MV (S:=S) (L:=L) h3.t da _ h4;have h3:=h3.later dY cU;split at h4
    rotate_left
    ·exact h4.elim
    rename_i vx v1 Ao P2 jR Zz e3 agJ agL;obtain⟨c1,c2,_,c4,c5⟩:=HL h3 agJ;obtain⟨d1,d2,aAv,FJ,d3⟩:=Ge h3 agL;cases e4:hb li.cells 0 (n1+1+v1.length) (aG.take bl.length)with
    |none=>rw[e4]at h4;exact h4.elim
    |some dr=>
     obtain⟨mF,v2,rD⟩:=dr;rw[e4]at h4;simp only at h4;cases ko:(ld kD vx&&k9 dp mF)with
     |false=>rw[ko]at h4;exact h4.elim
     |true=>
      rw[ko]at h4;simp only[cond_true,T.holds,N8]at h4;simp only[aQ]at ko;have hL2:=hL.trans (⟨dY,cU,aV _,λ_ _=>rfl⟩:cJ pg aG.length S3 m' BT aG.length qz m');have ajB:xN w0 w' a'.tmps (bX w0 qz m' aG) (λg=>(∀(i:Nat) (p:aj),i<(ll us bl).length->aG[i]?=some p->m' i=g->aS qz p.1=0)/\¬∃(i:Nat) (p:aj),aG[i]?=some p/\m' i=g/\aS qz p.1=1) li.nW (P2.map (·.den qz)):=by
       refine c5 _ λb p hb _ hbl gK jF=>⟨λi q dv hi he=>?_,λ⟨i,q,hi,he,hk⟩=>?_⟩
       ·have OA:bl.length<=b:=by
         rcases c4 b hb with h|h
         ·simp at h
         ·exact h
        rw[k2]at dv;rcases h3.a6.inj i b q p hi hbl he with g3|g3|g3|g3
        ·omega
        ·omega
        ·exact g3
        ·omega
       ·rcases h3.a6.inj i b q p hi hbl he with g3|g3|g3|g3
        ·subst g3;rw[hi]at hbl;cases hbl;omega
        ·omega
        ·omega
        ·omega
      obtain⟨cm,m3,eT,j6,ml⟩:=Xu (NA:=NA) (ND:=ND) (NN:=NN) (by rw[k2];exact hL2.hb) hL2.ha (λb hb=>hL2.hm b (by rw[k2]at hb;exact hb)) Js k1.b h3 e1 e2 e3 (by rw[k2];exact e4) ko.1 ko.2 t3 ajB (λg hg=>hg) h3.a6.rws d3 (by have:=t2;have:=MU s2 t2;omega) (by have:=MU s2 t2;simp only[c8]at*;omega) (by have:=MU s2 t2;simp only[c8]at*;omega);rw[aj1]at ml;exact⟨_,h4.2,_,FJ,m3,cm,h4.1,rfl,d3.len,eT,ml⟩
theorem anX {li:dc} {c:Code} {e:Nat->List V->List aj->nc->T} (hd:rd=none∨kx c=true) (he:Hs rd S L w0 P c e) {Q:Exit->Act->ai->Prop} {n:Nat} {ρ:Env} {m:Nat->Nat} {tm:List V} {bl:List aj} {a:Act} {w:ai} {G:c9} {k:nc}
 (h:R w0 n ρ m tm bl a w) (ag:(Qf li e n tm bl k).holds S L G ρ) (hk:xR S L w0 k n bl.length ρ m G Q):(Code.loop c).wpIn (oQ rd) 0 P Q a w:=by
 unfold Qf at ag;obtain⟨h1,h2⟩:=JZ (l:=li.iL) tm h;rw[<-h2]at hk;obtain⟨n',ae,m',bq,aG,hL,h3,ag⟩:=Ca h1 ag;exact anY hd he h3 ag (hk.later hL (dI.refl _ G))
theorem toL {ops:Array Oper}:ops.toList.toArray=ops:=lx
theorem AO (N:Nat):∀(i:Nat) (bl:List aj),(cL N i bl).length=bl.length
 |_,[]=>rfl
 |i,_::r=>by simp[cL,AO N (i+1) r]
theorem rI (N:Nat):∀(i:Nat) (bl:List aj) (k:Nat) (p:aj),(cL N i bl)[k]?=some p->p=dM∨(i+k<N/\(bI p.1||qT p.1)=true/\bl[k]?=some p)
 |_,[],k,p,h=>by simp[cL]at h
 |i,q::r,0,p,h=>by
  simp only[cL,m7,aK]at h;cases hc:(ck i N&&(bI q.1||qT q.1))with
  |false=>rw[hc]at h;exact .inl h.symm
  |true=>
   rw[hc]at h;simp only[cond_true]at h;subst h;simp only[aQ]at hc;exact .inr ⟨by simpa using uv hc.1,hc.2,rfl⟩
 |i,q::r,k+1,p,h=>by
  rcases rI N (i+1) r k p (by simpa [cL]using h)with h1|⟨h1,h2,h3⟩
  ·exact .inl h1
  ·exact .inr ⟨by omega,h2,by simpa using h3⟩
theorem QJ:∀{a b:List aj},preB a b=true->∀(k:Nat) (p:aj),a[k]?=some p->b[k]?=some p
 |[],_,_,_,_,h=>by simp at h
 |(c,t)::r,(c',t')::s,hf,k,p,h=>by
  simp only[preB,aQ]at hf;obtain⟨⟨⟨h1,h2⟩,h3⟩,h4⟩:=hf;cases k with
  |zero=>
   have e1:=Ap h1;have e2:=bo h2;have e3:t.2=t'.2:=by simpa using h3
   have:t=t':=Prod.ext e2 e3;subst e1;subst this;simpa using h
  |succ k=>have:=QJ h4 k p (by simpa using h);simpa using this
 |_::_,[],h,_,_,_=>by simp[preB]at h
theorem amg {c:List A} (h:qT c=true):∃sh off code cap,c=[.rows sh off code cap 1]:=by
 unfold qT at h;split at h
 ·rename_i sh off code cap k;have:=bo h;subst this;exact⟨sh,off,code,cap,rfl⟩
 ·cases h
def KQ (ρ bn:Env) (c:List A):Prop:=∀sh off code cap k,c=[.rows sh off code cap k]->off.den bn=off.den ρ/\code.den bn=code.den ρ/\cap.den bn=cap.den ρ
theorem PY {ρ bn:Env} {c:List A} (h:(bI c||qT c)=true) (hr:KQ ρ bn c):aS bn c=aS ρ c:=by
 rcases pD _ _▸h with h|h
 ·rw[hT h,hT h]
 ·obtain⟨sh,off,code,cap,rfl⟩:=amg h;simp only[aS,(hr sh off code cap 1 rfl).2.2]
theorem Mem.sub {ρ bn:Env} {m m2:Nat->Nat} {bl gC:List aj} {w:ai} (h:Mem w0 ρ m bl w) (hs:∀(i:Nat) (p:aj),gC[i]?=some p->p=dM∨(bl[i]?=some p/\(bI p.1||qT p.1)=true/\m2 i=m i/\p.1.map (A.den bn m2)=p.1.map (A.den ρ m)/\KQ ρ bn p.1)):Mem w0 bn m2 gC w:=by
 have fE:aS bn dM.1=0:=by simp[dM,aS]
 refine⟨h.ext,h.jo,h.jr,h.iF,h.ew,h.gi,λi cs t hi ho=>?_,λi sh off code cap kind t hi=>?_,λi j p q hi hj he=>?_⟩
 ·rcases hs i _ hi with h1|⟨h1,_,h3,h4,_⟩
  ·cases h1;simp[bI]at ho
  ·rw[h3,h4];exact h.blk i cs t h1 ho
 ·rcases hs i _ hi with h1|⟨h1,h2,h3,_,h5⟩
  ·cases h1;intro hk;exact absurd rfl hk
  ·obtain⟨e1,e2,e3⟩:=h5 sh off code cap kind rfl;have:=(h.rws i sh off code cap kind t h1).mono (F':=bX w0 bn m2 gC) (bX.mono λj p hj hk=>by
    rcases hs j p hj with g1|⟨g1,g2,g3,_,g5⟩
    ·subst g1;rw[fE]at hk;omega
    ·exact⟨j,p,g1,by rw[<-PY g2 g5];exact hk,g3.symm⟩)
   unfold gQ at this⊢;rw[e1,e2,e3,h3];exact this
 ·rcases hs i _ hi with h1|⟨h1,h2,h3,_,h5⟩
  ·subst h1;exact .inr (.inr (.inl fE))
  ·rcases hs j _ hj with g1|⟨g1,g2,g3,_,g5⟩
   ·subst g1;exact .inr (.inr (.inr fE))
   ·rw[PY h2 h5,PY g2 g5];exact h.inj i j p q h1 g1 (by rw[<-h3,<-g3];exact he)
theorem bU.cL {n nb:Nat} {ρ:Env} {bl:List aj} (h:bU n nb ρ bl) (N:Nat):bU n nb ρ (Go.aW.cL N 0 bl):=λp hp=>by
 obtain⟨i,hi⟩:=List.mem_iff_getElem?.1 hp;rcases rI N 0 bl i p hi with h1|⟨_,_,h3⟩
 ·subst h1;intro a ha;simp only[dM,List.mem_singleton]at ha;subst ha;exact⟨⟨U.cr _ _,U.cr _ _,U.cr _ _⟩,⟨by simp[U.aO],by rw[U.aO];exact oJ (eJ []) (nU (by simp) (λ_ h=>by cases h))⟩,by simp[U.aO]⟩
 ·exact h p (cM h3)
theorem KR {n nb:Nat} {ρ ae:Env} {c:List A} (bg:∀a∈c,A.ok n nb ρ a) (ha:agree n ρ ae) (back:Bool):cond back (KQ ae ρ c) (KQ ρ ae c):=by
 have key:∀sh off code cap k,c=[.rows sh off code cap k]->off.den ae=off.den ρ/\code.den ae=code.den ρ/\cap.den ae=cap.den ρ:=λsh off code cap k hc=>by
  have:=bg _ (by rw[hc];exact List.mem_singleton.2 rfl);obtain⟨⟨h1,h2,h3⟩,_⟩:=this;exact⟨U.bw ha h1,U.bw ha h2,U.bw ha h3⟩
 cases back with
 |true=>exactλsh off code cap k hc=>by obtain⟨h1,h2,h3⟩:=key sh off code cap k hc;exact⟨h1.symm,h2.symm,h3.symm⟩
 |false=>exact key
theorem Xx {N:Nat} {tm:List V} {bl:List aj} {o:Oper} {a:Act} {w:ai} {v:ax} (ho:Ef N tm bl o=true) (h:Ah P o a w v):(execOp a.eval o).run P w= .ok (.value v) w:=by
 rcases h with h|⟨f,args,h,_⟩
 ·exact h
 ·exfalso;have key:∀s:Sem ax,(do pure (kJ (<-s)):Sem Next).run P w= .ok (.enter f args) w->False:=λs hs=>by
   simp only[gy]at hs;cases hx:s.run P w with
   |ok u w'=>rw[hx]at hs;simp at hs
   |halt x w'=>rw[hx]at hs;simp at hs
  unfold Ef at ho;split at ho
  ·rename_i op t x y u hop;exact key (eqGuard op t x y (a.eval x) (a.eval y) >>= λ_=>binOp op t (a.eval x) (a.eval y)) (by simpa [execOp,hop]using h)
  ·rename_i t x i hop;exact key (Instr.indexAt t (a.eval x) (a.eval i)) (by simpa [execOp,hop]using h)
  ·rename_i t x lo hi fF hop;exact key (nQ t (a.eval x) (lo.map a.eval) (hi.map a.eval) (fF.map a.eval)) (by simpa [execOp,hop]using h)
  ·rename_i t p hop;exact key (nR t (a.eval p)) (by simpa [execOp,hop]using h)
  ·cases ho
theorem OJ {ops:Array Oper} {N:Nat} {tm:List V} {bl:List aj} {o:Oper} {a:Act} {w:ai} {v:ax} (ho:yE N tm bl o=true) (h:Ah P o a w v):(execOp a.eval o).run P w= .ok (.value v) w:=by
 rcases h with h|⟨f,args,h,_⟩
 ·exact h
 ·exfalso;have key:∀s:Sem ax,(do pure (kJ (<-s)):Sem Next).run P w= .ok (.enter f args) w->False:=λs hs=>by
   simp only[gy]at hs;cases hx:s.run P w with
   |ok u w'=>rw[hx]at hs;simp at hs
   |halt x w'=>rw[hx]at hs;simp at hs
  unfold yE at ho;split at ho
  ·rename_i x hop;simp[execOp,hop]at h
  ·rename_i x hop;simp[execOp,hop]at h
  ·rename_i x i hop;exact key (SG (a.eval x) i) (by simpa [execOp,hop]using h)
  ·rename_i s x i hop;exact key (CP s (a.eval x) i) (by simpa [execOp,hop]using h)
  ·rename_i t p hop;exact key (nR t (a.eval p)) (by simpa [execOp,hop]using h)
  ·rename_i t x lo hi fF hop;exact key (nQ t (a.eval x) (lo.map a.eval) (hi.map a.eval) (fF.map a.eval)) (by simpa [execOp,hop]using h)
  ·cases ho
section
variable {P:bk} {ops:Array Oper} {Q:Exit->Act->ai->Prop} {S0:ai->Prop}
def qq (P:bk) (ops:Array Oper) (Q:Exit->Act->ai->Prop) (S0:ai->Prop):Nat->Array Bool->Act->ai->Prop
 |0,listed,a,w=>kX .any ops listed=[]/\Q .normal a w
 |fuel+1,listed,a,w=>(kX .any ops listed=[]->Q .normal a w)/\
  ∀i∈kX .any ops listed,wpOp P ops Q i (λa' w'=>(ky ops (listed.setIfInBounds i true)=true->S0 w')/\qq P ops Q S0 fuel (listed.setIfInBounds i true) a' w') a w
theorem acj:∀(fuel:Nat) (listed:Array Bool) (a:Act) (w:ai),qq P ops Q S0 fuel listed a w->wpAny P .any ops Q fuel listed a w
 |0,_,_,_,h=>h
 |fuel+1,_,_,_,h=>⟨h.1,λi hi=>wpOp_mono (λa' w' h'=>acj fuel _ a' w' h'.2) (h.2 i hi)⟩
theorem Kg {L:Array Bool} {j:Nat} (hj:∀o,ops[j]?=some o->nF o=false):ky ops (L.setIfInBounds j true)=ky ops L:=by
 have hs:K8 ops j=false:=by
  unfold K8;cases ho:ops[j]? with
  |none=>rfl
  |some o=>exact hj o ho
 unfold ky;rw[Bool.eq_iff_iff,pC,pC];refine forall_congr' λk=>imp_congr_right λ_=>?_;by_cases hk:j=k
 ·subst hk;rw[hs];simp
 ·rw[getD_set_ne true hk]
theorem Kf {L:Array Bool} {j:Nat} (h:ky ops (L.setIfInBounds j true)=true):ky ops L=true:=by
 unfold ky at h⊢;rw[pC]at h⊢;intro k hk;have:=h k hk;by_cases hjk:j=k
 ·subst hjk;cases hb:K8 ops j with
  |false=>rfl
  |true=>
   rw[hb]at this;rcases m6 j L.size with h'|h'
   ·simp[h']at this
   ·simp[vG h']at this
 ·rw[getD_set_ne true hjk]at this;exact this
theorem axY {i:Nat} {oi:Oper} {v:ax} (hi:ops[i]?=some oi) (wR:∀(j:Nat) (o:Oper) cs b,ops[j]?=some o->o.op≠ .select cs b)
 (hQ:∀c a w,Q (.panic c) (a.put oi.dst v) w->Q (.panic c) a w) (hst:nF oi=false) (hw:∀(k:Nat) (o:Oper),ops[k]?=some o->nF o=true->∃e∈o.after,ri .any e=true/\e.on=i):
 ∀(fuel:Nat) (listed:Array Bool) (a:Act) (w:ai),
  (∀j oj,ops[j]?=some oj->j≠i->listed.getD j true=false->(∀e∈oj.after,ri .any e=true->e.on≠i)->oi.apart ops oj=true)->
  i∈kX .any ops listed->ky ops listed=true->YieldsIf P ops S0 oi v a->S0 w->
  qq P ops Q S0 fuel (listed.setIfInBounds i true) (a.put oi.dst v) w->qq P ops Q S0 (fuel+1) listed a w:=by
 intro fuel;induction fuel with
 |zero=>
  intro listed a w _ hr _ hy hS H;refine⟨λh=>(by rw[h]at hr;cases hr),λj hj=>?_⟩;by_cases ef:j=i
  ·subst ef;exact hy.wpOp hi hS ⟨λ_=>hS,H⟩
  ·have:=G8 hj ef;rw[H.1]at this;cases this
 |succ fuel ih=>
  intro listed a w s8 hr hn hy hS H;refine⟨λh=>(by rw[h]at hr;cases hr),λj hj=>?_⟩;by_cases ef:j=i
  ·subst ef;exact hy.wpOp hi hS ⟨λ_=>hS,H⟩
  ·have h1:=H.2 j (G8 hj ef);obtain⟨td,oj,jn,hall⟩:=mem_ready.1 hj;have Bc:∀e∈oj.after,ri .any e=true->e.on≠i:=λe he hb heq=>by
    have h1:=hall e he hb;have h0:=(mem_ready.1 hr).1;rw[heq]at h1;rcases m6 i listed.size with h'|h'
    ·simp[h']at h0 h1;rw[h0]at h1;cases h1
    ·simp[vG h']at h1
   have yJ:∀o,ops[j]?=some o->nF o=false:=λo ho=>by
    cases hc:nF o with
    |false=>rfl
    |true=>
     obtain⟨e,he,hb,Be⟩:=hw j o ho hc;rw[jn]at ho;cases ho;exact absurd Be (Bc e he hb)
   have akF:ky ops (listed.setIfInBounds j true)=true:=by rw[Kg yJ];exact hn
   have Ey:ky ops ((listed.setIfInBounds i true).setIfInBounds j true)=true:=by
    rw[Kg yJ,Kg (λo ho=>by rw[hi]at ho;cases ho;exact hst)];exact hn
   have h2:=wpOp_putIf jn (s8 j oj jn ef td Bc) (λcs b=>wR i oi cs b hi) (λcs b=>wR j oj cs b jn) hQ hy h1;have OL:∀k ok,ops[k]?=some ok->k≠i->(listed.setIfInBounds j true).getD k true=false->
    (∀e∈ok.after,ri .any e=true->e.on≠i)->oi.apart ops ok=true:=λk ok hk yL ks hno=>by
    refine s8 k ok hk yL ?_ hno;by_cases hjk:j=k
    ·subst hjk;exact td
    ·rw[getD_set_ne true hjk]at ks;exact ks
   refine wpOp_mono (λa' w' h3=>⟨λ_=>h3.2.1 Ey,ih (listed.setIfInBounds j true) a' w' OL (G8 hr (Ne.symm ef)) akF h3.1 (h3.2.1 Ey) ?_⟩) h2;rw[ac5 _ _ ef];exact h3.2.2
theorem axZ {i:Nat} {oi:Oper} {v:ax} (hi:ops[i]?=some oi) (wR:∀(j:Nat) (o:Oper) cs b,ops[j]?=some o->o.op≠ .select cs b)
 (hQ:∀c a w,Q (.panic c) (a.put oi.dst v) w->Q (.panic c) a w) (hst:nF oi=false):
 ∀(fuel:Nat) (listed:Array Bool) (a:Act) (w:ai),
  (∀j oj,ops[j]?=some oj->j≠i->listed.getD j true=false->(∀e∈oj.after,ri .any e=true->e.on≠i)->oi.apart ops oj=true)->
  i∈kX .any ops listed->YieldsIf P ops (λ_=>True) oi v a->(ky ops listed=true->S0 w)->
  qq P ops Q S0 fuel (listed.setIfInBounds i true) (a.put oi.dst v) w->qq P ops Q S0 (fuel+1) listed a w:=by
 intro fuel;induction fuel with
 |zero=>
  intro listed a w _ hr hy hS H;refine⟨λh=>(by rw[h]at hr;cases hr),λj hj=>?_⟩;by_cases ef:j=i
  ·subst ef;exact hy.wpOp hi trivial ⟨λhn=>hS (Kf hn),H⟩
  ·have:=G8 hj ef;rw[H.1]at this;cases this
 |succ fuel ih=>
  intro listed a w s8 hr hy hS H;refine⟨λh=>(by rw[h]at hr;cases hr),λj hj=>?_⟩;by_cases ef:j=i
  ·subst ef;exact hy.wpOp hi trivial ⟨λhn=>hS (Kf hn),H⟩
  ·have h1:=H.2 j (G8 hj ef);obtain⟨td,oj,jn,hall⟩:=mem_ready.1 hj;have Bc:∀e∈oj.after,ri .any e=true->e.on≠i:=λe he hb heq=>by
    have h1:=hall e he hb;have h0:=(mem_ready.1 hr).1;rw[heq]at h1;rcases m6 i listed.size with h'|h'
    ·simp[h']at h0 h1;rw[h0]at h1;cases h1
    ·simp[vG h']at h1
   have Ey:ky ops (listed.setIfInBounds j true)=true->ky ops ((listed.setIfInBounds i true).setIfInBounds j true)=true:=λhn=>by
    rw[<-ac5 _ _ ef,Kg (λo ho=>by rw[hi]at ho;cases ho;exact hst)];exact hn
   have h2:=wpOp_putIf jn (s8 j oj jn ef td Bc) (λcs b=>wR i oi cs b hi) (λcs b=>wR j oj cs b jn) hQ hy h1;have OL:∀k ok,ops[k]?=some ok->k≠i->(listed.setIfInBounds j true).getD k true=false->
    (∀e∈ok.after,ri .any e=true->e.on≠i)->oi.apart ops ok=true:=λk ok hk yL ks hno=>by
    refine s8 k ok hk yL ?_ hno;by_cases hjk:j=k
    ·subst hjk;exact td
    ·rw[getD_set_ne true hjk]at ks;exact ks
   refine wpOp_mono (λa' w' h3=>⟨λhn=>h3.2.1 (Ey hn),ih (listed.setIfInBounds j true) a' w' OL (G8 hr (Ne.symm ef)) h3.1 (λhn=>h3.2.1 (Ey hn)) ?_⟩) h2;rw[ac5 _ _ ef];exact h3.2.2
theorem acg {i:Nat} {oi:Oper} {v:ax} {fuel:Nat} {listed:Array Bool} {a:Act} {w:ai} (hi:ops[i]?=some oi)
 (hs:zU ops=true) (hf:Region.free .any ops listed i=true) (hr:(kX .any ops listed).contains i=true) (hst:nF oi=false) (hw:Se ops i=true) (hn:ky ops listed=true)
 (hQ:∀c a w,Q (.panic c) (a.put oi.dst v) w->Q (.panic c) a w) (hy:YieldsIf P ops S0 oi v a) (hS:S0 w)
 (h:qq P ops Q S0 fuel (listed.setIfInBounds i true) (a.put oi.dst v) w):qq P ops Q S0 (fuel+1) listed a w:=
 axY hi (ac6 hs) hQ hst (λk o hk Jo=>by
  have hm:o∈ops.toList:=by
   rw[<-CQ]at hk;exact cM hk
  have h1:=List.all_eq_true.1 hw o hm;rw[Jo]at h1;have h1:(o.after.toList.any λe=>ri .any e&&aA e.on i)=true:=h1;obtain⟨e,he,h2⟩:=List.any_eq_true.1 h1;simp only[aQ]at h2;exact⟨e,Array.mem_toList_iff.1 he,h2.1,bo h2.2⟩) fuel listed a w (ayu hi hf) (by simpa using hr) hn hy hS h
end
theorem ae3 {ops:Array Oper} {Q:Exit->Act->ai->Prop} {inl:ij} (cp:fp S P gl w0 cal) (hg:eN gl w0) (iD:lA S L w0 P inl) (hQ:∀c a w,¬Q (.panic c) a w)
 {N n0:Nat} {ei:List aj} {bz:Env} {m0:Nat->Nat} (hN:N<=ei.length) (jl:bU n0 ei.length bz ei):∀(f:Nat) {listed:Array Bool} {n:Nat} {ρ:Env} {m:Nat->Nat} {tm:List V} {bl:List aj} {a:Act} {w:ai} {G:c9} {k:fC},
 R w0 n ρ m tm bl a w->cJ n0 ei.length bz m0 n bl.length ρ m->(∀(k:Nat) (p:aj),(cL N 0 ei)[k]?=some p->(cL N 0 bl)[k]?=some p)->(um P gl cal inl ops N (cL N 0 ei) f listed n tm bl k).holds S L G ρ->j0 S L w0 k n bl.length ρ m G (Q .normal)->wpAnyH P .any ops Q (λw=>Mem w0 bz m0 (cL N 0 ei) w) f listed a w:=by
 have down:∀{n:Nat} {ρ:Env} {m:Nat->Nat} {bl:List aj} {w:ai},cJ n0 ei.length bz m0 n bl.length ρ m->(∀(k:Nat) (p:aj),(cL N 0 ei)[k]?=some p->(cL N 0 bl)[k]?=some p)->Mem w0 ρ m bl w->Mem w0 bz m0 (cL N 0 ei) w:=λhl hp hm=>by
  refine hm.sub λi p hi=>?_;rcases rI N 0 ei i p hi with h1|⟨h1,h2,h3⟩
  ·exact .inl h1
  ·refine .inr ?_;rcases rI N 0 _ i p (hp i p hi)with g1|⟨_,_,g3⟩
   ·subst g1;simp[dM,bI,qT]at h2
   ·exact⟨g3,h2,(hl.hm i (by omega)).symm,(qf (jl p (cM h3)) hl.ha hl.hm).symm,KR (jl p (cM h3)) hl.ha true⟩
 have up:∀{n:Nat} {ρ:Env} {m:Nat->Nat} {bl:List aj} {w:ai},cJ n0 ei.length bz m0 n bl.length ρ m->(∀(k:Nat) (p:aj),(cL N 0 ei)[k]?=some p->(cL N 0 bl)[k]?=some p)->Mem w0 bz m0 (cL N 0 ei) w->Mem w0 ρ m (cL N 0 bl) w:=λ{n ρ m bl w} hl hp hm=>by
  refine hm.sub λi p hi=>?_;rcases rI N 0 bl i p hi with h1|⟨h1,h2,h3⟩
  ·exact .inl h1
  ·refine .inr ?_;have hlt:i<(cL N 0 ei).length:=by rw[AO];omega
   have hq:=hp i _ (gF hlt);rw[hi]at hq;have hq:p=(cL N 0 ei)[i]:=fQ hq;have h0:(cL N 0 ei)[i]?=some p:=by rw[gF hlt,hq]
   rcases rI N 0 ei i p h0 with g1|⟨_,_,g3⟩
   ·subst g1;simp[dM,bI,qT]at h2
   ·exact⟨h0,h2,hl.hm i (by omega),qf (jl p (cM g3)) hl.ha hl.hm,KR (jl p (cM g3)) hl.ha false⟩
 intro f;induction f with
 |zero=>
  intro listed n ρ m tm bl a w G k h hl hp ag hk;unfold um at ag;unfold wpAnyH;split at ag
  ·rename_i hr;exact⟨hr,hk n ρ m tm bl G a w (cJ.refl _ _ _ _) (dI.refl _ _) h ag⟩
  ·exact ag.elim
 |succ f ih=>
  intro listed n ρ m tm bl a w G k h hl hp ag hk;unfold um at ag;split at ag
  ·rename_i hr;exact⟨λ_=>hk n ρ m tm bl G a w (cJ.refl _ _ _ _) (dI.refl _ _) h ag,λi hi=>by rw[hr]at hi;cases hi⟩
  ·rename_i l hl0;split at ag
   ·rename_i i hi;unfold Xv at hi;cases lh:zU ops with
    |false=>rw[lh]at hi;cases hi
    |true=>
    rw[lh,cond_true]at hi;have cH:=G9 hi;have p9:=zV hi;simp only[aQ]at cH;cases ho:ops[i]? with
    |none=>simp only[ho]at ag;exact ag.elim
    |some o=>
     simp only[ho]at ag;have im:yE N tm bl o=true∨Ef N tm bl o=true:=by
      have:=cH.1;simp only[ho,pD,aQ]at this;exact this.imp id And.right
     obtain⟨bq,hP,hgd⟩:=wA h.t ag;have h:R w0 n ρ m bq bl a w:=⟨hP,h.d,h.b,h.a6⟩;have hS:=down hl hp h.a6;rcases hgd with⟨hw,ag⟩|⟨hw,ag⟩
     ·have hlen:(cL N 0 bl).length=bl.length:=AO N 0 bl;obtain⟨ae,n',v,mg,fs,⟨hv,val,hr,hq⟩,s9⟩:=Gc (L:=L) (bl:=cL N 0 bl) cp (by rw[hlen];exact h.b.cL N) hg ⟨w,up hl hp hS⟩ (by rw[hlen];exact hP) o G _ ag;rw[hlen]at hv;have hy:YieldsIf P ops (λw=>Mem w0 bz m0 (cL N 0 ei) w) o val a:= .inl ⟨hw,λw' nC=>im.elim (λhf=>OJ (ops:=ops) hf (hq w' (up hl hp nC))) (λhf=>Xx hf (hq w' (up hl hp nC)))⟩;refine wpAnyH_take ho lh cH.2 (by simpa using p9) (λc a w hp=>absurd hp (hQ _ _ _)) hy hS ?_;have hlt:cJ n bl.length ρ m n' bl.length ae m:=⟨mg,fs,aV _,λ_ _=>rfl⟩;exact ih ⟨dn.put (hP.ext fs mg (aV _) (λ_ _=>rfl)) o.dst hv hr,by rw[put_defers];exact h.d,h.b.ext fs mg (aV _),h.a6.dQ h.b fs⟩ (hl.trans hlt) hp s9 (hk.later hlt (dI.refl _ _))
     ·refine wpAnyH_take ho lh cH.2 (by simpa using p9) (λc a w hp=>absurd hp (hQ _ _ _)) (.inr ⟨hw,rfl⟩) hS ?_;exact ih (h.skip o.dst) hl hp ag hk
   split at ag
   ·rename_i i hi;unfold Z3 at hi;cases lh:zU ops with
    |false=>rw[lh]at hi;cases hi
    |true=>
    rw[lh,cond_true]at hi;have cH:=G9 hi;have p9:=zV hi;simp only[aQ]at cH;cases ho:ops[i]? with
    |none=>simp only[ho]at ag;exact ag.elim
    |some o=>
     simp only[ho]at ag;obtain⟨bq,hP,hgd⟩:=wA h.t ag;have h:R w0 n ρ m bq bl a w:=⟨hP,h.d,h.b,h.a6⟩;have hS:=down hl hp h.a6;rcases hgd with⟨_,ag⟩|⟨hw,ag⟩
     ·exact ag.elim
     ·refine wpAnyH_take ho lh cH.2 (by simpa using p9) (λc a w hp=>absurd hp (hQ _ _ _)) (.inr ⟨hw,rfl⟩) hS ?_;exact ih (h.skip o.dst) hl hp ag hk
   unfold wpAnyH;refine⟨λhr=>absurd hr hl0,λi hi=>?_⟩;have cH:=allT_holds ag i hi;unfold wpOp;cases ho:ops[i]? with
   |none=>simp only[ho]at cH;exact cH.elim
   |some o=>
    simp only[ho]at cH⊢;obtain⟨bq,hP,hgd⟩:=wA h.t cH;have h:R w0 n ρ m bq bl a w:=⟨hP,h.d,h.b,h.a6⟩;rcases hgd with⟨hw,tc⟩|⟨hw,tc⟩
    ·rw[if_pos hw];refine .inl (RR cp hg iD h tc λn' ae m' bq aG da a' w' h1 h2 h3 h4=>?_);cases hf:preB (cL N 0 ei) (cL N 0 aG)with
     |false=>rw[hf]at h4;exact h4.elim
     |true=>
      rw[hf,cond_true]at h4;have te:=hl.trans h1;have hf:=QJ hf;exact⟨down te hf h3.a6,ih h3 te hf h4 (hk.later h1 h2)⟩
    ·rw[if_neg (by simp[hw])];exact⟨down hl hp h.a6,ih (h.skip o.dst) hl hp tc hk⟩
theorem ahb {P:bk} {s:aR} {x v:ax} {f:Nat} {w w1:ai} {dK:Array Field} {fd:Field} {k:Nat} (hu:P.underlying s=some (.struct dK)) (hf:dK[f]?=some fd) (hk:eA P fd.type=some k) (h0:0<k) (h:(CP s x f).run P w= .ok v w1) (w':ai):(CP s x f).run P w'= .ok v w':=by
 have h0:¬k=0:=by omega
 unfold CP at*;simp only[gy,eK hu,gG,hf]at h⊢;cases x with
 |pointer a=>
  cases a with
  |some a=>
   simp only[kK,gy,ie,gG,fieldPlace,gM hk,if_neg h0,ac7]at h⊢;exact⟨h.1,trivial⟩
  |none=>simp[kK]at h
 |_=>simp[kK]at h
theorem asi {P:bk} {o:Oper} {a:Act} {w:ai} {v:ax} (hp:B4 P o=true) (h:(execOp a.eval o).run P w= .ok (.value v) w) (w':ai):(execOp a.eval o).run P w'= .ok (.value v) w':=by
 unfold B4 at hp;split at hp
 ·rename_i x hop;simp[execOp,hop]at h⊢;exact h
 ·rename_i x hop;simp[execOp,hop]at h⊢;exact h
 ·rename_i x i hop;simp only[execOp,hop,SG]at h⊢;cases hx:a.eval x with
  |tuple vs=>
   simp only[hx]at h⊢;cases hv:vs[i]? with
   |none=>simp[hv]at h
   |some u=>simp[hv]at h⊢;exact h
  |_=>simp[hx]at h
 ·rename_i s x i hop;split at hp
  ·rename_i dK hu;split at hp
   ·rename_i fd hf;split at hp
    ·rename_i k hk;have h0:=et hp;have fE:0<k:=h0;simp only[execOp,hop,gy]at h⊢;cases hx:(CP s (a.eval x) i).run P w with
     |ok u w1=>
      rw[hx]at h;rw[ahb hu hf hk fE hx w'];simp at h⊢;exact h.1
     |halt x w1=>rw[hx]at h;simp at h
    ·cases hp
   ·cases hp
  ·cases hp
 ·cases hp
theorem ash {P:bk} {N:Nat} {tm:List V} {bl:List aj} {o:Oper} (h:B4 P o=true):yE N tm bl o=true/\nF o=false:=by
 unfold B4 at h;unfold yE nF;cases hop:o.op<;>rw[hop]at h<;>first|exact⟨rfl,rfl⟩|(simp at h)
theorem ae4 {ops:Array Oper} {Q:Exit->Act->ai->Prop} {inl:ij} (cp:fp S P gl w0 cal) (hg:eN gl w0) (iD:lA S L w0 P inl) (hQ:∀c a w,¬Q (.panic c) a w)
 {N n0:Nat} {ei:List aj} {bz:Env} {m0:Nat->Nat} (hN:N<=ei.length) (jl:bU n0 ei.length bz ei):∀(f:Nat) {listed:Array Bool} {n:Nat} {ρ:Env} {m:Nat->Nat} {tm:List V} {bl:List aj} {a:Act} {w:ai} {G:c9} {k:fC},
 R w0 n ρ m tm bl a w->cJ n0 ei.length bz m0 n bl.length ρ m->(ky ops listed=true->∀(k:Nat) (p:aj),(cL N 0 ei)[k]?=some p->(cL N 0 bl)[k]?=some p)->(wa P gl cal inl ops N (cL N 0 ei) f listed n tm bl k).holds S L G ρ->j0 S L w0 k n bl.length ρ m G (Q .normal)->qq P ops Q (λw=>Mem w0 bz m0 (cL N 0 ei) w) f listed a w:=by
 have down:∀{n:Nat} {ρ:Env} {m:Nat->Nat} {bl:List aj} {w:ai},cJ n0 ei.length bz m0 n bl.length ρ m->(∀(k:Nat) (p:aj),(cL N 0 ei)[k]?=some p->(cL N 0 bl)[k]?=some p)->Mem w0 ρ m bl w->Mem w0 bz m0 (cL N 0 ei) w:=λhl hp hm=>by
  refine hm.sub λi p hi=>?_;rcases rI N 0 ei i p hi with h1|⟨h1,h2,h3⟩
  ·exact .inl h1
  ·refine .inr ?_;rcases rI N 0 _ i p (hp i p hi)with g1|⟨_,_,g3⟩
   ·subst g1;simp[dM,bI,qT]at h2
   ·exact⟨g3,h2,(hl.hm i (by omega)).symm,(qf (jl p (cM h3)) hl.ha hl.hm).symm,KR (jl p (cM h3)) hl.ha true⟩
 have up:∀{n:Nat} {ρ:Env} {m:Nat->Nat} {bl:List aj} {w:ai},cJ n0 ei.length bz m0 n bl.length ρ m->(∀(k:Nat) (p:aj),(cL N 0 ei)[k]?=some p->(cL N 0 bl)[k]?=some p)->Mem w0 bz m0 (cL N 0 ei) w->Mem w0 ρ m (cL N 0 bl) w:=λ{n ρ m bl w} hl hp hm=>by
  refine hm.sub λi p hi=>?_;rcases rI N 0 bl i p hi with h1|⟨h1,h2,h3⟩
  ·exact .inl h1
  ·refine .inr ?_;have hlt:i<(cL N 0 ei).length:=by rw[AO];omega
   have hq:=hp i _ (gF hlt);rw[hi]at hq;have hq:p=(cL N 0 ei)[i]:=fQ hq;have h0:(cL N 0 ei)[i]?=some p:=by rw[gF hlt,hq]
   rcases rI N 0 ei i p h0 with g1|⟨_,_,g3⟩
   ·subst g1;simp[dM,bI,qT]at h2
   ·exact⟨h0,h2,hl.hm i (by omega),qf (jl p (cM g3)) hl.ha hl.hm,KR (jl p (cM g3)) hl.ha false⟩
 intro f;induction f with
 |zero=>
  intro listed n ρ m tm bl a w G k h hl hp ag hk;unfold wa at ag;unfold qq;split at ag
  ·rename_i hr;exact⟨hr,hk n ρ m tm bl G a w (cJ.refl _ _ _ _) (dI.refl _ _) h ag⟩
  ·exact ag.elim
 |succ f ih=>
  intro listed n ρ m tm bl a w G k h hl hp ag hk;unfold wa at ag;split at ag
  ·rename_i hr;exact⟨λ_=>hk n ρ m tm bl G a w (cJ.refl _ _ _ _) (dI.refl _ _) h ag,λi hi=>by rw[hr]at hi;cases hi⟩
  ·rename_i l hl0;split at ag
   ·rename_i i hi;unfold Xw at hi;cases lh:zU ops with
    |false=>rw[lh]at hi;cases hi
    |true=>
    rw[lh,cond_true]at hi;have cH:=G9 hi;have p9:=zV hi;simp only[aQ]at cH;cases ho:ops[i]? with
    |none=>simp only[ho]at ag;exact ag.elim
    |some o=>
     simp only[ho]at ag;have tc:=cH.1;simp only[ho,pD,aQ,iP]at tc;cases Pe:B4 P o with
     |true=>
      obtain⟨im,Jr⟩:=ash (N:=N) (tm:=tm) (bl:=bl) Pe;obtain⟨bq,hP,hgd⟩:=wA h.t ag;have h:R w0 n ρ m bq bl a w:=⟨hP,h.d,h.b,h.a6⟩;have aiw:ky ops listed=true->Mem w0 bz m0 (cL N 0 ei) w:=λhn=>down hl (hp hn) h.a6;have nz:ky ops (listed.setIfInBounds i true)=true->∀(k:Nat) (p:aj),(cL N 0 ei)[k]?=some p->(cL N 0 bl)[k]?=some p:=λhn=>hp (Kf hn);have take:∀{v:ax},YieldsIf P ops (λ_=>True) o v a->qq P ops Q (λw=>Mem w0 bz m0 (cL N 0 ei) w) f (listed.setIfInBounds i true) (a.put o.dst v) w->qq P ops Q (λw=>Mem w0 bz m0 (cL N 0 ei) w) (f+1) listed a w:=λhy H=>
       axZ ho (ac6 lh) (λc a w hp=>absurd hp (hQ _ _ _)) Jr f listed a w (ayu ho cH.2) (by simpa using p9) hy aiw H
      rcases hgd with⟨hw,ag⟩|⟨hw,ag⟩
      ·have hlen:(cL N 0 bl).length=bl.length:=AO N 0 bl;have WM:Mem w0 ρ m (cL N 0 bl) w:=h.a6.sub λi p hi=>by
        rcases rI N 0 bl i p hi with h1|⟨_,h2,h3⟩
        ·exact .inl h1
        ·exact .inr ⟨h3,h2,rfl,rfl,λ_ _ _ _ _ _=>⟨rfl,rfl,rfl⟩⟩
       obtain⟨ae,n',v,mg,fs,⟨hv,val,hr,hq⟩,s9⟩:=Gc (L:=L) (bl:=cL N 0 bl) cp (by rw[hlen];exact h.b.cL N) hg ⟨w,WM⟩ (by rw[hlen];exact hP) o G _ ag;rw[hlen]at hv;have hy:YieldsIf P ops (λ_=>True) o val a:= .inl ⟨hw,λw' _=>asi Pe (OJ (ops:=ops) im (hq w WM)) w'⟩;refine take hy ?_;have hlt:cJ n bl.length ρ m n' bl.length ae m:=⟨mg,fs,aV _,λ_ _=>rfl⟩;exact ih ⟨dn.put (hP.ext fs mg (aV _) (λ_ _=>rfl)) o.dst hv hr,by rw[put_defers];exact h.d,h.b.ext fs mg (aV _),h.a6.dQ h.b fs⟩ (hl.trans hlt) nz s9 (hk.later hlt (dI.refl _ _))
      ·exact take (.inr ⟨hw,rfl⟩) (ih (h.skip o.dst) hl nz ag hk)
     |false=>
     obtain⟨⟨⟨mh,im⟩,Jr⟩,Bn⟩:=tc.resolve_left (by rw[Pe];decide);have hp:=hp mh;obtain⟨bq,hP,hgd⟩:=wA h.t ag;have h:R w0 n ρ m bq bl a w:=⟨hP,h.d,h.b,h.a6⟩;have hS:=down hl hp h.a6;rcases hgd with⟨hw,ag⟩|⟨hw,ag⟩
     ·have hlen:(cL N 0 bl).length=bl.length:=AO N 0 bl;obtain⟨ae,n',v,mg,fs,⟨hv,val,hr,hq⟩,s9⟩:=Gc (L:=L) (bl:=cL N 0 bl) cp (by rw[hlen];exact h.b.cL N) hg ⟨w,up hl hp hS⟩ (by rw[hlen];exact hP) o G _ ag;rw[hlen]at hv;have hy:YieldsIf P ops (λw=>Mem w0 bz m0 (cL N 0 ei) w) o val a:= .inl ⟨hw,λw' nC=>im.elim (λhf=>OJ (ops:=ops) hf (hq w' (up hl hp nC))) (λhf=>Xx hf (hq w' (up hl hp nC)))⟩;refine acg ho lh cH.2 (by simpa using p9) Jr Bn mh (λc a w hp=>absurd hp (hQ _ _ _)) hy hS ?_;have hlt:cJ n bl.length ρ m n' bl.length ae m:=⟨mg,fs,aV _,λ_ _=>rfl⟩;exact ih ⟨dn.put (hP.ext fs mg (aV _) (λ_ _=>rfl)) o.dst hv hr,by rw[put_defers];exact h.d,h.b.ext fs mg (aV _),h.a6.dQ h.b fs⟩ (hl.trans hlt) (λ_=>hp) s9 (hk.later hlt (dI.refl _ _))
     ·refine acg ho lh cH.2 (by simpa using p9) Jr Bn mh (λc a w hp=>absurd hp (hQ _ _ _)) (.inr ⟨hw,rfl⟩) hS ?_;exact ih (h.skip o.dst) hl (λ_=>hp) ag hk
   unfold qq;refine⟨λhr=>absurd hr hl0,λi hi=>?_⟩;have cH:=allT_holds ag i hi;unfold wpOp;cases ho:ops[i]? with
   |none=>simp only[ho]at cH;exact cH.elim
   |some o=>
    simp only[ho]at cH⊢;obtain⟨bq,hP,hgd⟩:=wA h.t cH;have h:R w0 n ρ m bq bl a w:=⟨hP,h.d,h.b,h.a6⟩;rcases hgd with⟨hw,tc⟩|⟨hw,tc⟩
    ·rw[if_pos hw];refine .inl (RR cp hg iD h tc λn' ae m' bq aG da a' w' h1 h2 h3 h4=>?_);cases hf:(!(ky ops (listed.setIfInBounds i true))||preB (cL N 0 ei) (cL N 0 aG))with
     |false=>rw[hf]at h4;exact h4.elim
     |true=>
      rw[hf,cond_true]at h4;have te:=hl.trans h1;simp only[pD,iP]at hf;have hf:ky ops (listed.setIfInBounds i true)=true->∀(k:Nat) (p:aj),(cL N 0 ei)[k]?=some p->(cL N 0 aG)[k]?=some p:=λhn=>QJ (hf.resolve_left (by rw[hn];decide));exact⟨λhn=>down te (hf hn) h3.a6,ih h3 te hf h4 (hk.later h1 h2)⟩
    ·rw[if_neg (by simp[hw])];have nz:ky ops (listed.setIfInBounds i true)=true->∀(k:Nat) (p:aj),(cL N 0 ei)[k]?=some p->(cL N 0 bl)[k]?=some p:=λhn=>hp (Kf hn);exact⟨λhn=>down hl (nz hn) h.a6,ih (h.skip o.dst) hl nz tc hk⟩
theorem AB {inl:ij} {li:Nat->Option dc} {rounds:Nat} (hm:P.follows .mixedOrders=true) (cp:fp S P gl w0 cal) (hg:eN gl w0) (iD:lA S L w0 P inl):∀(c:Code),Hs rd S L w0 P c (k7 P gl cal inl li rounds c):=by
 intro c;induction c with
 |skip=>intro hd n tm bl k G ρ m a w Q h ag hk;exact wpIn_skip (hk .normal n ρ m tm bl G a w (cJ.refl _ _ _ _) (dI.refl _ _) h ag)
 |exit id=>intro hd n tm bl k G ρ m a w Q h ag hk;exact wpIn_exit (hk (.exit id) n ρ m tm bl G a w (cJ.refl _ _ _ _) (dI.refl _ _) h ag)
 |ret=>intro hd n tm bl k G ρ m a w Q h ag hk;exact wpIn_ret (hk .ret n ρ m tm bl G a w (cJ.refl _ _ _ _) (dI.refl _ _) h ag)
 |region id ops draw=>
  intro hd n tm bl k G ρ m a w Q h ag hk;have IW:j0 S L w0 (k .normal) n bl.length ρ m G (oC Q .normal):=λn' ae m' bq aG da a' w' h1 h2 h3 h4=>hk .normal n' ae m' bq aG da a' w' h1 h2 h3 h4;cases draw with
  |false=>
   simp only[k7,cond_false]at ag;refine asJ hd ?_;exact Ko cp hg iD ops.toList h ag IW
  |true=>
   simp only[k7,cond_true]at ag;cases ht:(Cx ops (A5 P cal ops)&&Lu P (ops.toList.take (A5 P cal ops))&& !RJ P (ops.toList.take (A5 P cal ops)))with
   |false=>
    simp only[ht,cond_false]at ag;cases hlt:Zf ops with
    |true=>
     simp only[hlt,cond_true]at ag;have p5:R w0 n ρ m tm bl a w.drew:=⟨h.t,h.d,h.b,h.a6.grow (Ha (m8 w))⟩;refine Q2 hm hd (acj (S0:=λw=>Mem w0 ρ m (cL bl.length 0 bl) w) _ _ _ _ ?_);exact ae4 cp hg iD (λc a w h=>h) (N:=bl.length) (aV _) h.b ops.size p5 (cJ.refl _ _ _ _) (λ_ _ _ h=>h) ag IW
    |false=>
    simp only[hlt,cond_false]at ag;cases hsz:bp (ops.toList.filter λo=> !Qh o).length 24 with
    |false=>simp only[hsz,cond_false]at ag;exact ag.elim
    |true=>
     simp only[hsz,cond_true]at ag;have p5:R w0 n ρ m tm bl a w.drew:=⟨h.t,h.d,h.b,h.a6.grow (Ha (m8 w))⟩;refine Q2 hm hd (wpAny_of_held (S:=λw=>Mem w0 ρ m (cL (Ee P ops tm bl) 0 bl) w) _ _ _ _ ?_);exact ae3 cp hg iD (λc a w h=>h) (N:=Ee P ops tm bl) (by unfold Ee;cases Qm P ops<;>cases ops.toList.any nF<;>simp<;>exact Nat.min_le_left _ _) h.b ops.size p5 (cJ.refl _ _ _ _) (λ_ _ h=>h) ag IW
   |true=>
    simp only[ht,cond_true]at ag;simp only[aQ]at ht;replace ht:=ht.1;have hle:A5 P cal ops<=ops.toList.length:=by
     have h1:=ht.1;simp only[Cx,aQ]at h1;simpa using et h1.1.1.2
    generalize A5 P cal ops=hl0 at*;have p5:R w0 n ρ m tm bl a w.drew:=⟨h.t,h.d,h.b,h.a6.grow (Ha (m8 w))⟩;have key:=ax1 (P:=P) (Q:=oC Q) (a:=a) (w:=w) (l:=ops.toList) (C:=λw'=>Mem w0 ρ m bl w') hl0 (CI P ops) hm (by rw[toL];exact ht.1) (λw' nC=>p5.a6.grow nC) (λj o hj ho dk b w'=>by
     have:=ayd (l:=ops.toList) (P:=P) ht.2 hj ho dk b w';rw[toL]at this;exact this) (by
     rw[toL];refine I5 cp hg h.b ⟨_,h.a6⟩ _ (aV _) (agree.refl _ _) h.t h.d ag λn' ae bq an h1 h2 h3 h4 h5 eL b w' qL pZ Ez=>?_;have hl:cJ n bl.length ρ m n' bl.length ae m:=⟨h1,h2,aV _,λ_ _=>rfl⟩;have aio:=(p5.a6.grow pZ).dQ h.b h2;refine ML (S:=S) (L:=L) (w0:=w0) (P:=P) (K:=λb w'=>wpList P ops (calm (oC Q)) (ops.toList.drop hl0) b w') qL Ez p5.a6.ext.size p5.a6.ew (ops.toList.take hl0) 0 (λj hj=>?_) (by simp;exact vL (by simpa using hle)) ⟨h3,h4,h.b.ext h2 h1 (aV _),aio⟩ ((p5.a6.dQ h.b h2).under pZ) (λcf p kq hp=> .inl ?_) rfl (λt=>⟨λ⟨j,o,hj,_⟩=>by omega,λ_=>rfl⟩) h5 (λBT qz aBt abN az2 Mr Un lp k1 k2 k3 k4=>Ko cp hg iD _ k3 k4 ((IW.later hl (dI.refl _ _)).later k1 k2)) h4
     ·have hj':j<hl0:=by simp at hj;omega
      rw[oK,if_pos hj'];simp
     ·rw[mn (h.b _ (cM kq)) h2]at hp;exact p5.a6.lt kq hp)
    rw[toL]at key;exact Q2 hm hd key
 |seq x y alX JF=>
  intro hd n tm bl k G ρ m a w Q h ag hk;have wM:rd=none∨kx x=true:=hd.imp id λh=>by simp only[kx,aQ]at h;exact h.1
  have uN:rd=none∨kx y=true:=hd.imp id λh=>by simp only[kx,aQ]at h;exact h.2
  refine wpIn_seq (alX wM n tm bl _ G ρ m a w _ h ag λx n' ae m' bq aG da a' w' h1 h2 h3 h4=>?_);cases x with
  |normal=>exact JF uN n' bq aG k da ae m' a' w' Q h3 h4 (hk.later h1 h2)
  |exit id=>exact hk (.exit id) n' ae m' bq aG da a' w' h1 h2 h3 h4
  |ret=>exact hk .ret n' ae m' bq aG da a' w' h1 h2 h3 h4
 |cond x y z JF YH=>
  intro hd n tm bl k G ρ m a w Q h ag hk;simp only[k7]at ag;have hx:=cc h.t x;split at ag
  ·rename_i b hb;rw[hb]at hx;have c7:a.eval x= .bool (b.den ρ):=hx.2;have wM:rd=none∨kx y=true:=hd.imp id λh=>by simp only[kx,aQ]at h;exact h.1
   have uN:rd=none∨kx z=true:=hd.imp id λh=>by simp only[kx,aQ]at h;exact h.2
   refine wpIn_cond c7 ?_;split at ag
   ·rename_i v;cases v with
    |true=>simp only[cond_true]at ag;exact JF wM n tm bl k G ρ m a w Q h ag hk
    |false=>simp only[cond_false]at ag;exact YH uN n tm bl k G ρ m a w Q h ag hk
   ·simp only[T.holds]at ag;cases hd:bf.den ρ b with
    |true=>exact JF wM n _ bl k G ρ m a w Q ⟨Cw hd h.t,h.d,h.b,h.a6⟩ (ag.1 (by simpa using hd)) hk
    |false=>exact YH uN n _ bl k G ρ m a w Q ⟨Cw hd h.t,h.d,h.b,h.a6⟩ (ag.2 (by simpa using hd)) hk
  ·exact ag.elim
 |block id x ih=>
  intro hd n tm bl k G ρ m a w Q h ag hk;refine wpIn_block (ih hd n tm bl _ G ρ m a w _ h ag λx n' ae m' bq aG da a' w' h1 h2 h3 h4=>?_);cases x with
  |normal=>exact hk .normal n' ae m' bq aG da a' w' h1 h2 h3 h4
  |ret=>exact hk .ret n' ae m' bq aG da a' w' h1 h2 h3 h4
  |exit wT=>
   simp only at h4;simp only[X.to,Exit.inBlock];cases hb:aA wT id with
   |true=>
    simp only[hb,cond_true]at h4;rw[if_pos (bo hb)];exact hk .normal n' ae m' bq aG da a' w' h1 h2 h3 h4
   |false=>
    simp only[hb,cond_false]at h4;rw[if_neg (λe=>by subst e;rw[show aA wT wT=true from CM wT]at hb;cases hb)];exact hk (.exit wT) n' ae m' bq aG da a' w' h1 h2 h3 h4
 |loop x ih=>
  intro hd n tm bl k G ρ m a w Q h ag hk;simp only[k7]at ag;split at ag
  ·exact anX (c:=x) hd ih h ag hk
  ·exact wpIn_loop_rounds rounds (aaT (c:=x) hd ih rounds h ag hk)
 |_=>intro hd n tm bl k G ρ m a w Q h ag hk;exact ag.elim
def zu (a:Act):ResultVar->Sem ax
 | .tmp t=>CR (a.tmps.getD t undef)
 | .cell x t=>do loadVar t (<-asAddr (a.tmps.getD x undef))
theorem asP {n:Nat} {ρ:Env} {m:Nat->Nat} {bl:List aj} {tm:List V} {a:Act} {w:ai} {r:ResultVar} {u:W} (hg:eN gl w0) (h:R w0 n ρ m tm bl a w) (hr:Gj P gl bl tm r=some u):
 u.ok n bl.length ρ/\(zu a r).run P w= .ok (u.den ρ m) w:=by
 cases r with
 |tmp t=>
  simp only[Gj]at hr;cases ht:tm[t]? with
  |none=>simp[ht]at hr
  |some v=>
   obtain⟨h1,x,h2,h3⟩:=h.t.2 t v ht;simp only[ht]at hr;cases v with
   |w u'=>
    simp only[aK]at hr;subst hr;refine⟨h1,?_⟩;have:a.tmps.getD t undef=u'.den ρ m:=by simp[h2];exact h3
    simp only[zu,this];rfl
   |_=>simp at hr
 |cell x t=>
  simp only[Gj]at hr;cases ht:tm[x]? with
  |none=>simp[ht]at hr
  |some v=>
   obtain⟨h1,y,h2,h3⟩:=h.t.2 x v ht;simp only[ht]at hr;cases v with
   |e6 l=>simp at hr
   |any=>simp at hr
   |pj _ _ _=>simp at hr
   |mI _ _=>simp at hr
   |w q=>
    cases q with
    |agg l=>simp at hr
    |one p=>
     simp only at hr;have hy:a.tmps.getD x undef=p.den ρ m:=by simp[h2];exact h3
     cases hc:Ax bl gl p with
     |none=>simp[hc]at hr
     |some cs=>
      obtain⟨g,o,hp,bg,hcell⟩:=M9 h.a6 h.b hg hc;simp only[zu,hy,hp];cases n5:nE P t with
      |none=>simp[hc,n5]at hr
      |some b=>
       cases b with
       |true=>
        cases hs:eA P t with
        |none=>simp[hc,n5,hs]at hr
        |some k=>
         simp only[hc,n5,hs]at hr;cases hk:bp k cs.length with
         |false=>simp[hk]at hr
         |true=>
          simp only[hk,cond_true,aK]at hr;subst hr;have hk:=et hk;refine⟨λa h=>bg a (kh h),?_⟩;have hl:=CS (P:=P) w ⟨g,o,none⟩ ((cs.take k).map (A.den ρ m)) λj v hj=>by
           rw[iz];rw[lV]at hj;cases hq:(cs.take k)[j]? with
           |none=>simp[hq]at hj
           |some a=>
            simp only[hq,rf,aK]at hj;subst hj;refine hcell j a ?_;rw[oK]at hq;split at hq
            ·exact hq
            ·cases hq
          simp only[jW,ly,vL hk]at hl;simp[asAddr,loadVar,q4 n5,gM hs,hl,W.den]
       |false=>
        cases cs with
        |nil=>simp[hc,n5]at hr
        |cons z r=>
         simp only[hc,n5,aK]at hr;subst hr;refine⟨bg z (by simp),?_⟩;have:=hcell 0 z rfl;simp only[kG]at this;simp[asAddr,loadVar,q4 n5,this,W.den]
theorem aaJ {n:Nat} {ρ:Env} {m:Nat->Nat} {bl:List aj} {tm:List V} {a:Act} {w:ai} (hg:eN gl w0) (h:R w0 n ρ m tm bl a w):∀{rs:List ResultVar} {l:List W},zv P gl bl tm rs=some l->
 (∀u∈l,W.ok n bl.length ρ u)/\(rs.mapM (m:=Sem) (zu a)).run P w= .ok (l.map (W.den ρ m)) w
 |[],l,hr=>by simp[zv]at hr;subst hr;exact⟨by simp,by simp⟩
 |r::s,l,hr=>by
  simp only[zv]at hr;cases h1:Gj P gl bl tm r with
  |none=>simp[h1]at hr
  |some u=>
   cases h2:zv P gl bl tm s with
   |none=>simp[h1,h2]at hr
   |some bJ=>
    simp only[h1,h2,aK]at hr;subst hr;have e1:=asP hg h h1;have e2:=aaJ hg h h2;refine⟨λx hx=>by rcases List.mem_cons.1 hx with rfl|hx;exact e1.1;exact e2.1 x hx,?_⟩;rw[List.mapM_cons,gy];simp only[e1.2,e2.2,gG,gy,ie,ch]
theorem Q3 {fn:Func} {n:Nat} {ρ:Env} {m:Nat->Nat} {bl:List aj} {tm:List V} {a:Act} {w:ai} {k:RK} {G:c9} (hg:eN gl w0) (h:R w0 n ρ m tm bl a w) (ag:(Gh P gl fn n tm bl k).holds S L G ρ):
 ∃v val,V.ok n bl.length ρ v/\v.rel ρ m val/\(results fn a.tmps).run P w= .ok val w/\(k n v bl).holds S L G ρ:=by
 unfold Gh at ag;cases hr:zv P gl bl tm fn.results.toList with
 |none=>
  simp only[hr]at ag;cases ho:QA tm fn.results.toList with
  |none=>simp[ho,T.holds]at ag
  |some v=>
   simp only[ho]at ag;obtain⟨t,e,hv⟩:∃t,fn.results.toList=[.tmp t]/\tm[t]?=some v:=by
    unfold QA at ho;split at ho
    ·rename_i t he;refine⟨t,he,?_⟩;split at ho<;>first|(cases ho;assumption)|cases ho
    ·cases ho
   obtain⟨h1,x,h2,h3⟩:=h.t.2 t v hv;refine⟨v,x,h1,h3,?_,ag⟩;have hD:fn.results=#[.tmp t]:=by rw[<-lx (xs:=fn.results),e]
   have ex:a.tmps.getD t undef=x:=by simp[h2]
   have e:results fn a.tmps=(do let vs<-fn.results.mapM (zu a);CR (if h:vs.size=1 then vs[0]else .tuple vs)):=by
    unfold results
    congr 1
   rw[e,hD,ayv];simp[gy,Sem.run_map,gG,zu,h2]
 |some l=>
  obtain⟨h1,h2⟩:=aaJ hg h hr;have hrun:(results fn a.tmps).run P w= .ok (if h:(l.map (W.den ρ m)).toArray.size=1 then(l.map (W.den ρ m)).toArray[0]else .tuple (l.map (W.den ρ m)).toArray) w:=by
   have e:results fn a.tmps=(do let vs<-fn.results.mapM (zu a);CR (if h:vs.size=1 then vs[0]else .tuple vs)):=by
    unfold results
    congr 1
   rw[e,ayv];simp only[gy,Sem.run_map,gG,h2,ie]
  simp only[hr]at ag;split at ag
  ·rename_i u heq;have heq:=fQ heq;subst heq;exact⟨.w u,_,h1 u (by simp),rfl,by rw[hrun];simp,ag⟩
  ·rename_i bJ hne heq;have heq:=fQ heq;subst heq;refine⟨.e6 l,_,h1,rfl,?_,ag⟩;rw[hrun,dif_neg];intro hs;simp at hs
   match l,hs,hne with
   |[u],_,hne=>exact hne u rfl
  ·rename_i heq;cases heq
theorem MA {ρ:Env} {m:Nat->Nat}:∀{vs:List V} {xs:List ax},db ρ m vs xs->vs.length=xs.length
 |[],[],_=>rfl
 |_::_,_::_,h=>by simp[MA h.2]
 |[],_::_,h=>h.elim
 |_::_,[],h=>h.elim
theorem Mz {n nb:Nat} {ρ:Env} {m:Nat->Nat} (k:Nat):∀{vs:List V} {xs:List ax},(∀v∈vs,V.ok n nb ρ v)->db ρ m vs xs->xW n nb ρ m (vs++Cd k) (xs++eh k undef)
 |[],[],_,_=>by
  simp only[gv];induction k with
  |zero=>trivial
  |succ k ih=>exact⟨by intro x hx;simp at hx,rfl,ih⟩
 |v::r,x::s,h,hr=>⟨h v (by simp),hr.1,Mz k (λu hu=>h u (cx _ hu)) hr.2⟩
 |[],_::_,_,h=>h.elim
 |_::_,[],_,h=>h.elim
theorem UT (mM:w0.ds=[]) {li:cB->Nat->Option dc} {rounds:Nat} {inl:ij} (hm:P.follows .mixedOrders=true) (cp:fp S P gl w0 cal) (hg:eN gl w0) (ih:lA S L w0 P inl):lA S L w0 P (H2 P gl cal inl li rounds):=by
 intro f n vs bl k G ρ m w xs R' hb jE kt hrel ag hk;unfold H2 at ag;cases hf:P.funcs[f]? with
 |none=>simp[hf,T.holds]at ag
 |some fn=>
  cases uM:fn.body with
  |none=>simp[hf,uM,T.holds]at ag
  |some c=>
   simp only[hf,uM]at ag;cases hc:(!(fn.name== "runtime.NumGoroutine")&&bp vs.length fn.ntmps)with
   |false=>simp[hc,T.holds]at ag
   |true=>
    simp only[hc,cond_true]at ag;simp only[aQ,iP]at hc;have hlen:=MA hrel;refine⟨?_,calls_of_wp hf uM ?_⟩
    ·have h1:¬fn.name= "runtime.NumGoroutine" :=by have:=hc.1;simpa using this
     simp[callFunc,hf,uM,h1]
    ·have hR:R w0 n ρ m (vs++Cd (fn.ntmps-vs.length)) bl {tmps:=xs.toArray++sz (fn.ntmps-xs.toArray.size) undef,defers:=[]} w:=by
      refine⟨?_,mM.symm,hb,jE⟩;have:=HH (Mz (fn.ntmps-vs.length) kt hrel);have e:(xs++eh (fn.ntmps-vs.length) undef).toArray=xs.toArray++sz (fn.ntmps-xs.toArray.size) undef:=by
       simp[hlen]
      rw[e]at this;exact this
     refine wpIn_wide.1 (AB (rd:=none) hm cp hg ih c (.inl rfl) n _ bl _ G ρ m _ w _ hR ag λx n' ae m' bq aG da a' w' h1 h2 h3 h4=>?_);cases x with
     |exit id=>exact h4.elim
     |normal=>
      obtain⟨v,val,p1,aJ,bb,b7⟩:=Q3 hg h3 h4;exact⟨h3.d.trans mM,val,bb,hk n' v aG da ae m' w' val h1 h2 p1 aJ h3.b h3.a6 b7⟩
     |ret=>
      obtain⟨v,val,p1,aJ,bb,b7⟩:=Q3 hg h3 h4;exact⟨h3.d.trans mM,val,bb,hk n' v aG da ae m' w' val h1 h2 p1 aJ h3.b h3.a6 b7⟩
theorem U9 (mM:w0.ds=[]) {li:cB->Nat->Option dc} {rounds:Nat} (hm:P.follows .mixedOrders=true) (cp:fp S P gl w0 cal) (hg:eN gl w0):∀d,lA S L w0 P (H9 P gl cal li rounds d)
 |0=>λf n vs bl k G ρ m w xs R' _ _ _ _ ag _=>ag.elim
 |d+1=>UT mM hm cp hg (U9 mM hm cp hg d)
def l4 (S:Nat->List Int->List Int->Prop) (L:V->Env->Prop) (w0:cI) (P:bk) (bc:ig):Prop:=∀f g,bc f=some g->∀n vs bl k G ρ m w xs R',bU n (jg bl) ρ bl->Mem w0 ρ m bl w->(∀v∈vs,V.ok n bl.length ρ v)->db ρ m vs xs->(g n vs bl k).holds S L G ρ->pJ S L w0 k n bl.length ρ m G R'->(callFunc f xs.toArray).run P w= .ok (.enter f xs.toArray) w/\gZ P f xs.toArray w R'
theorem aqC {bc:ig} {inl:ij} (gd:l4 S L w0 P bc) (h:lA S L w0 P inl):lA S L w0 P (QB bc inl):=by
 intro f n vs bl k G ρ m w xs R' h1 h2 h3 h4 h5 h6;unfold QB at h5;cases hf:bc f with
 |none=>rw[hf]at h5;exact h f n vs bl k G ρ m w xs R' h1 h2 h3 h4 h5 h6
 |some g=>rw[hf]at h5;exact gd f g hf n vs bl k G ρ m w xs R' h1 h2 h3 h4 h5 h6
theorem Dr (mM:w0.ds=[]) {bc:ig} {li:cB->Nat->Option dc} {rounds:Nat} (hm:P.follows .mixedOrders=true) (cp:fp S P gl w0 cal) (hg:eN gl w0) (gd:l4 S L w0 P bc):∀d,lA S L w0 P (yf bc P gl cal li rounds d)
 |0=>λf n vs bl k G ρ m w xs R' _ _ _ _ ag _=>ag.elim
 |d+1=>UT mM hm cp hg (aqC gd (Dr mM hm cp hg gd d))
theorem Mem.extends {b w w':ai} {ρ:Env} {m:Nat->Nat} {bl:List aj} (h:Mem ⟨b,w,λ_=>False,λ_=>False,[]⟩ ρ m bl w'):w.Extends w':=by
 have hblk:∀i:Nat,i<w.heap.size->w'.heap[i]?=w.heap[i]?:=λi hi=>h.gi i hi id;exact⟨h.jo,h.jr,h.iF,h.ew,λa ha=>by simp only[jx,hblk a.block ha],λa ha=>by simp only[tZ,hblk a.block ha],hblk⟩
theorem afJ {b w:ai} {li:cB->Nat->Option dc} {rounds d:Nat} (hm:P.follows .mixedOrders=true) (cp:fp S P gl ⟨b,w,λ_=>False,λ_=>False,[]⟩ cal) (hg:eN gl ⟨b,w,λ_=>False,λ_=>False,[]⟩) (f:cB) (n:Nat) (vs:List V) (ρ:Env) (xs:List ax) (he:b.Extends w)
 (kt:∀v∈vs,V.ok n 0 ρ v) (hrel:db ρ (λ_=>0) vs xs) (ag:(H9 P gl cal li rounds d f n vs [] λn' v _=> .leaf v).holds S (λv ae=>L v ae) (λ_ _=>False) ρ):
 gZ P f xs.toArray w λe w'=>∃v ae m val nb,e= .returned val/\v.rel ae m val/\(∃n',V.ok n' nb ae v)/\L v ae/\w.Extends w':=by
 have jE:Mem ⟨b,w,λ_=>False,λ_=>False,[]⟩ ρ (λ_=>0) [] w:=⟨he,rfl,rfl,rfl,aV _,λ_ _ _=>rfl,λi cs t h=>by simp at h,λi sh off code cap kind t h=>by simp at h,λi j p q h=>by simp at h⟩;refine(U9 rfl (L:=L) (li:=li) (rounds:=rounds) hm cp hg d f n vs [] (λn' v _=> .leaf v) (λ_ _=>False) ρ (λ_=>0) w xs _ (λp hp=>by simp at hp) jE kt hrel ag ?_).2;intro n' v aG da ae m' w' val h1 h2 h3 h4 h5 h6 h7;exact⟨v,ae,m',val,_,rfl,h4,⟨n',h3⟩,h7,h6.extends⟩
end
end Go.aW
