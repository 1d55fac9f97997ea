/- The evaluator's soundness: operations and regions. -/
import Derived.Test.YtacpildnjohidaaDoorPaa
import Derived.Laws.Append
import Derived.Deep.AppendSrc
import Derived.Deep.Upon
import Derived.Laws.MakeOwn
import Derived.Lib.MakeNoZero
import Derived.Laws.Externs
import Derived.KernelRfl
import Derived.Lib.ConvBytes
import Derived.ArgAppend
import Derived.OrdersIn
import Derived.TacticsIn
import Derived.LoopNIn
import Derived.Sort.LoopGhostIn
open Array renaming toArray_toList->lO,toList_map->AG,replicate->Ci,eq_empty_of_size_eq_zero->D6,length_toList->D7,getElem?_eq_getElem->Pn,getElem?_toList->Px,getElem?_eq_none->UF,ext'->UG,toList_range->aeg,size_append->apx,mapM_eq_mapM_toList->aI3,range->aJD,getElem?_modify->aJL,getElem?_push_lt->aJN
open Bool renaming and_eq_true->bx,not_true->cU,false_eq_true->xS,or_eq_true->D3
open Classical renaming byContradiction->ad3
open Eq renaming trans->xT
open Function renaming comp->Pm
open Go renaming World->aG,Value->aW,TypeId->br,Program->b4,FuncId->dL,IntKind->dW,run_underlying->gJ,Calls->nJ,Operand->rf,run_loadCells_list->Pp,setRow_other->Py,setRow_heap->Pz,run_firstCells_some->UH
open Go.Builtin renaming zeroCells->pI,copy_->AI,append_->LP,firstCells->LQ,lenOf->UI,nextslicecap->apu,clear_->apC
open Go.Code renaming region->aJV
open Go.Extern renaming findNext->ad6,find->ad7
open Go.Extern.BytealgMakeNoZero renaming digits->Cm,makeNoZero->aen
open Go.Fence renaming wide->IJ
open Go.Instr renaming sureAddr->o2,loadAt->pH,sliceAt->uL,storeAt->aef,buildSlice->apv,alloc->aJI
open Go.Lib renaming bytesWorld->PB,bytesCells->PC
open Go.Next renaming value->mh
open Go.Oper renaming wp->o4,uponIn->aJT,wpIn_mono->aJU
open Go.Question renaming cut->aJE
open Go.Region renaming wanted->Cl,noSelect->Ut
open Go.Result renaming andThen_ok->jF
open Go.Sem renaming run_bind->jl,run_pure->kv
open Go.Value renaming int->AD,slice->Pr
open Go.Value.int renaming injEq->aO0
open Go.World renaming cell?->nK,frozen?->D4,alloc->LR,freeze->UJ,alloc_eq->UK,drew->aeo,drew_eq->apy
open Go.World.Extends renaming refl->sW,drew->Uv
open Int renaming le_refl->di,lt_or_le->mE,toNat_natCast->qm,le_trans->D2,natCast_nonneg->LB
open List renaming getD->U,map_cons->du,mem_cons_of_mem->eI,mem_of_getElem?->fC,replicate->fD,nil_append->gq,getD_cons_zero->gD,map_nil->gQ,length_append->gY,range->ht,append_nil->hK,getD_cons_succ->hL,cons_append->jD,map_append->jE,length_cons->ke,map_congr_left->kU,append_assoc->mF,mem_of_mem_take->nd,take_succ_cons->nL,flatten_cons->oh,take_append_drop->oi,mem_cons->oW,length_drop->oZ,map_map->pD,length->pE,getElem?_eq_getElem->pF,length_map->pG,length_nil->qo,take_zero->qp,mem_of_mem_drop->rh,getElem?_map->se,length_take->sf,getElem?_take->tI,take_of_length_le->uK,getElem?_set->wh,zipWith->wi,flatMap_cons->wk,getElem?_cons_zero->xY,getD_eq_getElem?_getD->xP,eq_nil_of_length_eq_zero->zb,getElem?_append_left->AA,drop_drop->Cg,size_toArray->Ck,replicate_succ->D8,drop_left->F3,mem_of_find?_eq_some->ID,getElem_mem->IE,getElem?_append_right->LF,getElem?_append->Po,take_append_of_le_length->Pq,mem_or_eq_of_mem_set->PA,find?_some->Uu,zipWith_cons_cons->Ux,length_replicate->UO,getElem?_set_ne->ad4,take_length->ad5,ext_getElem?->aeh,getElem?_eq_none->aei,getElem?_set_self->ape,getElem?_range->apt,all_cons->apw,eq_of_mem_replicate->apz,drop_append_of_le_length->aJC,flatMap_map->aJH
open List.cons renaming injEq->qn
open Nat renaming beq->aP,le_refl->bW,eq_of_beq_eq_true->b1,ble->cO,blt->dX,le_of_ble_eq_true->gU,le_trans->nf,add_zero->oX,le_succ->tJ,zero_add->zd,lt_succ_self->AE,succ_mul->AF,add_mul->AH,mul_one->Ch,min_eq_left->F2,lt_of_lt_of_le->IB,beq_refl->IC,zero_le->LC,le_add_right->LG,min->LO,mod_lt->Pj,mod_eq_of_lt->ad2,mul_le_mul_right->aem,mul_le_mul->apd,le_of_mul_le_mul_right->aJM
open Option renaming isSome_none->xR,map_some->Az,getD_some->D1
open Option.some renaming injEq->bj,inj->jC
open Prod renaming ext->Pg
open Prod.mk renaming injEq->eO
open Pure renaming pure->Uw
set_option linter.unusedVariables false
set_option linter.unusedSimpArgs false
namespace Go.b9
open M
structure e6 (n nb:Nat) (ρ:Env) (m:Nat->Nat) (n' nD:Nat) (ae:Env) (m':Nat->Nat):Prop where
 hn:n<=n'
 ha:agree n ρ ae
 hb:nb<=nD
 hm:∀b,b<nb->m' b=m b
theorem e6.refl (n nb:Nat) (ρ:Env) (m:Nat->Nat):e6 n nb ρ m n nb ρ m:=⟨bW _,agree.refl _ _,bW _,λ_ _=>rfl⟩
theorem e6.trans {n nb a6 Fj gd alI:Nat} {ρ aN b5:Env} {m ir gw:Nat->Nat} (h:e6 n nb ρ m a6 Fj aN ir) (bm:e6 a6 Fj aN ir gd alI b5 gw):e6 n nb ρ m gd alI b5 gw:=
 ⟨nf h.hn bm.hn,h.ha.trans bm.ha h.hn,nf h.hb bm.hb,λb hb=>(bm.hm b (IB hb h.hb)).trans (h.hm b hb)⟩
def gr (n:Nat) (G eV:fe):Prop:=∀l,l<n->eV l=G l
theorem gr.refl (n:Nat) (G:fe):gr n G G:=λ_ _=>rfl
theorem gr.trans {n n':Nat} {G eV VQ:fe} (h:gr n G eV) (bm:gr n' eV VQ) (hn:n<=n'):gr n G VQ:=λl hl=>(bm l (by omega)).trans (h l hl)
structure R (w0:eL) (n:Nat) (ρ:Env) (m:Nat->Nat) (tm:List V) (bl:List aJ) (a:Act) (w:aG):Prop where
 t:eW n bl.length ρ m tm a.tmps
 d:a.defers=w0.ds
 b:dj n bl.length ρ bl
 bK:Mem w0 ρ m bl w
section
variable (S:Nat->List Int->List Int->Prop) (L:V->Env->Prop) (w0:eL)
def ml (k:iz) (n nb:Nat) (ρ:Env) (m:Nat->Nat) (G:fe) (K:Act->aG->Prop):Prop:=
 ∀n' ae m' cK bt eV dT w',e6 n nb ρ m n' (pE bt) ae m'->gr n G eV->R w0 n' ae m' cK bt dT w'->(k n' cK bt).holds S L eV ae->K dT w'
def Ge (k:RK) (n nb:Nat) (ρ:Env) (m:Nat->Nat) (G:fe) (R':Ending->aG->Prop):Prop:=
 ∀n' v bt eV ae m' w' val,e6 n nb ρ m n' (pE bt) ae m'->gr n G eV->V.ok n' bt.length ae v->v.rel ae m' val->dj n' bt.length ae bt->Mem w0 ae m' bt w'->(k n' v bt).holds S L eV ae->R' (.returned val) w'
def ri (P:b4) (inl:mj):Prop:=
 ∀f n vs bl k G ρ m w xs R',dj n (pE bl) ρ bl->Mem w0 ρ m bl w->(∀v∈vs,V.ok n bl.length ρ v)->fQ ρ m vs xs->(inl f n vs bl k).holds S L G ρ->Ge S L w0 k n bl.length ρ m G R'->
  (callFunc f xs.toArray).run P w= .ok (.enter f xs.toArray) w/\nJ P f xs.toArray w R'
end
section
variable {S:Nat->List Int->List Int->Prop} {L:V->Env->Prop} {w0:eL} {P:b4} {gl:fP} {cal:gL} {inl:mj}
theorem ml.later {k:iz} {n nb a6 Fj:Nat} {ρ aN:Env} {m ir:Nat->Nat} {G G1:fe} {K:Act->aG->Prop} (h:ml S L w0 k n nb ρ m G K) (hl:e6 n nb ρ m a6 Fj aN ir) (aO:gr n G G1):ml S L w0 k a6 Fj aN ir G1 K:=
 λn' ae m' cK bt eV dT w' h1 h2 h3 h4=>h n' ae m' cK bt eV dT w' (hl.trans h1) (aO.trans h2 hl.hn) h3 h4
def nG (m:Nat->Nat) (nb g:Nat):Nat->Nat:=λb=>if b=nb then g else m b
theorem oS {m:Nat->Nat} {nb g b:Nat} (h:b<nb):nG m nb g b=m b:=by simp[nG];omega
theorem pz (m:Nat->Nat) (nb g:Nat):nG m nb g nb=g:=by simp[nG]
theorem Mem.push {n:Nat} {ρ:Env} {m:Nat->Nat} {bl:List aJ} {w:aG} {x:aJ} {g:Nat} (h:Mem w0 ρ m bl w) (hb:dj n bl.length ρ bl) (hx:∀a∈x.1,A.ok n bl.length ρ a)
 (h1:cl x.1=true->w0.b.heap.size<=g/\(w0.ex g∨w0.r.heap.size<=g)/\∃r:List aW,(x.2.2=false->r=[])/\w.heap[g]?=some (.cells (x.1.map (A.den ρ m)++r).toArray x.2.1 (0,0)))
 (h2:∀sh off code cap kind,x.1=[.rows sh off code cap kind]->wo w0 ρ g sh off code cap kind x.2.1 w)
 (h3:∀(i:Nat) (p:aJ),bl[i]?=some p->m i=g->(bU ρ p.1<=1/\bU ρ x.1<=1)∨bU ρ p.1=0∨bU ρ x.1=0):
 Mem w0 ρ (nG m bl.length g) (bl++[x]) w:=by
 have hold:∀(i:Nat) (p:aJ),(bl++[x])[i]?=some p->(i<bl.length/\bl[i]?=some p)∨(i=bl.length/\p=x):=λi p hi=>by
  rw[Po]at hi;split at hi
  ·rename_i jW;exact .inl ⟨jW,hi⟩
  ·have:i=bl.length:=by
    have:=(List.getElem?_eq_some_iff.1 hi).1;simp at this;omega
   subst this;simp only[Nat.sub_self,xY,bj]at hi;exact .inr ⟨rfl,hi.symm⟩
 refine⟨h.ext,h.j7,h.mw,h.lH,h.ib,h.jU,λi lq t' hi aA=>?_,λi sh off code cap kind t' hi=>?_,λi j p q hi aM he=>?_⟩
 ·rcases hold i _ hi with⟨jW,hi⟩|⟨rfl,eo⟩
  ·obtain⟨g1,nZ,r,hr,g2⟩:=h.gZ i lq t' hi aA;rw[oS jW];refine⟨g1,nZ,r,hr,?_⟩;rw[yG (hb _ (fC hi)) (agree.refl n ρ) (λb hb=>oS hb)];exact g2
  ·subst eo;rw[pz];obtain⟨g1,nZ,r,hr,g2⟩:=h1 aA;refine⟨g1,nZ,r,hr,?_⟩;rw[yG hx (agree.refl n ρ) (λb hb=>oS hb)];exact g2
 ·rcases hold i _ hi with⟨jW,hi⟩|⟨rfl,eo⟩
  ·rw[oS jW];exact h.rws i sh off code cap kind t' hi
  ·subst eo;rw[pz];exact h2 sh off code cap kind rfl
 ·rcases hold i p hi with⟨jW,CS⟩|⟨rfl,eo⟩<;>rcases hold j q aM with⟨ajr,Np⟩|⟨rfl,yq⟩
  ·rw[oS jW,oS ajr]at he;exact h.inj i j p q CS Np he
  ·rw[oS jW,pz]at he;subst yq;exact .inr (h3 i p CS he)
  ·rw[oS ajr,pz]at he;subst eo;rcases h3 j q Np he.symm with h|h|h
   ·exact .inr (.inl ⟨h.2,h.1⟩)
   ·exact .inr (.inr (.inr h))
   ·exact .inr (.inr (.inl h))
  ·exact .inl rfl
theorem Mem.alloc {n:Nat} {ρ:Env} {m:Nat->Nat} {bl:List aJ} {w:aG} {cs:List A} {t:br} {ex:List aW} {open_:Bool} (h:Mem w0 ρ m bl w) (hb:dj n bl.length ρ bl) (hc:∀a∈cs,A.ok n bl.length ρ a) (gR:open_=false->ex=[]) (oA:cl cs=true):
 Mem w0 ρ (nG m bl.length w.heap.size) (bl++[(cs,(t,open_))]) (w.alloc (.cells (cs.map (A.den ρ m)++ex).toArray t)):=by
 refine(h.grow ((sW w).alloc _)).push hb hc (λ_=>⟨h.ext.size,.inr h.ib,ex,gR,heap_alloc_new w _⟩) (λsh off code cap kind e=>?_) λi p hi he=>?_
 ·simp only at e;subst e;cases oA
 ·by_cases af:bU ρ p.1=0
  ·exact .inr (.inl af)
  ·have:=h.lt hi af;omega
theorem Mem.put {kd:Nat} {ρ:Env} {m:Nat->Nat} {bl:List aJ} {w:aG} {b:Nat} {sh:List aQ} {off code cap code':I} {t:br×Bool} {cells row:Array aW} {fz:Nat×Nat} (h:Mem w0 ρ m bl w) (jt:2<=kd) (aZ:bl[b]?=some ([.rows sh off code cap kd],t)) (dC:0<=cap.den ρ)
 (hr:wo w0 ρ (m b) sh off code' cap kd t.1 (w.setRow (m b) row)):Mem w0 ρ m (ei bl b ([.rows sh off code' cap kd],t)) (w.setRow (m b) row):=by
 have tY:b<bl.length:=(List.getElem?_eq_some_iff.1 aZ).1;have pg:∀c,bU ρ [.rows sh off c cap kd]=kd:=λc=>w2 (by omega) dC;obtain⟨_,hl⟩:=h.rws b sh off code cap kd t aZ (by omega);obtain⟨_,cells,ma,fz,_,_,h5⟩:=hl dC;obtain⟨_,_,_,_,h1,ER⟩:=h5 jt;have eC:∀(i:Nat) (p:aJ),(ei bl b ([.rows sh off code' cap kd],t))[i]?=some p->(i=b/\p=([.rows sh off code' cap kd],t))∨(i≠b/\bl[i]?=some p):=λi p hi=>by
  rw[mz,wh]at hi;split at hi
  ·rename_i iE;subst iE;simp only[tY,if_true,bj]at hi;exact .inl ⟨rfl,hi.symm⟩
  ·rename_i iE;exact .inr ⟨λe=>iE e.symm,hi⟩
 refine⟨h.ext.setRow (m b) _ h1,h.j7,h.mw,h.lH,by simp;exact h.ib,λi hi hx=>?_,λi lq t' hi aA=>?_,λi hk kP code' kK sJ t' hi=>?_,λi j p q hi aM he=>?_⟩
 ·rw[Py w (m b) i _ (λe=>by
   subst e;rcases ER with h3|h3
   ·exact hx h3
   ·omega)]
  exact h.jU i hi hx
 ·rcases eC i _ hi with⟨rfl,eo⟩|⟨dA,hi⟩
  ·cases eo;cases aA
  ·obtain⟨g1,nZ,g2⟩:=h.gZ i lq t' hi aA;exact⟨g1,nZ,by rw[Py w (m b) (m i) _ (λe=>h.ne aZ hi (by rw[pg];exact jt) (by rw[nA aA];decide) (λe=>dA e.symm) (by first|exact e|exact e.symm))];exact g2⟩
 ·rcases eC i _ hi with⟨rfl,eo⟩|⟨dA,hi⟩
  ·cases eo;exact hr
  ·exact(h.rws i hk kP _ kK sJ t' hi).grow λaf hc=>Py w (m b) (m i) _ (λe=>h.ne aZ hi (by rw[pg];exact jt) (by simp only[w2 af hc];exact af) (λe=>dA e.symm) (by first|exact e|exact e.symm))
 ·have af:∀(i:Nat) (p:aJ),(ei bl b ([.rows sh off code' cap kd],t))[i]?=some p->∃dH,bl[i]?=some dH/\bU ρ dH.1=bU ρ p.1:=λi p hi=>by
   rcases eC i _ hi with⟨rfl,eo⟩|⟨dA,hi⟩
   ·exact⟨_,aZ,by rw[eo];simp only[pg]⟩
   ·exact⟨p,hi,rfl⟩
  obtain⟨dH,hp,ep⟩:=af i p hi;obtain⟨fA,ak,eq⟩:=af j q aM;rw[<-ep,<-eq];exact h.inj i j dH fA hp ak he
theorem Mem.kill {ρ:Env} {m:Nat->Nat} {bl:List aJ} {w:aG} {b k:Nat} {sh:List aQ} {off code cap:I} {t:br×Bool} (h:Mem w0 ρ m bl w) (aZ:bl[b]?=some ([.rows sh off code cap k],t)):Mem w0 ρ m (ei bl b ([.rows sh off code cap 0],t)) w:=by
 have tY:b<bl.length:=(List.getElem?_eq_some_iff.1 aZ).1;have eC:∀(i:Nat) (p:aJ),(ei bl b ([.rows sh off code cap 0],t))[i]?=some p->(i=b/\p=([.rows sh off code cap 0],t))∨(i≠b/\bl[i]?=some p):=λi p hi=>by
  rw[mz,wh]at hi;split at hi
  ·rename_i iE;subst iE;simp only[tY,if_true,bj]at hi;exact .inl ⟨rfl,hi.symm⟩
  ·rename_i iE;exact .inr ⟨λe=>iE e.symm,hi⟩
 have mW:bU ρ [.rows sh off code cap 0]=0:=by simp[bU]
 refine⟨h.ext,h.j7,h.mw,h.lH,h.ib,h.jU,λi lq t' hi aA=>?_,λi hk kP code' kK sJ t' hi=>?_,λi j p q hi aM he=>?_⟩
 ·rcases eC i _ hi with⟨rfl,eo⟩|⟨dA,hi⟩
  ·cases eo;cases aA
  ·exact h.gZ i lq t' hi aA
 ·rcases eC i _ hi with⟨rfl,eo⟩|⟨dA,hi⟩
  ·cases eo;exactλaf=>absurd rfl af
  ·exact h.rws i hk kP _ kK sJ t' hi
 ·rcases eC i _ hi with⟨rfl,eo⟩|⟨dA,hi⟩
  ·exact .inr (.inr (.inl (by rw[eo];exact mW)))
  ·rcases eC j _ aM with⟨rfl,yq⟩|⟨dA,aM⟩
   ·exact .inr (.inr (.inr (by rw[yq];exact mW)))
   ·exact h.inj i j p q hi aM he
theorem e6.alloc (n:Nat) (ρ:Env) (m:Nat->Nat) (bl:List aJ) (x:aJ) (g:Nat):e6 n bl.length ρ m n (bl++[x]).length ρ (nG m bl.length g):=
 ⟨bW _,agree.refl _ _,by simp,λb hb=>oS hb⟩
theorem dj.alloc {n:Nat} {ρ:Env} {bl:List aJ} {cs:List A} {t:br×Bool} (hb:dj n bl.length ρ bl) (hc:∀a∈cs,A.ok n bl.length ρ a):dj n (bl++[(cs,t)]).length ρ (bl++[(cs,t)]):=by
 intro p hp a ha;rcases List.mem_append.1 hp with hp|hp
 ·exact(hb p hp a ha).ext (agree.refl n ρ) (bW _) (by simp)
 ·simp at hp;subst hp;exact(hc a ha).ext (agree.refl n ρ) (bW _) (by simp)
theorem R.alloc {n:Nat} {ρ:Env} {m:Nat->Nat} {tm:List V} {bl:List aJ} {a:Act} {w:aG} {cs:List A} {t:br} (h:R w0 n ρ m tm bl a w) (hc:∀x∈cs,A.ok n bl.length ρ x) (dst:Option Tmp) (oA:cl cs=true):
 R w0 n ρ (nG m bl.length w.heap.size) (hG tm dst (.w (.one (.ptr bl.length 0)))) (bl++[(cs,(t,false))]) (a.put dst (.pointer (some ⟨w.heap.size,0,none⟩))) (w.alloc (.cells (cs.map (A.den ρ m)).toArray t)):=by
 have hl:=e6.alloc n ρ m bl (cs,(t,false)) w.heap.size;have p7:=h.bK.alloc (t:=t) (ex:=[]) (open_:=false) h.b hc (λ_=>rfl) oA;rw[hK]at p7;exact⟨eW.put (h.t.ext hl.ha hl.hn hl.hb hl.hm) dst (by simp[V.ok,W.ok,A.ok]) (by simp[V.rel,W.den,A.den,pz]),by rw[put_defers];exact h.d,h.b.alloc hc,p7⟩
theorem R.row {n:Nat} {ρ:Env} {m:Nat->Nat} {tm:List V} {bl:List aJ} {a:Act} {w:aG} {cs:List A} {t:br} {ex:List aW} {open_:Bool} (h:R w0 n ρ m tm bl a w) (hc:∀x∈cs,A.ok n bl.length ρ x) (gR:open_=false->ex=[]) (oA:cl cs=true) (dst:Option Tmp) {v:V} {x:aW}
 (hv:v.ok n (bl.length+1) ρ) (hx:v.rel ρ (nG m bl.length w.heap.size) x):
 R w0 n ρ (nG m bl.length w.heap.size) (hG tm dst v) (bl++[(cs,(t,open_))]) (a.put dst x) (w.alloc (.cells (cs.map (A.den ρ m)++ex).toArray t)):=by
 have hl:=e6.alloc n ρ m bl (cs,(t,open_)) w.heap.size;exact⟨eW.put (h.t.ext hl.ha hl.hn hl.hb hl.hm) dst (by simpa using hv) hx,by rw[put_defers];exact h.d,h.b.alloc hc,h.bK.alloc h.b hc gR oA⟩
theorem Mem.storeCells {n:Nat} {ρ:Env} {m:Nat->Nat} {bl:List aJ} {w:aG} {b off:Nat} {cs l:List A} {dQ:br×Bool} (h:Mem w0 ρ m bl w) (hb:dj n bl.length ρ bl) (hl:∀a∈l,A.ok n bl.length ρ a)
 (aZ:bl[b]?=some (cs,dQ)) (Bg:off+l.length<=cs.length) (uf:cl cs=true) (tf:cl (cs.take off++l++cs.drop (off+l.length))=true):
 ∃w',(Go.storeCells ⟨m b,off,none⟩ (l.map (A.den ρ m))).run P w= .ok () w'/\Mem w0 ρ m (ei bl b (cs.take off++l++cs.drop (off+l.length),dQ)) w':=by
 obtain⟨h1,ER,r,hr,h2⟩:=h.gZ b cs dQ aZ uf;have n2:=run_storeCells_at P (m b) off dQ.1 (l.map (A.den ρ m)) 0 (cs.map (A.den ρ m)++r).toArray w h2 (by simp;omega) (λx hx=>by
  obtain⟨a,ha,rfl⟩:=List.mem_map.1 hx;exact A.S0 (hl a ha))
 have Rz:∀k,k<=cs.length->(cs.map (A.den ρ m)++r).take k=(cs.take k).map (A.den ρ m)/\(cs.map (A.den ρ m)++r).drop k=(cs.drop k).map (A.den ρ m)++r:=λk af=>by
  refine⟨?_,?_⟩
  ·rw[Pq (by simpa using af),List.map_take]
  ·rw[aJC (by simpa using af),List.map_drop]
 refine⟨w.setRow (m b) ((cs.take off++l++cs.drop (off+l.length)).map (A.den ρ m)++r).toArray,?_,?_⟩
 ·simp only[oX,pG]at n2;rw[n2]
  congr 3
  simp only[jE,mF];rw[(Rz off (by omega)).1,(Rz (off+l.length) (by omega)).2]
 ·have tY:b<bl.length:=(List.getElem?_eq_some_iff.1 aZ).1;have eC:∀(i:Nat) (p:aJ),(ei bl b (cs.take off++l++cs.drop (off+l.length),dQ))[i]?=some p->(i=b/\p=(cs.take off++l++cs.drop (off+l.length),dQ))∨(i≠b/\bl[i]?=some p):=λi p hi=>by
   rw[mz,wh]at hi;split at hi
   ·rename_i iE;subst iE;simp only[tY,if_true,bj]at hi;exact .inl ⟨rfl,hi.symm⟩
   ·rename_i iE;exact .inr ⟨λe=>iE e.symm,hi⟩
  have pg:bU ρ cs=2:=nA uf;refine⟨h.ext.setRow (m b) _ h1,h.j7,h.mw,h.lH,by simp;exact h.ib,λi hi hx=>?_,λi lq t' hi aA=>?_,λi sh kP code cap kind t' hi=>?_,λi j p q hi aM he=>?_⟩
  ·rw[Py w (m b) i _ (λe=>by
    subst e;rcases ER with h3|h3
    ·exact hx h3
    ·omega)]
   exact h.jU i hi hx
  ·rcases eC i _ hi with⟨rfl,eo⟩|⟨dA,hi⟩
   ·cases eo;exact⟨h1,ER,r,hr,Pz w (m i) _ _ _ _ h2⟩
   ·obtain⟨g1,nZ,g2⟩:=h.gZ i lq t' hi aA;exact⟨g1,nZ,by rw[Py w (m b) (m i) _ (λe=>h.ne aZ hi (by rw[pg];exact bW 2) (by rw[nA aA];decide) (λe=>dA e.symm) (by first|exact e|exact e.symm))];exact g2⟩
  ·rcases eC i _ hi with⟨rfl,eo⟩|⟨dA,hi⟩
   ·have hi:=(Prod.mk.inj eo).1;rw[<-hi]at tf;cases tf
   ·exact(h.rws i sh kP code cap kind t' hi).grow λaf hc=>Py w (m b) (m i) _ (λe=>h.ne aZ hi (by rw[pg];exact bW 2) (by simp only[w2 af hc];exact af) (λe=>dA e.symm) (by first|exact e|exact e.symm))
  ·have af:∀(i:Nat) (p:aJ),(ei bl b (cs.take off++l++cs.drop (off+l.length),dQ))[i]?=some p->∃dH,bl[i]?=some dH/\bU ρ dH.1=bU ρ p.1:=λi p hi=>by
    rcases eC i _ hi with⟨rfl,eo⟩|⟨dA,hi⟩
    ·exact⟨_,aZ,by rw[eo];exact pg.trans (nA tf).symm⟩
    ·exact⟨p,hi,rfl⟩
   obtain⟨dH,hp,ep⟩:=af i p hi;obtain⟨fA,ak,eq⟩:=af j q aM;rw[<-ep,<-eq];exact h.inj i j dH fA hp ak he
theorem Mem.store {n:Nat} {ρ:Env} {m:Nat->Nat} {bl:List aJ} {w:aG} {b off:Nat} {cs l:List A} {dQ:br×Bool} (h:Mem w0 ρ m bl w) (hb:dj n bl.length ρ bl) (hl:∀a∈l,A.ok n bl.length ρ a)
 (aZ:bl[b]?=some (cs,dQ)) (Bg:off+l.length<=cs.length) (rI:0<l.length) (uf:cl cs=true) (tf:cl (cs.take off++l++cs.drop (off+l.length))=true) (ty:br) (hs:gT P ty=some l.length) (v:aW) (hv:v.cells=(l.map (A.den ρ m)).toArray):
 ∃w',(aef ty (.pointer (some ⟨m b,off,none⟩)) v).run P w= .ok () w'/\Mem w0 ρ m (ei bl b (cs.take off++l++cs.drop (off+l.length),dQ)) w':=by
 obtain⟨w',jv,CU⟩:=h.storeCells (P:=P) hb hl aZ Bg uf tf;refine⟨w',?_,CU⟩;simp only[aef,o2,jl,kv,jF,storeVar,kq hs,hv];simp only[Ck,pG,ne_eq,not_true_eq_false,if_false,kv,jF];simp only[kv,jF,jv]
theorem lz (bl:List aJ) (b:Nat) (x:aJ):(ei bl b x).length=bl.length:=by rw[mz];simp
theorem dj.set {n:Nat} {ρ:Env} {bl:List aJ} {b:Nat} {cs:List A} {t:br×Bool} (hb:dj n bl.length ρ bl) (hc:∀a∈cs,A.ok n bl.length ρ a):dj n (ei bl b (cs,t)).length ρ (ei bl b (cs,t)):=by
 intro p hp a ha;rw[lz];rw[mz]at hp;rcases PA hp with h|h
 ·exact hb p h a ha
 ·subst h;exact hc a ha
theorem Lw {t:br} {cs:List A} (h:ql P t=some cs):∃i z,P.info? t=some i/\i.zero=some z/\CC z.cells.toList=some cs:=by
 unfold ql at h;cases hi:P.info? t with
 |none=>simp[hi]at h
 |some i=>
  cases hz:i.zero with
  |none=>simp[hi,hz]at h
  |some z=>simp only[hi,hz]at h;exact⟨i,z,rfl,hz,h⟩
theorem ail {Z:Array aW} {i:Nat} (h:i<Z.size):Z[i]! =Z[i]:=by simp[h]
theorem aEk {z:List A} {Z:Array aW} {n nb:Nat} {ρ:Env} {m:Nat->Nat} (hz:z.map (A.den ρ m)=Z.toList) (cb:∀a∈z,A.ok n nb ρ a) (h0:0<z.length) (len:Nat):
 (∀a∈OS z len,A.ok n nb ρ a)/\((OS z len).map (A.den ρ m)).toArray=(aJD (len*Z.size)).map λi=>Z[i% Z.size]! :=by
 have hl:Z.size=z.length:=by have:=congrArg pE hz;simpa using this.symm
 have hi:∀i,i% z.length<z.length:=λi=>Pj _ h0;refine⟨λa ha=>?_,?_⟩
 ·obtain⟨i,_,rfl⟩:=List.mem_map.1 ha;rw[pF (hi i)];exact cb _ (IE _)
 ·apply UG;rw[AG,aeg];simp only[OS,pD,hl];refine kU λi _=>?_;simp only[Pm];have h1:i% z.length<Z.size:=by rw[hl];exact hi i
  rw[ail h1,pF (hi i)];simp only[D1];have h2:=congrArg (λl=>l[i% z.length]?) hz;simp only[se,pF (hi i),Az]at h2;rw[Px,Pn h1]at h2;simpa using h2
theorem ar3 {t:br} {len n:Nat} {ρ:Env} {m:Nat->Nat} {bl:List aJ} {parts:List (Nat×V)} {vals:Array (Nat×aW)} {cs:List A} {e:br} (h:Xn P t len parts=some (cs,e)) (hr:PO n bl.length ρ m parts vals.toList):
 (∀a∈cs,A.ok n bl.length ρ a)/\∀w,(apv t len vals).run P w= .ok (.slice (some ⟨w.heap.size,0,none⟩) len len) (w.alloc (.cells (cs.map (A.den ρ m)).toArray e)):=by
 unfold Xn at h;cases h1:kr P t with
 |none=>simp[h1]at h
 |some cW=>
  simp only[h1]at h;cases h2:gT P cW with
  |none=>simp[h2]at h
  |some s=>
   cases h3:ql P cW with
   |none=>simp[h2,h3]at h
   |some z=>
    simp only[h2,h3]at h;cases hc:(aP z.length s&&dX 0 s&&cO (len*s) 16777216)with
    |false=>simp[hc]at h
    |true=>
     simp only[hc,cond_true]at h;simp only[bx]at hc;have c1:=b1 hc.1.1;have bQ:=uR hc.1.2;have cF:=gU hc.2;cases h4:Bb (λi=>some (i*s,s)) (OS z len) parts with
     |none=>simp[h4]at h
     |some l=>
      simp only[h4,bj,eO]at h;obtain⟨rfl,rfl⟩:=h;obtain⟨inf,oj,hi,km,n1⟩:=Lw h3;have ub:=CD n1 n bl.length ρ m;have Hm:=aEk (Z:=oj.cells) ub.2 ub.1 (by omega) len;have G4:oj.cells.size=s:=by have:=congrArg pE ub.2;simp at this;omega
      obtain⟨g1,g2⟩:=QS (m:=m) h4 Hm.1 hr;refine⟨g1,λw=>?_⟩;rw[Hm.2,G4]at g2;have hn:¬(16777216<len*s):=by omega
      by_cases ph:len=0
      ·subst ph;have g3:Instr.fill (λi=>some (i*s,s)) ((aJD (0*s)).map λi=>(#[]:Array aW)[i% (#[]:Array aW).size]!) vals.toList=some (l.map (A.den ρ m)).toArray:=by
        rw[<-g2];congr 1;simp
       simp[apv,gJ (jg h1),kq h2]at g3⊢;simp[g3,newRow]
      ·have dA:¬(len*s=0):=by
        intro h0;rcases Nat.mul_eq_zero.1 h0 with h0|h0<;>omega
       have Ro:¬(s=0):=by omega
       simp[apv,gJ (jg h1),kq h2,hn,dA,ph,Ro,zeroValue,typeInfo,hi,km,G4,g2,newRow]
theorem aIO {Z:Array aW} {k:Nat} (h:0<Z.size):∃r:List aW,pI Z (k+1)=(Z.toList++r).toArray:=by
 refine⟨(pI Z (k+1)).toList.drop Z.size,?_⟩;apply UG;have:(pI Z (k+1)).toList.take Z.size=Z.toList:=by
  apply aeh;intro i;rw[tI];by_cases hi:i<Z.size
  ·have h1:i<(k+1)*Z.size:=IB hi (by rw[AF];omega);rw[if_pos hi];simp only[pI,AG,aeg,se,apt h1,Az,ad2 hi];rw[ail hi,Px,Pn hi]
  ·rw[if_neg hi,aei (by simpa using hi)]
 conv=>lhs;rw[<-oi Z.size (pI Z (k+1)).toList,this]
theorem JI {w:aG} {n:Nat} {ρ:Env} {m:Nat->Nat} {bl:List aJ} {b off k:Nat} {cs:List A} (hm:Mem w0 ρ m bl w) (hb:dj n bl.length ρ bl) (h:yp bl b off k=some cs):
 cs.length=k/\(∀a∈cs,A.ok n bl.length ρ a)/\∀j v,(cs.map (A.den ρ m))[j]?=some v->w.cell? ((⟨m b,off,none⟩:Addr).add j)=some v:=by
 unfold yp at h;cases aZ:bl[b]? with
 |none=>simp[aZ]at h
 |some q=>
  obtain⟨C,t⟩:=q;simp only[aZ]at h;cases hc:(cO (off+k) C.length&&cl C)with
  |false=>simp[hc]at h
  |true=>
   simp only[hc,cond_true,bj]at h;simp only[bx]at hc;have hle:=gU hc.1;subst h;obtain⟨_,_,r,_,h2⟩:=hm.gZ b C t aZ hc.2;refine⟨by simp;omega,λa ha=>hb _ (fC aZ) a (rh (nd ha)),λj v aM=>?_⟩;rw[kX];rw[se,tI]at aM;split at aM
   ·rename_i aM7;rw[List.getElem?_drop]at aM;cases ak:C[off+j]? with
    |none=>simp[ak]at aM
    |some y=>
     simp only[ak,Az,bj]at aM;have hlt:off+j<C.length:=(List.getElem?_eq_some_iff.1 ak).1;simp only[nK,h2,xR,xS,if_false,List.getElem?_toArray];rw[AA (by simpa using hlt),se,ak];simp[aM]
   ·simp at aM
theorem ais {n:Nat} {ρ:Env} {m:Nat->Nat} {tm:List V} {bl:List aJ} {a:Act} {w:aG} {G:fe} {K:Act->aG->Prop} {k:iz} {i:TypeInfo} {e:br} {z:List A} {d:Option Tmp} {ik tA len:Nat} {olds news:List A} {Z:Array aW}
 (h:R w0 n ρ m tm bl a w) (aA:∀a∈olds,A.ok n bl.length ρ a) (hn:∀a∈news,A.ok n bl.length ρ a) (hz:∀a∈z,A.ok n bl.length ρ a) (G4:z.map (A.den ρ m)=Z.toList) (ag:(QZ i e z d ik tA len olds news n tm bl k).holds S L G ρ) (af:ml S L w0 k n bl.length ρ m G K):
 (ik+len<=1000000/\apu (ik+len) tA*i.bytes<=281474976710656/\tA<ik+len/\0<len)/\
 K (a.put d (.slice (some ⟨w.heap.size,0,none⟩) (ik+len) (grownCap w (ik+len) tA e))) (w.drew.alloc (.cells ((olds.map (A.den ρ m)).toArray++(news.map (A.den ρ m)).toArray++pI Z (grownCap w (ik+len) tA e-(ik+len))) e)):=by
 unfold QZ at ag;cases hc:(cO (ik+len) 1000000&&cO (apu (ik+len) tA*i.bytes) 281474976710656&&dX tA (ik+len)&&dX 0 len&&aP z.length i.size&&dX 0 i.size&&cl (olds++news)&&cl (olds++news++z))with
 |false=>rw[hc]at ag;exact ag.elim
 |true=>
  simp only[hc,cond_true,T.holds]at ag;simp only[bx]at hc;obtain⟨⟨hc,uf⟩,tf⟩:=hc;have c1:=gU hc.1.1.1.1.1;have bQ:=gU hc.1.1.1.1.2;have cF:=uR hc.1.1.1.2;have dk:=uR hc.1.1.2;have fN:=b1 hc.1.2;have hQ:=uR hc.2;refine⟨⟨c1,bQ,cF,dk⟩,?_⟩;have hsz:Z.size=z.length:=by have:=congrArg pE G4;simpa using this.symm
  have td:ik+len<=grownCap w (ik+len) tA e:=by unfold grownCap aJE;exact LG _ _
  generalize grownCap w (ik+len) tA e=c at td⊢;have wS:R w0 n ρ m tm bl a w.drew:=⟨h.t,h.d,h.b,h.bK.grow (Uv (sW w))⟩;by_cases Rc:c=ik+len
  ·subst Rc;have Z3:pI Z (ik+len-(ik+len))=#[]:=by simp[pI]
   rw[Z3];have hR:=R.row (t:=e) (cs:=olds++news) (ex:=[]) (open_:=false) wS (λx hx=>(List.mem_append.1 hx).elim (aA x) (hn x)) (λ_=>rfl) uf d (v:= .w (.one (.slc bl.length 0 (ik+len) (ik+len)))) (x:= .slice (some ⟨w.heap.size,0,none⟩) (ik+len) (ik+len)) (by simp[V.ok,W.ok,A.ok]) (by
    show Pr (some ⟨w.heap.size,0,none⟩) _ _=_;simp[W.den,A.den,pz])
   have:=af n ρ _ _ _ G _ _ (e6.alloc n ρ m bl (olds++news,(e,false)) w.heap.size) (gr.refl _ _) hR ag.1;simpa [jE]using this
  ·obtain⟨q,ak⟩:∃q,c-(ik+len)=q+1:=⟨c-(ik+len)-1,by omega⟩;rw[ak];obtain⟨r,hr⟩:=aIO (Z:=Z) (k:=q) (by omega);rw[hr,<-G4];have hR:=R.row (t:=e) (cs:=olds++news++z) (ex:=r) (open_:=true) wS (λx hx=>(List.mem_append.1 hx).elim (λhx=>(List.mem_append.1 hx).elim (aA x) (hn x)) (hz x)) (λh=>by cases h) tf d (v:= .sL bl.length (ik+len) (ik+len+1)) (x:= .slice (some ⟨w.heap.size,0,none⟩) (ik+len) c) (by simp[V.ok]) ⟨c,by omega,by
    rw[pz];rfl⟩
   have:=af n ρ _ _ _ G _ _ (e6.alloc n ρ m bl (olds++news++z,(e,true)) w.heap.size) (gr.refl _ _) hR ag.2;simpa [jE]using this
theorem ary {n:Nat} {ρ:Env} {m:Nat->Nat} {tm:List V} {bl:List aJ} {a:Act} {w:aG} {G:fe} {o:Oper} {K:Act->aG->Prop} {Q:Exit->Act->aG->Prop} {k:iz} {c:Call} {s x:rf} {t t':br}
 (h:R w0 n ρ m tm bl a w) (gR:o.op= .call c) (n1:c.callee= .builtin .append) (hE:c.args.toList=[s,x]) (oB:c.argTypes.toList=[t,t'])
 (ag:(W0 P o.dst t t' (cp tm s) (cp tm x) n tm bl k).holds S L G ρ) (af:ml S L w0 k n bl.length ρ m G K):o.wp P a w K Q:=by
 have b7:c.args=#[s,x]:=by rw[<-lO (xs:=c.args),hE]
 have a2:c.argTypes=#[t,t']:=by rw[<-lO (xs:=c.argTypes),oB]
 have hex:execOp a.eval o=(do pure (mh (<-LP #[t,t'] o.type #[a.eval s,a.eval x]))):=by
  simp[execOp,gR,resolve,n1,b7,a2,invoke,builtin]
 have CY:∀v w',(LP #[t,t'] o.type #[a.eval s,a.eval x]).run P w= .ok v w'->K (a.put o.dst v) w'->o.wp P a w K Q:=λv w' h1 h2=>by
  unfold o4;simp only[hex,jl,h1,jF,kv];exact h2
 have hs:=cS h.t s;have hx:=cS h.t x;unfold W0 at ag;split at ag
 ·rename_i b' kP qY kK e C0 CX;rw[C0]at hx;have dN:a.eval x= .slice (some ⟨m b',kP,none⟩) qY kK:=hx.2;split at ag
  ·rename_i i z hi hz;split at ag
   ·rename_i news awn;obtain⟨a6,gd,ur⟩:=JI h.bK h.b awn;cases RC:aP t t' with
    |false=>simp[RC,T.holds]at ag
    |true=>
     have RC:=b1 RC;subst RC;simp only[IC,cU,cond_false]at ag;obtain⟨inf,oj,qL,km,ub⟩:=Lw hz;rw[hi]at qL;simp only[bj]at qL;subst qL;have ub:=CD ub n bl.length ρ m;cases rH:aad (cp tm s)with
     |true=>
      simp only[rH,cond_true]at ag;have u5:a.eval s= .slice none 0 0:=by
       unfold aad at rH;split at rH
       ·rename_i hv;rw[hv]at hs;exact hs.2
       ·cases rH
      obtain⟨⟨c1,bQ,cF,dk⟩,fN⟩:=ais (Z:=oj.cells) h (λ_ h=>by simp at h) gd ub.1 ub.2 ag af;simp only[zd]at c1 bQ cF dk fN;refine CY _ _ ?_ fN;rw[u5,dN,run_append_nil w t _ e i oj (jg CX) hi km ⟨m b',kP,none⟩ qY kK (news.map (A.den ρ m)) (by simpa using a6) ur dk (by omega) (by rw[nextslicecap_zero dk]at bQ;exact bQ)];simp
     |false=>
      simp only[rH,cond_false]at ag;split at ag
      ·rename_i b off len cap uh;rw[uh]at hs;have u5:a.eval s= .slice (some ⟨m b,off,none⟩) len cap:=hs.2;split at ag
       ·rename_i olds hold;obtain⟨o1,w7,alV⟩:=JI h.bK h.b hold;obtain⟨⟨c1,bQ,cF,dk⟩,fN⟩:=ais (Z:=oj.cells) h w7 gd ub.1 ub.2 ag af;refine CY _ _ ?_ fN;rw[u5,dN,run_append_grow w t _ e i oj (jg CX) hi km ⟨m b,off,none⟩ len cap (olds.map (A.den ρ m)) (by simpa using o1) alV ⟨m b',kP,none⟩ qY kK (news.map (A.den ρ m)) (by simpa using a6) ur cF (by omega) bQ]
       ·exact ag.elim
      ·rename_i b len lo uh;rw[uh]at hs;obtain⟨nV,EY,u5⟩:=hs.2;split at ag
       ·rename_i cs ty aZ;cases hc:(cO (len+qY) lo&&cO ((len+qY)*i.size) cs.length&&dX 0 (qY*i.size)&&cl cs&&cl (cs.take (len*i.size)++news++cs.drop (len*i.size+news.length)))with
        |false=>rw[hc]at ag;exact ag.elim
        |true=>
         simp only[hc,cond_true]at ag;simp only[bx]at hc;obtain⟨⟨hc,uf⟩,tf⟩:=hc;have c1:=gU hc.1.1;have bQ:=gU hc.1.2;have cF:=uR hc.2;obtain⟨w',jv,CU⟩:=h.bK.storeCells (P:=P) (off:=len*i.size) (l:=news) h.b gd aZ (by rw[a6,<-AH];exact bQ) uf tf;have cb:∀a∈cs.take (len*i.size)++news++cs.drop (len*i.size+news.length),A.ok n bl.length ρ a:=λa ha=>by
          have dD:=h.b _ (fC aZ);rcases List.mem_append.1 ha with ha|ha
          ·rcases List.mem_append.1 ha with ha|ha
           ·exact dD a (nd ha)
           ·exact gd a ha
          ·exact dD a (rh ha)
         have M4:b<bl.length:=(List.getElem?_eq_some_iff.1 aZ).1;refine CY (.slice (some ⟨m b,0,none⟩) (len+qY) nV) w' ?_ (af n ρ m _ _ G _ w' ⟨bW _,agree.refl _ _,by rw[lz];exact bW _,λ_ _=>rfl⟩ (gr.refl _ _) ⟨?_,by rw[put_defers];exact h.d,h.b.set cb,CU⟩ ag)
         ·have E1:=UH (P:=P) w i.size qY ⟨m b',kP,none⟩ qY kK (news.map (A.den ρ m)) (by simpa using a6) ur;have hle:len+qY<=nV:=by omega
          rw[u5,dN];simp[LP,gJ (jg CX),sizeOf,typeInfo,hi,UI,hle,E1,kX,jv]
         ·rw[lz];exact eW.put h.t o.dst M4 ⟨nV,by omega,rfl⟩
       ·exact ag.elim
      ·exact ag.elim
   ·exact ag.elim
  ·exact ag.elim
 ·exact ag.elim
theorem Th {n:Nat} {ρ:Env} {m:Nat->Nat} {tm:List V} {bl:List aJ} {a:Act} {w:aG} {G:fe} {o:Oper} {K:Act->aG->Prop} {Q:Exit->Act->aG->Prop} {k:iz}
 (dy:iM S P gl w0 cal) (hg:gM gl w0) (h:R w0 n ρ m tm bl a w) (ag:(Dv P cal gl bl tm o n λv n'=>k n' (hG tm o.dst v) bl).holds S L G ρ) (af:ml S L w0 k n bl.length ρ m G K):o.wp P a w K Q:=by
 obtain⟨ae,n',v,hn,ha,⟨hv,val,hr,ak⟩,JP⟩:=acs (L:=L) dy h.b hg ⟨w,h.bK⟩ h.t o G _ ag;have hl:e6 n bl.length ρ m n' bl.length ae m:=⟨hn,ha,bW _,λ_ _=>rfl⟩;have hR:∀w',w.Extends w'->R w0 n' ae m (hG tm o.dst v) bl (a.put o.dst val) w':=λw' he=>
  ⟨eW.put (h.t.ext ha hn (bW _) (λ_ _=>rfl)) o.dst hv hr,by rw[put_defers];exact h.d,h.b.ext ha hn (bW _),(h.bK.grow he).sP h.b ha⟩
 unfold o4;rcases ak w h.bK with ak|⟨f,args,ak,hc⟩
 ·rw[ak];exact af n' ae m _ bl G _ w hl (gr.refl _ _) (hR w (sW w)) JP
 ·rw[ak];refine hc.mono λe sS ⟨he,hx⟩=>?_;subst he;exact af n' ae m _ bl G _ sS hl (gr.refl _ _) (hR sS hx) JP
theorem asI {n nb:Nat} {ρ:Env} {m:Nat->Nat} {v:V} {f:Nat} {lp:List A} {x:aW} (h:XC v=some (f,lp)) (hv:v.ok n nb ρ) (hr:v.rel ρ m x):
 (∀y∈lp,A.ok n nb ρ y)/\x= .func (.func f) #[] (lp.map (A.den ρ m)).toArray:=by
 unfold XC at h;split at h
 ·simp only[bj,eO]at h;obtain⟨rfl,rfl⟩:=h;exact⟨hv,hr⟩
 ·rename_i ta a b;cases hc:(aP a.size 0&&aP b.size 0)with
  |false=>simp[hc]at h
  |true=>
   simp only[hc,cond_true,bj,eO]at h;obtain⟨rfl,rfl⟩:=h;simp only[bx]at hc;have az:=D6 (b1 hc.1);have aI:=D6 (b1 hc.2);subst az;subst aI;have hr:x= .func (.func ta) #[] #[]:=hr;exact⟨λy hy=>by simp at hy,by rw[hr];rfl⟩
 ·cases h
end
end Go.b9
namespace Go.b9
open M
theorem cM.row {sh:List aQ} {row:List Int} (hs:qh sh=true) (h:cM sh row):acB row:=by
 unfold qh at hs;simp only[bx]at hs;obtain⟨⟨h0,MQ⟩,h2⟩:=hs;refine⟨by rw[h.len];exact gU h0,?_⟩;have hp:=VT;clear h0 MQ;induction sh generalizing row with
 |nil=>
  cases row with
  |nil=>intro z hz;simp at hz
  |cons _ _=>exact h.elim
 |cons c sh ih=>
  cases row with
  |nil=>exact h.elim
  |cons x r=>
   simp only[apw,bx]at h2;intro z hz;rcases List.mem_cons.1 hz with rfl|hz
   ·have h3:=h.1;cases c with
    |int k lo hi=>
     have h4:=h2.1;simp only[bx,decide_eq_true_eq]at h4;simp only[aQ.hA]at h3;omega
    |str=>simp only[aQ.hA]at h3;omega
    |bool=>simp only[aQ.hA]at h3;omega
   ·exact ih h.2 h2.2 z hz
theorem Gb {sh:List aQ} {rows:List (List Int)} (hs:qh sh=true) (hl:rows.length<=1073741824) (h:∀row∈rows,cM sh row):rc rows<=b6:=
 uP (by unfold maxLen;omega) λrow hr=>(h row hr).row hs
theorem aQ.val_one (c:aQ) (z:Int):(c.val z).oneCell'=true:=by cases c<;>rfl
theorem amD:∀{sh:List aQ} {row:List Int},∀u∈dS sh row,u.oneCell'=true
 |[],_,u,h=>by simp[dS]at h
 |_::_,[],u,h=>by simp[dS]at h
 |c::sh,z::r,u,h=>by
  simp only[dS,oW]at h;rcases h with rfl|h
  ·exact aQ.val_one c z
  ·exact amD u h
theorem Yj {sh:List aQ} {rows:List (List Int)}:∀u∈cj sh rows,u.oneCell'=true:=λu h=>by
 obtain⟨row,_,h⟩:=List.mem_flatMap.1 h;exact amD u h
theorem o8.flat {cells:Array aW} {off:Nat} {sh:List aQ} {rows:List (List Int)} (h:o8 cells off sh rows) {j:Nat} {v:aW} (aM:(cj sh rows)[j]?=some v):cells[off+j]?=some v:=by
 obtain⟨h1,pre,post,h2,h3⟩:=h;have hlt:=(List.getElem?_eq_some_iff.1 aM).1;rw[<-Px,h2,mF,LF (by omega),AA (by omega)];rw[show off+j-pre.length=j by omega];exact aM
theorem o8.sub {cells:Array aW} {off:Nat} {sh:List aQ} {rows:List (List Int)} (h:o8 cells off sh rows) (a k:Nat) (ha:a<=rows.length):o8 cells (off+a*sh.length) sh ((rows.drop a).take k):=by
 obtain⟨h1,pre,post,h2,h3⟩:=h;refine⟨λrow hr=>h1 row (rh (nd hr)),pre++cj sh (rows.take a),cj sh ((rows.drop a).drop k)++post,?_,?_⟩
 ·rw[h2];have:rows=rows.take a++((rows.drop a).take k++(rows.drop a).drop k):=by rw[oi,oi]
  conv=>lhs;rw[this]
  simp only[zC,mF]
 ·rw[gY,h3,qG λrow hr=>h1 row (nd hr),sf,F2 ha]
section
variable {S:Nat->List Int->List Int->Prop} {L:V->Env->Prop} {n:Nat} {ρ:Env} {m:Nat->Nat} {bl:List aJ} {gl:fP} {w0:eL} {P:b4}
theorem RL {e:bH}:aC S L (Hv e) n ρ λae n' l=>l.bN n'/\(0<=l.den ae/\l.den ae<=1)/\e.den ρ=decide (l.den ae=1):=by
 intro A k af;cases h:e.den ρ with
 |true=>exact⟨_,n+1,_,tJ _,agree.dI _ _ _,⟨I.hj (AE n),by simp[I.db,mA],by simp[I.db,mA]⟩,af 1 (by decide) (by decide) (by simp[h])⟩
 |false=>exact⟨_,n+1,_,tJ _,agree.dI _ _ _,⟨I.hj (AE n),by simp[I.db,mA],by simp[I.db,mA]⟩,af 0 (by decide) (by decide) (by simp[h])⟩
theorem asz {nb:Nat} {c:aQ} {a:A} (ha:a.ok n nb ρ):aC S L (Xw c a) n ρ λae n' l=>l.bN n'/\(c.hA.1<=l.den ae/\l.den ae<=c.hA.2)/\c.val (l.den ae)=a.den ρ m:=by
 unfold Xw;split
 ·refine eM λhc=>aC.pure ?_;simp only[bx,decide_eq_true_eq]at hc;obtain⟨⟨h1,h2⟩,h3⟩:=hc;have h4:=ha.2;refine⟨ha.1,⟨?_,?_⟩,?_⟩
  ·simp only[aQ.hA];omega
  ·simp only[aQ.hA];omega
  ·simp only[aQ.val,A.den,h1]
 ·exact aC.pure ⟨ha.1,ha.2,rfl⟩
 ·split
  ·rename_i v;refine aC.pure ⟨I.dF _ _,?_,?_⟩
   ·simp only[aQ.hA,I.bq];cases v<;>decide
   ·simp only[aQ.val,A.den,bH.den,I.bq];cases v<;>rfl
  ·rename_i e _;exact RL.mono λae n' l _ _ ⟨h1,h2,h3⟩=>⟨h1,h2,by simp only[aQ.val,A.den,h3]⟩
 ·exact aC.fail
theorem KU {nb:Nat}:∀{sh:List aQ} {l:List A} {n:Nat} {ρ:Env},(∀a∈l,A.ok n nb ρ a)->aC S L (DF sh l) n ρ λae n' ls=>(∀x∈ls,I.bN n' x)/\cM sh (ls.map (·.den ae))/\dS sh (ls.map (·.den ae))=l.map (A.den ρ m)
 |[],[],n,ρ,_=>aC.pure ⟨λ_ h=>by simp at h,trivial,rfl⟩
 |c::sh,a::r,n,ρ,h=>by
  have h0:=h a (by simp);refine(asz (m:=m) h0).bind λaN a6 x hn ha ⟨g1,g2,g3⟩=>(KU (nb:=nb) (sh:=sh) (l:=r) λb hb=>(h b (eI _ hb)).ext ha hn (bW _)).bind λb5 gd ls gm eb ⟨k1,k2,k3⟩=>aC.pure ⟨λy hy=>?_,?_,?_⟩
  ·rcases List.mem_cons.1 hy with rfl|hy
   ·exact g1.mono gm
   ·exact k1 y hy
  ·simp only[du];exact⟨by rw[I.cf eb g1];exact g2,k2⟩
  ·simp only[du,dS,I.cf eb g1,g3,k3];rw[yG (λb hb=>h b (eI _ hb)) ha (λ_ _=>rfl)]
 |[],_::_,_,_,_=>aC.fail
 |_::_,[],_,_,_=>aC.fail
theorem Mm {w:Nat}:∀{k:Nat} {l:List A},l.length=k*w->(rv w k l).length=k/\(rv w k l).flatten=l
 |0,l,h=>by
  have:l=[]:=zb (by omega);subst this;exact⟨rfl,rfl⟩
 |k+1,l,h=>by
  rw[AF]at h;have ih:=Mm (w:=w) (k:=k) (l:=l.drop w) (by simp;omega);exact⟨by simp[rv,ih.1],by simp[rv,ih.2]⟩
theorem Mn {w:Nat}:∀{k:Nat} {l:List A},∀row∈rv w k l,∀a∈row,a∈l
 |0,l,row,h,a,ha=>by simp[rv]at h
 |k+1,l,row,h,a,ha=>by
  simp only[rv,oW]at h;rcases h with rfl|h
  ·exact nd ha
  ·exact rh (Mn row h a ha)
theorem L8 {nb:Nat} {sh:List aQ} (l3:qh sh=true):∀{rs:List (List A)} {n:Nat} {ρ:Env} {c:I},(∀row∈rs,∀a∈row,A.ok n nb ρ a)->c.bN n->(0<=c.den ρ/\c.den ρ<=b6)->(∀row∈ao (c.den ρ),cM sh row)->(ao (c.den ρ)).length+rs.length<=1073741824->
 aC S L (Ek sh rs c) n ρ λae n' e3=>e3.bN n'/\(0<=e3.den ae/\e3.den ae<=b6)/\∃eF,ao (e3.den ae)=ao (c.den ρ)++eF/\eF.length=rs.length/\(∀row∈eF,cM sh row)/\cj sh eF=rs.flatten.map (A.den ρ m)
 |[],n,ρ,c,_,h1,h2,_,_=>aC.pure ⟨h1,h2,[],by simp,rfl,λ_ h=>by simp at h,rfl⟩
 |row::rs,n,ρ,c,h0,h1,h2,h3,h4=>by
  refine(KU (nb:=nb) (m:=m) (sh:=sh) (l:=row) (h0 row (by simp))).bind λaN a6 ls hn ha ⟨g1,g2,g3⟩=>?_;have az:c.den aN=c.den ρ:=I.cf ha h1;have hf:bM 23 ((c::ls).map (·.den aN))=rc (ao (c.den ρ)++[ls.map (·.den aN)]):=by
   simp only[du,bM,az]
  simp only[ke]at h4;have ug:∀r∈ao (c.den ρ)++[ls.map (·.den aN)],cM sh r:=λr hr=>by
   rcases List.mem_append.1 hr with hr|hr
   ·exact h3 r hr
   ·simp at hr;subst hr;exact g2
  have hb:rc (ao (c.den ρ)++[ls.map (·.den aN)])<=b6:=Gb l3 (by simp;omega) ug;refine(iQ (by rw[hf];exact kc _) (by rw[hf];exact hb)).bind λb5 gd e3 gm eb ⟨k1,k2⟩=>?_;rw[hf]at k2;have aI:ao (e3.den b5)=ao (c.den ρ)++[ls.map (·.den aN)]:=by rw[k2,kS]
  have aO:=ha.trans eb hn;refine(L8 (nb:=nb) (rs:=rs) (c:=e3) l3 (λr hr a G7=>(h0 r (eI _ hr) a G7).ext aO (nf hn gm) (bW _)) k1 (by rw[k2];exact⟨kc _,hb⟩) (by rw[aI];exact ug) (by rw[aI];simp;omega)).mono λiL ur cF CV wR ⟨cG,cC,eF,dE,gP,gW,ie⟩=>⟨cG,cC,ls.map (·.den aN)::eF,?_,by simp[gP],λr hr=>?_,?_⟩
  ·rw[dE,aI];simp
  ·rcases List.mem_cons.1 hr with rfl|hr
   ·exact g2
   ·exact gW r hr
  ·show dS sh (ls.map (·.den aN))++cj sh eF=_;rw[ie,g3,oh,jE]
   congr 1
   refine kU λa Ra=>A.nW (n:=n) (nb:=nb) ?_ aO (λ_ _=>rfl);obtain⟨r,hr,G7⟩:=List.mem_flatten.1 Ra;exact h0 r (eI _ hr) a G7
def aq2 (P:b4) (tE:br) (sh:List aQ) (X:aW) (w:aG) (old:List (List Int)) (ae:Env) (n':Nat) (p:I×I):Prop:=
 p.1.bN n'/\p.2.bN n'/\(0<=p.1.den ae/\p.1.den ae<=b6)/\∃eF,ao (p.1.den ae)=old++eF/\p.2.den ae=eF.length/\(∀row∈eF,cM sh row)/\old.length+eF.length<=1073741824/\Src P sh.length tE X eF.length (cj sh eF) w
theorem anm {sh:List aQ} (l3:qh sh=true) {w:aG} (hb:dj n bl.length ρ bl) (hw:Mem w0 ρ m bl w) {tE:br} {x:V} {X:aW} (hx:x.ok n bl.length ρ) (cg:x.rel ρ m X) {base:I} (ua:base.bN n)
 (aiX:0<=base.den ρ/\base.den ρ<=b6) (zG:∀row∈ao (base.den ρ),cM sh row):aC S L (TG P tE sh bl x base) n ρ (aq2 P tE sh X w (ao (base.den ρ))):=by
 unfold TG;split
 ·rename_i b off len cap;split
  ·rename_i cs cW dD J1;obtain⟨c1,bQ,cF⟩:=JI hw hb dD;refine jS λaf=>?_;simp only[du,gQ,ay,I.bq]at af;have oz:=Mm (w:=sh.length) (k:=len) c1;refine(L8 (nb:=bl.length) (m:=m) l3 (rs:=rv sh.length len cs) (c:=base) (λrow hr a ha=>bQ a (Mn row hr a ha)) ua aiX zG (by rw[oz.1];omega)).bind λaN a6 e3 hn ha ⟨cG,cC,eF,dE,gP,gW,ie⟩=>aC.pure ⟨cG,I.dF _ _,cC,eF,dE,?_,gW,by rw[gP,oz.1];omega,?_⟩
   ·rw[I.bq,gP,oz.1]
   ·have cg:X= .slice (some ⟨m b,off,none⟩) len cap:=cg;rw[oz.2]at ie;rw[cg,ie,gP,oz.1];exact Src.ofSlice w (jg J1) _ _ _ _ (by simpa using c1) cF (λu hu=>by
     obtain⟨a,ha,rfl⟩:=List.mem_map.1 hu;exact A.S0 (bQ a ha))
  ·exact aC.fail
 ·rename_i b bG o ro len cap;split
  ·rename_i hk off code fO kind dQ cW aZ J1;refine eM λhc=>jS λmX=>jS λrG=>?_;simp only[bx]at hc;obtain⟨⟨⟨c1,bQ⟩,cF⟩,dk⟩:=hc;have c1:0<kind:=gU c1;have bQ:=FJ bQ;have cF:=I.beq_eq cF;have dk:=b1 dk;subst bQ;subst cF;subst dk;simp only[du,gQ,ay,I.den_add]at mX rG;have rK:(A.sl b sh.length o ro len cap).ok n bl.length ρ:=hx;obtain⟨ptr,az,aI,cn⟩:=xH (m:=m) rK;have cg:X=(A.sl b sh.length o ro len cap).den ρ m:=cg;rw[az]at cg;obtain⟨aj,⟨ah,au,de,iK⟩,⟨jz,mc,me,mf⟩,⟨mB,mb⟩,hW,jy⟩:=rK;have pk:=hw.rws b sh o code fO kind dQ aZ (by omega);have lI:∀row∈ao (code.den ρ),cM sh row:=λrow hr=>by
    rcases mE (fO.den ρ) 0 with h|h
    ·rw[pk.1 h]at hr;simp at hr
    ·obtain⟨_,cells,ma,fz,_,⟨_,g3⟩,_⟩:=pk.2 h;exact g3.1 row hr
   have NI:∀row∈(((ao (code.den ρ)).drop (ro.den ρ).toNat).take (len.den ρ).toNat),cM sh row:=λrow hr=>lI row (rh (nd hr));have hlen:(((ao (code.den ρ)).drop (ro.den ρ).toNat).take (len.den ρ).toNat).length=(len.den ρ).toNat:=by simp;omega
   have uc:bM 22 ([code,ro,ro.add len].map (·.den ρ))=rc (((ao (code.den ρ)).drop (ro.den ρ).toNat).take (len.den ρ).toNat):=by
    simp only[du,gQ,bM,I.den_add];have:(ro.den ρ+len.den ρ).toNat-(ro.den ρ).toNat=(len.den ρ).toNat:=by omega
    rw[this]
   have JD:Src P sh.length tE X (((ao (code.den ρ)).drop (ro.den ρ).toNat).take (len.den ρ).toNat).length (cj sh (((ao (code.den ρ)).drop (ro.den ρ).toNat).take (len.den ρ).toNat)) w:=by
    rw[cg];by_cases dC:cap.den ρ<0
    ·have h0:=hW dC;rw[aI dC,if_pos dC,h0];simp only[Int.toNat_zero,qp];exact Src.ofNil w (jg J1) 0
    ·rw[cn (by omega),if_neg dC,hlen];refine Src.ofSlice w (jg J1) _ _ _ _ (by rw[qG NI,hlen]) (λj u hu=>?_) Yj;rw[kX];rcases mE (fO.den ρ) 0 with h|h
     ·rw[pk.1 h]at hu;simp[cj]at hu
     ·obtain⟨_,cells,ma,fz,g1,⟨_,g3⟩,_⟩:=pk.2 h;have:=(g3.sub (ro.den ρ).toNat (len.den ρ).toNat (by omega)).flat hu;simp only[nK,g1,xR,xS,if_false];exact this
   generalize ud:(((ao (code.den ρ)).drop (ro.den ρ).toNat).take (len.den ρ).toNat)=mid at NI hlen uc JD;have p4:rc mid<=b6:=Gb l3 (by omega) NI;refine(iQ (by rw[uc];exact kc _) (by rw[uc];exact p4)).bind λaN a6 s ia gk ⟨g1,g2⟩=>?_;rw[uc]at g2;have EI:base.den aN=base.den ρ:=I.cf gk ua;have l0:bM 24 ([base,s].map (·.den aN))=rc (ao (base.den ρ)++mid):=by
    simp only[du,gQ,bM,EI,g2,kS]
   have jM:∀row∈ao (base.den ρ)++mid,cM sh row:=λrow hr=>(List.mem_append.1 hr).elim (zG row) (NI row);have qK:rc (ao (base.den ρ)++mid)<=b6:=Gb l3 (by simp;omega) jM;refine(iQ (by rw[l0];exact kc _) (by rw[l0];exact qK)).bind λb5 gd c gm eb ⟨k1,k2⟩=>aC.pure ⟨k1,de.mono (nf ia gm),?_,mid,?_,?_,NI,by omega,JD⟩
   ·rw[k2,l0];exact⟨kc _,qK⟩
   ·rw[k2,l0,kS]
   ·rw[I.cf (gk.trans eb ia) de,hlen];omega
  ·exact aC.fail
 ·rename_i l;split
  ·rename_i hu;refine eM λJG=>?_;have awT:∃lo hi,sh=[.int .u8 lo hi]/\lo=0/\hi=255:=by
    unfold Qh at JG;split at JG
    ·simp only[bx,decide_eq_true_eq]at JG;exact⟨_,_,rfl,JG.1,JG.2⟩
    ·cases JG
   obtain⟨lo,hi,rfl,rfl,rfl⟩:=awT;have hl:(A.str l).ok n bl.length ρ:=hx;have cg:X= .string (en (bF (l.den ρ))):=cg;have awe:=LW hl.2.2;unfold m4 at awe;refine(iQ (op:=0) (args:=[l]) (LB _) (by show((bF (l.den ρ)).length:Int)<=_;omega)).bind λaN a6 len ia gk ⟨g1,g2⟩=>jS λaf=>?_;have g2:len.den aN=(bF (l.den ρ)).length:=g2;have EI:base.den aN=base.den ρ:=I.cf gk ua;have el:l.den aN=l.den ρ:=I.cf gk hl.1;simp only[du,gQ,ay,EI,g2]at af;have uc:bM 27 ([l].map (·.den aN))=rc ((bF (l.den ρ)).map λb=>[(b.toNat:Int)]):=by
    simp only[du,gQ,bM,el]
   have ud:∀row∈((bF (l.den ρ)).map λb=>[(b.toNat:Int)]),cM [.int .u8 0 255] row:=λrow hr=>by
    obtain⟨b,_,rfl⟩:=List.mem_map.1 hr;have:=b.toNat_lt;refine⟨⟨?_,?_⟩,trivial⟩
    ·simp only[aQ.hA];omega
    ·simp only[aQ.hA];omega
   have JW:((bF (l.den ρ)).map λb=>[(b.toNat:Int)]).length=(bF (l.den ρ)).length:=by simp
   have lG:cj [.int .u8 0 255] ((bF (l.den ρ)).map λb=>[(b.toNat:Int)])=byteCells (en (bF (l.den ρ))):=by
    unfold byteCells cj en;simp only[aJH];generalize bF (l.den ρ)=q;induction q with
    |nil=>rfl
    |cons y r ih=>rw[wk,du,ih];rfl
   have JD:=Src.ofString (P:=P) w hu (en (bF (l.den ρ)));rw[<-lG,Cz,<-cg]at JD;generalize p7:((bF (l.den ρ)).map λb=>[(b.toNat:Int)])=mid at ud JW uc JD;have p4:rc mid<=b6:=Gb l3 (by omega) ud;refine(iQ (by rw[uc];exact kc _) (by rw[uc];exact p4)).bind λb5 gd s gm eb ⟨h1,h2⟩=>?_;rw[uc]at h2;have atm:base.den b5=base.den ρ:=(I.cf eb (ua.mono ia)).trans EI;have l0:bM 24 ([base,s].map (·.den b5))=rc (ao (base.den ρ)++mid):=by
    simp only[du,gQ,bM,atm,h2,kS]
   have jM:∀row∈ao (base.den ρ)++mid,cM [.int .u8 0 255] row:=λrow hr=>(List.mem_append.1 hr).elim (zG row) (ud row);have qK:rc (ao (base.den ρ)++mid)<=b6:=Gb l3 (by simp;omega) jM;refine(iQ (by rw[l0];exact kc _) (by rw[l0];exact qK)).bind λiL ur c CV wR ⟨k1,k2⟩=>aC.pure ⟨k1,g1.mono (nf gm CV),?_,mid,?_,?_,ud,by omega,?_⟩
   ·rw[k2,l0];exact⟨kc _,qK⟩
   ·rw[k2,l0,kS]
   ·rw[I.cf (eb.trans wR gm) g1,g2,JW]
   ·rw[JW];exact JD
  ·exact aC.fail
 ·split
  ·rename_i cW J1;refine jS λaf=>aC.pure ⟨ua,I.dF _ _,aiX,[],by simp,by simp[I.bq],λ_ h=>by simp at h,?_,?_⟩
   ·simp only[du,gQ,ay,I.bq]at af;simp only[qo];omega
   ·have cg:X= .slice none 0 0:=cg;rw[cg];exact Src.ofNil w (jg J1) 0
  ·exact aC.fail
 ·exact aC.fail
theorem aEy (w:aG) (t tE ty e:br) (i:TypeInfo) (aD:P.underlying t=some (.slice e)) (hi:P.info? e=some i) (g ik tA:Nat) (cur:Array aW) (Jp:br) (hg:w.heap[g]?=some (.cells cur Jp (0,0))) (x:aW) (k:Nat) (news:List aW) (hs:Src P i.size tE x k news w)
 (NF:ik+k<=tA) (Bg:ik*i.size+news.length<=cur.size):
 (LP #[t,tE] ty #[.slice (some ⟨g,0,none⟩) ik tA,x]).run P w= .ok (.slice (some ⟨g,0,none⟩) (ik+k) tA) (w.setRow g (cur.toList.take (ik*i.size)++news++cur.toList.drop (ik*i.size+news.length)).toArray):=by
 have n2:=run_storeCells_at P g (ik*i.size) Jp news 0 cur w hg (by simpa using Bg) hs.one;simp only[oX]at n2;rcases hs.kind with⟨cW,af⟩|af<;>simp[LP,gJ aD,gJ af,sizeOf,typeInfo,hi,hs.len,NF,hs.cells,Addr.add_lit,n2]
theorem ao4 (Z:Array aW) (k:Nat):(pI Z k).size=k*Z.size:=by simp[pI]
theorem aiu (w:aG) (Ku old:Nat) (e:br) (h:Ku<=1073741824):Ku<=grownCap w Ku old e/\grownCap w Ku old e<=9223372036854775807:=by
 have hlt:=Pj (w.tape w.drawn (.appendCap Ku old e)) (show 0<2^63-Ku by omega);simp only[grownCap,aJE];omega
theorem amh {kd:Nat} {tm:List V} {a:Act} {w:aG} {G:fe} {K:Act->aG->Prop} {k:iz} {e:br} {d:Option Tmp} {sh:List aQ} {code len:I} {c:Int} {g:Nat}
 (jt:2<=kd) (h:R w0 n ρ m tm bl a w) (dD:code.bN n) (E3:len.bN n) (iw:0<=code.den ρ/\code.den ρ<=b6) (hc:-1<=c/\c<=9223372036854775807) (yx:Ii 0 0 (len.den ρ) c)
 (rH:c<0->ao (code.den ρ)=[])
 (Nt:0<=c->∃(cells:Array aW) (fz:Nat×Nat),(w.heap[g]?=some (.cells cells e fz)/\Co kd fz cells.size)/\o8 cells 0 sh (ao (code.den ρ))/\cells.size=c.toNat*sh.length/\w0.b.heap.size<=g/\(w0.ex g∨w0.r.heap.size<=g))
 (Bi:∀(i:Nat) (p:aJ),bl[i]?=some p->m i=g->bU ρ p.1=0∨c<0)
 (ag:(k (n+1) (hG tm d (.w (.one (.sl bl.length sh.length (.const 0) (.const 0) len (.var n))))) (bl++[([.rows sh (.const 0) code (.var n) kd],(e,false))])).holds S L G (dI ρ n c)) (af:ml S L w0 k n bl.length ρ m G K):
 K (a.put d (if c<0 then .slice none 0 0 else .slice (some ⟨g,0,none⟩) (len.den ρ).toNat c.toNat)) w:=by
 have ha:agree n ρ (dI ρ n c):=agree.dI _ _ _;have p4:dj (n+1) bl.length (dI ρ n c) bl:=h.b.ext ha (tJ _) (bW _);have Rq:Mem w0 (dI ρ n c) m bl w:=h.bK.sP h.b ha;have az:code.den (dI ρ n c)=code.den ρ:=I.cf ha dD;have aI:len.den (dI ρ n c)=len.den ρ:=I.cf ha E3;have cn:(I.var n).den (dI ρ n c)=c:=by simp[I.db,mA]
 have aO:(A.rows sh (.const 0) code (.var n) kd).ok (n+1) bl.length (dI ρ n c):=⟨⟨I.dF _ _,dD.mono (tJ _),I.hj (AE n)⟩,by rw[az];exact iw,by rw[cn];omega⟩;have pf:=Rq.push (x:=([.rows sh (.const 0) code (.var n) kd],(e,false))) (g:=g) p4 (λy hy=>by simp at hy;subst hy;exact aO) (λaA=>by cases aA) (λhk kP code' kK sJ he=>by
  cases he;intro _;refine⟨λh=>by rw[cn]at h;rw[az];exact rH h,λh=>?_⟩;rw[cn]at h;obtain⟨cells,fz,⟨g1,nZ⟩,g2,g3,g4,g5⟩:=Nt h;exact⟨g5.elim .inl λh=> .inr (.inr h),cells,e,fz,g1,⟨by rw[I.bq];exact di _,by rw[az,I.bq];exact g2⟩,λ_=>⟨rfl,I.bq _ _,nZ,by rw[cn];exact g3,g4,g5⟩⟩) (λi p hi he=>by
  rcases Bi i p hi he with ef|ef
  ·exact .inr (.inl (by rw[yD (h.b _ (fC hi)) ha];exact ef))
  ·refine .inr (.inr ?_);simp only[bU,cn];rw[if_pos ef])
 have dM:e6 n bl.length ρ m (n+1) (bl++[([A.rows sh (.const 0) code (.var n) kd],(e,false))]).length (dI ρ n c) (nG m bl.length g):=⟨tJ _,ha,by simp,λb hb=>oS hb⟩;refine af _ _ _ _ _ G _ _ dM (gr.refl _ _) ⟨eW.put (h.t.ext dM.ha dM.hn dM.hb dM.hm) d ?_ ?_,by rw[put_defers];exact h.d,p4.alloc (λy hy=>by simp at hy;subst hy;exact aO),pf⟩ ag
 ·refine⟨by simp,⟨I.dF _ _,I.dF _ _,E3.mono (tJ _),I.hj (AE n)⟩,?_⟩;rw[I.bq,aI,cn];exact yx
 ·simp only[V.rel,W.den,A.den,aI,cn,I.bq,pz];split<;>simp
theorem ab8 {kd:Nat} {tm:List V} {a:Act} {w:aG} {G:fe} {K:Act->aG->Prop} {k:iz} {e:br} {d:Option Tmp} {sh:List aQ} {code len:I} {c:Int} {g:Nat}
 (jt:2<=kd) (h:R w0 n ρ m tm bl a w) (dD:code.bN n) (E3:len.bN n) (iw:0<=code.den ρ/\code.den ρ<=b6) (hc:-1<=c/\c<=9223372036854775807) (yx:Ii 0 0 (len.den ρ) c)
 (rH:c<0->ao (code.den ρ)=[])
 (Nt:0<=c->∃(cells:Array aW) (fz:Nat×Nat),(w.heap[g]?=some (.cells cells e fz)/\Co kd fz cells.size)/\o8 cells 0 sh (ao (code.den ρ))/\cells.size=c.toNat*sh.length/\w0.b.heap.size<=g/\(w0.ex g∨w0.r.heap.size<=g))
 (Bi:∀(i:Nat) (p:aJ),bl[i]?=some p->m i=g->bU ρ p.1=0∨c<0)
 (ag:(MM kd e d sh code len n tm bl k).holds S L G ρ) (af:ml S L w0 k n bl.length ρ m G K):
 K (a.put d (if c<0 then .slice none 0 0 else .slice (some ⟨g,0,none⟩) (len.den ρ).toNat c.toNat)) w:=by
 unfold MM at ag;exact amh jt h dD E3 iw hc yx rH Nt Bi (ag c (by omega) (by omega)) af
theorem ab9 {tm:List V} {a:Act} {w:aG} {G:fe} {K:Act->aG->Prop} {k:iz} {e:br} {d:Option Tmp} {sh:List aQ} {code len:I} {c:Int} {g:Nat}
 (h:R w0 n ρ m tm bl a w) (dD:code.bN n) (E3:len.bN n) (iw:0<=code.den ρ/\code.den ρ<=b6) (hc:-1<=c/\c<=9223372036854775807) (yx:Ii 0 0 (len.den ρ) c)
 (rH:c<0->ao (code.den ρ)=[])
 (Nt:0<=c->∃cells:Array aW,w.heap[g]?=some (.cells cells e (0,0))/\o8 cells 0 sh (ao (code.den ρ))/\cells.size=c.toNat*sh.length/\w0.b.heap.size<=g/\(w0.ex g∨w0.r.heap.size<=g))
 (Bi:∀(i:Nat) (p:aJ),bl[i]?=some p->m i=g->bU ρ p.1=0∨c<0)
 (ag:(Jy e d sh code len n tm bl k).holds S L G ρ) (af:ml S L w0 k n bl.length ρ m G K):
 K (a.put d (if c<0 then .slice none 0 0 else .slice (some ⟨g,0,none⟩) (len.den ρ).toNat c.toNat)) w:=
 ab8 (kd:=2) (bW 2) h dD E3 iw hc yx rH (λh0=>by
  obtain⟨cells,g1,g2⟩:=Nt h0;exact⟨cells,(0,0),⟨g1,.N9⟩,g2⟩) Bi ag af
theorem ait {tm:List V} {a:Act} {w:aG} {G:fe} {K:Act->aG->Prop} {k:iz} {e:br} {d:Option Tmp} {sh:List aQ} {code len:I} {rows:List (List Int)} {c:Nat} {cells:Array aW}
 (h:R w0 n ρ m tm bl a w) (dD:code.bN n) (E3:len.bN n) (iw:0<=code.den ρ/\code.den ρ<=b6) (ug:ao (code.den ρ)=rows) (cb:∀row∈rows,cM sh row) (hlen:len.den ρ=rows.length)
 (dC:rows.length<=c) (aM1:c<=9223372036854775807) (Y6:cells.size=c*sh.length) (avV:∃post,cells.toList=cj sh rows++post)
 (ag:(Jy e d sh code len n tm bl k).holds S L G ρ) (af:ml S L w0 k n bl.length ρ m G K):
 K (a.put d (.slice (some ⟨w.heap.size,0,none⟩) rows.length c)) (w.drew.alloc (.cells cells e)):=by
 have wS:R w0 n ρ m tm bl a w.drew:=⟨h.t,h.d,h.b,h.bK.grow (Uv (sW w))⟩;have hR:R w0 n ρ m tm bl a (w.drew.alloc (.cells cells e)):=⟨h.t,h.d,h.b,wS.bK.grow ((sW w.drew).alloc _)⟩;have key:=ab9 (c:=(c:Int)) (g:=w.heap.size) hR dD E3 iw ⟨by omega,by omega⟩ (by rw[hlen];exact⟨⟨by omega,by omega,by omega,by omega⟩,⟨by omega,by omega⟩,λh=>by omega,λ_=>by omega⟩) (λh=>by omega)
  (λ_=>⟨cells,heap_alloc_new w.drew _,by
    obtain⟨post,hp⟩:=avV;rw[ug];exact⟨cb,[],post,by simpa using hp,rfl⟩,by simpa using Y6,h.bK.ext.size,.inr h.bK.ib⟩) (λi p hi he=>by
    by_cases mW:bU ρ p.1=0
    ·exact .inl mW
    ·have:=wS.bK.lt hi mW;have ef:w.drew.heap.size=w.heap.size:=rfl;omega) ag af
 rw[if_neg (by omega),hlen]at key;simpa using key
theorem aIM {nb:Nat} {v:V} {X:aW} (h:adV v=true) (hv:v.ok n nb ρ) (hr:v.rel ρ m X):∃base,X= .slice base 0 0:=by
 unfold adV at h;split at h
 ·rename_i b bG o ro len cap;split at h
  ·rename_i l c hl hc;simp only[bx,decide_eq_true_eq]at h;have az:=I.k9 hl (ρ:=ρ);have aI:=I.k9 hc (ρ:=ρ);have hr:X=(A.sl b bG o ro len cap).den ρ m:=hr;simp only[A.den,az,aI,h.1,h.2]at hr;exact⟨_,hr⟩
  ·cases h
 ·rename_i b off len cap;simp only[bx]at h;have az:=b1 h.1;have aI:=b1 h.2;subst az;subst aI;exact⟨_,hr⟩
 ·exact⟨none,hr⟩
 ·cases h
theorem ahQ (w:aG) (size:Nat) (base:Option Addr) (c:Nat):(LQ size 0 (.slice base 0 c)).run P w= .ok #[] w:=by
 cases base with
 |none=>exact run_firstCells_none w size 0 0 c
 |some b=>exact UH w size 0 b 0 c [] (by simp) (λj v h=>by simp at h)
theorem R.later {n':Nat} {ae:Env} {tm:List V} {a:Act} {w:aG} (h:R w0 n ρ m tm bl a w) (hn:n<=n') (ha:agree n ρ ae):R w0 n' ae m tm bl a w:=
 ⟨h.t.ext ha hn (bW _) (λ_ _=>rfl),h.d,h.b.ext ha hn (bW _),h.bK.sP h.b ha⟩
theorem oa:ao 0=[]:=kS []
theorem R.kill {tm:List V} {a:Act} {w:aG} {b k:Nat} {sh:List aQ} {off code cap:I} {t:br×Bool} (h:R w0 n ρ m tm bl a w) (aZ:bl[b]?=some ([.rows sh off code cap k],t)):R w0 n ρ m tm (ei bl b ([.rows sh off code cap 0],t)) a w:=
 ⟨by rw[lz];exact h.t,h.d,h.b.set (λy hy=>by
  simp at hy;subst hy;exact h.b _ (fC aZ) (.rows sh off code cap k) (by simp)),h.bK.kill aZ⟩
theorem arz {tm:List V} {a:Act} {w:aG} {G:fe} {o:Oper} {K:Act->aG->Prop} {Q:Exit->Act->aG->Prop} {k:iz} {c:Call} {s x:rf} {t t':br} {sj:T}
 (h:R w0 n ρ m tm bl a w) (gR:o.op= .call c) (n1:c.callee= .builtin .append) (hE:c.args.toList=[s,x]) (oB:c.argTypes.toList=[t,t'])
 (bu:W1 P o.dst t t' (cp tm s) (cp tm x) n tm bl k=some sj) (ag:sj.holds S L G ρ) (af:ml S L w0 k n bl.length ρ m G K):o.wp P a w K Q:=by
 have b7:c.args=#[s,x]:=by rw[<-lO (xs:=c.args),hE]
 have a2:c.argTypes=#[t,t']:=by rw[<-lO (xs:=c.argTypes),oB]
 have hex:execOp a.eval o=(do pure (mh (<-LP #[t,t'] o.type #[a.eval s,a.eval x]))):=by
  simp[execOp,gR,resolve,n1,b7,a2,invoke,builtin]
 have CY:∀v w',(LP #[t,t'] o.type #[a.eval s,a.eval x]).run P w= .ok v w'->K (a.put o.dst v) w'->o.wp P a w K Q:=λv w' h1 h2=>by
  unfold o4;simp only[hex,jl,h1,jF,kv];exact h2
 have hs:=cS h.t s;have hx:=cS h.t x;unfold W1 at bu;split at bu
 ·cases bu
 rename_i e CX;split at bu
 rotate_left
 ·cases bu
 rename_i i z hi hz;obtain⟨inf,oj,qL,km,ub⟩:=Lw hz;rw[hi]at qL;simp only[bj]at qL;subst qL;have qR:oj.cells.size=z.length:=by
  have:=(CD ub n bl.length ρ m).2;have:=congrArg pE this;simpa using this.symm
 split at bu
 ·
  rename_i Z3;obtain⟨base,u5⟩:=aIM Z3 hs.1 hs.2;split at bu
  rotate_left
  ·cases bu
  rename_i sh _;cases js:Jw sh i z with
  |false=>simp[js]at bu
  |true=>
  simp only[js,cond_true,bj]at bu;subst bu;unfold Jw at js;simp only[bx]at js;obtain⟨⟨⟨d1,d2⟩,d3⟩,d4⟩:=js;have d2:=b1 d2;have d3:=b1 d3;have d4:=gU d4;unfold aib at ag;have gE:(I.const 0).den ρ=0:=I.bq _ _;obtain⟨ae,n',p,hn,ha,⟨bg,b3,cy,eF,et,j8,n6,oJ,oK⟩,ag⟩:=(anm (P:=P) d1 h.b h.bK hx.1 hx.2 (I.dF _ _) (by rw[gE];exact⟨di _,by have:=uP (l:=[]) (by simp) (by simp);exact D2 (kc []) this⟩) (by rw[gE,oa];simp)) G _ ag;rw[gE,oa,gq]at et;rw[gE,oa]at oJ;simp only[qo,zd]at oJ;have wQ:=h.later hn ha;have nv:=af.later (G1:=G) (⟨hn,ha,bW _,λ_ _=>rfl⟩:e6 n bl.length ρ m n' bl.length ae m) (gr.refl _ _);rw[<-d2]at oK;have ajB:eF.length=0->(k n' (hG tm o.dst (cp tm s)) bl).holds S L G ae->o.wp P a w K Q:=λh0 Rh=>by
   have ju:eF=[]:=zb h0;subst ju;refine CY _ _ (by rw[u5];exact run_append_nothing w t t' o.type e i (jg CX) hi base 0 0 (bW _) _ oK) ?_;refine nv n' ae m _ bl G _ w (e6.refl _ _ _ _) (gr.refl _ _) ⟨eW.put wQ.t o.dst (cS wQ.t s).1 ?_,by rw[put_defers];exact h.d,wQ.b,wQ.bK⟩ Rh;rw[<-u5];exact(cS wQ.t s).2
  have ajk:0<eF.length->(Jy e o.dst sh p.1 p.2 n' tm bl k).holds S L G ae->o.wp P a w K Q:=λh0 Rh=>by
   have M7:=aiu w (0+eF.length) 0 e (by omega);refine CY _ _ (by rw[u5];exact run_append_grow_src w t t' o.type e i oj (jg CX) hi km base 0 0 [] (ahQ _ _ _ _) _ _ _ oK (by omega) (by omega) (growslice_fits (by omega) (by
    have:=apd (show 0+eF.length<=1073741824 by omega) d4;omega))) ?_
   have key:=ait (c:=grownCap w (0+eF.length) 0 e) (cells:=([]++cj sh eF).toArray++pI oj.cells (grownCap w (0+eF.length) 0 e-(0+eF.length))) wQ bg b3 cy et n6 j8 (by omega) M7.2 (by
    have:=oK.newsLen;rw[apx,ao4,qR,d3,Ck,gq,this,d2,<-AH]
    congr 1;omega) ⟨(pI oj.cells (grownCap w (0+eF.length) 0 e-(0+eF.length))).toList,by simp⟩ Rh nv
   simpa using key
  split at ag
  ·rename_i hc0;have:=I.k9 hc0 (ρ:=ae);exact ajB (by omega) ag
  ·rename_i asm hc0 dA;have:=I.k9 dA (ρ:=ae);exact ajk (by
    have:asm≠0:=λe=>hc0 e;omega) ag
  ·simp only[T.holds,bH.den,I.bq,decide_eq_true_eq,decide_eq_false_iff_not]at ag;by_cases h0:eF.length=0
   ·exact ajB h0 (ag.1 (by omega))
   ·exact ajk (by omega) (ag.2 (by omega))
 ·split at bu
  rotate_left
  ·cases bu
  rename_i b bG off ro len cap uh;split at bu
  rotate_left
  ·cases bu
  rename_i sh kP code fO kind dQ aZ;cases js:(Jw sh i z&&aP kind 2&&I.beq off (.const 0)&&I.beq kP (.const 0)&&I.beq ro (.const 0)&&I.beq cap fO&&aP dQ.1 e)with
  |false=>rw[js]at bu;cases bu
  |true=>
  rw[js]at bu;simp only[cond_true,bj]at bu;subst bu;simp only[bx]at js;obtain⟨⟨⟨⟨⟨⟨js,k2⟩,ca⟩,cc⟩,dm⟩,mm⟩,mn⟩:=js;have mn:=b1 mn;have k2:=b1 k2;have ca:=I.beq_eq ca;have cc:=I.beq_eq cc;have dm:=I.beq_eq dm;have mm:=I.beq_eq mm;subst k2;subst ca;subst cc;subst dm;subst mm;unfold Jw at js;simp only[bx]at js;obtain⟨⟨⟨d1,d2⟩,d3⟩,d4⟩:=js;have d2:=b1 d2;have d3:=b1 d3;have d4:=gU d4;obtain⟨Rk,ag⟩:=ag;simp only[du,gQ,ay]at Rk;rw[uh]at hs;have Hp:(A.sl b bG (.const 0) (.const 0) len cap).ok n bl.length ρ:=hs.1;obtain⟨ptr,az,aI,cn⟩:=xH (m:=m) Hp;have u5:a.eval s=(A.sl b bG (.const 0) (.const 0) len cap).den ρ m:=hs.2;rw[az]at u5;obtain⟨aj,⟨ah,au,de,iK⟩,⟨jz,mc,me,mf⟩,⟨mB,mb⟩,hW,jy⟩:=Hp;rw[I.bq]at mb;have pk:=h.bK.rws b sh (.const 0) code cap 2 dQ aZ (by decide);have hD:(A.rows sh (.const 0) code cap 2).ok n bl.length ρ:=h.b _ (fC aZ) _ (by simp);obtain⟨⟨r1,r2,ij⟩,aR,aE⟩:=hD;have lI:∀row∈ao (code.den ρ),cM sh row:=λrow hr=>by
   rcases mE (cap.den ρ) 0 with h|h
   ·rw[pk.1 h]at hr;simp at hr
   ·obtain⟨_,cells,ma,fz,_,⟨_,g3⟩,_⟩:=pk.2 h;exact g3.1 row hr
  obtain⟨ae,n',p,hn,ha,⟨bg,b3,cy,eF,et,j8,n6,oJ,oK⟩,ag⟩:=(anm (P:=P) d1 h.b h.bK hx.1 hx.2 r2 aR lI) G _ ag;rw[<-d2]at oK;generalize ug:ao (code.den ρ)=rows at*;have awb:=h.kill aZ;have wQ:=awb.later hn ha;have p4:=lz bl b ([.rows sh (.const 0) code cap 0],dQ);have nv:ml S L w0 k n' (ei bl b ([.rows sh (.const 0) code cap 0],dQ)).length ae m G K:=by
   rw[p4];exact af.later (⟨hn,ha,bW _,λ_ _=>rfl⟩:e6 n bl.length ρ m n' bl.length ae m) (gr.refl _ _)
  have Rp:(len.add p.2).den ae=(rows++eF).length:=by
   rw[I.den_add,I.cf ha de,j8,Rk];simp
  have jM:∀row∈rows++eF,cM sh row:=λrow hr=>(List.mem_append.1 hr).elim (lI row) (n6 row);have ajA:=oK.newsLen;have ajw:(len.den ρ).toNat=rows.length:=by omega
  have ld:cap.den ae=cap.den ρ:=I.cf ha iK;have JV:(len.add p.2).bN n':=I.yW (de.mono hn) b3;have Rm:(rows++eF).length=rows.length+eF.length:=gY;have lG:(cj sh rows).length=rows.length*i.size:=by rw[qG lI,d2]
  by_cases NF:((rows.length+eF.length:Nat):Int)<=cap.den ρ∨(cap.den ρ<0/\eF.length=0)
  ·by_cases hc0:cap.den ρ<0
   ·
    have ju:eF.length=0:=by rcases NF with h|h<;>omega
    have ju:eF=[]:=zb ju;subst ju;have ZH:rows=[]:=pk.1 hc0;subst ZH;have ph:=hW hc0;refine CY _ _ (by rw[u5,aI hc0,if_pos hc0,ph];exact run_append_nothing w t t' o.type e i (jg CX) hi none 0 0 (bW _) _ oK) ?_;have key:=ab9 (c:=-1) (g:=w.heap.size) wQ bg JV cy ⟨by omega,by omega⟩ (by rw[Rp];exact⟨⟨by omega,by omega,by omega,by omega⟩,⟨by omega,by omega⟩,λh=>by simp,λh=>by omega⟩) (λ_=>by rw[et];rfl) (λh=>by omega) (λ_ _ _ _=> .inr (by omega)) ag nv;rw[if_pos (by omega)]at key;exact key
   ·
    obtain⟨_,cells,ma,fz,g1,⟨g2,g3⟩,g4⟩:=pk.2 (by omega);obtain⟨g0,g5,g6,g7,g8,g9⟩:=g4 (by decide);subst g0;have g6:=g6.two;subst g6;rw[I.bq]at g3;obtain⟨_,pre,post,g10,g11⟩:=g3;have rJ:pre=[]:=zb (by simpa using g11);subst rJ;simp only[gq]at g10;have hsz:cells.size=(cj sh rows).length+post.length:=by rw[<-D7,g10,gY]
    have ajG:rows.length+eF.length<=(cap.den ρ).toNat:=by rcases NF with h|h<;>omega
    have Bg:rows.length*i.size+(cj sh eF).length<=cells.size:=by
     rw[ajA,g7,<-AH,d2];exact aem _ ajG
    have jv:=aEy w t t' o.type e i (jg CX) hi (m b) rows.length (cap.den ρ).toNat cells dQ.1 g1 _ _ _ oK ajG Bg;have awV:a.eval s= .slice (some ⟨m b,0,none⟩) rows.length (cap.den ρ).toNat:=by
     rw[u5,cn (by omega),if_neg hc0,ajw,I.bq];simp
    refine CY _ _ (by rw[awV];exact jv) ?_;have ys:(cells.toList.take (rows.length*i.size)++cj sh eF++cells.toList.drop (rows.length*i.size+(cj sh eF).length))=cj sh (rows++eF)++cells.toList.drop (rows.length*i.size+(cj sh eF).length):=by
     rw[zC,g10,Pq (by omega),<-lG,ad5]
    rw[ys];have Rs:=h.bK.put (kd:=2) (cells:=cells) (fz:=(0,0)) (code':=code) (by decide) aZ (by omega) (row:=(cj sh (rows++eF)++cells.toList.drop (rows.length*i.size+(cj sh eF).length)).toArray) (λ_=>⟨λh=>by omega,λ_=>⟨g9.elim .inl λh=> .inr (.inr h),_,_,(0,0),Pz w (m b) _ _ _ _ g1,⟨g2,by
     rw[ug,I.bq];exact⟨lI,[],cj sh eF++cells.toList.drop (rows.length*i.size+(cj sh eF).length),by simp[zC],rfl⟩⟩,λ_=>⟨rfl,g5,.N9,by
     rw[<-g7];simp only[Ck,gY,oZ,D7,zC];omega,g8,g9⟩⟩⟩)
    have awR:ei bl b ([.rows sh (.const 0) code cap 2],dQ)=bl:=by
     rw[mz];exact aeh λj=>by
      rw[wh];split
      ·rename_i aM;subst aM
       first|exact aZ.symm|(rw[if_pos (List.getElem?_eq_some_iff.1 aZ).1];exact aZ.symm)
      ·rfl
    rw[awR]at Rs;have G3:R w0 n ρ m tm bl a (w.setRow (m b) (cj sh (rows++eF)++cells.toList.drop (rows.length*i.size+(cj sh eF).length)).toArray):=⟨h.t,h.d,h.b,Rs⟩;have au4:=(G3.kill aZ).later hn ha;have key:=ab9 (e:=e) (d:=o.dst) (c:=cap.den ρ) (g:=m b) au4 bg JV cy ⟨by omega,by omega⟩ (by rw[Rp,Rm];exact⟨⟨by omega,by omega,by omega,by omega⟩,⟨by omega,by omega⟩,λh=>by omega,λh=>by omega⟩) (λh=>by omega)
     (λ_=>⟨_,by rw[<-mn];exact Pz w (m b) _ _ _ _ g1,by
       rw[et];exact⟨jM,[],cells.toList.drop (rows.length*i.size+(cj sh eF).length),by simp,rfl⟩,by
       rw[<-g7];simp only[Ck,gY,oZ,D7,zC];omega,g8,g9⟩) (λj q aM he=>by
       by_cases Hf:j=b
       ·subst Hf;rw[mz,ape (List.getElem?_eq_some_iff.1 aZ).1]at aM;simp only[bj]at aM;subst aM;exact .inl (by simp[bU])
       ·rw[mz,ad4 (λe=>Hf e.symm)]at aM;have pg:bU ρ [A.rows sh (.const 0) code cap 2]=2:=w2 (by decide) (by omega);have awc:bU ρ q.1=0:=by
         rcases h.bK.inj j b q _ aM aZ he with ef|ef|ef|ef
         ·exact absurd ef Hf
         ·have:=ef.2;simp only[pg]at this;omega
         ·exact ef
         ·simp only[pg]at ef;omega
        exact .inl (by rw[yD (h.b _ (fC aM)) ha];exact awc)) ag nv
    rw[if_neg hc0,Rp,Rm,qm]at key;exact key
  ·
   have ajl:(if cap.den ρ<0 then 0 else(cap.den ρ).toNat)<rows.length+eF.length:=by
    split
    ·rename_i hc;have:¬eF.length=0:=λe=>NF (.inr ⟨hc,e⟩);omega
    ·omega
   have hold:(LQ i.size rows.length (.slice ptr rows.length (if cap.den ρ<0 then 0 else(cap.den ρ).toNat))).run P w.drew= .ok (cj sh rows).toArray w.drew:=by
    by_cases hc:cap.den ρ<0
    ·have ZH:rows=[]:=pk.1 hc;subst ZH;exact ahQ _ _ _ _
    ·obtain⟨_,cells,ma,fz,g1,⟨g2,g3⟩,g4⟩:=pk.2 (by omega);rw[cn (by omega)];refine UH w.drew i.size rows.length _ rows.length _ (cj sh rows) lG λj v hv=>?_;rw[kX,I.bq];have:=g3.flat hv;rw[I.bq]at this;have nZ:w.drew.heap[m b]?=some (.cells cells ma fz):=g1;simp only[nK,nZ,xR,xS,if_false];simpa using this
   have M7:=aiu w (rows.length+eF.length) (if cap.den ρ<0 then 0 else(cap.den ρ).toNat) e oJ;refine CY _ _ (by rw[u5,ajw];exact run_append_grow_src w t t' o.type e i oj (jg CX) hi km ptr rows.length _ (cj sh rows) hold _ _ _ oK ajl (by omega) (growslice_fits ajl (by
    have:=apd oJ d4;omega))) ?_
   have key:=ait (e:=e) (d:=o.dst) (c:=grownCap w (rows.length+eF.length) (if cap.den ρ<0 then 0 else(cap.den ρ).toNat) e) (cells:=(cj sh rows++cj sh eF).toArray++pI oj.cells (grownCap w (rows.length+eF.length) (if cap.den ρ<0 then 0 else(cap.den ρ).toNat) e-(rows.length+eF.length))) wQ bg JV cy et jM Rp (by rw[Rm];exact M7.1) M7.2 (by
    rw[apx,ao4,qR,d3,Ck,gY,lG,ajA,<-AH,d2,<-AH]
    congr 1;omega) ⟨(pI oj.cells (grownCap w (rows.length+eF.length) (if cap.den ρ<0 then 0 else(cap.den ρ).toNat) e-(rows.length+eF.length))).toList,by rw[zC];simp⟩ ag nv
   rw[Rm]at key;exact key
theorem aFz {tm:List V} {a:Act} {w:aG} {G:fe} {o:Oper} {K:Act->aG->Prop} {Q:Exit->Act->aG->Prop} {k:iz} {sj:T}
 (h:R w0 n ρ m tm bl a w) (bu:adb P o n tm bl k=some sj) (ag:sj.holds S L G ρ) (af:ml S L w0 k n bl.length ρ m G K):o.wp P a w K Q:=by
 unfold adb at bu;split at bu
 ·rename_i c aA;split at bu
  ·rename_i hc;split at bu
   ·rename_i s x t t' hE oB;exact arz h aA hc hE oB bu ag af
   ·cases bu
  ·cases bu
 ·cases bu
end
end Go.b9
namespace Go.b9
open M
theorem OX:∀{s1 s2:List aQ} {l1 l2:List Int},l1.length=s1.length->dS (s1++s2) (l1++l2)=dS s1 l1++dS s2 l2
 |[],_,[],_,_=>rfl
 |c::s1,s2,z::l1,l2,h=>by
  simp only[jD,dS,OX (s1:=s1) (s2:=s2) (l1:=l1) (l2:=l2) (by simpa using h)]
 |[],_,_::_,_,h=>by simp at h
 |_::_,_,[],_,h=>by simp at h
theorem L2:∀{s1 s2:List aQ} {l1 l2:List Int},l1.length=s1.length->(cM (s1++s2) (l1++l2)↔cM s1 l1/\cM s2 l2)
 |[],_,[],_,_=>by simp[cM]
 |c::s1,s2,z::l1,l2,h=>by
  simp only[jD,cM,L2 (s1:=s1) (s2:=s2) (l1:=l1) (l2:=l2) (by simpa using h),and_assoc]
 |[],_,_::_,_,h=>by simp at h
 |_::_,_,[],_,h=>by simp at h
theorem amG {sh:List aQ} {row ls:List Int} {j s:Nat} (h:cM sh row) (hl:cM ((sh.drop j).take s) ls) (aM:j+s<=sh.length):
 cM sh (row.take j++ls++row.drop (j+ls.length))/\dS sh (row.take j++ls++row.drop (j+ls.length))=(dS sh row).take j++dS ((sh.drop j).take s) ls++(dS sh row).drop (j+s):=by
 have hlen:=h.len;have Zu:ls.length=s:=by rw[hl.len];simp;omega
 have e:sh=sh.take j++((sh.drop j).take s++sh.drop (j+s)):=by
  rw[<-Cg,oi,oi]
 have pZ:row=row.take j++((row.drop j).take s++row.drop (j+s)):=by
  rw[<-Cg,oi,oi]
 have l1:(row.take j).length=(sh.take j).length:=by simp[hlen]
 have l2:((row.drop j).take s).length=((sh.drop j).take s).length:=by simp[hlen]
 have oG:ls.length=((sh.drop j).take s).length:=hl.len;have h0:cM (sh.take j++((sh.drop j).take s++sh.drop (j+s))) (row.take j++((row.drop j).take s++row.drop (j+s))):=by rw[<-e,<-pZ];exact h
 rw[L2 l1,L2 l2]at h0;have hv:dS sh row=dS (sh.take j) (row.take j)++(dS ((sh.drop j).take s) ((row.drop j).take s)++dS (sh.drop (j+s)) (row.drop (j+s))):=by
  conv=>lhs;rw[e,pZ]
  rw[OX l1,OX l2]
 have k1:(dS (sh.take j) (row.take j)).length=j:=by rw[H8 h0.1];simp;omega
 have k2:(dS ((sh.drop j).take s) ((row.drop j).take s)).length=s:=by rw[H8 h0.2.1];simp;omega
 rw[Zu];refine⟨?_,?_⟩
 ·rw[mF]
  conv=>lhs;rw[e]
  rw[L2 l1,L2 oG];exact⟨h0.1,hl,h0.2.2⟩
 ·rw[mF]
  conv=>lhs;rw[e]
  have aD:(dS sh row).take j=dS (sh.take j) (row.take j):=by rw[hv];exact List.take_left' k1
  have hd:(dS sh row).drop (j+s)=dS (sh.drop (j+s)) (row.drop (j+s)):=by
   rw[hv,<-mF];exact List.drop_left' (by rw[gY,k1,k2])
  rw[OX l1,OX oG,aD,hd,mF]
theorem Yk {sh:List aQ}:∀{rows:List (List Int)} {i:Nat} {row:List Int},rows[i]?=some row->cj sh rows=cj sh (rows.take i)++(dS sh row++cj sh (rows.drop (i+1)))
 |r::rs,0,row,h=>by simp at h;subst h;simp[cj]
 |r::rs,i+1,row,h=>by
  have ih:=Yk (sh:=sh) (rows:=rs) (i:=i) (by simpa using h);simp only[cj,wk,nL,List.drop_succ_cons]at ih⊢;rw[ih,mF]
 |[],_,_,h=>by simp at h
theorem atH {sh:List aQ} {rows:List (List Int)} {i:Nat} {row H7:List Int} (h:rows[i]?=some row):cj sh (rows.set i H7)=cj sh (rows.take i)++(dS sh H7++cj sh (rows.drop (i+1))):=by
 have hlt:=(List.getElem?_eq_some_iff.1 h).1;have:=Yk (sh:=sh) (rows:=rows.set i H7) (i:=i) (row:=H7) (by simp[hlt]);rw[this,List.take_set,List.drop_set_of_lt (by omega)]
 congr 1
 congr 1
 rw[List.set_eq_of_length_le (by simp;omega)]
theorem Tu {P:b4} (g o:Nat) (t:br) (fz:Nat×Nat) (kd:Nat):∀(vs:List aW) (i:Nat) (cur:Array aW) (w:aG),Co kd fz cur.size->w.heap[g]?=some (.cells cur t fz)->o+i+vs.length<=cur.size->(∀v∈vs,v.oneCell'=true)->
 (storeCells ⟨g,o,none⟩ vs i).run P w= .ok () (w.setRow g (cur.toList.take (o+i)++vs++cur.toList.drop (o+i+vs.length)).toArray)
 |[],i,cur,w,_,hg,_,_=>by
  simp only[storeCells,hK,qo,oX,oi,lO];rw[setRow_self w g cur t fz hg];rfl
 |v::rest,i,cur,w,Ze,hg,hl,h1=>by
  have hi:o+i<cur.size:=by simp at hl;omega
  have hcell:w.cell? ⟨g,o+i,none⟩=some cur[o+i]:=by simp[nK,hg,hi]
  have avX:w.frozen? ⟨g,o+i,none⟩=false:=by
   rcases Ze with⟨_,rfl⟩|⟨_,rfl⟩
   ·simp[D4,hg]
   ·simp[D4,hg];omega
  have n2:(store ((⟨g,o,none⟩:Addr).add i) v).run P w= .ok () (w.setRow g (cur.setIfInBounds (o+i) v)):=by
   rw[kX,run_store P w _ v _ (h1 v (by simp)),hcell];simp[avX,setCell_eq_setRow w g (o+i) cur t fz v hg]
  have ih:=Tu (P:=P) g o t fz kd rest (i+1) (cur.setIfInBounds (o+i) v) (w.setRow g (cur.setIfInBounds (o+i) v)) (by simpa using Ze) (Pz w g cur _ t _ hg) (by simp at hl⊢;omega) (λx hx=>h1 x (by simp[hx]));simp only[storeCells,jl,n2,jF,ih,setRow_setRow]
  congr 3
  have e:=list_seg_step cur.toList (o+i) v rest (by simp at hl⊢;omega);simpa [Array.toList_setIfInBounds,Nat.add_assoc]using e
section
variable {S:Nat->List Int->List Int->Prop} {L:V->Env->Prop} {n:Nat} {ρ:Env} {m:Nat->Nat} {bl:List aJ} {gl:fP} {w0:eL} {P:b4}
theorem akd {tm:List V} {a:Act} (h:eW n bl.length ρ m tm a.tmps) {x:rf} {l:I} (hl:uk (cp tm x)=some l):∃k,a.eval x= .int k (l.den ρ)/\l.bN n:=by
 have hx:=cS h x;unfold uk at hl;split at hl
 ·rename_i k lJ hv;simp only[bj]at hl;subst hl;rw[hv]at hx;exact⟨k,hx.2,hx.1.1⟩
 ·cases hl
theorem Mem.mark {w0:eL} {P:b4} {ρ:Env} {m:Nat->Nat} {bl:List aJ} {w:aG} {b c:Nat} {C:List A} {code:I} {t:br×Bool} {s e:br} (h:Mem w0 ρ m bl w) (aZ:bl[b]?=some (C,t)) (aA:cl C=true) (aD:t.2=false) (hlen:C.length=c)
 (hs:P.underlying s=some (.slice e)) (he:P.underlying e=some (.int .u8))
 (lI:∀row∈ao (code.den ρ),cM j4 row) (lG:cj j4 (ao (code.den ρ))=C.map (A.den ρ m)):
 ∃w',(convert s s (.slice (some ⟨m b,0,none⟩) c c)).run P w= .ok (.slice (some ⟨m b,0,none⟩) c c) w'/\Mem w0 ρ m (ei bl b ([.rows j4 (.const 0) code (.const c) 3],t)) w':=by
 have tY:b<bl.length:=(List.getElem?_eq_some_iff.1 aZ).1;obtain⟨bg,b3,r,hr,cy⟩:=h.gZ b C t aZ aA;have hr:=hr aD;subst hr;rw[hK]at cy;have hsz:(C.map (A.den ρ m)).toArray.size=c:=by simp[hlen]
 have l3:w.shape? (m b)=some (t.1,c):=by
  unfold World.shape?;rw[cy];simp[hlen]
 have JM:∀i:Nat,i≠m b->(w.freeze ⟨m b,c,none⟩ 1).heap[i]?=w.heap[i]?:=λi hi=>by
  unfold UJ;rw[if_neg (by decide)];simp only[aJL];rw[if_neg (λe=>hi e.symm)]
 have uc:(w.freeze ⟨m b,c,none⟩ 1).heap[m b]?=some (.cells (C.map (A.den ρ m)).toArray t.1 (c,c+1)):=by
  unfold UJ;rw[if_neg (by decide)];simp only[aJL,if_true,cy,Az];rfl
 have aji:(w.freeze ⟨m b,c,none⟩ 1).heap.size=w.heap.size:=by
  unfold UJ;rw[if_neg (by decide)];simp
 refine⟨w.freeze ⟨m b,c,none⟩ 1,?_,?_⟩
 ·simp[convert,gJ hs,gJ he,markStringish,l3]
 generalize CI:w.freeze ⟨m b,c,none⟩ 1=w' at*;have j7:w'.os=w.os/\w'.tape=w.tape/\w'.output=w.output:=by
  subst CI;unfold UJ;rw[if_neg (by decide)];exact⟨rfl,rfl,rfl⟩
 have eC:∀(i:Nat) (p:aJ),(ei bl b ([.rows j4 (.const 0) code (.const c) 3],t))[i]?=some p->(i=b/\p=([.rows j4 (.const 0) code (.const c) 3],t))∨(i≠b/\bl[i]?=some p):=λi p hi=>by
  rw[mz,wh]at hi;split at hi
  ·rename_i iE;subst iE;simp only[tY,if_true,bj]at hi;exact .inl ⟨rfl,hi.symm⟩
  ·rename_i iE;exact .inr ⟨λe=>iE e.symm,hi⟩
 have pg:bU ρ C=2:=nA aA;have Ri:bU ρ [.rows j4 (.const 0) code (.const c) 3]=3:=w2 (by decide) (by rw[I.bq];omega);have ZA:∀i:Nat,i<w0.b.heap.size->w'.heap[i]?=w.heap[i]?:=λi hi=>JM i (by omega);have Hb:w0.b.Extends w':=⟨j7.1.trans h.ext.os,j7.2.1.trans h.ext.tape,j7.2.2.trans h.ext.output,by rw[aji];exact h.ext.size,
  λy hy=>xT (by simp only[nK,ZA y.block hy]) (h.ext.cell y hy),λy hy=>xT (by simp only[D4,ZA y.block hy]) (h.ext.frozen y hy),λi hi=>(ZA i hi).trans (h.ext.block i hi)⟩
 refine⟨Hb,j7.1.trans h.j7,j7.2.1.trans h.mw,j7.2.2.trans h.lH,by rw[aji];exact h.ib,λi hi hx=>?_,λi lq t' hi kl=>?_,λi hk kP code' kK sJ t' hi=>?_,λi j p q hi aM he=>?_⟩
 ·rw[JM i (λe=>by
   subst e;rcases b3 with h3|h3
   ·exact hx h3
   ·omega)]
  exact h.jU i hi hx
 ·rcases eC i _ hi with⟨rfl,eo⟩|⟨dA,hi⟩
  ·cases eo;cases kl
  ·obtain⟨g1,nZ,g2⟩:=h.gZ i lq t' hi kl;exact⟨g1,nZ,by rw[JM (m i) (λe=>h.ne aZ hi (by rw[pg];exact bW 2) (by rw[nA kl];decide) (λe=>dA e.symm) (by first|exact e|exact e.symm))];exact g2⟩
 ·rcases eC i _ hi with⟨rfl,eo⟩|⟨dA,hi⟩
  ·cases eo;intro _;simp only[I.bq];refine⟨λh0=>by omega,λ_=>⟨b3.elim .inl λh=> .inr (.inr h),_,_,_,uc,⟨di _,lI,[],[],by simp[lG],rfl⟩,λ_=>⟨rfl,by trivial,.inr ⟨by decide,by rw[hsz]⟩,by simp[hlen,j4],bg,b3⟩⟩⟩
  ·exact(h.rws i hk kP _ kK sJ t' hi).grow λaf hc=>JM (m i) (λe=>h.ne aZ hi (by rw[pg];exact bW 2) (by simp only[w2 af hc];exact af) (λe=>dA e.symm) (by first|exact e|exact e.symm))
 ·have af:∀(i:Nat) (p:aJ),(ei bl b ([.rows j4 (.const 0) code (.const c) 3],t))[i]?=some p->∃dH,bl[i]?=some dH/\(bU ρ dH.1=bU ρ p.1∨(bU ρ dH.1=2/\bU ρ p.1=3)):=λi p hi=>by
   rcases eC i _ hi with⟨rfl,eo⟩|⟨dA,hi⟩
   ·exact⟨_,aZ,.inr ⟨pg,by rw[eo];exact Ri⟩⟩
   ·exact⟨p,hi,.inl rfl⟩
  obtain⟨dH,hp,ep⟩:=af i p hi;obtain⟨fA,ak,eq⟩:=af j q aM;have:=h.inj i j dH fA hp ak he;omega
theorem ahz:∀(n t:Nat) (acc:Array aW),∃l:List (List Int),l.length=n/\(∀r∈l,cM j4 r)/\(Cm n t acc).toList=acc.toList++cj j4 l
 |0,_,_=>⟨[],rfl,by simp,by simp[Cm,cj]⟩
 |n+1,t,acc=>by
  obtain⟨l,h1,h2,h3⟩:=ahz n (t/256) (acc.push (.int .u8 (Int.ofNat (t% 256))));refine⟨[((t% 256:Nat):Int)]::l,by simp[h1],λr hr=>?_,?_⟩
  ·rcases List.mem_cons.1 hr with rfl|hr
   ·exact⟨⟨by simp only[aQ.hA];omega,by simp only[aQ.hA];omega⟩,trivial⟩
   ·exact h2 r hr
  ·rw[Cm,h3];simp[cj,j4,dS,aQ.val]
theorem aEA {P:b4} (w:aG) (lh:Array br) (t e:br) (aD:P.underlying t=some (.slice e)) (n:Nat) (hn:n<=281474976710656):
 ∃(c d:Nat),(aen lh #[t] #[.int .i64 n]).run P w= .ok (.slice (some ⟨w.heap.size,0,none⟩) n c) (w.drew.drew.alloc (.cells (Cm c d #[]) e))/\n<=c/\(n<=maxLen->c<=maxLen):=by
 have Nb:aen lh #[t] #[.int .i64 n]=
  (do
    let .slice elem<-underlying t|stuck "bytealg.MakeNoZero: slice type expected"
    if(n:Int)<0||(n:Int)>2^48 then runtimePanic (.error "makeslice: len out of range")
    let cap<-choose (.appendCap (n:Int).toNat 0 elem)
    askRoom cap
    let bytes<-choose (.extern "internal/bytealg.MakeNoZero.bytes" 0);let a<-newRow elem (Cm cap bytes #[])
    pure (.slice (some a) (n:Int).toNat cap)):=rfl
 have h1:¬(n:Int)<0:=by omega
 have h2:¬(281474976710656:Int)<(n:Int):=by omega
 exact⟨grownCap w n 0 e,_,by
  rw[Nb];simp[gJ aD,h1,h2,Question.forced,newRow,grownCap];rfl,by simpa using grownCap_ge w n 0 e,λhm=>by simpa using grownCap_le_maxLen w n 0 e hm⟩
theorem atB {fn:Func} (h:RM fn=true):fn.body.isNone=true/\(fn.name== "runtime.NumGoroutine")=false/\ad6 fn=none/\ad7 fn=some (aen fn.params fn.resultTypes):=by
 unfold RM at h;simp only[bx,beq_iff_eq]at h;obtain⟨⟨h1,h2⟩,h3⟩:=h;have g1:Extern.allNextRows.lookup "internal/bytealg.MakeNoZero" =none:=by kernel_rfl
 have g2:Extern.allNextRows.lookup "" =none:=by kernel_rfl
 have g3:Extern.allGenericRows.lookup "internal/bytealg.MakeNoZero" =none:=by kernel_rfl
 have g4:Extern.allTypedRows.lookup "internal/bytealg.MakeNoZero" =some aen:=by kernel_rfl
 refine⟨h2,by rw[h1];decide,?_,?_⟩
 ·unfold ad6;simp only[h1,h3,g1,g2];rfl
 ·unfold ad7;simp only[h1,g3,g4];rfl
theorem aFB {tm:List V} {a:Act} {w:aG} {G:fe} {o:Oper} {K:Act->aG->Prop} {Q:Exit->Act->aG->Prop} {k:iz} {sj:T}
 (h:R w0 n ρ m tm bl a w) (bu:DK P o n tm bl k=some sj) (ag:sj.holds S L G ρ) (af:ml S L w0 k n bl.length ρ m G K):o.wp P a w K Q:=by
 unfold DK at bu;split at bu
 ·rename_i t p x aA;have hp:=cS h.t p;have hx:=cS h.t x;split at bu
  ·rename_i b bG cL i j u Ny C0;rw[Ny]at hp;rw[C0]at hx;split at bu
   ·rename_i sh off code cap kind dQ s aZ hs;cases hc:(cO 2 kind&&aP bG sh.length&&I.beq cL off&&aP u.cells.length s&&dX 0 s&&cO (j+s) sh.length&&qh sh)with
    |false=>rw[hc]at bu;cases bu
    |true=>
     rw[hc]at bu;simp only[cond_true,bj]at bu;subst bu;simp only[bx]at hc;obtain⟨⟨⟨⟨⟨⟨c1,bQ⟩,cF⟩,dk⟩,fN⟩,hQ⟩,nT⟩:=hc;have c1:=gU c1;have bQ:=b1 bQ;have cF:=I.beq_eq cF;have dk:=b1 dk;have fN:=uR fN;have hQ:=gU hQ
     subst bQ;subst cF;subst dk;have Nx:a.eval p= .pointer (some ⟨m b,(cL.den ρ).toNat+(i.den ρ).toNat*sh.length+j,none⟩):=hp.2;have dN:a.eval x=u.den ρ m:=hx.2;have awD:(A.ep b sh.length cL i j).ok n bl.length ρ:=hp.1;have hD:(A.rows sh cL code cap kind).ok n bl.length ρ:=h.b _ (fC aZ) _ (by simp);have dD:aC S L (bind (h8 21 [code,i]) λ_=>bind (I0 67 [code,i,.const sh.length]) λ_=>bind (DF ((sh.drop j).take u.cells.length) u.cells) λls=>bind (gV 42 (code::i:: .const j::ls) 0 b6) λcode'=>pure code') n ρ λae n' code'=>code'.bN n'/\(0<=code'.den ae/\code'.den ae<=b6)/\(0<=i.den ρ/\i.den ρ<(ao (code.den ρ)).length)/\
      ∃ls:List Int,cM ((sh.drop j).take u.cells.length) ls/\dS ((sh.drop j).take u.cells.length) ls=u.cells.map (A.den ρ m)/\
       ao (code'.den ae)=(ao (code.den ρ)).set (i.den ρ).toNat (((ao (code.den ρ)).getD (i.den ρ).toNat []).take j++ls++((ao (code.den ρ)).getD (i.den ρ).toNat []).drop (j+ls.length)):=by
      refine jS λmX=>?_;have mX:0<=i.den ρ/\i.den ρ<(ao (code.den ρ)).length:=mX;have hlt:(i.den ρ).toNat<(ao (code.den ρ)).length:=by omega
      have dC:0<=cap.den ρ:=by
       rcases mE (cap.den ρ) 0 with jr|jr
       ·have:=(h.bK.rws b sh cL code cap kind dQ aZ (by omega)).1 jr;rw[this]at hlt;simp at hlt
       ·exact jr
      obtain⟨_,cells,ma,fz,bg,⟨b3,cy⟩,et⟩:=(h.bK.rws b sh cL code cap kind dQ aZ (by omega)).2 dC;have JO:(ao (code.den ρ)).getD (i.den ρ).toNat []=(ao (code.den ρ))[(i.den ρ).toNat]:=by simp[U,hlt]
      have kN:cM sh ((ao (code.den ρ)).getD (i.den ρ).toNat []):=by rw[JO];exact cy.1 _ (IE hlt)
      refine(P7 (op:=67) (ls:=[code,i,.const sh.length]) (by simp only[du,gQ,ay,I.bq,qm];exact kN.len)).bind λcB gS _ _ _ ⟨Hs,ue⟩=>?_;have Hs:=Hs.symm;have ue:=ue.symm
      subst Hs;subst ue;refine(KU (nb:=bl.length) (m:=m) (λy hy=>W.Jb hx.1 y hy)).bind λaN a6 ls ia gk ⟨g1,g2,g3⟩=>?_;have hf:bM 42 ((code::i::I.const j::ls).map (·.den aN))=rc ((ao (code.den ρ)).set (i.den ρ).toNat (((ao (code.den ρ)).getD (i.den ρ).toNat []).take j++ls.map (·.den aN)++((ao (code.den ρ)).getD (i.den ρ).toNat []).drop (j+(ls.map (·.den aN)).length))):=by
       simp only[du,bM,I.bq,qm,I.cf gk hD.1.2.1,I.cf gk awD.2.1.2]
      have awG:=amG kN g2 hQ;have ug:∀r∈(ao (code.den ρ)).set (i.den ρ).toNat (((ao (code.den ρ)).getD (i.den ρ).toNat []).take j++ls.map (·.den aN)++((ao (code.den ρ)).getD (i.den ρ).toNat []).drop (j+(ls.map (·.den aN)).length)),cM sh r:=λr hr=>by
       rcases PA hr with hr|hr
       ·exact cy.1 r hr
       ·subst hr;exact awG.1
      have rI:0<sh.length:=by omega
      have hlen:(ao (code.den ρ)).length<=maxLen:=by
       have Oy:=cy;obtain⟨_,pre,post,cG,cC⟩:=Oy;have h4:=congrArg pE cG;simp only[gY,qG cy.1,D7]at h4;obtain⟨_,_,_,h5,_⟩:=et c1;rw[h5]at h4;have h6:(ao (code.den ρ)).length*sh.length<=(cap.den ρ).toNat*sh.length:=by omega
       have h7:=aJM h6 rI;have:=hD.2.2.2;unfold maxLen;omega
      have iR:=uP (l:=(ao (code.den ρ)).set (i.den ρ).toNat (((ao (code.den ρ)).getD (i.den ρ).toNat []).take j++ls.map (·.den aN)++((ao (code.den ρ)).getD (i.den ρ).toNat []).drop (j+(ls.map (·.den aN)).length))) (by simpa using hlen) λr hr=>(ug r hr).row nT;refine(iQ (by rw[hf];exact kc _) (by rw[hf];exact iR)).bind λb5 gd code' gm eb ⟨k1,k2⟩=>aC.pure ?_;rw[hf]at k2;exact⟨k1,by rw[k2];exact⟨kc _,iR⟩,mX,ls.map (·.den aN),g2,g3,by rw[k2,kS]⟩
     obtain⟨ae,n',code',hn,ha,⟨g1,g2,g3,ls,g4,g5,g6⟩,ag⟩:=dD G _ ag;have hR:=h.later hn ha;have hlt:(i.den ρ).toNat<(ao (code.den ρ)).length:=by omega
     have dC:0<=cap.den ρ:=by
      rcases mE (cap.den ρ) 0 with jr|jr
      ·have:=(h.bK.rws b sh cL code cap kind dQ aZ (by omega)).1 jr;rw[this]at hlt;simp at hlt
      ·exact jr
     obtain⟨eJ,cells,ma,fz,bg,⟨b3,cy⟩,et⟩:=(h.bK.rws b sh cL code cap kind dQ aZ (by omega)).2 dC;obtain⟨r0,r1,r2,ij,aR,aE⟩:=et c1;subst r0;obtain⟨BG,pre,post,KF,OA⟩:=cy;have Ry:(ao (code.den ρ))[(i.den ρ).toNat]?=some ((ao (code.den ρ)).getD (i.den ρ).toNat []):=by simp[U,hlt]
     generalize aNh:(ao (code.den ρ)).getD (i.den ρ).toNat []=row at g6 Ry;have Ho:=BG row (fC Ry);obtain⟨cG,cC⟩:=amG Ho g4 hQ;have axg:u.cells.length=(u.cells.map (A.den ρ m)).length:=by simp
     have ai4:cells.toList=(pre++cj sh ((ao (code.den ρ)).take (i.den ρ).toNat))++(dS sh row++(cj sh ((ao (code.den ρ)).drop ((i.den ρ).toNat+1))++post)):=by
      rw[KF,Yk Ry];simp only[mF]
     have aO:(pre++cj sh ((ao (code.den ρ)).take (i.den ρ).toNat)).length=(cL.den ρ).toNat+(i.den ρ).toNat*sh.length:=by
      rw[gY,OA,qG λr hr=>BG r (nd hr),sf,F2 (by omega)]
     have ea:=H8 Ho;have avT:(cL.den ρ).toNat+(i.den ρ).toNat*sh.length+j+0+(u.cells.map (A.den ρ m)).length<=cells.size:=by
      have:=congrArg pE ai4;simp only[gY,D7,ea]at this aO;simp;omega
     have n2:=Tu (P:=P) (m b) ((cL.den ρ).toNat+(i.den ρ).toNat*sh.length+j) _ fz kind (u.cells.map (A.den ρ m)) 0 cells w r2 bg avT (λv hv=>by
      obtain⟨y,hy,rfl⟩:=List.mem_map.1 hv;exact A.S0 (W.Jb hx.1 y hy))
     simp only[oX]at n2;have ys:cells.toList.take ((cL.den ρ).toNat+(i.den ρ).toNat*sh.length+j)++u.cells.map (A.den ρ m)++cells.toList.drop ((cL.den ρ).toNat+(i.den ρ).toNat*sh.length+j+(u.cells.map (A.den ρ m)).length)=pre++cj sh (ao (code'.den ae))++post:=by
      rw[g6,atH Ry,ai4,<-aO,cC,g5];rw[List.take_append,uK (by omega),Nat.add_sub_cancel_left,Pq (by omega)];rw[List.drop_append,List.drop_of_length_le (by omega),gq];rw[show(pre++cj sh ((ao (code.den ρ)).take (i.den ρ).toNat)).length+j+(u.cells.map (A.den ρ m)).length-(pre++cj sh ((ao (code.den ρ)).take (i.den ρ).toNat)).length=j+u.cells.length by simp;omega];rw[aJC (by omega)];simp only[mF]
     rw[ys]at n2;have ajH:∀r∈ao (code'.den ae),cM sh r:=λr hr=>by
      rw[g6]at hr;rcases PA hr with hr|hr
      ·exact BG r hr
      ·subst hr;exact cG
     have E2:(ao (code'.den ae)).length=(ao (code.den ρ)).length:=by rw[g6];simp
     have hsz:(pre++cj sh (ao (code'.den ae))++post).length=cells.size:=by
      have az:=congrArg pE KF;simp only[gY,qG ajH,qG BG,D7,E2]at az⊢;omega
     have d1:cap.den ae=cap.den ρ:=I.cf ha hD.1.2.2;have d2:cL.den ae=cL.den ρ:=I.cf ha hD.1.1;have Rs:=hR.bK.put (kd:=kind) (cells:=cells) (fz:=fz) (code':=code') c1 aZ (by rw[d1];exact dC) (row:=(pre++cj sh (ao (code'.den ae))++post).toArray) (λ_=>⟨λef=>by rw[d1]at ef;omega,λ_=>⟨eJ,_,_,fz,Pz w (m b) _ _ _ _ bg,⟨by rw[d2];exact b3,by
      rw[d2];exact⟨ajH,pre,post,rfl,OA⟩⟩,λ_=>⟨rfl,by rw[d2];exact r1,by simp only[Ck,hsz];exact r2,by rw[d1];simp only[Ck,hsz];exact ij,aR,aE⟩⟩⟩)
     unfold o4;have jv:(aef t (.pointer (some ⟨m b,(cL.den ρ).toNat+(i.den ρ).toNat*sh.length+j,none⟩)) (u.den ρ m)).run P w= .ok () (w.setRow (m b) (pre++cj sh (ao (code'.den ae))++post).toArray):=by
      simp only[aef,o2,jl,kv,jF,storeVar,kq hs,W.Qx (m:=m) u hx.1];simp only[Ck,pG,ne_eq,not_true_eq_false,if_false,kv,jF];simp only[kv,jF,n2]
     simp only[execOp,aA,jl,Nx,dN,jv,jF,kv];refine af n' ae m _ _ G _ _ ⟨hn,ha,by rw[lz];exact bW _,λ_ _=>rfl⟩ (gr.refl _ _) ⟨?_,by rw[put_defers];exact h.d,hR.b.set (λy hy=>by
      simp at hy;subst hy;exact⟨⟨hD.1.1.mono hn,g1,hD.1.2.2.mono hn⟩,g2,by rw[d1];exact hD.2.2⟩),Rs⟩ ag
     rw[lz];exact eW.put hR.t o.dst (by intro x hx;simp at hx) rfl
   ·cases bu
  ·cases bu
 ·rename_i s d x aA;have hx:=cS h.t x;split at bu
  ·rename_i l C0;rw[C0]at hx;split at bu
   ·rename_i e hs hd;split at bu
    ·rename_i he;simp only[bj]at bu;subst bu;have zM:(A.str l).ok n bl.length ρ:=hx.1;have dN:a.eval x= .string (en (bF (l.den ρ))):=hx.2;have dD:aC S L (bind (gV 27 [l] 0 b6) λcode=>bind (gV 0 [l] 0 9223372036854775807) λlen=>pure (code,len)) n ρ λae n' p=>(p.1.bN n'/\p.2.bN n')/\(0<=p.1.den ae/\p.1.den ae<=b6)/\(bF (l.den ρ)).length<=9223372036854775807/\ao (p.1.den ae)=(bF (l.den ρ)).map (λb=>[(b.toNat:Int)])/\p.2.den ae=(bF (l.den ρ)).length:=by
      have mX:(bF (l.den ρ)).length<=9223372036854775807:=by have:=LW zM.2.2;unfold m4 at this;omega
      have iR:rc ((bF (l.den ρ)).map λb=>[(b.toNat:Int)])<=b6:=uP (by simp;unfold maxLen;omega) λr hr=>by
       obtain⟨b,_,rfl⟩:=List.mem_map.1 hr;have hp:=VT;have:=b.toNat_lt;exact⟨by simp,λz hz=>by simp at hz;subst hz;omega⟩
      refine(iQ (op:=27) (args:=[l]) (kc _) iR).bind λaN a6 code ia gk ⟨g1,g2⟩=>?_;have g2:code.den aN=rc ((bF (l.den ρ)).map λb=>[(b.toNat:Int)]):=g2;have Zq:l.den aN=l.den ρ:=I.cf gk zM.1;refine(iQ (op:=0) (args:=[l]) (lo:=0) (hi:=9223372036854775807) (LB _) (by
       show((bF (l.den aN)).length:Int)<=_;rw[Zq];omega)).bind λb5 gd len gm eb ⟨k1,k2⟩=>aC.pure ?_
      have k2:len.den b5=((bF (l.den aN)).length:Nat):=k2;have cn:code.den b5=code.den aN:=I.cf eb g1;refine⟨⟨g1.mono gm,k1⟩,by rw[cn,g2];exact⟨kc _,iR⟩,mX,by rw[cn,g2,kS],by rw[k2,Zq]⟩
     obtain⟨ae,n',p,hn,ha,⟨⟨g1,nZ⟩,g2,g3,g4,g5⟩,ag⟩:=dD G (λp n=>MM 3 e o.dst j4 p.1 p.2 n tm bl k) ag;have hR:=h.later hn ha;have jv:=Lib.run_convert_string_bytes (P:=P) w s d e (en (bF (l.den ρ))) hs (jg hd) he;generalize dC:grownCap w (en (bF (l.den ρ))).size 0 e=c at jv;have td:(en (bF (l.den ρ))).size<=c:=by rw[<-dC];exact grownCap_ge w _ 0 e
     have hle:c<=9223372036854775807:=by rw[<-dC];exact grownCap_le_maxLen w _ 0 e (by rw[Cz];exact g3)
     have CR:(PB w e (en (bF (l.den ρ)))).heap[w.heap.size]?=some (.cells (PC w e (en (bF (l.den ρ)))) e ((PC w e (en (bF (l.den ρ)))).size,(PC w e (en (bF (l.den ρ)))).size+1)):=Lib.bytesWorld_at_new w e _;have avG:(PC w e (en (bF (l.den ρ)))).size=c:=by
      have avZ:=td;rw[Cz]at avZ;simp only[PC,apx,Array.size_map,Array.size_replicate,dC];show(en (bF (l.den ρ))).size+_=_;omega
     have Hb:w.Extends (PB w e (en (bF (l.den ρ)))):=by
      have hb:∀i:Nat,i<w.heap.size->(PB w e (en (bF (l.den ρ)))).heap[i]?=w.heap[i]?:=λi hi=>Lib.bytesWorld_at_old w e _ i hi;exact⟨rfl,rfl,rfl,by simp[PB,UJ,LR,aeo,-UK,-apy],λy hy=>by simp only[nK,hb y.block hy],λy hy=>by simp only[D4,hb y.block hy],hb⟩
     have G3:R w0 n' ae m tm bl a (PB w e (en (bF (l.den ρ)))):=⟨hR.t,hR.d,hR.b,hR.bK.grow Hb⟩;unfold o4;simp only[execOp,aA,jl,dN,jv,jF,kv];have nv:ml S L w0 k n' bl.length ae m G K:=af.later ⟨hn,ha,bW _,λ_ _=>rfl⟩ (gr.refl _ _);have ib:(en (bF (l.den ρ))).size=(bF (l.den ρ)).length:=Cz _;have key:=ab8 (kd:=3) (c:=(c:Int)) (g:=w.heap.size) (by omega) G3 g1 nZ g2 ⟨by omega,by omega⟩ (by rw[g5];exact⟨⟨by omega,by omega,by omega,by omega⟩,⟨by omega,by omega⟩,λh=>by omega,λ_=>by omega⟩) (λh=>by omega)
      (λ_=>⟨_,_,⟨CR,.inr ⟨by decide,rfl⟩⟩,by
        rw[g4];refine⟨λr hr=>?_,[],fD (c-(bF (l.den ρ)).length) (.int .u8 0),?_,rfl⟩
        ·obtain⟨b,_,rfl⟩:=List.mem_map.1 hr;have:=b.toNat_lt;exact⟨⟨by simp[aQ.hA],by simp only[aQ.hA];omega⟩,trivial⟩
        ·simp only[PC,dC,Array.toList_append,AG,Array.toList_replicate,gq]
         congr 1
         ·show(bF (l.den ρ)).map _=_;simp only[cj,aJH];induction bF (l.den ρ)with
          |nil=>rfl
          |cons b r ih=>simp[dS,aQ.val,j4,ih],by
        rw[avG];simp[j4],h.bK.ext.size,.inr h.bK.ib⟩) (λi p hi he=>by
         by_cases mW:bU ae p.1=0
         ·exact .inl mW
         ·have:=hR.bK.lt hi mW;omega) ag nv
     rw[if_neg (by omega),g5]at key;have key:K (a.put o.dst (.slice (some ⟨w.heap.size,0,none⟩) (bF (l.den ρ)).length c)) (PB w e (en (bF (l.den ρ)))):=by simpa using key
     rw[ib];exact key
    ·cases bu
   ·cases bu
  ·rename_i b len cap C0;rw[C0]at hx;split at bu
   ·rename_i C t e aZ hd;split at bu
    ·rename_i he;cases hc:(aP s d&&cl C&& !t.2&&aP C.length len&&aP cap len&&cO len 1000000)with
     |false=>rw[hc]at bu;cases bu
     |true=>
      rw[hc]at bu;simp only[cond_true,bj]at bu;subst bu;simp only[bx]at hc;obtain⟨⟨⟨⟨⟨e4,c1⟩,bQ⟩,cF⟩,dk⟩,fN⟩:=hc;have e4:=b1 e4;have bQ:t.2=false:=by simpa using bQ
      have cF:=b1 cF;have dk:=b1 dk;have fN:=gU fN;subst e4;subst dk;have cb:∀x∈C,A.ok n bl.length ρ x:=h.b _ (fC aZ);have oz:=Mm (w:=1) (k:=cap) (l:=C) (by omega);have gE:ao ((I.const 0).den ρ)=[]:=by rw[I.bq];exact oa
      have hz:(0:Int)<=b6:=D2 (kc []) (uP (l:=[]) (by simp) (by simp));obtain⟨ae,n',code,hn,ha,⟨cG,cC,eF,dE,gP,gW,ie⟩,ag⟩:=L8 (S:=S) (L:=L) (nb:=bl.length) (m:=m) (sh:=j4) (by decide) (rs:=rv 1 cap C) (c:= .const 0) (n:=n) (ρ:=ρ) (λrow hr x hx=>cb x (Mn row hr x hx)) (I.dF _ _) (by rw[I.bq];exact⟨di _,hz⟩) (by rw[gE];intro _ h;simp at h) (by rw[gE,oz.1];simp;omega) G _ ag;rw[gE,gq]at dE;have hR:=h.later hn ha;have Zw:C.map (A.den ae m)=C.map (A.den ρ m):=yG cb ha (λ_ _=>rfl);obtain⟨w',jv,pf⟩:=hR.bK.mark (P:=P) (s:=s) (e:=e) (code:=code) aZ c1 bQ cF (jg hd) he (by rw[dE];exact gW) (by rw[dE,ie,oz.2,Zw]);unfold o4;have axn:a.eval x= .slice (some ⟨m b,0,none⟩) cap cap:=hx.2;simp only[execOp,aA,jl,axn,jv,jF,kv];have M5:b<bl.length:=(List.getElem?_eq_some_iff.1 aZ).1;refine af n' ae m _ _ G _ _ ⟨hn,ha,by rw[lz];exact bW _,λ_ _=>rfl⟩ (gr.refl _ _) ⟨?_,by rw[put_defers];exact h.d,hR.b.set (λy hy=>by
       have hy:y= .rows j4 (.const 0) code (.const cap) 3:=by simpa using hy
       subst hy;exact⟨⟨I.dF _ _,cG,I.dF _ _⟩,cC,by rw[I.bq];omega⟩),pf⟩ ag
      rw[lz];exact eW.put hR.t o.dst ⟨M5,⟨I.dF _ _,I.dF _ _,I.dF _ _,I.dF _ _⟩,by simp only[I.bq,Ii];omega⟩ (by
       show _=_;simp[W.den,A.den,I.bq])
    ·cases bu
   ·cases bu
  ·cases bu
 ·rename_i t x y aA;split at bu
  ·rename_i e qZ qc hd awi awj;cases hi:P.info? e with
   |none=>simp[hi]at bu
   |some i=>
    simp only[hi]at bu;split at bu
    ·rename_i z hz;cases hc:(aP i.size 1&&cO i.bytes 1024&&decide (z=0))with
     |false=>rw[hc]at bu;cases bu
     |true=>
      rw[hc]at bu;simp only[cond_true,bj]at bu;subst bu;simp only[bx,decide_eq_true_eq]at hc;have c1:=b1 hc.1.1;have bQ:=gU hc.1.2;have cF:=hc.2;subst cF;obtain⟨ayt,hx,hE⟩:=akd h.t awi;obtain⟨ayu,hy,Hr⟩:=akd h.t awj;obtain⟨Zp,ag⟩:=ag;have Zp:0<=qZ.den ρ/\qZ.den ρ<=qc.den ρ/\qc.den ρ<=1073741824:=Zp;obtain⟨bg,b3,cy⟩:=Zp;have eJ:0<=qc.den ρ:=by omega
      have kN:∀r∈fD (qZ.den ρ).toNat [(0:Int)],cM j4 r:=λr hr=>by
       rw[apz hr];exact⟨⟨by simp[aQ.hA],by simp[aQ.hA]⟩,trivial⟩
      have iR:rc (fD (qZ.den ρ).toNat [(0:Int)])<=b6:=Gb (sh:=j4) (by decide) (by simp;omega) kN;have hf:bM 26 ([qZ,I.const 0].map (·.den ρ))=rc (fD (qZ.den ρ).toNat [(0:Int)]):=by
       simp only[du,gQ,bM,I.bq]
      obtain⟨ae,n',code,hn,ha,⟨g1,g2⟩,ag⟩:=iQ (S:=S) (L:=L) (n:=n) (op:=26) (args:=[qZ,.const 0]) (lo:=0) (hi:=b6) (by rw[hf];exact kc _) (by rw[hf];exact iR) G _ ag;rw[hf]at g2;have hR:=h.later hn ha;have d1:qZ.den ae=qZ.den ρ:=I.cf ha hE;have jv:=run_make (P:=P) w t e i (.int .u8 0) (jg hd) hi hz ayt ayu (qZ.den ρ) (qc.den ρ) bg b3 (by
       have h0:(i.bytes:Int)<=1024:=by omega
       have h2:(i.bytes:Int)*qc.den ρ<=1024*1073741824:=Int.mul_le_mul h0 cy eJ (by decide);omega) (by omega)
      have ajy:(madeCells (AD .u8 0).cells ((qc.den ρ).toNat*i.size)).toList=fD (qc.den ρ).toNat (.int .u8 0):=by
       rw[c1,Ch];refine aeh λj=>?_;simp only[madeCells,Value.cells,AG,aeg];rw[se,List.getElem?_replicate];by_cases aM:j<(qc.den ρ).toNat
       ·rw[if_pos aM,apt aM];simp[Nat.mod_one]
       ·rw[if_neg aM,aei (by simp;omega)];rfl
      have hsz:(madeCells (AD .u8 0).cells ((qc.den ρ).toNat*i.size)).size=(qc.den ρ).toNat:=by
       have:=congrArg pE ajy;simpa using this
      have CR:(w.alloc (.cells (madeCells (AD .u8 0).cells ((qc.den ρ).toNat*i.size)) e)).heap[w.heap.size]?=some (.cells (madeCells (AD .u8 0).cells ((qc.den ρ).toNat*i.size)) e (0,0)):=by simp[LR,-UK]
      have Hb:w.Extends (w.alloc (.cells (madeCells (AD .u8 0).cells ((qc.den ρ).toNat*i.size)) e)):=by
       have hb:∀j:Nat,j<w.heap.size->(w.alloc (.cells (madeCells (AD .u8 0).cells ((qc.den ρ).toNat*i.size)) e)).heap[j]?=w.heap[j]?:=λj aM=>by
        simp only[LR];rw[aJN aM,Pn aM]
       exact⟨rfl,rfl,rfl,by simp[LR,-UK],λy hy=>by simp only[nK,hb y.block hy],λy hy=>by simp only[D4,hb y.block hy],hb⟩
      generalize CI:w.alloc (.cells (madeCells (AD .u8 0).cells ((qc.den ρ).toNat*i.size)) e)=W at*;have G3:R w0 n' ae m tm bl a W:=⟨hR.t,hR.d,hR.b,hR.bK.grow Hb⟩;unfold o4;simp only[execOp,aA,jl,hx,hy,jv,jF,kv];have nv:ml S L w0 k n' bl.length ae m G K:=af.later ⟨hn,ha,bW _,λ_ _=>rfl⟩ (gr.refl _ _);have key:=ab8 (kd:=2) (c:=qc.den ρ) (g:=w.heap.size) (bW _) G3 g1 (hE.mono hn) (by rw[g2];exact⟨kc _,iR⟩) ⟨by omega,by omega⟩ (by rw[d1];exact⟨⟨by omega,by omega,by omega,by omega⟩,⟨by omega,by omega⟩,λh=>by omega,λ_=>by omega⟩) (λh=>by omega)
       (λ_=>⟨_,_,⟨CR,.inl ⟨rfl,rfl⟩⟩,by
         rw[g2,kS];refine⟨kN,[],fD ((qc.den ρ).toNat-(qZ.den ρ).toNat) (.int .u8 0),?_,rfl⟩;rw[ajy,gq];have az:cj j4 (fD (qZ.den ρ).toNat [(0:Int)])=fD (qZ.den ρ).toNat (.int .u8 0):=by
          generalize (qZ.den ρ).toNat=q;induction q with
          |zero=>rfl
          |succ q ih=>
           rw[D8,D8];simp only[cj,wk]at ih⊢;rw[ih];rfl
         rw[az,List.replicate_append_replicate]
         congr 1;omega,by rw[hsz];simp[j4],h.bK.ext.size,.inr h.bK.ib⟩) (λj p aM he=>by
         by_cases mW:bU ae p.1=0
         ·exact .inl mW
         ·have:=hR.bK.lt aM mW;omega) ag nv
      rw[if_neg (by omega),d1]at key;have key:K (a.put o.dst (.slice (some ⟨w.heap.size,0,none⟩) (qZ.den ρ).toNat (qc.den ρ).toNat)) W:=key;exact key
    ·cases bu
  ·cases bu
 ·rename_i c aA;split at bu
  ·rename_i f hc;split at bu
   ·rename_i fn x hf tc;split at bu
    ·rename_i y t hx pj;split at bu
     ·rename_i e hd;split at bu
      ·rename_i he;cases hm:RM fn with
       |false=>rw[hm]at bu;cases bu
       |true=>
        rw[hm]at bu;simp only[cond_true,bj]at bu;subst bu;obtain⟨ir,gw,HG,Bt⟩:=atB hm;have hE:=cS h.t x;rw[hx]at hE;have Hr:y.l.bN n:=hE.1.1;obtain⟨Zo,ag⟩:=ag;have Zo:0<=y.l.den ρ/\y.l.den ρ<=1073741824:=Zo;obtain⟨bg,b3⟩:=Zo;obtain⟨N,cP⟩:∃N:Nat,y.l.den ρ=N:=⟨(y.l.den ρ).toNat,by omega⟩;have dN:a.eval x= .int .i64 (N:Int):=by rw[<-cP];exact hE.2
        have awL:fn.resultTypes=#[t]:=UG (by rw[pj]);obtain⟨nV,GG,jv,hle,Hh⟩:=aEA (P:=P) w fn.params t e (jg hd) N (by omega);have Hh:=Hh (by unfold maxLen;omega);unfold maxLen at Hh;obtain⟨l,l1,l2,oG⟩:=ahz nV GG #[];have Y5:(execOp a.eval o).run P w= .ok (.value (.slice (some ⟨w.heap.size,0,none⟩) N nV)) (w.drew.drew.alloc (.cells (Cm nV GG #[]) e)):=by
         rw[acH hc o aA,run_callFunc_extern hf gw ir HG Bt];have:c.args.map a.eval=#[.int .i64 (N:Int)]:=UG (by rw[AG,tc];simp[dN]);rw[this,awL,jv];rfl
        have NS:∀r∈l.take N,cM j4 r:=λr hr=>l2 r (nd hr);have qR:(l.take N).length=N:=by rw[sf,l1];omega
        have ajV:rc (l.take N)<=b6:=Gb (sh:=j4) (by decide) (by rw[qR];omega) NS;have ag:=ag (rc (l.take N)) (kc _) ajV;have gk:agree n ρ (dI ρ n (rc (l.take N))):=agree.dI _ _ _;have ba:y.l.den (dI ρ n (rc (l.take N)))=N:=by rw[I.cf gk Hr,cP]
        have XI:(I.var n).den (dI ρ n (rc (l.take N)))=rc (l.take N):=by simp[I.db,mA]
        have ag:=ag (by
         show y.l.den (dI ρ n (rc (l.take N)))=((ao ((I.var n).den (dI ρ n (rc (l.take N))))).length:Int);rw[ba,XI,kS,qR])
        have ag:=ag (nV:Int) (by omega) (by omega);have ag:=ag (by
         have eb:agree (n+1) (dI ρ n (rc (l.take N))) (dI (dI ρ n (rc (l.take N))) (n+1) (nV:Int)):=agree.dI _ _ _;show y.l.den (dI (dI ρ n (rc (l.take N))) (n+1) (nV:Int))<=(I.var (n+1)).den (dI (dI ρ n (rc (l.take N))) (n+1) (nV:Int));rw[I.cf eb (Hr.mono (tJ _)),ba];simp only[I.db,mA];omega)
        have hR:=h.later (tJ n) gk;have CR:(w.drew.drew.alloc (.cells (Cm nV GG #[]) e)).heap[w.heap.size]?=some (.cells (Cm nV GG #[]) e (0,0)):=by simp[LR,aeo,-UK,-apy]
        have Hb:w.Extends (w.drew.drew.alloc (.cells (Cm nV GG #[]) e)):=by
         have hb:∀j:Nat,j<w.heap.size->(w.drew.drew.alloc (.cells (Cm nV GG #[]) e)).heap[j]?=w.heap[j]?:=λj aM=>by
          simp only[LR,aeo];rw[aJN aM,Pn aM]
         exact⟨rfl,rfl,rfl,by simp[LR,aeo,-UK,-apy],λy hy=>by simp only[nK,hb y.block hy],λy hy=>by simp only[D4,hb y.block hy],hb⟩
        generalize CI:w.drew.drew.alloc (.cells (Cm nV GG #[]) e)=W at*;have G3:R w0 (n+1) (dI ρ n (rc (l.take N))) m tm bl a W:=⟨hR.t,hR.d,hR.b,hR.bK.grow Hb⟩;unfold o4;simp only[Y5];have nv:ml S L w0 k (n+1) bl.length (dI ρ n (rc (l.take N))) m G K:=af.later ⟨tJ n,gk,bW _,λ_ _=>rfl⟩ (gr.refl _ _);have key:=amh (kd:=2) (c:=(nV:Int)) (g:=w.heap.size) (code:= .var n) (len:=y.l) (e:=e) (d:=o.dst) (sh:=j4) (bW _) G3 (I.hj (AE n)) (Hr.mono (tJ _)) (by rw[XI];exact⟨kc _,ajV⟩) ⟨by omega,by omega⟩ (by rw[ba];exact⟨⟨by omega,by omega,by omega,by omega⟩,⟨by omega,by omega⟩,λh=>by omega,λ_=>by omega⟩) (λh=>by omega)
         (λ_=>⟨_,_,⟨CR,.inl ⟨rfl,rfl⟩⟩,by
           rw[XI,kS];refine⟨NS,[],cj j4 (l.drop N),?_,rfl⟩;rw[oG];show cj j4 l=cj j4 (l.take N)++cj j4 (l.drop N);rw[<-zC,oi],by
           have az:=congrArg pE oG;simp only[gY,qG l2,l1]at az;simpa [j4]using az,h.bK.ext.size,.inr h.bK.ib⟩) (λj p aM he=>by
           by_cases mW:bU (dI ρ n (rc (l.take N))) p.1=0
           ·exact .inl mW
           ·have:=hR.bK.lt aM mW;omega) ag nv
        rw[if_neg (by omega),ba]at key;have key:K (a.put o.dst (.slice (some ⟨w.heap.size,0,none⟩) N nV)) W:=by simpa using key
        exact key
      ·cases bu
     ·cases bu
    ·cases bu
   ·cases bu
  ·cases bu
 ·cases bu
end
end Go.b9
namespace Go.b9
open M
theorem aEf {α:Type} (f:Nat->α) (s k:Nat):(ht ((k+1)*s)).map (λi=>f (i% s))=(ht s).map (λi=>f (i% s))++(ht (k*s)).map (λi=>f (i% s)):=by
 rw[AF,Nat.add_comm (k*s) s,List.range_add,jE,pD]
 congr 1
 refine kU λi _=>?_;simp only[Pm,Nat.add_mod_left]
theorem ao3 (Z:Array aW):∀k:Nat,(pI Z k).toList=(fD k Z.toList).flatten
 |0=>by simp[pI]
 |k+1=>by
  have ih:=ao3 Z k;simp only[pI,AG,aeg]at ih⊢;rw[aEf (λi=>Z[i]!) Z.size k,ih,D8,oh]
  congr 1
  refine List.ext_getElem (by simp) λi h1 h2=>?_;simp only[pG,List.length_range]at h1;simp[ad2 h1,h1]
theorem ah3 (sh:List aQ) (row:List Int):∀k:Nat,cj sh (fD k row)=(fD k (dS sh row)).flatten
 |0=>rfl
 |k+1=>by
  have ih:=ah3 sh row k;rw[D8,D8,oh,<-ih];rfl
section
variable {S:Nat->List Int->List Int->Prop} {L:V->Env->Prop} {n:Nat} {ρ:Env} {m:Nat->Nat} {bl:List aJ} {gl:fP} {w0:eL} {P:b4}
theorem Mem.rewrite {w:aG} {b:Nat} {sh:List aQ} {off code cap code':I} {kind:Nat} {dQ:br×Bool} (h:Mem w0 ρ m bl w) (aZ:bl[b]?=some ([.rows sh off code cap kind],dQ)) (af:2<=kind) (dC:0<=cap.den ρ)
 (ug:∀r∈ao (code'.den ρ),cM sh r) (hlen:(ao (code'.den ρ)).length=(ao (code.den ρ)).length):
 ∃(cells:Array aW) (post:List aW) (fz:Nat×Nat),w.heap[m b]?=some (.cells cells dQ.1 fz)/\Co kind fz cells.size/\off.den ρ=0/\(∀r∈ao (code.den ρ),cM sh r)/\cells.toList=cj sh (ao (code.den ρ))++post/\cells.size=(cap.den ρ).toNat*sh.length/\
  Mem w0 ρ m (ei bl b ([.rows sh off code' cap kind],dQ)) (w.setRow (m b) (cj sh (ao (code'.den ρ))++post).toArray):=by
 obtain⟨eJ,cells,ma,fz,bg,⟨b3,cy⟩,et⟩:=(h.rws b sh off code cap kind dQ aZ (by omega)).2 dC;obtain⟨r0,r1,r2,ij,aR,aE⟩:=et af;subst r0;obtain⟨BG,pre,post,KF,OA⟩:=cy;rw[r1]at OA;have rJ:pre=[]:=zb (by simpa using OA);subst rJ;rw[gq]at KF;have hsz:(cj sh (ao (code'.den ρ))++post).length=cells.size:=by
  have az:=congrArg pE KF;simp only[gY,qG ug,qG BG,D7,hlen]at az⊢;omega
 refine⟨cells,post,fz,bg,r2,r1,BG,KF,ij,?_⟩;exact h.put (kd:=kind) (cells:=cells) (fz:=fz) (code':=code') af aZ dC (row:=(cj sh (ao (code'.den ρ))++post).toArray) (λ_=>⟨λef=>by omega,λ_=>⟨eJ,_,_,fz,Pz w (m b) _ _ _ _ bg,⟨by rw[r1];exact di _,by
  rw[r1];exact⟨ug,[],post,by simp,rfl⟩⟩,λ_=>⟨rfl,r1,by simp only[Ck,hsz];exact r2,by simp only[Ck,hsz];exact ij,aR,aE⟩⟩⟩)
theorem alq {sh:List aQ} {rows mid:List (List Int)} {post:List aW} {cells:List aW} {a:Nat} (hr:∀r∈rows,cM sh r) (hm:∀r∈mid,cM sh r) (hc:cells=cj sh rows++post) (ha:a+mid.length<=rows.length):
 cells.take (a*sh.length)++cj sh mid++cells.drop (a*sh.length+(cj sh mid).length)=cj sh (rows.take a++mid++rows.drop (a+mid.length))++post:=by
 have h1:cj sh rows=cj sh (rows.take a)++cj sh (rows.drop a):=by rw[<-zC,oi]
 have h2:cj sh rows=cj sh (rows.take (a+mid.length))++cj sh (rows.drop (a+mid.length)):=by rw[<-zC,oi]
 have l1:(cj sh (rows.take a)).length=a*sh.length:=by rw[qG λr h=>hr r (nd h),sf,F2 (by omega)]
 have l2:(cj sh (rows.take (a+mid.length))).length=a*sh.length+(cj sh mid).length:=by rw[qG λr h=>hr r (nd h),qG hm,sf,F2 (by omega),AH]
 have az:cells.take (a*sh.length)=cj sh (rows.take a):=by
  rw[hc,h1,mF,Pq (by omega),uK (by omega)]
 have aI:cells.drop (a*sh.length+(cj sh mid).length)=cj sh (rows.drop (a+mid.length))++post:=by
  rw[hc,h2,mF,<-l2,F3]
 rw[az,aI,zC,zC];simp only[mF]
theorem SL {sh:List aQ} {rows mid:List (List Int)} {a k:Nat} (hr:∀r∈rows,cM sh r) (hm:∀r∈mid,cM sh r):∀r∈rows.take a++mid++rows.drop k,cM sh r:=λr h=>by
 rcases List.mem_append.1 h with h|h
 ·rcases List.mem_append.1 h with h|h
  ·exact hr r (nd h)
  ·exact hm r h
 ·exact hr r (rh h)
theorem abo {rows mid:List (List Int)} {a:Nat} (ha:a+mid.length<=rows.length):(rows.take a++mid++rows.drop (a+mid.length)).length=rows.length:=by
 simp only[gY,sf,oZ];omega
theorem Ts {w:aG} {b:Nat} {sh:List aQ} {off code cap:I} {kind:Nat} {dQ:br×Bool} (h:Mem w0 ρ m bl w) (aZ:bl[b]?=some ([.rows sh off code cap kind],dQ)) (af:2<=kind) (dC:0<=cap.den ρ) (EX:cap.den ρ<=9223372036854775807) (rI:0<sh.length):(ao (code.den ρ)).length<=maxLen/\∀r∈ao (code.den ρ),cM sh r:=by
 obtain⟨eJ,cells,ma,fz,bg,⟨b3,cy⟩,et⟩:=(h.rws b sh off code cap kind dQ aZ (by omega)).2 dC;obtain⟨_,_,_,h5,_⟩:=et af;obtain⟨BG,pre,post,cG,cC⟩:=cy;refine⟨?_,BG⟩;have h4:=congrArg pE cG;simp only[gY,qG BG,D7]at h4;rw[h5]at h4;have h6:(ao (code.den ρ)).length*sh.length<=(cap.den ρ).toNat*sh.length:=by omega
 have h7:=aJM h6 rI;unfold maxLen;omega
theorem ane {sh:List aQ} (h:qh sh=true):0<sh.length:=by
 unfold qh at h;simp only[bx]at h;exact uR h.1.2
theorem amJ {w:aG} {b:Nat} {sh:List aQ} {off code cap:I} {kind:Nat} {dQ:br×Bool} (h:Mem w0 ρ m bl w) (aZ:bl[b]?=some ([.rows sh off code cap kind],dQ)) (af:2<=kind) (EX:cap.den ρ<=9223372036854775807) (rI:0<sh.length):(ao (code.den ρ)).length<=maxLen/\∀r∈ao (code.den ρ),cM sh r:=by
 rcases mE (cap.den ρ) 0 with hc|hc
 ·rw[(h.rws b sh off code cap kind dQ aZ (by omega)).1 hc];exact⟨LC _,λr hr=>by simp at hr⟩
 ·exact Ts h aZ af hc EX rI
theorem Mem.aEh {w:aG} {b:Nat} {sh:List aQ} {off code cap code':I} {kind:Nat} {dQ:br×Bool} (h:Mem w0 ρ m bl w) (aZ:bl[b]?=some ([.rows sh off code cap kind],dQ)) (he:ao (code'.den ρ)=ao (code.den ρ)):Mem w0 ρ m (ei bl b ([.rows sh off code' cap kind],dQ)) w:=by
 rw[mz];have hlt:=(List.getElem?_eq_some_iff.1 aZ).1;have hg:∀(i:Nat) (p:aJ),(bl.set b ([.rows sh off code' cap kind],dQ))[i]?=some p->(i=b/\p=([.rows sh off code' cap kind],dQ))∨(i≠b/\bl[i]?=some p):=λi p hi=>by
  rw[wh]at hi;by_cases lr:b=i
  ·subst lr;rw[if_pos rfl,if_pos hlt]at hi;exact .inl ⟨rfl,(jC hi).symm⟩
  ·rw[if_neg lr]at hi;exact .inr ⟨λe=>lr e.symm,hi⟩
 have jt:∀(i:Nat) (p:aJ),(bl.set b ([.rows sh off code' cap kind],dQ))[i]?=some p->∃q:aJ,bl[i]?=some q/\bU ρ p.1=bU ρ q.1:=λi p hi=>by
  rcases hg i p hi with⟨rfl,rfl⟩|⟨_,h2⟩
  ·exact⟨_,aZ,rfl⟩
  ·exact⟨_,h2,rfl⟩
 refine⟨h.ext,h.j7,h.mw,h.lH,h.ib,h.jU,λi cs t hi aA=>?_,λi hk kP jT kK sJ t hi=>?_,λi j p q hi aM hm=>?_⟩
 ·rcases hg i _ hi with⟨_,h2⟩|⟨_,h2⟩
  ·cases h2;exact absurd aA (by simp[cl])
  ·exact h.gZ i cs t h2 aA
 ·rcases hg i _ hi with⟨rfl,h2⟩|⟨_,h2⟩
  ·cases h2;have:=h.rws _ sh off code cap kind dQ aZ;unfold wo at this⊢;rw[he];exact this
  ·exact h.rws i _ _ _ _ _ t h2
 ·obtain⟨dH,hp,ep⟩:=jt i p hi;obtain⟨fA,ak,eq⟩:=jt j q aM;rw[ep,eq];exact h.inj i j dH fA hp ak hm
theorem aFC {tm:List V} {a:Act} {w:aG} {G:fe} {o:Oper} {K:Act->aG->Prop} {Q:Exit->Act->aG->Prop} {k:iz} {sj:T}
 (h:R w0 n ρ m tm bl a w) (bu:ade P o n tm bl k=some sj) (ag:sj.holds S L G ρ) (af:ml S L w0 k n bl.length ρ m G K):o.wp P a w K Q:=by
 unfold ade at bu;split at bu
 rotate_left
 ·cases bu
 rename_i c aA;split at bu
 ·rename_i n1;split at bu
  rotate_left
  ·cases bu
  rename_i x t hE oB;have hx:=cS h.t x;split at bu
  rotate_left
  ·cases bu
  rename_i b bG cL ro len cap e hv he;rw[hv]at hx;split at bu
  rotate_left
  ·cases bu
  rename_i sh off code fO kind dQ z aZ hz;cases hc:(cO 2 kind&&I.beq cL off&&aP bG sh.length&&qh sh&&aP z.length sh.length)with
  |false=>rw[hc]at bu;cases bu
  |true=>
   rw[hc]at bu;simp only[cond_true,bj]at bu;subst bu;simp only[bx]at hc;obtain⟨⟨⟨⟨c1,bQ⟩,cF⟩,dk⟩,fN⟩:=hc;have c1:=gU c1;have bQ:=I.beq_eq bQ;have cF:=b1 cF;have fN:=b1 fN
   subst bQ;subst cF;obtain⟨inf,oj,hi,km,ub⟩:=Lw hz;have b7:c.args=#[x]:=by rw[<-lO (xs:=c.args),hE]
   have a2:c.argTypes=#[t]:=by rw[<-lO (xs:=c.argTypes),oB]
   have rK:(A.sl b sh.length cL ro len cap).ok n bl.length ρ:=hx.1;obtain⟨ptr,az,aI,cn⟩:=xH (m:=m) rK;have dN:a.eval x=(A.sl b sh.length cL ro len cap).den ρ m:=hx.2;rw[az]at dN;obtain⟨aj,⟨ah,au,de,iK⟩,⟨jz,mc,me,mf⟩,⟨mB,mb⟩,hW,jy⟩:=rK;have hD:(A.rows sh cL code fO kind).ok n bl.length ρ:=h.b _ (fC aZ) _ (by simp);have rI:=ane dk;have dD:aC S L (bind (h8 65 [code,ro,len]) λ_=>bind (DF sh z) λls=>bind (gV 61 (code::ro::len::ls) 0 b6) λcode'=>pure code') n ρ λae n' code'=>code'.bN n'/\(0<=code'.den ae/\code'.den ae<=b6)/\(0<=ro.den ρ/\0<len.den ρ/\ro.den ρ+len.den ρ<=(ao (code.den ρ)).length)/\0<=fO.den ρ/\
    ∃row:List Int,cM sh row/\dS sh row=oj.cells.toList/\ao (code'.den ae)=(ao (code.den ρ)).take (ro.den ρ).toNat++fD (len.den ρ).toNat row++(ao (code.den ρ)).drop ((ro.den ρ).toNat+(len.den ρ).toNat):=by
    refine jS λmX=>?_;have mX:0<=ro.den ρ/\0<len.den ρ/\ro.den ρ+len.den ρ<=(ao (code.den ρ)).length:=mX;have J2:=CD ub n bl.length ρ m;refine(KU (nb:=bl.length) (m:=m) J2.1).bind λaN a6 ls ia gk ⟨g1,g2,g3⟩=>?_;rw[J2.2]at g3;have dC:0<=fO.den ρ:=by
     rcases mE (fO.den ρ) 0 with jr|jr
     ·have:=(h.bK.rws b sh cL code fO kind dQ aZ (by omega)).1 jr;rw[this]at mX;simp at mX;omega
     ·exact jr
    obtain⟨Hh,lI⟩:=Ts h.bK aZ c1 dC hD.2.2.2 rI;have hf:bM 61 ((code::ro::len::ls).map (·.den aN))=rc ((ao (code.den ρ)).take (ro.den ρ).toNat++fD (len.den ρ).toNat (ls.map (·.den aN))++(ao (code.den ρ)).drop ((ro.den ρ).toNat+(len.den ρ).toNat)):=by
     simp only[du,bM,I.cf gk hD.1.2.1,I.cf gk au,I.cf gk de]
    have cb:∀r∈(ao (code.den ρ)).take (ro.den ρ).toNat++fD (len.den ρ).toNat (ls.map (·.den aN))++(ao (code.den ρ)).drop ((ro.den ρ).toNat+(len.den ρ).toNat),cM sh r:=SL lI λr hr=>by rw[apz hr];exact g2
    have iR:=uP (l:=(ao (code.den ρ)).take (ro.den ρ).toNat++fD (len.den ρ).toNat (ls.map (·.den aN))++(ao (code.den ρ)).drop ((ro.den ρ).toNat+(len.den ρ).toNat)) (by simp only[gY,sf,oZ,UO];omega) λr hr=>(cb r hr).row dk;refine(iQ (by rw[hf];exact kc _) (by rw[hf];exact iR)).bind λb5 gd code' gm eb ⟨k1,k2⟩=>aC.pure ?_;rw[hf]at k2;exact⟨k1,by rw[k2];exact⟨kc _,iR⟩,mX,dC,ls.map (·.den aN),g2,g3,by rw[k2,kS]⟩
   obtain⟨ae,n',code',hn,ha,⟨g1,g2,g3,dC,row,g4,g5,g6⟩,ag⟩:=dD G _ ag;have hR:=h.later hn ha;have d1:code.den ae=code.den ρ:=I.cf ha hD.1.2.1;have d2:fO.den ae=fO.den ρ:=I.cf ha hD.1.2.2;have Hm:(fD (len.den ρ).toNat row).length=(len.den ρ).toNat:=UO;have ud:∀r∈fD (len.den ρ).toNat row,cM sh r:=λr hr=>by rw[apz hr];exact g4
   have hle:(ro.den ρ).toNat+(fD (len.den ρ).toNat row).length<=(ao (code.den ρ)).length:=by rw[Hm];omega
   have ug:∀r∈ao (code.den ρ),cM sh r:=(Ts h.bK aZ c1 dC hD.2.2.2 rI).2;obtain⟨cells,post,fz,cG,cC,dE,gP,gW,ie,pt⟩:=hR.bK.rewrite (code':=code') aZ c1 (by rw[d2];exact dC) (by rw[g6];exact SL ug ud) (by
    rw[g6,d1];have:=abo hle;rw[Hm]at this;exact this)
   rw[d1]at gP gW;have dE:cL.den ρ=0:=by rw[<-I.cf ha ah];exact dE
   have M6:0<=cap.den ρ:=by
    rcases mE (cap.den ρ) 0 with jr|jr
    ·have:=hW jr;omega
    ·exact jr
   have cg:a.eval x= .slice (some ⟨m b,(ro.den ρ).toNat*sh.length,none⟩) (len.den ρ).toNat (cap.den ρ).toNat:=by
    rw[dN,cn M6,if_neg (by omega),dE];simp
   have qR:(pI oj.cells (len.den ρ).toNat).toList=cj sh (fD (len.den ρ).toNat row):=by rw[ao3,ah3,g5]
   have axu:(pI oj.cells (len.den ρ).toNat).toList.length=(len.den ρ).toNat*sh.length:=by rw[qR,qG ud,Hm]
   have Y7:=congrArg pE gW;simp only[gY,D7,qG gP]at Y7;have Bg:(ro.den ρ).toNat*sh.length+0+(pI oj.cells (len.den ρ).toNat).toList.length<=cells.size:=by
    rw[axu];have:((ro.den ρ).toNat+(len.den ρ).toNat)*sh.length<=(ao (code.den ρ)).length*sh.length:=aem _ (by omega);rw[AH]at this;omega
   have n2:=Tu (P:=P) (m b) ((ro.den ρ).toNat*sh.length) dQ.1 fz kind (pI oj.cells (len.den ρ).toNat).toList 0 cells w cC cG Bg (by rw[qR];exact Yj);rw[oX,qR,alq gP ud gW hle]at n2;rw[Hm]at n2;rw[<-g6]at n2;obtain⟨q,ak⟩:∃q,(len.den ρ).toNat=q+1:=⟨(len.den ρ).toNat-1,by omega⟩;have NS:∀w:aG,(zeroValue e).run P w= .ok oj w:=λw=>by simp[zeroValue,typeInfo,hi,km]
   have jv:(apC #[t] o.type #[.slice (some ⟨m b,(ro.den ρ).toNat*sh.length,none⟩) (q+1) (cap.den ρ).toNat]).run P w= .ok (.tuple #[]) (w.setRow (m b) (cj sh (ao (code'.den ae))++post).toArray):=by
    rw[ak]at n2 qR;have awW:(storeCells ⟨m b,(ro.den ρ).toNat*sh.length,none⟩ (pI oj.cells (q+1)).toList 0).run P w= .ok () (w.setRow (m b) (cj sh (ao (code'.den ae))++post).toArray):=by rw[qR];exact n2
    simp[apC,gJ (jg he),NS,awW]
   rw[ak]at cg;unfold o4;have hex:execOp a.eval o=(do pure (mh (<-apC #[t] o.type #[a.eval x]))):=by
    simp[execOp,aA,resolve,n1,b7,a2,invoke,builtin]
   simp only[hex,cg,jl,jv,jF,kv];refine af n' ae m _ _ G _ _ ⟨hn,ha,by rw[lz];exact bW _,λ_ _=>rfl⟩ (gr.refl _ _) ⟨?_,by rw[put_defers];exact h.d,hR.b.set (λy hy=>by
    simp at hy;subst hy;exact⟨⟨hD.1.1.mono hn,g1,hD.1.2.2.mono hn⟩,g2,by rw[d2];exact hD.2.2⟩),pt⟩ ag
   rw[lz];exact eW.put hR.t o.dst (by intro x hx;simp at hx) rfl
 ·rename_i n1;split at bu
  rotate_left
  ·cases bu
  rename_i x y t t' hE oB;have hx:=cS h.t x;have hy:=cS h.t y;split at bu
  rotate_left
  ·rename_i b bG cL ro len cap e hv mZ he;rw[hv]at hx;rw[mZ]at hy;split at bu
   rotate_left
   ·cases bu
   rename_i s hs;simp only[bj]at bu;subst bu;have b7:c.args=#[x,y]:=by rw[<-lO (xs:=c.args),hE]
   have a2:c.argTypes=#[t,t']:=by rw[<-lO (xs:=c.argTypes),oB]
   have rK:(A.sl b bG cL ro len cap).ok n bl.length ρ:=hx.1;obtain⟨ptr,az,aI,cn⟩:=xH (m:=m) rK;have dN:a.eval x=(A.sl b bG cL ro len cap).den ρ m:=hx.2;rw[az]at dN;have zS:a.eval y= .slice none 0 0:=hy.2;obtain⟨AK,aev,VM,cg⟩:∃A B C,a.eval x= .slice A B C:=⟨_,_,_,dN⟩;have jv:(AI #[t,t'] o.type #[.slice AK aev VM,.slice none 0 0]).run P w= .ok (goInt 0) w:=by
    cases AK<;>simp[AI,gJ (jg he),UI,kq hs,LQ,storeCells]
   unfold o4;have hex:execOp a.eval o=(do pure (mh (<-AI #[t,t'] o.type #[a.eval x,a.eval y]))):=by
    simp[execOp,aA,resolve,n1,b7,a2,invoke,builtin]
   simp only[hex,cg,zS,jl,jv,jF,kv];exact af n ρ m _ _ G _ _ (e6.refl _ _ _ _) (gr.refl _ _) ⟨eW.put (v:= .w (.one (.int .i64 ⟨.const 0,0,0⟩))) h.t o.dst ⟨I.dF _ _,by simp[I.bq],by simp[I.bq]⟩ rfl,by rw[put_defers];exact h.d,h.b,h.bK⟩ ag
  ·cases bu
  rename_i b bG cL ro len cap cc adl w7 iZ iW AZ e hv mZ he;rw[hv]at hx;rw[mZ]at hy;split at bu
  rotate_left
  ·cases bu
  rename_i sh off code fO kind dQ ac0 Dm jT CB De Qg s aZ CK hs;cases hc:(cO 2 kind&&dX 0 De&&I.beq cL off&&I.beq w7 Dm&&tB sh ac0&&aP bG sh.length&&aP adl sh.length&&aP s sh.length&&qh sh)with
  |false=>rw[hc]at bu;cases bu
  |true=>
   rw[hc]at bu;simp only[cond_true,bj]at bu;subst bu;simp only[bx]at hc;obtain⟨⟨⟨⟨⟨⟨⟨⟨c1,bQ⟩,cF⟩,dk⟩,fN⟩,hQ⟩,nT⟩,lX⟩,j5⟩:=hc;have c1:=gU c1;have bQ:0<De:=gU bQ;have cF:=I.beq_eq cF;have dk:=I.beq_eq dk;have fN:=FJ fN;have hQ:=b1 hQ;have nT:=b1 nT;have lX:=b1 lX
   subst cF;subst dk;subst fN;subst hQ;subst nT;subst lX;have b7:c.args=#[x,y]:=by rw[<-lO (xs:=c.args),hE]
   have a2:c.argTypes=#[t,t']:=by rw[<-lO (xs:=c.argTypes),oB]
   have rK:(A.sl b sh.length cL ro len cap).ok n bl.length ρ:=hx.1;have ajU:(A.sl cc sh.length w7 iZ iW AZ).ok n bl.length ρ:=hy.1;obtain⟨ptr,az,aI,cn⟩:=xH (m:=m) rK;obtain⟨aDb,f1,f2,f3⟩:=xH (m:=m) ajU;have dN:a.eval x=(A.sl b sh.length cL ro len cap).den ρ m:=hx.2;have zS:a.eval y=(A.sl cc sh.length w7 iZ iW AZ).den ρ m:=hy.2;rw[az]at dN;rw[f1]at zS;obtain⟨aj,⟨ah,au,de,iK⟩,⟨jz,mc,me,mf⟩,⟨mB,mb⟩,hW,jy⟩:=rK;obtain⟨ar,⟨an,aw,ks,Iv⟩,⟨y8,Ix,xO,BY⟩,⟨y2,DP⟩,DO,BT⟩:=ajU;have hD:(A.rows sh cL code fO kind).ok n bl.length ρ:=h.b _ (fC aZ) _ (by simp);have auW:(A.rows sh w7 jT CB De).ok n bl.length ρ:=h.b _ (fC CK) _ (by simp);have rI:=ane j5;have dD:aC S L (bind (h8 80 [code,ro,len]) λ_=>bind (h8 22 [jT,iZ,iZ.add iW]) λ_=>bind (gV 62 [iW,len] 0 9223372036854775807) λq=>bind (gV 22 [jT,iZ,iZ.add q] 0 b6) λsrc=>bind (gV 63 [code,ro,src] 0 b6) λcode'=>pure (q,code')) n ρ λae n' p=>(p.1.bN n'/\p.2.bN n')/\(0<=p.2.den ae/\p.2.den ae<=b6)/\(0<=ro.den ρ/\0<=len.den ρ/\ro.den ρ+len.den ρ<=(ao (code.den ρ)).length)/\
    p.1.den ae=min (iW.den ρ) (len.den ρ)/\(0<=iZ.den ρ/\iZ.den ρ+iW.den ρ<=(ao (jT.den ρ)).length)/\ao (p.2.den ae)=(ao (code.den ρ)).take (ro.den ρ).toNat++((ao (jT.den ρ)).drop (iZ.den ρ).toNat).take (min (iW.den ρ) (len.den ρ)).toNat++(ao (code.den ρ)).drop ((ro.den ρ).toNat+(((ao (jT.den ρ)).drop (iZ.den ρ).toNat).take (min (iW.den ρ) (len.den ρ)).toNat).length)/\∀r∈ao (jT.den ρ),cM sh r:=by
    refine jS λmX=>jS λrG=>?_;have mX:0<=ro.den ρ/\0<=len.den ρ/\ro.den ρ+len.den ρ<=(ao (code.den ρ)).length:=mX;have rG:0<=iZ.den ρ/\iZ.den ρ<=(iZ.add iW).den ρ/\(iZ.add iW).den ρ<=(ao (jT.den ρ)).length:=rG;rw[I.den_add]at rG;obtain⟨Hh,lI⟩:=amJ h.bK aZ c1 hD.2.2.2 rI;have NC:∀r∈ao (jT.den ρ),cM sh r:=by
     rcases mE (CB.den ρ) 0 with jr|jr
     ·have:=(h.bK.rws cc sh w7 jT CB De Qg CK (by omega)).1 jr;rw[this];intro _ h;simp at h
     ·obtain⟨_,_,_,_,_,⟨_,cy⟩,_⟩:=(h.bK.rws cc sh w7 jT CB De Qg CK (by omega)).2 jr;exact cy.1
    have Zx:bM 62 ([iW,len].map (·.den ρ))=min (iW.den ρ) (len.den ρ):=rfl;refine(iQ (by rw[Zx];omega) (by rw[Zx];omega)).bind λaN a6 q ia gk ⟨bg,b3⟩=>?_;rw[Zx]at b3;have ca:jT.den aN=jT.den ρ:=I.cf gk auW.1.2.1;have zo:iZ.den aN=iZ.den ρ:=I.cf gk aw;have hf:bM 22 ([jT,iZ,iZ.add q].map (·.den aN))=rc (((ao (jT.den ρ)).drop (iZ.den ρ).toNat).take (min (iW.den ρ) (len.den ρ)).toNat):=by
     simp only[du,gQ,bM,I.den_add,ca,zo,b3]
     congr 2;omega
    have iR:rc (((ao (jT.den ρ)).drop (iZ.den ρ).toNat).take (min (iW.den ρ) (len.den ρ)).toNat)<=b6:=uP (by
     simp only[sf,oZ];have:(ao (code.den ρ)).length<=maxLen:=Hh;omega) λr hr=>(NC r (rh (nd hr))).row j5
    refine(iQ (by rw[hf];exact kc _) (by rw[hf];exact iR)).bind λb5 gd src gm eb ⟨s1,s2⟩=>?_;rw[hf]at s2;have aiR:=gk.trans eb ia;have Zd:bM 63 ([code,ro,src].map (·.den b5))=rc ((ao (code.den ρ)).take (ro.den ρ).toNat++((ao (jT.den ρ)).drop (iZ.den ρ).toNat).take (min (iW.den ρ) (len.den ρ)).toNat++(ao (code.den ρ)).drop ((ro.den ρ).toNat+(((ao (jT.den ρ)).drop (iZ.den ρ).toNat).take (min (iW.den ρ) (len.den ρ)).toNat).length)):=by
     simp only[du,gQ,bM,I.cf aiR hD.1.2.1,I.cf aiR au,s2,kS]
    have ud:∀r∈((ao (jT.den ρ)).drop (iZ.den ρ).toNat).take (min (iW.den ρ) (len.den ρ)).toNat,cM sh r:=λr hr=>NC r (rh (nd hr));have aiY:rc ((ao (code.den ρ)).take (ro.den ρ).toNat++((ao (jT.den ρ)).drop (iZ.den ρ).toNat).take (min (iW.den ρ) (len.den ρ)).toNat++(ao (code.den ρ)).drop ((ro.den ρ).toNat+(((ao (jT.den ρ)).drop (iZ.den ρ).toNat).take (min (iW.den ρ) (len.den ρ)).toNat).length))<=b6:=uP (by
     rw[abo (by simp only[sf,oZ];omega)];exact Hh) λr hr=>(SL lI ud r hr).row j5
    refine(iQ (by rw[Zd];exact kc _) (by rw[Zd];exact aiY)).bind λiL ur code' CV wR ⟨k1,k2⟩=>aC.pure ?_;rw[Zd]at k2;refine⟨⟨bg.mono (nf gm CV),k1⟩,by rw[k2];exact⟨kc _,aiY⟩,mX,?_,⟨rG.1,rG.2.2⟩,by rw[k2,kS],NC⟩;rw[I.cf (eb.trans wR gm) bg,b3]
   obtain⟨ae,n',p,hn,ha,⟨⟨g1,nZ⟩,g2,g3,g4,g5,g6,NC⟩,ag⟩:=dD G (λp n=>k n (hG tm o.dst (.w (.one (.int .i64 ⟨p.1,0,9223372036854775807⟩)))) (ei bl b ([.rows sh cL p.2 fO kind],dQ))) ag;have hR:=h.later hn ha;have d1:code.den ae=code.den ρ:=I.cf ha hD.1.2.1;have d2:fO.den ae=fO.den ρ:=I.cf ha hD.1.2.2;rcases mE 0 (len.den ρ)with awC|awC
   rotate_left
   ·have ph:len.den ρ=0:=by omega
    have zO:p.1.den ae=0:=by rw[g4];omega
    have p7:min (iW.den ρ) (len.den ρ)=0:=by omega
    have awP:ao (p.2.den ae)=ao (code.den ae):=by
     rw[g6,p7,d1];simp
    obtain⟨AK,aev,VM,cg⟩:∃A B C,a.eval x= .slice A B C/\B=0:=⟨_,_,_,dN,by rw[ph];rfl⟩;obtain⟨cg,rfl⟩:=cg;obtain⟨UT,aew,aeT,hY⟩:∃A B C,a.eval y= .slice A B C:=⟨_,_,_,zS⟩;have JN:(LQ sh.length 0 (.slice UT aew aeT)).run P w= .ok #[] w:=by
     cases UT<;>simp[LQ,loadCells,loadCellsFrom]
    have jv:(AI #[t,t'] o.type #[.slice AK 0 VM,.slice UT aew aeT]).run P w= .ok (goInt 0) w:=by
     cases AK<;>simp[AI,gJ (jg he),UI,kq hs,JN,storeCells]
    unfold o4;have hex:execOp a.eval o=(do pure (mh (<-AI #[t,t'] o.type #[a.eval x,a.eval y]))):=by
     simp[execOp,aA,resolve,n1,b7,a2,invoke,builtin]
    simp only[hex,cg,hY,jl,jv,jF,kv];refine af n' ae m _ _ G _ _ ⟨hn,ha,by rw[lz];exact bW _,λ_ _=>rfl⟩ (gr.refl _ _) ⟨?_,by rw[put_defers];exact h.d,hR.b.set (λy hy=>by
     simp at hy;subst hy;exact⟨⟨hD.1.1.mono hn,nZ,hD.1.2.2.mono hn⟩,g2,by rw[d2];exact hD.2.2⟩),hR.bK.aEh aZ awP⟩ ag
    rw[lz];refine eW.put hR.t o.dst ⟨g1,by show(0:Int)<=p.1.den ae;omega,by show p.1.den ae<=9223372036854775807;omega⟩ ?_;show goInt 0=AD .i64 (p.1.den ae);rw[zO];rfl
   have dC:0<=fO.den ρ:=by
    rcases mE (fO.den ρ) 0 with jr|jr
    ·have:=(h.bK.rws b sh cL code fO kind dQ aZ (by omega)).1 jr;rw[this]at g3;simp at g3;omega
    ·exact jr
   generalize ak:(min (iW.den ρ) (len.den ρ)).toNat=q at*;have ud:∀r∈((ao (jT.den ρ)).drop (iZ.den ρ).toNat).take q,cM sh r:=λr hr=>NC r (rh (nd hr));have JW:(((ao (jT.den ρ)).drop (iZ.den ρ).toNat).take q).length=q:=by simp only[sf,oZ];omega
   have hle:(ro.den ρ).toNat+(((ao (jT.den ρ)).drop (iZ.den ρ).toNat).take q).length<=(ao (code.den ρ)).length:=by rw[JW];omega
   have ug:∀r∈ao (code.den ρ),cM sh r:=(Ts h.bK aZ c1 dC hD.2.2.2 rI).2;obtain⟨cells,post,fz,cG,cC,dE,gP,gW,ie,pt⟩:=hR.bK.rewrite (code':=p.2) aZ c1 (by rw[d2];exact dC) (by rw[g6];exact SL ug ud) (by rw[g6,d1];exact abo hle);rw[d1]at gP gW;have dE:cL.den ρ=0:=by rw[<-I.cf ha ah];exact dE
   have M6:0<=cap.den ρ:=by
    rcases mE (cap.den ρ) 0 with jr|jr
    ·have:=hW jr;omega
    ·exact jr
   have cg:a.eval x= .slice (some ⟨m b,(ro.den ρ).toNat*sh.length,none⟩) (len.den ρ).toNat (cap.den ρ).toNat:=by
    rw[dN,cn M6,if_neg (by omega),dE];simp
   have lG:(cj sh (((ao (jT.den ρ)).drop (iZ.den ρ).toNat).take q)).length=q*sh.length:=by rw[qG ud,JW]
   have Y7:=congrArg pE gW;simp only[gY,D7,qG gP]at Y7;have Bg:(ro.den ρ).toNat*sh.length+0+(cj sh (((ao (jT.den ρ)).drop (iZ.den ρ).toNat).take q)).length<=cells.size:=by
    rw[lG];have:((ro.den ρ).toNat+q)*sh.length<=(ao (code.den ρ)).length*sh.length:=aem _ (by omega);rw[AH]at this;omega
   have n2:=Tu (P:=P) (m b) ((ro.den ρ).toNat*sh.length) dQ.1 fz kind (cj sh (((ao (jT.den ρ)).drop (iZ.den ρ).toNat).take q)) 0 cells w cC cG Bg Yj;rw[oX,alq gP ud gW hle]at n2;rw[<-g6]at n2;have ZG:LO (iW.den ρ).toNat (len.den ρ).toNat=q:=by show min _ _=q;omega
   have JN:(LQ sh.length q (a.eval y)).run P w= .ok (cj sh (((ao (jT.den ρ)).drop (iZ.den ρ).toNat).take q)).toArray w:=by
    rcases mE (AZ.den ρ) 0 with jr|jr
    ·have h0:=DO jr;have zO:q=0:=by omega
     rw[zS,f2 jr,zO,qp];have:=run_firstCells_none (P:=P) w sh.length 0 (iW.den ρ).toNat (if AZ.den ρ<0 then 0 else(AZ.den ρ).toNat);simpa [cj]using this
    ·rw[zS,f3 jr];have CM:0<=CB.den ρ∨q=0:=by
      rcases mE (CB.den ρ) 0 with EX|EX
      ·have:=(h.bK.rws cc sh w7 jT CB De Qg CK (by omega)).1 EX;rw[this]at g5;simp at g5;right;omega
      ·exact .inl EX
     refine UH w sh.length q _ _ _ _ lG λj v aM=>?_;rcases CM with CM|CM
     ·obtain⟨_,aKW,ma,aK8,bg,⟨b3,cy⟩,_⟩:=(h.bK.rws cc sh w7 jT CB De Qg CK (by omega)).2 CM;have:=(cy.sub (iZ.den ρ).toNat q (by omega)).flat aM;rw[kX];simp only[nK,bg,xR,xS,if_false];exact this
     ·rw[CM,qp]at aM;simp[cj]at aM
   obtain⟨ayI,aKV,hY⟩:∃B C,a.eval y= .slice aDb B C:=⟨_,_,zS⟩;have Ns:ayI=(iW.den ρ).toNat:=by rw[zS]at hY;injection hY with _ h2 _;exact h2.symm
   subst Ns;have jv:(AI #[t,t'] o.type #[.slice (some ⟨m b,(ro.den ρ).toNat*sh.length,none⟩) (len.den ρ).toNat (cap.den ρ).toNat,a.eval y]).run P w= .ok (goInt q) (w.setRow (m b) (cj sh (ao (p.2.den ae))++post).toArray):=by
    rw[hY]at JN⊢;simp[AI,gJ (jg he),UI,kq hs,ZG,JN,n2]
   unfold o4;have hex:execOp a.eval o=(do pure (mh (<-AI #[t,t'] o.type #[a.eval x,a.eval y]))):=by
    simp[execOp,aA,resolve,n1,b7,a2,invoke,builtin]
   simp only[hex,cg,jl,jv,jF,kv];refine af n' ae m _ _ G _ _ ⟨hn,ha,by rw[lz];exact bW _,λ_ _=>rfl⟩ (gr.refl _ _) ⟨?_,by rw[put_defers];exact h.d,hR.b.set (λy hy=>by
    simp at hy;subst hy;exact⟨⟨hD.1.1.mono hn,nZ,hD.1.2.2.mono hn⟩,g2,by rw[d2];exact hD.2.2⟩),pt⟩ ag
   rw[lz];refine eW.put hR.t o.dst ⟨g1,by show(0:Int)<=p.1.den ae;rw[g4];omega,by show p.1.den ae<=9223372036854775807;rw[g4];omega⟩ ?_;show goInt q=AD .i64 (p.1.den ae);have rB:((q:Nat):Int)=p.1.den ae:=by rw[g4,<-ak];omega
   rw[<-rB];rfl
 ·cases bu
theorem aFD {tm:List V} {a:Act} {w:aG} {G:fe} {o:Oper} {K:Act->aG->Prop} {Q:Exit->Act->aG->Prop} {k:iz} {sj:T}
 (h:R w0 n ρ m tm bl a w) (bu:adf P o n tm bl k=some sj) (ag:sj.holds S L G ρ) (af:ml S L w0 k n bl.length ρ m G K):o.wp P a w K Q:=by
 unfold adf at bu;split at bu
 rotate_left
 ·cases bu
 rename_i c aA;split at bu
 rotate_left
 ·cases bu
 rename_i n1;split at bu
 rotate_left
 ·cases bu
 rename_i x y t t' hE oB;have hx:=cS h.t x;have hy:=cS h.t y;split at bu
 rotate_left
 ·cases bu
 rename_i b off len cap cc Dm iW AZ e hv mZ he;rw[hv]at hx;rw[mZ]at hy;split at bu
 rotate_left
 ·cases bu
 rename_i C dQ l s aZ hl hs;cases hc:(aP s 1&&cO (off+l.length) C.length&&cl C&&cl (C.take off++l++C.drop (off+l.length)))with
 |false=>rw[hc]at bu;cases bu
 |true=>
  rw[hc]at bu;simp only[cond_true,bj]at bu;subst bu;simp only[bx]at hc;obtain⟨⟨⟨c1,bQ⟩,uf⟩,tf⟩:=hc;have c1:=b1 c1;have bQ:=gU bQ;subst c1;have b7:c.args=#[x,y]:=by rw[<-lO (xs:=c.args),hE]
  have a2:c.argTypes=#[t,t']:=by rw[<-lO (xs:=c.argTypes),oB]
  have cg:a.eval x= .slice (some ⟨m b,off,none⟩) len cap:=hx.2;have hY:a.eval y= .slice (some ⟨m cc,Dm,none⟩) iW AZ:=hy.2;obtain⟨l1,l2,oG⟩:=JI h.bK h.b hl;obtain⟨w',n2,CU⟩:=h.bK.storeCells (P:=P) h.b l2 aZ bQ uf tf;have JN:(LQ 1 (LO iW len) (.slice (some ⟨m cc,Dm,none⟩) iW AZ)).run P w= .ok (l.map (A.den ρ m)).toArray w:=
   UH w 1 _ _ _ _ _ (by rw[pG,l1,Ch]) oG
  have jv:(AI #[t,t'] o.type #[.slice (some ⟨m b,off,none⟩) len cap,.slice (some ⟨m cc,Dm,none⟩) iW AZ]).run P w= .ok (goInt (LO iW len)) w':=by
   simp[AI,gJ (jg he),UI,kq hs,JN,n2]
  have cb:∀a∈C.take off++l++C.drop (off+l.length),A.ok n bl.length ρ a:=λa ha=>by
   have dD:=h.b _ (fC aZ);rcases List.mem_append.1 ha with ha|ha
   ·rcases List.mem_append.1 ha with ha|ha
    ·exact dD a (nd ha)
    ·exact l2 a ha
   ·exact dD a (rh ha)
  unfold o4;have hex:execOp a.eval o=(do pure (mh (<-AI #[t,t'] o.type #[a.eval x,a.eval y]))):=by
   simp[execOp,aA,resolve,n1,b7,a2,invoke,builtin]
  simp only[hex,cg,hY,jl,jv,jF,kv];refine af n ρ m _ _ G _ w' ⟨bW _,agree.refl _ _,by rw[lz];exact bW _,λ_ _=>rfl⟩ (gr.refl _ _) ⟨?_,by rw[put_defers];exact h.d,h.b.set cb,CU⟩ ag;rw[lz];refine eW.put (v:= .w (.one (.int .i64 (b0.const (LO iW len:Nat))))) h.t o.dst (b0.qD _ _ _) ?_;show goInt (LO iW len)=_;simp[W.den,A.den,b0.const,I.bq,goInt]
theorem ams {code:I} {kd:dW} {lo hi:Int} (hc:code.bN n) (hr:∀r∈ao (code.den ρ),cM [.int kd lo hi] r):∀(c i:Nat) {a6:Nat} {aN:Env},n<=a6->agree n ρ aN->aC S L (Tl code kd lo hi c i) a6 aN λae n' l=>(∀a∈l,A.ok n' bl.length ae a)/\l.length=c/\i+c<=max i (ao (code.den ρ)).length/\l.map (A.den ae m)=cj [.int kd lo hi] (((ao (code.den ρ)).drop i).take c)
 |0,i,a6,aN,_,_=>aC.pure ⟨λ_ h=>by simp at h,rfl,by omega,by simp[cj]⟩
 |c+1,i,a6,aN,hn,ha=>by
  unfold Tl;refine jS λaf=>?_;have az:code.den aN=code.den ρ:=I.cf ha hc;have af:0<=(I.const i).den aN/\(I.const i).den aN<((ao (code.den aN)).length:Int):=af;rw[I.bq,az]at af;have jW:i<(ao (code.den ρ)).length:=by omega
  obtain⟨z,hz,z0,aF⟩:∃z,(ao (code.den ρ))[i]=[z]/\lo<=z/\z<=hi:=by
   have:=hr _ (IE jW)
   match(ao (code.den ρ))[i],this with
   |[z],h=>exact⟨z,rfl,h.1.1,h.1.2⟩
  have hg:(ao (code.den ρ)).getD i []=[z]:=by rw[xP,pF jW,D1,hz]
  have hf:bM 21 ([code,.const (i:Int),.const 0].map (·.den aN))=z:=by
   show((ao (code.den aN)).getD ((I.const (i:Int)).den aN).toNat []).getD ((I.const 0).den aN).toNat 0=z;rw[az,I.bq,I.bq,qm,hg];rfl
  refine(iQ (by rw[hf];exact z0) (by rw[hf];exact aF)).bind λb5 gd q gm eb ⟨bg,b3⟩=>?_;rw[hf]at b3;refine(ams hc hr c (i+1) (nf hn gm) (ha.trans eb hn)).bind λiL ur l CV wR ⟨l1,l2,oG,w3⟩=>aC.pure ?_;have cy:q.den iL=z:=by rw[I.cf wR bg,b3]
  refine⟨λa h=>?_,by simp[l2],by omega,?_⟩
  ·rcases List.mem_cons.1 h with rfl|h
   ·exact⟨bg.mono CV,by show lo<=q.den iL;omega,by show q.den iL<=hi;omega⟩
   ·exact l1 a h
  ·rw[List.drop_eq_getElem_cons jW,nL,hz,du,w3];simp[cj,A.den,cy];rfl
theorem aFE {tm:List V} {a:Act} {w:aG} {G:fe} {o:Oper} {K:Act->aG->Prop} {Q:Exit->Act->aG->Prop} {k:iz} {sj:T}
 (h:R w0 n ρ m tm bl a w) (bu:adg P o n tm bl k=some sj) (ag:sj.holds S L G ρ) (af:ml S L w0 k n bl.length ρ m G K):o.wp P a w K Q:=by
 unfold adg at bu;split at bu
 rotate_left
 ·cases bu
 rename_i t p aA;have hp:=cS h.t p;split at bu
 rotate_left
 ·cases bu
 rename_i b Ny;rw[Ny]at hp;split at bu
 rotate_left
 ·cases bu
 rename_i kd lo hi off code cap kind dQ s aZ iD hs;cases hc:(cO 2 kind&&dX 0 s)with
 |false=>rw[hc]at bu;cases bu
 |true=>
  rw[hc]at bu;simp only[cond_true,bj]at bu;subst bu;simp only[bx]at hc;have c1:=gU hc.1;have bQ:=uR hc.2;have Nx:a.eval p= .pointer (some ⟨m b,0,none⟩):=hp.2;have hD:(A.rows [.int kd lo hi] off code cap kind).ok n bl.length ρ:=h.b _ (fC aZ) _ (by simp);have lI:=(amJ h.bK aZ c1 hD.2.2.2 (by simp)).2;obtain⟨ae,n',l,hn,ha,⟨l1,l2,oG,w3⟩,ag⟩:=ams (S:=S) (L:=L) (m:=m) (bl:=bl) hD.1.2.1 lI s 0 (bW _) (agree.refl _ _) G (λl n=>k n (hG tm o.dst (.w (.agg l))) bl) ag;have hle:s<=(ao (code.den ρ)).length:=by omega
  have dC:0<=cap.den ρ:=by
   rcases mE (cap.den ρ) 0 with jr|jr
   ·have:=(h.bK.rws b _ off code cap kind dQ aZ (by omega)).1 jr;rw[this]at hle;simp at hle;omega
   ·exact jr
  obtain⟨_,cells,ma,fz,bg,⟨b3,cy⟩,et⟩:=(h.bK.rws b _ off code cap kind dQ aZ (by omega)).2 dC;have aws:off.den ρ=0:=(et c1).2.1;rw[aws]at cy;have hl:=Pp (P:=P) w ⟨m b,0,none⟩ (l.map (A.den ae m)) λj v aM=>by
   rw[w3]at aM;have:=(cy.sub 0 s (LC _)).flat aM;rw[kX];simp only[nK,bg,xR,xS,if_false];simpa using this
  simp only[pG,l2]at hl;have hR:=h.later hn ha;have jv:(pH t (.pointer (some ⟨m b,0,none⟩))).run P w= .ok (.agg (l.map (A.den ae m)).toArray) w:=by
   simp[pH,o2,loadVar,tz iD,kq hs,hl]
  have hex:execOp a.eval o=(do pure (mh (<-pH t (a.eval p)))):=by
   simp[execOp,aA]
  unfold o4;simp only[hex,Nx,jl,jv,jF,kv];refine af n' ae m _ _ G _ _ ⟨hn,ha,bW _,λ_ _=>rfl⟩ (gr.refl _ _) ⟨?_,by rw[put_defers];exact h.d,hR.b,hR.bK⟩ ag;exact eW.put (v:= .w (.agg l)) hR.t o.dst l1 rfl
end
end Go.b9
namespace Go.b9
open M
section
variable {S:Nat->List Int->List Int->Prop} {L:V->Env->Prop} {w0:eL} {P:b4} {gl:fP} {cal:gL} {inl:mj}
theorem cond_holds {c:Bool} {t:T} {G:fe} {ρ:Env} (h:(cond c t .stuck).holds S L G ρ):c=true/\t.holds S L G ρ:=by
 cases c with
 |true=>exact⟨rfl,h⟩
 |false=>exact h.elim
theorem aFy {n:Nat} {ρ:Env} {m:Nat->Nat} {tm:List V} {bl:List aJ} {a:Act} {w:aG} {G:fe} {o:Oper} {K:Act->aG->Prop} {Q:Exit->Act->aG->Prop} {k:iz}
 (dy:iM S P gl w0 cal) (hg:gM gl w0) (nu:ri S L w0 P inl) (h:R w0 n ρ m tm bl a w) (ag:(ada P gl cal inl o n tm bl k).holds S L G ρ) (af:ml S L w0 k n bl.length ρ m G K):o.wp P a w K Q:=by
 unfold ada at ag;split at ag
 ·rename_i t aA;cases hz:ql P t with
  |none=>simp[hz,T.holds]at ag
  |some cs=>
   simp only[hz]at ag;unfold ql at hz;cases hi:P.info? t with
   |none=>simp[hi]at hz
   |some i=>
    cases km:i.zero with
    |none=>simp[hi,km]at hz
    |some z=>
     simp only[hi,km]at hz;have hc:=CD hz n bl.length ρ m;obtain⟨oA,ag⟩:=cond_holds ag;have hw:=af n ρ _ _ _ G _ _ (e6.alloc n ρ m bl (cs,(t,false)) w.heap.size) (gr.refl _ _) (h.alloc (t:=t) hc.1 o.dst oA) ag;unfold o4;simp only[execOp,aA,aJI,jl,zeroValue,typeInfo,run_program,jF,hi,km,kv,newVar,newRow,run_newObj];have e:(cs.map (A.den ρ m)).toArray=z.cells:=by rw[hc.2]
     rw[e]at hw;exact hw
 ·rename_i t x aA;have hx:=cS h.t x;split at ag
  ·rename_i u hu;rw[hu]at hx;have dN:a.eval x=u.den ρ m:=hx.2;obtain⟨oA,ag⟩:=cond_holds ag;have hw:=af n ρ _ _ _ G _ _ (e6.alloc n ρ m bl (u.cells,(t,false)) w.heap.size) (gr.refl _ _) (h.alloc (t:=t) (W.Jb hx.1) o.dst oA) ag;unfold o4;simp only[execOp,aA,Instr.box,jl,jF,kv,newVar,newRow,run_newObj,dN];rw[<-W.Qx u hx.1]at hw;exact hw
  ·exact ag.elim
 ·rename_i t len parts aA;split at ag
  ·rename_i cs e ua;obtain⟨g1,g2⟩:=ar3 (m:=m) (vals:=parts.map λ(i,x)=>(i,a.eval x)) ua (by
    rw[AG];generalize parts.toList=lh;induction lh with
    |nil=>exact trivial
    |cons p r ih=>exact⟨⟨rfl,cS h.t p.2⟩,ih⟩)
   obtain⟨oA,ag⟩:=cond_holds ag;have hR:=R.row (t:=e) (cs:=cs) (ex:=[]) (open_:=false) h g1 (λ_=>rfl) oA o.dst (v:= .w (.one (.slc bl.length 0 len len))) (x:= .slice (some ⟨w.heap.size,0,none⟩) len len) (by simp[V.ok,W.ok,A.ok]) (by
    show Pr (some ⟨w.heap.size,0,none⟩) _ _=_;simp[W.den,A.den,pz])
   have hw:=af n ρ _ _ _ G _ _ (e6.alloc n ρ m bl (cs,(e,false)) w.heap.size) (gr.refl _ _) hR ag;rw[hK]at hw;unfold o4;simp only[execOp,aA,jl,g2,jF,kv];exact hw
  ·exact ag.elim
 ·rename_i t p x aA;have hp:=cS h.t p;have hx:=cS h.t x;split at ag
  ·rename_i b off u Ny C0;rw[Ny]at hp;rw[C0]at hx;have Nx:a.eval p= .pointer (some ⟨m b,off,none⟩):=hp.2;have dN:a.eval x=u.den ρ m:=hx.2;split at ag
   ·rename_i cs dQ s aZ hs;cases hc:(aP u.cells.length s&&cO (off+s) cs.length&&dX 0 s&&cl cs&&cl (cs.take off++u.cells++cs.drop (off+s)))with
    |false=>rw[hc]at ag;exact ag.elim
    |true=>
     simp only[hc,cond_true]at ag;simp only[bx]at hc;obtain⟨⟨hc,uf⟩,tf⟩:=hc;have az:=b1 hc.1.1;have aI:=gU hc.1.2;have cn:=uR hc.2;subst az;obtain⟨w',jv,CU⟩:=h.bK.store h.b (W.Jb hx.1) aZ aI cn uf tf t hs (u.den ρ m) (W.Qx u hx.1);have cb:∀a∈cs.take off++u.cells++cs.drop (off+u.cells.length),A.ok n bl.length ρ a:=λa ha=>by
      have dD:=h.b _ (fC aZ);rcases List.mem_append.1 ha with ha|ha
      ·rcases List.mem_append.1 ha with ha|ha
       ·exact dD a (nd ha)
       ·exact W.Jb hx.1 a ha
      ·exact dD a (rh ha)
     unfold o4;simp only[execOp,aA,jl,Nx,dN,jv,jF,kv];refine af n ρ m _ _ G _ w' ⟨bW _,agree.refl _ _,by rw[lz];exact bW _,λ_ _=>rfl⟩ (gr.refl _ _) ⟨?_,by rw[put_defers];exact h.d,h.b.set cb,CU⟩ ag;rw[lz];exact eW.put h.t o.dst (by intro x hx;simp at hx) rfl
   ·exact ag.elim
  ·exact ag.elim
 ·rename_i c aA;split at ag
  ·rename_i f hc;split at ag
   ·exact Th dy hg h ag af
   ·have tc:∀v∈c.args.toList.map (cp tm),V.ok n bl.length ρ v:=λv hv=>by
     obtain⟨x,_,rfl⟩:=List.mem_map.1 hv;exact(cS h.t x).1
    have hr:=nu f n _ bl _ G ρ m w _ (λe sS=>match e with
     | .returned v=>K (a.put o.dst v) sS
     | .panicked chain=>Q (.panic chain) a sS
     | .outgrown=>LetsOut Q) h.b h.bK tc (PM (xs:=c.args.toList) h.t) ag (by
     intro n' v bt eV ae m' w' val h1 h2 h3 h4 h5 h6 h7;exact af n' ae m' _ bt eV _ w' h1 h2 ⟨eW.put (h.t.ext h1.ha h1.hn h1.hb h1.hm) o.dst h3 h4,by rw[put_defers];exact h.d,h5,h6⟩ h7)
    have ha:(c.args.toList.map a.eval).toArray=c.args.map a.eval:=by rw[<-AG]
    rw[ha]at hr;unfold o4;rw[acH hc o aA,hr.1];refine hr.2.mono λe sS he=>?_;cases e<;>exact he
  ·rename_i x hc;split at ag
   ·exact Th dy hg h ag af
   split at ag
   ·rename_i f lp avI;have hx:=cS h.t (.tmp x);obtain⟨th,dN⟩:(∀y∈lp,A.ok n bl.length ρ y)/\a.eval (.tmp x)= .func (.func f) #[] (lp.map (A.den ρ m)).toArray:=asI avI hx.1 hx.2;have tc:∀v∈c.args.toList.map (cp tm)++lp.map (λy=>V.w (.one y)),V.ok n bl.length ρ v:=λv hv=>by
     rcases List.mem_append.1 hv with hv|hv
     ·obtain⟨x,_,rfl⟩:=List.mem_map.1 hv;exact(cS h.t x).1
     ·obtain⟨y,hy,rfl⟩:=List.mem_map.1 hv;exact th y hy
    have hrel:fQ ρ m (c.args.toList.map (cp tm)++lp.map λy=>V.w (.one y)) (c.args.toList.map a.eval++lp.map (A.den ρ m)):=by
     generalize c.args.toList=l;induction l with
     |nil=>
      simp only[gQ,gq];generalize lp=q;induction q with
      |nil=>trivial
      |cons y r ih=>exact⟨rfl,ih⟩
     |cons x r ih=>exact⟨(cS h.t x).2,ih⟩
    have hr:=nu f n _ bl _ G ρ m w _ (λe sS=>match e with
     | .returned v=>K (a.put o.dst v) sS
     | .panicked chain=>Q (.panic chain) a sS
     | .outgrown=>LetsOut Q) h.b h.bK tc hrel ag (by
     intro n' v bt eV ae m' w' val h1 h2 h3 h4 h5 h6 h7;exact af n' ae m' _ bt eV _ w' h1 h2 ⟨eW.put (h.t.ext h1.ha h1.hn h1.hb h1.hm) o.dst h3 h4,by rw[put_defers];exact h.d,h5,h6⟩ h7)
    have hex:execOp a.eval o=callFunc f (c.args.toList.map a.eval++lp.map (A.den ρ m)).toArray:=by
     have e:(c.args.toList.map a.eval++lp.map (A.den ρ m)).toArray=#[]++c.args.map a.eval++(lp.map (A.den ρ m)).toArray:=by
      apply UG;simp
     rw[e];simp only[execOp,aA,resolve,hc,dN,Deferred.ofValue,pure_bind,invoke]
    unfold o4;rw[hex,hr.1];refine hr.2.mono λe sS he=>?_;cases e<;>exact he
   ·exact ag.elim
  ·rename_i hc;split at ag
   ·rename_i s x t t' hE oB;exact ary h aA hc hE oB ag af
   ·exact ag.elim
  ·exact Th dy hg h ag af
 ·exact Th dy hg h ag af
theorem ano {n:Nat} {ρ:Env} {m:Nat->Nat} {tm:List V} {bl:List aJ} {a:Act} {w:aG} {G:fe} {o:Oper} {K:Act->aG->Prop} {Q:Exit->Act->aG->Prop} {k:iz}
 (dy:iM S P gl w0 cal) (hg:gM gl w0) (nu:ri S L w0 P inl) (h:R w0 n ρ m tm bl a w) (ag:(TH P gl cal inl o n tm bl k).holds S L G ρ) (af:ml S L w0 k n bl.length ρ m G K):o.wp P a w K Q:=by
 unfold TH at ag;split at ag
 ·rename_i t aD;exact aFz h aD ag af
 ·split at ag
  ·rename_i t aD;exact aFB h aD ag af
  ·split at ag
   ·rename_i t aD;exact aFC h aD ag af
   ·split at ag
    ·rename_i t aD;exact aFD h aD ag af
    ·split at ag
     ·rename_i t aD;exact aFE h aD ag af
     ·exact aFy dy hg nu h ag af
theorem agQ {ρ:Env}:∀{b:bH} {v:Bool} {r:I×Option Int×Option Int},b.den ρ=v->ye b v=some r->(∀c,r.2.1=some c->c<=r.1.den ρ)/\(∀c,r.2.2=some c->r.1.den ρ<=c)
 | .le p q,true,r,hb,h| .le p q,false,r,hb,h| .lt p q,true,r,hb,h| .lt p q,false,r,hb,h=>by
  simp only[bH.den,decide_eq_true_eq,decide_eq_false_iff_not]at hb;simp only[ye]at h;split at h
  ·rename_i c h1 h2;have e:=I.k9 h1 (ρ:=ρ);simp only[bj]at h;subst h;constructor<;>intro e3 hc<;>simp only[bj,reduceCtorEq]at hc<;>subst hc<;>simp only<;>omega
  ·rename_i c h1 h2;have e:=I.k9 h2 (ρ:=ρ);simp only[bj]at h;subst h;constructor<;>intro e3 hc<;>simp only[bj,reduceCtorEq]at hc<;>subst hc<;>simp only<;>omega
  ·cases h
 | .not b,v,r,hb,h=>by
  simp only[ye]at h;refine agQ (b:=b) (v:= !v) ?_ h;simp only[bH.den]at hb;rw[<-hb,Bool.not_not]
 | .lit _,_,_,_,h=>by simp[ye]at h
 | .eq _ _,_,_,_,h=>by simp[ye]at h
 | .and _ _,_,_,_,h=>by simp[ye]at h
 | .iff _ _,_,_,_,h=>by simp[ye]at h
theorem asN {n nb:Nat} {ρ:Env} {m:Nat->Nat} {b:bH} {v:Bool} (hb:b.den ρ=v) (u:V) (hu:u.ok n nb ρ):(QD b v (ye b v) u).ok n nb ρ/\∀x,u.rel ρ m x->(QD b v (ye b v) u).rel ρ m x:=by
 unfold QD;split
 ·rename_i e;cases hc:bH.beq e b with
  |false=>simp only[cond_false];exact⟨hu,λ_ h=>h⟩
  |true=>
   have:=bH.beq_eq hc;subst this;simp only[cond_true];refine⟨trivial,λx hx=>?_⟩;simp only[V.rel,W.den,A.den,bH.den]at hx⊢;rw[hx,hb]
 ·rename_i k y;cases hr:ye b v with
  |none=>exact⟨hu,λ_ h=>h⟩
  |some r=>
   obtain⟨l,lo,hi⟩:=r;simp only;cases hc:I.beq y.l l with
   |false=>simp only[cond_false];exact⟨hu,λ_ h=>h⟩
   |true=>
    have:=I.beq_eq hc;have hs:=agQ hb hr;have hy:y.ok n ρ:=hu;simp only[cond_true];have ca:Kk y.lo lo<=y.l.den ρ:=by
     unfold Kk;cases lo with
     |none=>exact hy.2.1
     |some c=>
      simp only;have:=hs.1 c rfl;have:=hy.2.1;cases decide (y.lo<=c)with
      |true=>simp only[cond_true];rw[‹y.l=l›];assumption
      |false=>simp only[cond_false];assumption
    have cc:y.l.den ρ<=N8 y.hi hi:=by
     unfold N8;cases hi with
     |none=>exact hy.2.2
     |some c=>
      simp only;have:=hs.2 c rfl;have:=hy.2.2;cases decide (c<=y.hi)with
      |true=>simp only[cond_true];rw[‹y.l=l›];assumption
      |false=>simp only[cond_false];assumption
    cases hd:decide (Kk y.lo lo=N8 y.hi hi)with
    |true=>
     simp only[cond_true];have hd:=of_decide_eq_true hd;refine⟨b0.qD _ _ _,λx h=>?_⟩;have h:x= .int k (y.l.den ρ):=h;rw[h];simp only[V.rel,W.den,A.den,b0.const,I.bq]
     congr 1;omega
    |false=>simp only[cond_false];exact⟨⟨hy.1,ca,cc⟩,λx h=>h⟩
 ·exact⟨hu,λ_ h=>h⟩
theorem K3 {n nb:Nat} {ρ:Env} {m:Nat->Nat} {b:bH} {v:Bool} (hb:b.den ρ=v) {tm:List V} {xs:Array aW} (h:eW n nb ρ m tm xs):eW n nb ρ m (xJ b v tm) xs:=by
 refine⟨by simp[xJ,h.1],λi u hu=>?_⟩;simp only[xJ,se,Option.map_eq_some_iff]at hu;obtain⟨vq,h0,rfl⟩:=hu;obtain⟨h1,x,h2,h3⟩:=h.2 i vq h0;have:=asN (m:=m) hb vq h1;exact⟨this.1,x,h2,this.2 x h3⟩
theorem MN {n nb:Nat} {ρ:Env} {m:Nat->Nat} {tm:List V} {a:Act} {G:fe} {ops:Array Oper} {o:Oper} {yes no:List V->T} (aD:eW n nb ρ m tm a.tmps) (h:(GW ops tm o yes no).holds S L G ρ):
 ∃cK,eW n nb ρ m cK a.tmps/\((Cl o (yielded ops a.tmps)=true/\(yes cK).holds S L G ρ)∨(Cl o (yielded ops a.tmps)=false/\(no cK).holds S L G ρ)):=by
 unfold GW at h;unfold Cl;cases js:o.guard with
 |none=>simp only[js]at h;exact⟨tm,aD,.inl ⟨rfl,h⟩⟩
 |some Ys=>
  obtain⟨g,want⟩:=Ys;simp only[js]at h⊢;unfold yielded;cases hd:(ops[g]?).bind (·.dst)with
  |none=>simp[hd,T.holds]at h
  |some d=>
   simp only[hd]at h;simp only[Option.bind_some];cases ZO:tm[d]? with
   |none=>simp[ZO,T.holds]at h
   |some v=>
    obtain⟨_,x,hx,hr⟩:=aD.2 d v ZO;simp only[ZO]at h;revert hr h;cases v with
    |any=>intro hr h;exact h.elim
    |sL _ _ _=>intro hr h;exact h.elim
    |s5 _ _=>intro hr h;exact h.elim
    |jh l=>
     cases l with
     |nil=>
      intro hr h;have hr:x= .tuple #[]:=hr;subst hr;simp only[hx];exact⟨tm,aD,.inr ⟨by simp,h⟩⟩
     |cons _ _=>intro hr h;exact h.elim
    |w y=>
     cases y with
     |agg l=>intro hr h;exact h.elim
     |one c=>
      cases c with
      |bool b=>
       intro hr h;have hr:x= .bool (b.den ρ):=hr;subst hr;simp only[hx];have key:∀b:bH,(T.uU b (cond want (yes (xJ b true tm)) (no (xJ b true tm))) (cond want (no (xJ b false tm)) (yes (xJ b false tm)))).holds S L G ρ->∃cK,eW n nb ρ m cK a.tmps/\(((some (b.den ρ)==some want)=true/\(yes cK).holds S L G ρ)∨((some (b.den ρ)==some want)=false/\(no cK).holds S L G ρ)):=λb hb=>by
        simp only[T.holds]at hb;cases ak:b.den ρ with
        |true=>
         have:=hb.1 ak;cases want with
         |true=>exact⟨_,K3 ak aD,.inl ⟨by simp,this⟩⟩
         |false=>exact⟨_,K3 ak aD,.inr ⟨by simp,this⟩⟩
        |false=>
         have:=hb.2 ak;cases want with
         |true=>exact⟨_,K3 ak aD,.inr ⟨by simp,this⟩⟩
         |false=>exact⟨_,K3 ak aD,.inl ⟨by simp,this⟩⟩
       cases b with
       |lit v=>
        simp only[bH.den];cases hv:(v==want)with
        |true=>simp only[hv,cond_true]at h;exact⟨tm,aD,.inl ⟨by simpa using hv,h⟩⟩
        |false=>simp only[hv,cond_false]at h;exact⟨tm,aD,.inr ⟨by simpa using hv,h⟩⟩
       |eq _ _=>exact key _ h
       |lt _ _=>exact key _ h
       |le _ _=>exact key _ h
       |not _=>exact key _ h
       |and _ _=>exact key _ h
       |iff _ _=>exact key _ h
      |_=>intro hr h;exact h.elim
theorem R.skip {n:Nat} {ρ:Env} {m:Nat->Nat} {tm:List V} {bl:List aJ} {a:Act} {w:aG} (h:R w0 n ρ m tm bl a w) (d:Option Tmp):R w0 n ρ m (hG tm d (.jh [])) bl (a.put d undef) w:=
 ⟨eW.put h.t d (by intro x hx;simp at hx) rfl,by rw[put_defers];exact h.d,h.b,h.bK⟩
theorem S3 {ops:Array Oper} {Q:Exit->Act->aG->Prop} (dy:iM S P gl w0 cal) (hg:gM gl w0) (nu:ri S L w0 P inl):∀(l:List Oper) {n:Nat} {ρ:Env} {m:Nat->Nat} {tm:List V} {bl:List aJ} {a:Act} {w:aG} {G:fe} {k:iz},
 R w0 n ρ m tm bl a w->(Ky P gl cal inl ops l n tm bl k).holds S L G ρ->ml S L w0 k n bl.length ρ m G (Q .normal)->wpList P ops Q l a w
 |[],n,ρ,m,tm,bl,a,w,G,k,h,ag,af=>af n ρ m tm bl G a w (e6.refl _ _ _ _) (gr.refl _ _) h ag
 |o::r,n,ρ,m,tm,bl,a,w,G,k,h,ag,af=>by
  unfold Ky at ag;unfold wpList;obtain⟨cK,ui,js⟩:=MN h.t ag;have h:R w0 n ρ m cK bl a w:=⟨ui,h.d,h.b,h.bK⟩;rcases js with⟨hw,ag⟩|⟨hw,ag⟩
  ·rw[if_pos hw];refine .inl (ano dy hg nu h ag λn' ae m' cK bt eV dT w' h1 h2 h3 h4=>?_);exact S3 dy hg nu r h3 h4 (af.later h1 h2)
  ·rw[if_neg (by simp[hw])];exact S3 dy hg nu r (h.skip o.dst) ag af
theorem allT_holds {g:Nat->T} {L:V->Env->Prop} {G:fe} {ρ:Env}:∀{l:List Nat},(WX g l).holds S L G ρ->∀i∈l,(g i).holds S L G ρ
 |[],ag,_,hi=>by cases hi
 |[j],ag,i,hi=>by simp at hi;subst hi;exact ag
 |j::aaf::r,ag,i,hi=>by
  rcases List.mem_cons.1 hi with rfl|hi
  ·exact ag.1
  ·exact allT_holds (l:=aaf::r) ag.2 i hi
theorem Rd {ops:Array Oper} {bl:List aJ} {m:Nat->Nat} {gS:Nat} {cB:Env} (dy:iM S P gl w0 cal) (hg:gM gl w0) (rF:dj gS bl.length cB bl) (hex:∃w,Mem w0 cB m bl w) {F:Act->Prop} {G:fe}:∀(l:List Oper) {n:Nat} {ρ:Env} {tm:List V} {a:Act} {k:Nat->List V->T},
 gS<=n->agree gS cB ρ->eW n bl.length ρ m tm a.tmps->a.defers=w0.ds->(JJ P gl cal ops l n tm bl k).holds S L G ρ->
 (∀n' ae cK dT,n<=n'->agree n ρ ae->eW n' bl.length ae m cK dT.tmps->dT.defers=w0.ds->(k n' cK).holds S L G ae->F dT)->F8 P ops (λw=>Mem w0 cB m bl w) F l a
 |[],n,ρ,tm,a,k,hn,ha,aD,hd,ag,af=>af n ρ tm a (bW _) (agree.refl _ _) aD hd ag
 |o::r,n,ρ,tm,a,k,hn,ha,aD,hd,ag,af=>by
  unfold JJ at ag;unfold F8;obtain⟨BS,yz⟩:=hex;cases gG:iB o with
  |true=>
   simp only[gG,cond_true]at ag⊢;exact Rd dy hg rF ⟨BS,yz⟩ r hn ha aD hd ag af
  |false=>
   simp only[gG,cond_false]at ag⊢;obtain⟨cK,aD,js⟩:=MN aD ag;rcases js with⟨hw,ag⟩|⟨hw,ag⟩
   ·have hb:dj n bl.length ρ bl:=rF.ext ha hn (bW _);obtain⟨ae,n',v,yr,nt,⟨hv,val,hr,ak⟩,JP⟩:=acs (L:=L) dy hb hg ⟨BS,yz.sP rF ha⟩ aD o G _ ag;refine⟨val,.inl ⟨hw,λw axl=>ak w (axl.sP rF ha)⟩,?_⟩;exact Rd dy hg rF ⟨BS,yz⟩ r (nf hn yr) (ha.trans nt hn) (eW.put (aD.ext nt yr (bW _) (λ_ _=>rfl)) o.dst hv hr) (by rw[put_defers];exact hd) JP
     λKq zg anA ae9 h1 h2 h3 h4 h5=>af Kq zg anA ae9 (nf yr h1) (nt.trans h2 yr) h3 h4 h5
   ·exact⟨undef,.inr ⟨hw,rfl⟩,Rd dy hg rF ⟨BS,yz⟩ r hn ha (eW.put (v:= .jh []) aD o.dst (by intro x hx;simp at hx) rfl) (by rw[put_defers];exact hd) ag af⟩
def Lx (P:b4) (ops:Array Oper) (j:Nat):Obj:=
 match ops[j]? with
 |some o=>match o.op with
  | .alloc t=>match P.info? t with
   |some i=>match i.zero with
    |some z=> .cells z.cells t
    |none=>default
   |none=>default
  |_=>default
 |none=>default
theorem aIP {l:List Oper} {h j:Nat} {o:Oper} (hz:Um P (l.take h)=true) (aM:j<h) (aA:l.toArray[j]?=some o) (gG:iB o=true) (b:Act) (w:aG):
 (execOp b.eval o).run P w= .ok (.value (.pointer (some ⟨w.heap.size,0,none⟩))) (w.alloc (Lx P l.toArray j)):=by
 have kl:l[j]?=some o:=by simpa using aA
 have hm:o∈l.take h:=fC (i:=j) (by rw[tI,if_pos aM];exact kl);have h1:=List.all_eq_true.1 hz o hm;simp only[gG,cU,Bool.false_or]at h1;unfold Lx;simp only[aA];cases gR:o.op with
 |alloc t=>
  simp only[gR]at h1;obtain⟨cs,dD⟩:=Option.isSome_iff_exists.1 h1;obtain⟨i,z,hi,km,_⟩:=Lw dD;simp only[execOp,gR,aJI,jl,zeroValue,typeInfo,run_program,jF,hi,km,kv,newVar,newRow,run_newObj];rfl
 |_=>simp[gR]at h1
theorem WY {ops:Array Oper} {h:Nat} {wB b:Act} {im:Nat->Nat} {bG:Nat} {w:aG} {n:Nat} {ρ:Env} {G:fe} {k:iz} {K:Act->aG->Prop} (CO:Fin ops h wB b im) (ys:Ed ops h (λ_=>True) (Lx P ops) im bG w) (hsz:w0.b.heap.size<=bG) (ajO:w0.r.heap.size<=bG):
 ∀(l:List Oper) (i:Nat) {m:Nat->Nat} {tm:List V} {bl:List aJ} {c:Act},(∀j,j<l.length->ops[i+j]?=l[j]?)->i+l.length=h->R w0 n ρ m tm bl c w->
  (∀(nB:Nat) (p:aJ),bl[nB]?=some p->bU ρ p.1≠0->m nB<bG∨∃j,j<i/\wz ops j=true/\m nB=im j)->c.tmps.size=wB.tmps.size->
  (∀t:Nat,((∃j o,j<i/\ops[j]?=some o/\iB o=true/\o.dst=some t)->c.tmps[t]?=b.tmps[t]?)/\((∀j o,j<i->ops[j]?=some o->iB o=true->o.dst≠some t)->c.tmps[t]?=wB.tmps[t]?))->
  (L7 P l n tm bl k).holds S L G ρ->ml S L w0 k n bl.length ρ m G K->wB.defers=w0.ds->K b w
 |[],i,m,tm,bl,c,hl,hi,hR,hm,dD,hc,ag,af,hd=>by
  simp only[qo,oX]at hi;subst hi;have n0:c=b:=arb (by rw[hR.d,CO.d,hd]) λt=>by
   by_cases aD:∃j o,j<i/\ops[j]?=some o/\iB o=true/\o.dst=some t
   ·exact(hc t).1 aD
   ·have mv:∀j o,j<i->ops[j]?=some o->iB o=true->o.dst≠some t:=λj o h1 h2 h3 h4=>aD ⟨j,o,h1,h2,h3,h4⟩;rw[(hc t).2 mv,CO.no t mv]
  subst n0;exact af n ρ m tm bl G c w (e6.refl _ _ _ _) (gr.refl _ _) hR ag
 |o::r,i,m,tm,bl,c,hl,hi,hR,hm,dD,hc,ag,af,hd=>by
  have aA:ops[i]?=some o:=by have:=hl 0 (by simp);simpa using this
  have hr:∀j,j<r.length->ops[i+1+j]?=r[j]?:=λj aM=>by
   have:=hl (j+1) (by simp;omega);rw[show i+1+j=i+(j+1) by omega,this];simp
  have qL:i+1+r.length=h:=by simp at hi;omega
  unfold L7 at ag;cases gG:iB o with
  |false=>
   simp only[gG,cond_false]at ag;refine WY CO ys hsz ajO r (i+1) hr qL hR (λnB p qN hp=>(hm nB p qN hp).imp id λ⟨j,h1,h2⟩=>⟨j,by omega,h2⟩) dD (λt=>⟨λ⟨j,cL,h1,h2,h3,h4⟩=>?_,λmv=>(hc t).2 λj cL h1=>mv j cL (by omega)⟩) ag af hd;by_cases p6:j=i
   ·subst p6;have:cL=o:=jC (h2.symm.trans aA);subst this;rw[gG]at h3;cases h3
   ·exact(hc t).1 ⟨j,cL,by omega,h2,h3,h4⟩
  |true=>
   simp only[gG,cond_true]at ag;cases gR:o.op with
   |alloc ty=>
    simp only[gR]at ag;cases hz:ql P ty with
    |none=>simp[hz,T.holds]at ag
    |some cs=>
     simp only[hz]at ag;obtain⟨oA,ag⟩:=cond_holds ag;obtain⟨inf,z,av4,km,n1⟩:=Lw hz;have Y8:=CD n1 n bl.length ρ m;have lr:wz ops i=true:=by simp[wz,aA,gG]
     have Zl:i<h:=by simp at hi;omega
     obtain⟨g1,g2⟩:=ys.1 i Zl trivial lr;have axw:Lx P ops i= .cells (cs.map (A.den ρ m)).toArray ty (0,0):=by
      unfold Lx;simp only[aA,gR,av4,km,Y8.2]
     rw[axw]at g2;have dA:∀(nB:Nat) (p:aJ),bl[nB]?=some p->bU ρ p.1≠0->m nB≠im i:=λnB p qN hp e=>by
      rcases hm nB p qN hp with h1|⟨j,h1,h2,h3⟩
      ·omega
      ·have:=ys.2 j i (by omega) Zl trivial trivial h2 lr (h3.symm.trans e);omega
     have pf:=hR.bK.push (x:=(cs,(ty,false))) hR.b Y8.1 (λ_=>⟨by omega,.inr (by omega),[],λ_=>rfl,by rw[hK];exact g2⟩) (λsh off code cap kind e=>by simp only at e;subst e;cases oA) λi p hi he=> .inr (.inl (ad3 λaf=>dA i p hi af he));have dM:=e6.alloc n ρ m bl (cs,(ty,false)) (im i);have wQ:R w0 n ρ (nG m bl.length (im i)) (hG tm o.dst (.w (.one (.ptr bl.length 0)))) (bl++[(cs,(ty,false))]) (c.put o.dst (.pointer (some ⟨im i,0,none⟩))) w:=
      ⟨eW.put (hR.t.ext dM.ha dM.hn dM.hb dM.hm) o.dst (by simp[V.ok,W.ok,A.ok]) (by simp[V.rel,W.den,A.den,pz]),by rw[put_defers];exact hR.d,hR.b.alloc Y8.1,pf⟩
     refine WY CO ys hsz ajO r (i+1) hr qL wQ (λnB p qN hp=>?_) ((HT _ _ _).trans dD) (λt=>⟨λ⟨j,cL,h1,h2,h3,h4⟩=>?_,λmv=>?_⟩) ag (af.later dM (gr.refl _ _)) hd
     ·by_cases pg:nB<bl.length
      ·rw[oS pg];rw[AA pg]at qN;exact(hm nB p qN hp).imp id λ⟨j,h1,h2⟩=>⟨j,by omega,h2⟩
      ·have:nB=bl.length:=by have:=(List.getElem?_eq_some_iff.1 qN).1;simp at this;omega
       subst this;rw[pz];exact .inr ⟨i,by omega,lr,rfl⟩
     ·by_cases aD:o.dst=some t
      ·rw[aD];simp only[Act.put];rcases Nat.lt_or_ge t c.tmps.size with h5|h5
       ·have ua:t<b.tmps.size:=by rw[CO.bG,<-dD];exact h5
        rw[CO.al t i o Zl aA gG aD ua];simp[h5]
       ·rw[UF (by simpa using h5),UF (by rw[CO.bG,<-dD];exact h5)]
      ·rw[BD aD];by_cases p6:j=i
       ·subst p6;have:cL=o:=jC (h2.symm.trans aA);subst this;exact absurd h4 aD
       ·exact(hc t).1 ⟨j,cL,by omega,h2,h3,h4⟩
     ·have aD:o.dst≠some t:=mv i o (by omega) aA gG;rw[BD aD];exact(hc t).2 λj cL h1=>mv j cL (by omega)
   |_=>simp[gR,T.holds]at ag
end
end Go.b9
namespace Go.b9
open M
theorem asJ {a b:aW} (h:XD a b=true):a=b:=by
 unfold XD at h;split at h
 ·rfl
 ·rfl
 ·rename_i f a b ta dT b';simp only[bx]at h;obtain⟨⟨⟨⟨h1,h2⟩,h3⟩,h4⟩,h5⟩:=h;rw[b1 h1,D6 (b1 h2),D6 (b1 h3),D6 (b1 h4),D6 (b1 h5)]
 ·cases h
theorem A.beq_eq {a b:A} (h:A.beq a b=true):a=b:=by
 cases a<;>cases b<;>simp only[A.beq]at h<;>(try(cases h;done))
 case int.int k x bI y=>
  simp only[bx,decide_eq_true_eq,beq_iff_eq]at h;obtain⟨⟨⟨h1,h2⟩,h3⟩,h4⟩:=h;cases x;cases y;simp only at h2 h3 h4;rw[h1,I.beq_eq h2,h3,h4]
 case bool.bool x y=>
  rw[bH.beq_eq h]
 case con.con=>rw[asJ h]
 case ptr.ptr=>simp only[bx]at h;rw[b1 h.1,b1 h.2]
 case gptr.gptr=>simp only[bx]at h;rw[b1 h.1,b1 h.2]
 case slc.slc=>
  simp only[bx]at h;rw[b1 h.1.1.1,b1 h.1.1.2,b1 h.1.2,b1 h.2]
 case str.str=>rw[I.beq_eq h]
 case rows.rows=>
  simp only[bx]at h;rw[FJ h.1.1.1.1,I.beq_eq h.1.1.1.2,I.beq_eq h.1.1.2,I.beq_eq h.1.2,b1 h.2]
 case sl.sl=>
  simp only[bx]at h;rw[b1 h.1.1.1.1.1,b1 h.1.1.1.1.2,I.beq_eq h.1.1.1.2,I.beq_eq h.1.1.2,I.beq_eq h.1.2,I.beq_eq h.2]
 case ep.ep=>
  simp only[bx]at h;rw[b1 h.1.1.1.1,b1 h.1.1.1.2,I.beq_eq h.1.1.2,I.beq_eq h.1.2,b1 h.2]
theorem Gx:∀{a b:List A},rl a b=true->a=b
 |[],[],_=>rfl
 |x::r,y::s,h=>by
  simp only[rl,bx]at h;rw[A.beq_eq h.1,Gx h.2]
 |[],_::_,h=>by simp[rl]at h
 |_::_,[],h=>by simp[rl]at h
theorem V.beq_eq {a b:V} (h:V.beq a b=true):a=b:=by
 cases a with
 |any=>cases b<;>simp[V.beq]at h
 |jh l=>cases l<;>cases b<;>simp[V.beq]at h;rename_i l';cases l'<;>simp[V.beq]at h;rfl
 |w x=>
  cases b with
  |w y=>cases x<;>cases y<;>simp[V.beq]at h;rw[A.beq_eq h];rw[Gx h]
  |_=>cases x<;>simp[V.beq]at h
 |sL _ _ _=>simp[V.beq]at h
 |s5 f l=>
  cases b with
  |s5 ta l'=>
   simp only[V.beq,bx]at h;rw[b1 h.1,Gx h.2]
  |_=>simp[V.beq]at h
theorem Le:∀(zs:List Int) (n:Nat) (ρ:Env) (j:Nat),j<zs.length->bR ρ n zs (n+j)=zs.getD j 0
 |[],_,_,_,h=>by simp at h
 |z::zs,n,ρ,0,_=>by
  show bR (dI ρ n z) (n+1) zs (n+0)=z;rw[agree.bR zs (n+1) _ (n+0) (by omega)];exact mA ρ n z
 |z::zs,n,ρ,j+1,h=>by
  show bR (dI ρ n z) (n+1) zs (n+(j+1))=_;rw[show n+(j+1)=n+1+j by omega,Le zs (n+1) _ j (by simpa using h)];rfl
def F9 (n nb:Nat) (ρ:Env) (m:Nat->Nat):List V->List aW->Prop
 |[],[]=>True
 |v::r,x::s=>v.ok n nb ρ/\v.rel ρ m x/\F9 n nb ρ m r s
 |_,_=>False
theorem ae1 {n nb:Nat} {ρ:Env} {m:Nat->Nat}:∀{tm:List V} {xs:List aW},eW n nb ρ m tm xs.toArray->F9 n nb ρ m tm xs
 |[],[],_=>trivial
 |v::r,x::s,h=>by
  have h0:=h.2 0 v rfl;obtain⟨h1,y,h2,h3⟩:=h0;simp at h2;subst h2;refine⟨h1,h3,ae1 (tm:=r) (xs:=s) ⟨by simpa using h.1,λi u hu=>?_⟩⟩;have:=h.2 (i+1) u (by simpa using hu);simpa using this
 |[],_::_,h=>by have:=h.1;simp at this
 |_::_,[],h=>by have:=h.1;simp at this
theorem PV {n nb:Nat} {ρ:Env} {m:Nat->Nat}:∀{tm:List V} {xs:List aW},F9 n nb ρ m tm xs->eW n nb ρ m tm xs.toArray
 |[],[],_=>⟨rfl,λi v h=>by simp at h⟩
 |v::r,x::s,h=>by
  have ih:=PV h.2.2;refine⟨by simpa using ih.1,λi u hu=>?_⟩;cases i with
  |zero=>simp at hu;subst hu;exact⟨h.1,x,by simp,h.2.1⟩
  |succ i=>have:=ih.2 i u (by simpa using hu);simpa using this
 |[],_::_,h=>h.elim
 |_::_,[],h=>h.elim
theorem m1:∀{b b':List (Int×Int)} {l l':List Int},ab b l->ab b' l'->ab (b++b') (l++l')
 |[],_,[],_,_,h=>h
 |_::_,_,_::_,_,h,bm=>⟨h.1,h.2.1,m1 h.2.2 bm⟩
 |[],_,_::_,_,h,_=>h.elim
 |_::_,_,[],_,h,_=>h.elim
theorem agree.symm {n:Nat} {ρ ae:Env} (h:agree n ρ ae):agree n ae ρ:=λi hi=>(h i hi).symm
theorem V.back {n nb:Nat} {cB ae b5:Env} {m0 m':Nat->Nat} {v:V} {x:aW} (h0:v.ok n nb cB) (ha:agree n cB ae) (h2:agree n cB b5) (hm:∀b,b<nb->m' b=m0 b) (hr:v.rel ae m' x):v.ok n nb b5/\v.rel b5 m0 x:=by
 have awu:v.ok n nb ae:=h0.ext ha (bW _) (bW _);exact⟨h0.ext h2 (bW _) (bW _),hr.ext awu (ha.symm.trans h2 (bW _)) λb hb=>(hm b hb).symm⟩
section
variable {hT:List Nat} {ints:List (Nat×Int×Int)}
theorem J0:∀{tm:List V} {i s:Nat} {t:List V} {l:List I} {b:List (Int×Int)},hs hT ints i s tm=some (t,l,b)->l.length=b.length/\t.length=tm.length
 |[],i,s,t,l,b,h=>by simp[hs]at h;obtain⟨rfl,rfl,rfl⟩:=h;exact⟨rfl,rfl⟩
 |v::r,i,s,t,l,b,h=>by
  unfold hs at h;cases af:hT.any (aP i)with
  |true=>
   simp only[af,cond_true]at h;cases hr:hs hT ints (i+1) s r with
   |none=>simp[hr]at h
   |some q=>
    obtain⟨t',l',b'⟩:=q;simp only[hr,bj,eO]at h;obtain⟨rfl,rfl,rfl⟩:=h;have:=J0 hr;simp[this]
  |false=>
   simp only[af,cond_false]at h;cases hf:EL i ints with
   |none=>
    simp only[hf]at h;cases hr:hs hT ints (i+1) s r with
    |none=>simp[hr]at h
    |some q=>
     obtain⟨t',l',b'⟩:=q;simp only[hr,bj,eO]at h;obtain⟨rfl,rfl,rfl⟩:=h;have:=J0 hr;simp[this]
   |some q=>
    obtain⟨lo,hi⟩:=q;simp only[hf]at h;split at h
    ·rename_i k x;cases hc:(decide (lo<=x.lo)&&decide (x.hi<=hi))with
     |false=>simp[hc]at h
     |true=>
      simp only[hc,cond_true]at h;cases hr:hs hT ints (i+1) (s+1) r with
      |none=>simp[hr]at h
      |some q=>
       obtain⟨t',l',b'⟩:=q;simp only[hr,bj,eO]at h;obtain⟨rfl,rfl,rfl⟩:=h;have:=J0 hr;simp[this]
    ·cases hr:hs hT ints (i+1) (s+1) r with
     |none=>simp[hr]at h
     |some q=>
      obtain⟨t',l',b'⟩:=q;simp only[hr,bj,eO]at h;obtain⟨rfl,rfl,rfl⟩:=h;have:=J0 hr;simp[this]
    ·cases h
theorem NH {n nb N:Nat} {cB ae b5:Env} {m0 m':Nat->Nat} {n' nD:Nat} (ha:agree n cB ae) (h2:agree n cB b5) (hm:∀b,b<nb->m' b=m0 b) (te:n<=N):
 ∀{tm cK:List V} {xs:List aW} {i s:Nat} {t t':List V} {l l':List I} {b b':List (Int×Int)},
 (∀v∈tm,V.ok n nb cB v)->F9 n' nD ae m' cK xs->hs hT ints i s tm=some (t,l,b)->hs hT ints i s cK=some (t',l',b')->p2 t t'=true->
 (∀j,j<l'.length->b5 (s+j)=(l'.getD j (.const 0)).den ae)->s+l'.length<=N->F9 N nb b5 m0 t xs/\ab b (l'.map (·.den ae))/\l'.length=l.length
 |[],[],[],i,s,t,t',l,l',b,b',h0,hr,az,aI,hf,hv,cP=>by
  simp[hs]at az aI;obtain⟨rfl,rfl,rfl⟩:=az;obtain⟨rfl,rfl,rfl⟩:=aI;exact⟨trivial,trivial,rfl⟩
 |v::r,v'::r',x::xs,i,s,t,t',l,l',b,b',h0,hr,az,aI,hf,hv,cP=>by
  obtain⟨cb,hrel,Hn⟩:=hr;have GX:∀v∈r,V.ok n nb cB v:=λu hu=>h0 u (eI _ hu);unfold hs at az aI;cases af:hT.any (aP i)with
  |true=>
   simp only[af,cond_true]at az aI;cases hO:hs hT ints (i+1) s r with
   |none=>simp[hO]at az
   |some bg=>
    obtain⟨t1,l1,ca⟩:=bg;cases jN:hs hT ints (i+1) s r' with
    |none=>simp[jN]at aI
    |some b3=>
     obtain⟨t2,l2,cc⟩:=b3;simp only[hO,bj,eO]at az;simp only[jN,bj,eO]at aI;obtain⟨rfl,rfl,rfl⟩:=az;obtain⟨rfl,rfl,rfl⟩:=aI;have qP:=h0 v (by simp);have key:p2 t1 t2=true/\(v= .any∨v=v'):=by
      unfold p2 at hf;split at hf
      ·rename_i heq _;cases heq
      ·rename_i h1 h2;cases h1;cases h2;exact⟨hf,.inl rfl⟩
      ·rename_i h1 h2;cases h1;cases h2;simp only[bx]at hf;exact⟨hf.2,.inr (V.beq_eq hf.1)⟩
      ·cases hf
     obtain⟨cG,cC,dE⟩:=NH ha h2 hm te GX Hn hO jN key.1 hv cP;refine⟨⟨?_,?_,cG⟩,cC,dE⟩
     ·exact qP.ext h2 te (bW _)
     ·rcases key.2 with rfl|rfl
      ·trivial
      ·exact(V.back qP ha h2 hm hrel).2
  |false=>
   simp only[af,cond_false]at az aI;cases l0:EL i ints with
   |none=>
    simp only[l0]at az aI;cases hO:hs hT ints (i+1) s r with
    |none=>simp[hO]at az
    |some bg=>
     obtain⟨t1,l1,ca⟩:=bg;cases jN:hs hT ints (i+1) s r' with
     |none=>simp[jN]at aI
     |some b3=>
      obtain⟨t2,l2,cc⟩:=b3;simp only[hO,bj,eO]at az;simp only[jN,bj,eO]at aI;obtain⟨rfl,rfl,rfl⟩:=az;obtain⟨rfl,rfl,rfl⟩:=aI;obtain⟨cG,cC,dE⟩:=NH ha h2 hm te GX Hn hO jN (by simpa [p2]using hf) hv cP;exact⟨⟨trivial,trivial,cG⟩,cC,dE⟩
   |some q=>
    obtain⟨lo,hi⟩:=q;simp only[l0]at az aI;split at az
    ·rename_i k y;split at aI
     ·rename_i bI nH;cases iw:(decide (lo<=y.lo)&&decide (y.hi<=hi))with
      |false=>simp[iw]at az
      |true=>
       cases hc2:(decide (lo<=nH.lo)&&decide (nH.hi<=hi))with
       |false=>simp[hc2]at aI
       |true=>
        simp only[iw,cond_true]at az;simp only[hc2,cond_true]at aI;cases hO:hs hT ints (i+1) (s+1) r with
        |none=>simp[hO]at az
        |some bg=>
         obtain⟨t1,l1,ca⟩:=bg;cases jN:hs hT ints (i+1) (s+1) r' with
         |none=>simp[jN]at aI
         |some b3=>
          obtain⟨t2,l2,cc⟩:=b3;simp only[hO,bj,eO]at az;simp only[jN,bj,eO]at aI;obtain⟨rfl,rfl,rfl⟩:=az;obtain⟨rfl,rfl,rfl⟩:=aI;simp only[p2,bx]at hf;have qN:=V.beq_eq hf.1;simp only[V.w.injEq,W.one.injEq,A.int.injEq]at qN;simp only[bx,decide_eq_true_eq]at hc2;obtain⟨cG,cC,dE⟩:=NH ha h2 hm te GX Hn hO jN hf.2 (λj aM=>by
           have:=hv (j+1) (by simpa using aM);rw[show s+1+j=s+(j+1) by omega];simpa using this) (by simp at cP;omega)
          have qP:=hv 0 (by simp);simp only[oX,gD]at qP;have hb:=cb.2;simp only[V.rel,W.den,A.den]at hrel;refine⟨⟨⟨I.hj (by simp at cP;omega),?_,?_⟩,?_,cG⟩,⟨?_,?_,cC⟩,by simp[dE]⟩
          ·simp only[I.db,qP];omega
          ·simp only[I.db,qP];omega
          ·simp only[V.rel,W.den,A.den,I.db,qP,qN.1];exact hrel
          ·simp only;omega
          ·simp only;omega
     ·cases hO:hs hT ints (i+1) (s+1) r' with
      |none=>simp[hO]at aI
      |some b3=>
       obtain⟨t2,l2,cc⟩:=b3;simp only[hO,bj,eO]at aI;obtain⟨rfl,rfl,rfl⟩:=aI;cases iw:(decide (lo<=y.lo)&&decide (y.hi<=hi))with
       |false=>simp[iw]at az
       |true=>
        simp only[iw,cond_true]at az;cases jN:hs hT ints (i+1) (s+1) r with
        |none=>simp[jN]at az
        |some bg=>
         obtain⟨t1,l1,ca⟩:=bg;simp only[jN,bj,eO]at az;obtain⟨rfl,rfl,rfl⟩:=az;simp[p2,V.beq,A.beq]at hf
     ·cases aI
    ·rename_i y;split at aI
     ·rename_i bI nH;cases hO:hs hT ints (i+1) (s+1) r with
      |none=>simp[hO]at az
      |some bg=>
       obtain⟨t1,l1,ca⟩:=bg;simp only[hO,bj,eO]at az;obtain⟨rfl,rfl,rfl⟩:=az;cases hc2:(decide (lo<=nH.lo)&&decide (nH.hi<=hi))with
       |false=>simp[hc2]at aI
       |true=>
        simp only[hc2,cond_true]at aI;cases jN:hs hT ints (i+1) (s+1) r' with
        |none=>simp[jN]at aI
        |some b3=>
         obtain⟨t2,l2,cc⟩:=b3;simp only[jN,bj,eO]at aI;obtain⟨rfl,rfl,rfl⟩:=aI;simp[p2,V.beq,A.beq]at hf
     ·rename_i nH;cases hO:hs hT ints (i+1) (s+1) r with
      |none=>simp[hO]at az
      |some bg=>
       obtain⟨t1,l1,ca⟩:=bg;cases jN:hs hT ints (i+1) (s+1) r' with
       |none=>simp[jN]at aI
       |some b3=>
        obtain⟨t2,l2,cc⟩:=b3;simp only[hO,bj,eO]at az;simp only[jN,bj,eO]at aI;obtain⟨rfl,rfl,rfl⟩:=az;obtain⟨rfl,rfl,rfl⟩:=aI;simp only[p2,bx]at hf;obtain⟨cG,cC,dE⟩:=NH ha h2 hm te GX Hn hO jN hf.2 (λj aM=>by
         have:=hv (j+1) (by simpa using aM);rw[show s+1+j=s+(j+1) by omega];simpa using this) (by simp at cP;omega)
        have qP:=hv 0 (by simp);simp only[oX,gD]at qP;have hb:0<=nH.den ae/\nH.den ae<=qu:=cb.2;have hrel:x= .string (en (bF (nH.den ae))):=hrel;refine⟨⟨⟨I.hj (by simp at cP;omega),?_⟩,?_,cG⟩,⟨hb.1,hb.2,cC⟩,by simp[dE]⟩
        ·simp only[I.db,qP];exact hb
        ·simp only[V.rel,W.den,A.den,I.db,qP];exact hrel
     ·cases aI
    ·cases az
 |[],_::_,_,i,s,t,t',l,l',b,b',h0,hr,az,aI,hf,hv,cP=>by
  simp[hs]at az;obtain⟨rfl,_,_⟩:=az;have:=(J0 aI).2;cases t' with
  |nil=>simp at this
  |cons _ _=>simp[p2]at hf
 |_::_,[],_,i,s,t,t',l,l',b,b',h0,hr,az,aI,hf,hv,cP=>by
  simp[hs]at aI;obtain⟨rfl,_,_⟩:=aI;have:=(J0 az).2;cases t with
  |nil=>simp at this
  |cons y z=>cases y<;>simp[p2]at hf
 |_::_,_::_,[],i,s,t,t',l,l',b,b',h0,hr,az,aI,hf,hv,cP=>hr.elim
 |[],[],_::_,i,s,t,t',l,l',b,b',h0,hr,az,aI,hf,hv,cP=>hr.elim
end
def LX (n nb:Nat) (ρ:Env) (m:Nat->Nat):List A->List aW->Prop
 |[],[]=>True
 |a::r,x::s=>A.ok n nb ρ a/\x=a.den ρ m/\LX n nb ρ m r s
 |_,_=>False
theorem aeY {n nb:Nat} {ρ:Env} {m:Nat->Nat}:∀{l:List A},(∀a∈l,A.ok n nb ρ a)->LX n nb ρ m l (l.map (A.den ρ m))
 |[],_=>trivial
 |a::r,h=>⟨h a (by simp),rfl,aeY λx hx=>h x (eI _ hx)⟩
theorem aeZ {n nb:Nat} {ρ:Env} {m:Nat->Nat}:∀{l:List A} {xs:List aW},LX n nb ρ m l xs->(∀a∈l,A.ok n nb ρ a)/\xs=l.map (A.den ρ m)
 |[],[],_=>⟨by simp,rfl⟩
 |a::r,x::s,h=>by
  have ih:=aeZ h.2.2;exact⟨λy hy=>by rcases List.mem_cons.1 hy with rfl|hy;exact h.1;exact ih.1 y hy,by rw[h.2.1,ih.2];rfl⟩
 |[],_::_,h=>h.elim
 |_::_,[],h=>h.elim
theorem A.back {n nb:Nat} {cB ae b5:Env} {m0 m':Nat->Nat} {v:A} (h0:v.ok n nb cB) (ha:agree n cB ae) (h2:agree n cB b5) (hm:∀b,b<nb->m' b=m0 b):v.den ae m'=v.den b5 m0:=by
 rw[A.nW h0 ha hm,A.nW (m':=m0) h0 h2 (λ_ _=>rfl)]
section
variable {ints:List (Nat×Int×Int)}
theorem JE:∀{cs:List A} {i s:Nat} {t:List A} {l:List I} {b:List (Int×Int)},ha ints i s cs=some (t,l,b)->l.length=b.length/\t.length=cs.length
 |[],i,s,t,l,b,h=>by simp[ha]at h;obtain⟨rfl,rfl,rfl⟩:=h;exact⟨rfl,rfl⟩
 |v::r,i,s,t,l,b,h=>by
  unfold ha at h;cases hf:EL i ints with
  |none=>
   simp only[hf]at h;cases hr:ha ints (i+1) s r with
   |none=>simp[hr]at h
   |some q=>
    obtain⟨t',l',b'⟩:=q;simp only[hr,bj,eO]at h;obtain⟨rfl,rfl,rfl⟩:=h;have:=JE hr;simp[this]
  |some q=>
   obtain⟨lo,hi⟩:=q;simp only[hf]at h;cases hc:mT lo hi s v with
   |none=>simp[hc]at h
   |some p=>
    obtain⟨a,x,hA⟩:=p;simp only[hc]at h;cases hr:ha ints (i+1) (s+1) r with
    |none=>simp[hr]at h
    |some q=>
     obtain⟨t',l',b'⟩:=q;simp only[hr,bj,eO]at h;obtain⟨rfl,rfl,rfl⟩:=h;have:=JE hr;simp[this]
theorem asy {n nb N:Nat} {cB ae b5:Env} {m0 m':Nat->Nat} {n' nD:Nat} {lo hi:Int} {s:Nat} {v v' a dT:A} {x hI:I} {hA arP:Int×Int} (iD:agree n cB ae) (h2:agree n cB b5) (te:n<=N)
 (h0:v.ok n nb cB) (bm:v'.ok n' nD ae) (az:mT lo hi s v=some (a,x,hA)) (aI:mT lo hi s v'=some (dT,hI,arP)) (hf:a=dT) (hv:b5 s=hI.den ae) (cP:s<N):
 a.ok N nb b5/\a.den b5 m0=v'.den ae m'/\hA.1<=hI.den ae/\hI.den ae<=hA.2:=by
 subst hf;have uh:(I.var s).den b5=hI.den ae:=by rw[I.db,hv]
 cases v with
 |int k y=>
  simp only[mT]at az;cases iw:(decide (lo<=y.lo)&&decide (y.hi<=hi))with
  |false=>simp[iw]at az
  |true=>
   simp only[iw,cond_true,bj,eO]at az;obtain⟨rfl,rfl,rfl⟩:=az;cases v' with
   |int bI nH=>
    simp only[mT]at aI;cases hc2:(decide (lo<=nH.lo)&&decide (nH.hi<=hi))with
    |false=>simp[hc2]at aI
    |true=>
     simp only[hc2,cond_true,bj,eO,A.int.injEq]at aI;obtain⟨⟨rfl,_⟩,rfl,rfl⟩:=aI;simp only[bx,decide_eq_true_eq]at hc2;have bm:nH.ok n' ae:=bm;have hb:=bm.2;refine⟨⟨I.hj cP,by simp only[uh];omega,by simp only[uh];omega⟩,by simp only[A.den,uh],by simp only;omega,by simp only;omega⟩
   |str _=>simp[mT]at aI
   |rows _ _ _ _ _=>simp[mT]at aI
   |_=>simp[mT]at aI
 |str y=>
  simp only[mT,bj,eO]at az;obtain⟨rfl,rfl,rfl⟩:=az;cases v' with
  |str nH=>
   simp only[mT,bj,eO]at aI;obtain⟨_,rfl,rfl⟩:=aI;have hb:0<=nH.den ae/\nH.den ae<=qu:=bm.2;exact⟨⟨I.hj cP,by rw[uh];exact hb⟩,by simp only[A.den,uh],hb.1,hb.2⟩
  |int bI nH=>
   simp only[mT]at aI;cases hc2:(decide (lo<=nH.lo)&&decide (nH.hi<=hi))<;>simp[hc2]at aI
  |rows _ _ _ _ _=>simp[mT]at aI
  |_=>simp[mT]at aI
 |rows sh off code cap k=>
  simp only[mT,bj,eO]at az;obtain⟨rfl,rfl,rfl⟩:=az;cases v' with
  |rows hk kP code' kK bI=>
   simp only[mT,bj,eO,A.rows.injEq]at aI;obtain⟨_,rfl,rfl⟩:=aI;obtain⟨⟨s1,s2,bn⟩,_,dm⟩:=h0;obtain⟨_,cc,_⟩:=bm;refine⟨⟨⟨s1.mono te,I.hj cP,bn.mono te⟩,by rw[uh];exact cc,by rw[I.cf h2 bn];exact dm⟩,by simp only[A.den,uh],cc.1,cc.2⟩
  |int bI nH=>
   simp only[mT]at aI;cases hc2:(decide (lo<=nH.lo)&&decide (nH.hi<=hi))<;>simp[hc2]at aI
  |str _=>simp[mT]at aI
  |_=>simp[mT]at aI
 |_=>simp[mT]at az
theorem YZ {n nb N:Nat} {cB ae b5:Env} {m0 m':Nat->Nat} {n' nD:Nat} (iD:agree n cB ae) (h2:agree n cB b5) (hm:∀b,b<nb->m' b=m0 b) (te:n<=N):
 ∀{cs lq:List A} {xs:List aW} {i s:Nat} {t t':List A} {l l':List I} {b b':List (Int×Int)},
 (∀v∈cs,A.ok n nb cB v)->LX n' nD ae m' lq xs->ha ints i s cs=some (t,l,b)->ha ints i s lq=some (t',l',b')->rl t t'=true->
 (∀j,j<l'.length->b5 (s+j)=(l'.getD j (.const 0)).den ae)->s+l'.length<=N->LX N nb b5 m0 t xs/\ab b (l'.map (·.den ae))/\l'.length=l.length
 |[],[],[],i,s,t,t',l,l',b,b',h0,hr,az,aI,hf,hv,cP=>by
  simp[ha]at az aI;obtain⟨rfl,rfl,rfl⟩:=az;obtain⟨rfl,rfl,rfl⟩:=aI;exact⟨trivial,trivial,rfl⟩
 |v::r,v'::r',x::xs,i,s,t,t',l,l',b,b',h0,hr,az,aI,hf,hv,cP=>by
  obtain⟨cb,hrel,Hn⟩:=hr;have GX:∀v∈r,A.ok n nb cB v:=λu hu=>h0 u (eI _ hu);unfold ha at az aI;cases l0:EL i ints with
  |none=>
   simp only[l0]at az aI;cases hO:ha ints (i+1) s r with
   |none=>simp[hO]at az
   |some bg=>
    obtain⟨t1,l1,ca⟩:=bg;cases jN:ha ints (i+1) s r' with
    |none=>simp[jN]at aI
    |some b3=>
     obtain⟨t2,l2,cc⟩:=b3;simp only[hO,bj,eO]at az;simp only[jN,bj,eO]at aI;obtain⟨rfl,rfl,rfl⟩:=az;obtain⟨rfl,rfl,rfl⟩:=aI;simp only[rl,bx]at hf;have axi:=A.beq_eq hf.1;subst axi;have qP:=h0 v (by simp);obtain⟨cG,cC,dE⟩:=YZ iD h2 hm te GX Hn hO jN hf.2 hv cP;exact⟨⟨qP.ext h2 te (bW _),by rw[hrel,A.back qP iD h2 hm],cG⟩,cC,dE⟩
  |some q=>
   obtain⟨lo,hi⟩:=q;simp only[l0]at az aI;cases iw:mT lo hi s v with
   |none=>simp[iw]at az
   |some cG=>
    obtain⟨b7,aj,d1⟩:=cG;cases hc2:mT lo hi s v' with
    |none=>simp[hc2]at aI
    |some cC=>
     obtain⟨a2,ah,d2⟩:=cC;simp only[iw]at az;simp only[hc2]at aI;cases hO:ha ints (i+1) (s+1) r with
     |none=>simp[hO]at az
     |some bg=>
      obtain⟨t1,l1,ca⟩:=bg;cases jN:ha ints (i+1) (s+1) r' with
      |none=>simp[jN]at aI
      |some b3=>
       obtain⟨t2,l2,cc⟩:=b3;simp only[hO,bj,eO]at az;simp only[jN,bj,eO]at aI;obtain⟨rfl,rfl,rfl⟩:=az;obtain⟨rfl,rfl,rfl⟩:=aI;simp only[rl,bx]at hf;obtain⟨cG,cC,dE⟩:=YZ iD h2 hm te GX Hn hO jN hf.2 (λj aM=>by
        have:=hv (j+1) (by simpa using aM);rw[show s+1+j=s+(j+1) by omega];simpa using this) (by simp at cP;omega)
       have qP:=hv 0 (by simp);simp only[oX,gD]at qP;obtain⟨c1,bQ,cF,dk⟩:=asy (m0:=m0) (m':=m') iD h2 te (h0 v (by simp)) cb iw hc2 (A.beq_eq hf.1) qP (by simp at cP;omega);exact⟨⟨c1,by rw[hrel,bQ],cG⟩,⟨cF,dk,cC⟩,by simp[dE]⟩
 |[],_::_,_,i,s,t,t',l,l',b,b',h0,hr,az,aI,hf,hv,cP=>by
  simp[ha]at az;obtain⟨rfl,_,_⟩:=az;have:=(JE aI).2;cases t' with
  |nil=>simp at this
  |cons _ _=>simp[rl]at hf
 |_::_,[],_,i,s,t,t',l,l',b,b',h0,hr,az,aI,hf,hv,cP=>by
  simp[ha]at aI;obtain⟨rfl,_,_⟩:=aI;have:=(JE az).2;cases t with
  |nil=>simp at this
  |cons y z=>simp[rl]at hf
 |_::_,_::_,[],i,s,t,t',l,l',b,b',h0,hr,az,aI,hf,hv,cP=>hr.elim
 |[],[],_::_,i,s,t,t',l,l',b,b',h0,hr,az,aI,hf,hv,cP=>hr.elim
end
section
variable {cells:List (Nat×Nat×Int×Int)}
theorem M3:∀{bl:List aJ} {i s:Nat} {t:List aJ} {l:List I} {b:List (Int×Int)},hb cells i s bl=some (t,l,b)->l.length=b.length/\t.length=bl.length
 |[],i,s,t,l,b,h=>by simp[hb]at h;obtain⟨rfl,rfl,rfl⟩:=h;exact⟨rfl,rfl⟩
 |(cs,ty)::r,i,s,t,l,b,h=>by
  unfold hb at h;cases hc:ha (cellsOf i cells) 0 s cs with
  |none=>simp[hc]at h
  |some q=>
   obtain⟨c,l1,ca⟩:=q;simp only[hc]at h;cases hr:hb cells (i+1) (s+l1.length) r with
   |none=>simp[hr]at h
   |some q=>
    obtain⟨t',l',b'⟩:=q;simp only[hr,bj,eO]at h;obtain⟨rfl,rfl,rfl⟩:=h;have h1:=JE hc;have h2:=M3 hr;simp[h1,h2]
theorem aim {l l':List I} {j:Nat} (h:j<l.length) (d:I):(l++l').getD j d=l.getD j d:=by
 simp[U,AA h]
theorem ain {l l':List I} {j:Nat} (d:I):(l++l').getD (l.length+j) d=l'.getD j d:=by
 simp only[U];rw[LF (by omega)];simp
theorem aiW {n nb N:Nat} {cB ae b5:Env} {m0 m':Nat->Nat} {n' nD:Nat} (iD:agree n cB ae) (h2:agree n cB b5) (hm:∀b,b<nb->m' b=m0 b) (te:n<=N):
 ∀{bl bt:List aJ} {i s:Nat} {t t':List aJ} {l l':List I} {b b':List (Int×Int)},
 dj n nb cB bl->dj n' nD ae bt->hb cells i s bl=some (t,l,b)->hb cells i s bt=some (t',l',b')->p1 t t'=true->
 (∀j,j<l'.length->b5 (s+j)=(l'.getD j (.const 0)).den ae)->s+l'.length<=N->
 dj N nb b5 t/\ab b (l'.map (·.den ae))/\l'.length=l.length/\∀(j:Nat) (c:List A) (ty:br×Bool),t[j]?=some (c,ty)->∃e3:List A,bt[j]?=some (e3,ty)/\c.map (A.den b5 m0)=e3.map (A.den ae m')
 |[],[],i,s,t,t',l,l',b,b',h0,hr,az,aI,hf,hv,cP=>by
  simp[hb]at az aI;obtain⟨rfl,rfl,rfl⟩:=az;obtain⟨rfl,rfl,rfl⟩:=aI;exact⟨λp hp=>by simp at hp,trivial,rfl,λj c ty h=>by simp at h⟩
 |(cs,ty)::r,(lq,aGi)::r',i,s,t,t',l,l',b,b',h0,hr,az,aI,hf,hv,cP=>by
  unfold hb at az aI;cases iw:ha (cellsOf i cells) 0 s cs with
  |none=>simp[iw]at az
  |some bg=>
   obtain⟨c1,l1,ca⟩:=bg;cases hc2:ha (cellsOf i cells) 0 s lq with
   |none=>simp[hc2]at aI
   |some b3=>
    obtain⟨bQ,l2,cc⟩:=b3;simp only[iw]at az;simp only[hc2]at aI;cases hO:hb cells (i+1) (s+l1.length) r with
    |none=>simp[hO]at az
    |some bg=>
     obtain⟨t1,akB,I2⟩:=bg;cases jN:hb cells (i+1) (s+l2.length) r' with
     |none=>simp[jN]at aI
     |some b3=>
      obtain⟨t2,akC,zo⟩:=b3;simp only[hO,bj,eO]at az;simp only[jN,bj,eO]at aI;obtain⟨rfl,rfl,rfl⟩:=az;obtain⟨rfl,rfl,rfl⟩:=aI;simp only[p1,bx]at hf;have NJ:ty=aGi:=Pg (b1 hf.1.1.2) (by simpa using hf.1.2);subst NJ;have YR:s+l2.length+akC.length<=N:=by simp at cP;omega
      obtain⟨cG,cC,dE⟩:=YZ iD h2 hm te (λv hv=>h0 (cs,ty) (by simp) v hv) (aeY (m:=m') λv hv=>hr (lq,ty) (by simp) v hv) iw hc2 hf.1.1.1 (λj aM=>by
       have:=hv j (by simp;omega)
       rwa [aim aM]at this) (by omega)
      rw[<-dE]at hO;obtain⟨bg,b3,cy,et⟩:=aiW iD h2 hm te (λp hp=>h0 p (eI _ hp)) (λp hp=>hr p (eI _ hp)) hO jN hf.2 (λj aM=>by
       have:=hv (l2.length+j) (by simp;omega);rw[ain]at this;rw[<-this];congr 1;omega) YR
      have hp:=aeZ cG;refine⟨λp ZF a aiU=>?_,by rw[jE];exact m1 cC b3,by simp[dE,cy],λj c aGj aM=>?_⟩
      ·rcases List.mem_cons.1 ZF with rfl|ZF
       ·exact hp.1 a aiU
       ·exact bg p ZF a aiU
      ·cases j with
       |zero=>simp at aM;obtain⟨rfl,rfl⟩:=aM;exact⟨lq,rfl,hp.2.symm⟩
       |succ j=>simp at aM;obtain⟨e3,h1,h2⟩:=et j c aGj aM;exact⟨e3,by simpa using h1,h2⟩
 |[],_::_,i,s,t,t',l,l',b,b',h0,hr,az,aI,hf,hv,cP=>by
  simp[hb]at az;obtain⟨rfl,_,_⟩:=az;have:=(M3 aI).2;cases t' with
  |nil=>simp at this
  |cons _ _=>simp[p1]at hf
 |_::_,[],i,s,t,t',l,l',b,b',h0,hr,az,aI,hf,hv,cP=>by
  simp[hb]at aI;obtain⟨rfl,_,_⟩:=aI;have:=(M3 az).2;cases t with
  |nil=>simp at this
  |cons y z=>simp[p1]at hf
def K2 (p q:List A):Prop:=∃sh off code code' cap k,p=[.rows sh off code cap k]/\q=[.rows sh off code' cap k]
theorem K2.refl {p:List A} (h:cl p=false):K2 p p:=by
 unfold cl at h;split at h
 ·exact⟨_,_,_,_,_,_,rfl,rfl⟩
 ·cases h
theorem asx {lo hi:Int} {s:Nat} {v a:A} {x:I} {hA:Int×Int} (h:mT lo hi s v=some (a,x,hA)):cl [a]=cl [v]/\(cl [a]=false->K2 [a] [v]):=by
 unfold mT at h;split at h
 ·rename_i k x;cases hc:(decide (lo<=x.lo)&&decide (x.hi<=hi))with
  |false=>simp[hc]at h
  |true=>
   simp only[hc,cond_true,bj,eO]at h;obtain⟨rfl,_,_⟩:=h;exact⟨rfl,λh=>by cases h⟩
 ·simp only[bj,eO]at h;obtain⟨rfl,_,_⟩:=h;exact⟨rfl,λh=>by cases h⟩
 ·simp only[bj,eO]at h;obtain⟨rfl,_,_⟩:=h;exact⟨rfl,λ_=>⟨_,_,_,_,_,_,rfl,rfl⟩⟩
 ·cases h
theorem aae (a b:A) (l:List A):cl (a::b::l)=true:=by cases a<;>rfl
theorem avo {ints:List (Nat×Int×Int)} {i s:Nat} {cs:List A} {l:List I} {b:List (Int×Int)} {t:List A} (h:ha ints i s cs=some (t,l,b)):(cl t=cl cs)/\(cl t=false->K2 t cs):=by
 have hl:=(JE h).2
 match cs,t,hl with
 |[],[],_=>exact⟨rfl,λh=>by cases h⟩
 |a::b::r,dT::b'::r',_=>exact⟨by rw[aae,aae],λh=>by rw[aae]at h;cases h⟩
 |[v],[a],_=>
  unfold ha at h;cases hf:EL i ints with
  |none=>
   simp[hf,ha]at h;obtain⟨rfl,_,_⟩:=h;exact⟨rfl,λh=>K2.refl h⟩
  |some q=>
   obtain⟨lo,hi⟩:=q;simp only[hf]at h;cases hc:mT lo hi s v with
   |none=>simp[hc]at h
   |some p=>
    obtain⟨dT,x,hA⟩:=p;simp[hc,ha]at h;obtain⟨rfl,_,_⟩:=h;exact asx hc
theorem Y2:∀{bl:List aJ} {i s:Nat} {t:List aJ} {l:List I} {b:List (Int×Int)},hb cells i s bl=some (t,l,b)->∀(k:Nat) (p:aJ),t[k]?=some p->∃q:aJ,bl[k]?=some q/\cl p.1=cl q.1/\p.2=q.2/\(cl p.1=false->K2 p.1 q.1)
 |[],i,s,t,l,b,h=>by simp[hb]at h;obtain⟨rfl,rfl,rfl⟩:=h;intro k p hp;simp at hp
 |(cs,ty)::r,i,s,t,l,b,h=>by
  unfold hb at h;cases iw:ha (cellsOf i cells) 0 s cs with
  |none=>simp[iw]at h
  |some bg=>
   obtain⟨c1,l1,ca⟩:=bg;simp only[iw]at h;cases hO:hb cells (i+1) (s+l1.length) r with
   |none=>simp[hO]at h
   |some bg=>
    obtain⟨t1,akB,I2⟩:=bg;simp only[hO,bj,eO]at h;obtain⟨rfl,rfl,rfl⟩:=h;intro k p hp;cases k with
    |zero=>
     simp only[xY,bj]at hp;subst hp;have:=avo iw;exact⟨(cs,ty),rfl,this.1,rfl,this.2⟩
    |succ k=>obtain⟨q,h1,h2⟩:=Y2 hO k p (by simpa using hp);exact⟨q,by simpa using h1,h2⟩
theorem ahR:∀{a b:List aJ},p1 a b=true->∀(k:Nat) (p:aJ),a[k]?=some p->b[k]?=some p
 |[],[],_,k,p,h=>by simp at h
 |(c,t)::r,(e3,t')::s,hf,k,p,h=>by
  simp only[p1,bx]at hf;have NJ:t=t':=Pg (b1 hf.1.1.2) (by simpa using hf.1.2);have hc:=Gx hf.1.1.1;subst NJ;subst hc;cases k with
  |zero=>simpa using h
  |succ k=>have:=ahR hf.2 k p (by simpa using h);simpa using this
 |[],_::_,h,_,_,_=>by simp[p1]at h
 |_::_,[],h,_,_,_=>by simp[p1]at h
end
end Go.b9
namespace Go.b9
variable {P:b4} {rd:Option Nat}
def wm (rd:Option Nat):Fence:={IJ with round:=rd}
def uG (Q:Exit->Act->aG->Prop):Exit->Act->aG->Prop
 | .normal,a,w=>Q .normal a w
 |_,_,_=>False
theorem uG.imp {Q:Exit->Act->aG->Prop}:∀(e:Exit) (a:Act) (w:aG),calm (uG Q) e a w->Q e a w:=λe a w h=>by
 cases e<;>first|exact h|exact(h:False).elim
theorem uG.let {Q:Exit->Act->aG->Prop}:¬LetsOut (uG Q):=λ⟨a,w,h⟩=>h
theorem uG.ayJ {Q:Exit->Act->aG->Prop}:¬LetsOut (calm (uG Q)):=λ⟨a,w,h⟩=>h
def Ab (o:Oper):Bool:=match o.op with| .defer _=>false|_=>true
def pr:Code->Bool
 | .region _ ops _=>ops.toList.all Ab
 | .seq a b=>pr a&&pr b
 | .cond _ a b=>pr a&&pr b
 | .block _ c=>pr c
 | .loop c=>pr c
 |_=>true
theorem azq {o:Oper} (h:Ab o=true):∀c,o.op≠ .defer c:=λc e=>by simp[Ab,e]at h
theorem asi {n:Nat} {f:dL} {args:Array aW} {w:aG} {R:Ending->aG->Prop} (h:nJ P f args w R):CallsIn (wm rd) n P f args w R:=callsIn_wide.2 h
theorem aEu {n:Nat} {row:String} {args:Array aW} {w:aG} {R:aW->aG->Prop} (h:Rows P row args w R):RowsIn (wm rd) n P row args w R:=
 λc cs _=>let⟨v,w',r,s⟩:=h c cs;⟨v,w',r,stepsIn_wide.2 s⟩
theorem al2 {o:Oper} {a:Act} {w:aG} {K:Act->aG->Prop} {Q:Exit->Act->aG->Prop} (hd:rd=none∨Ab o=true) (h:o.wp P a w K Q):o.wpIn (wm rd) 0 P a w K Q:=by
 refine⟨λ_ _=>trivial,?_⟩;have e:o.semAt (wm rd).round a.eval=execOp a.eval o:=by
  rcases hd with h|h
  ·subst h;rfl
  ·exact o.semAt_eq _ _ (azq h)
 rw[e];unfold o4 at h;generalize (execOp a.eval o).run P w=r at*;cases r with
 |ok n w'=>
  cases n<;>simp only[Oper.upon,aJT]at h⊢
  case value u=>exact h
  case skip=>exact h
  case defer d=>exact h
  case enter f args=>exact⟨λhs=>by simp[wm,IJ]at hs,asi h⟩
  case row row args=>exact⟨λhs=>by simp[wm,IJ]at hs,aEu h⟩
 |halt x w'=>
  cases x<;>simp only[Oper.upon,aJT]at h⊢
  case panic u=>exact h
variable {ops:Array Oper} {Q:Exit->Act->aG->Prop}
theorem adI (dM:¬LetsOut Q):∀{l:List Oper} {a:Act} {w:aG},(rd=none∨l.all Ab=true)->wpList P ops Q l a w->wpListIn (wm rd) 0 P ops Q l a w
 |[],_,_,_,h=>h
 |o::r,a,w,hd,h=>by
  have h1:rd=none∨Ab o=true:=hd.imp id λh=>by simp only[apw,bx]at h;exact h.1
  have h2:rd=none∨r.all Ab=true:=hd.imp id λh=>by simp only[apw,bx]at h;exact h.2
  unfold wpList at h;unfold wpListIn;split
  ·rename_i hw;rw[if_pos hw]at h;rcases h with h|h
   ·exact aJU (λa w h=>adI dM h2 h) (al2 h1 h)
   ·exact absurd h.2 dM
  ·rename_i hw;rw[if_neg hw]at h;exact⟨λ_ _=>trivial,adI dM h2 h⟩
theorem Ue {md:Region.Mode} (hd:rd=none∨ops.toList.all Ab=true) (dM:¬LetsOut Q):∀{f:Nat} {listed:Array Bool} {a:Act} {w:aG},wpAny P md ops Q f listed a w->wpAnyIn (wm rd) 0 P md ops Q f listed a w
 |0,_,_,_,h=>h
 |f+1,listed,a,w,h=>by
  refine⟨h.1,λi hi=>?_⟩;have h2:=h.2 i hi;unfold wpOp at h2;unfold wpOpIn;cases aA:ops[i]? with
  |none=>simp only[aA]at h2⊢;exact Ue hd dM h2
  |some o=>
   simp only[aA]at h2⊢;have h1:rd=none∨Ab o=true:=hd.imp id λh=>List.all_eq_true.1 h o (by simpa using Array.mem_of_getElem? aA);split
   ·rename_i hw;rw[if_pos hw]at h2;rcases h2 with h2|h2
    ·exact aJU (λa w h=>Ue hd dM h) (al2 h1 h2)
    ·exact absurd h2.2 dM
   ·rename_i hw;rw[if_neg hw]at h2;exact⟨λ_ _=>trivial,Ue hd dM h2⟩
theorem aEj {id:Nat} {a:Act} {w:aG} (hd:rd=none∨ops.toList.all Ab=true) (h:wpList P ops (uG Q) ops.toList a w):(aJV id ops false).wpIn (wm rd) 0 P Q a w:=
 wpIn_mono (wpIn_region_list (adI uG.let hd h)) λe a w h=>uG.imp e a w (by cases e<;>first|exact h|exact(h:False).elim)
theorem amt {id:Nat} {a:Act} {w:aG} (hm:P.follows .mixedOrders=true) (hd:rd=none∨ops.toList.all Ab=true)
 (h:wpAny P .any ops (calm (uG Q)) ops.size (Ci ops.size false) a {w with drawn:=w.drawn+1}):(aJV id ops true).wpIn (wm rd) 0 P Q a w:=
 wpIn_mono (wpIn_region_any hm (Ue hd uG.ayJ h)) uG.imp
end Go.b9
namespace Go.b9
open M
section
variable {S:Nat->List Int->List Int->Prop} {L:V->Env->Prop} {w0:eL} {P:b4} {gl:fP} {cal:gL} {rd:Option Nat}
def IP (S:Nat->List Int->List Int->Prop) (L:V->Env->Prop) (w0:eL) (k:x0) (n nb:Nat) (ρ:Env) (m:Nat->Nat) (G:fe) (Q:Exit->Act->aG->Prop):Prop:=
 ∀x n' ae m' cK bt eV dT w',e6 n nb ρ m n' (pE bt) ae m'->gr n G eV->R w0 n' ae m' cK bt dT w'->(k x n' cK bt).holds S L eV ae->Q x.to dT w'
theorem IP.later {k:x0} {n nb a6 Fj:Nat} {ρ aN:Env} {m ir:Nat->Nat} {G G1:fe} {Q:Exit->Act->aG->Prop} (h:IP S L w0 k n nb ρ m G Q) (hl:e6 n nb ρ m a6 Fj aN ir) (aO:gr n G G1):IP S L w0 k a6 Fj aN ir G1 Q:=
 λx n' ae m' cK bt eV dT w' h1 h2 h3 h4=>h x n' ae m' cK bt eV dT w' (hl.trans h1) (aO.trans h2 hl.hn) h3 h4
def VL (rd:Option Nat) (S:Nat->List Int->List Int->Prop) (L:V->Env->Prop) (w0:eL) (P:b4) (c:Code) (e:Nat->List V->List aJ->x0->T):Prop:=(rd=none∨pr c=true)->
 ∀n tm bl k G ρ m a w Q,R w0 n ρ m tm bl a w->(e n tm bl k).holds S L G ρ->IP S L w0 k n bl.length ρ m G Q->c.wpIn (wm rd) 0 P Q a w
theorem amC {c:Code} {e:Nat->List V->List aJ->x0->T} (hd:rd=none∨pr c=true) (he:VL rd S L w0 P c e) {Q:Exit->Act->aG->Prop}:∀(r:Nat) {n:Nat} {ρ:Env} {m:Nat->Nat} {tm:List V} {bl:List aJ} {a:Act} {w:aG} {G:fe} {k:x0},
 R w0 n ρ m tm bl a w->(acA e r n tm bl k).holds S L G ρ->IP S L w0 k n bl.length ρ m G Q->Code.roundsIn (wm rd) 0 P c Q r a w
 |0,_,_,_,_,_,_,_,_,_,_,ag,_=>ag.elim
 |r+1,n,ρ,m,tm,bl,a,w,G,k,h,ag,af=>by
  rw[roundsIn_succ];refine he hd n tm bl _ G ρ m a w _ h ag λx n' ae m' cK bt eV dT w' h1 h2 h3 h4=>?_;cases x with
  |normal=>exact amC hd he r h3 h4 (af.later h1 h2)
  |exit id=>exact af (.exit id) n' ae m' cK bt eV dT w' h1 h2 h3 h4
  |ret=>exact af .ret n' ae m' cK bt eV dT w' h1 h2 h3 h4
theorem aqK {n nb:Nat} {ρ:Env} {m:Nat->Nat} {tm:List V} {xs:Array aW} (h:eW n nb ρ m tm xs):F9 n nb ρ m tm xs.toList:=ae1 (by simpa using h)
theorem ajc {li:hN} {n:Nat} {cB ae:Env} {m0 m':Nat->Nat} {tm cK oQ DL:List V} {bl bt gv so:List aJ} {l1 l2 v1 v2 ext:List I} {ca cc I2 zo:List (Int×Int)} {n':Nat} {a:Act} {w:aG}
 (hlen:bl.length<=bt.length)
 (ha:agree n cB ae) (hm:∀b,b<bl.length->m' b=m0 b) (aD:∀v∈tm,V.ok n bl.length cB v) (rF:dj n bl.length cB bl)
 (h:R w0 n' ae m' cK bt a w) (az:hs li.hT li.ints 0 (n+1) tm=some (oQ,l1,ca)) (aI:hb li.cells 0 (n+1+l1.length) bl=some (gv,l2,cc))
 (cn:hs li.hT li.ints 0 (n+1) cK=some (DL,v1,I2)) (iC:hb li.cells 0 (n+1+v1.length) (bt.take bl.length)=some (so,v2,zo))
 (f1:p2 oQ DL=true) (f2:p1 gv so=true):
 v1.length+v2.length=l1.length+l2.length/\ab (ca++cc) ((v1++v2).map (·.den ae))/\R w0 (n+1+l1.length+l2.length+ext.length) (bR cB (n+1) ((v1++v2++ext).map (·.den ae))) m0 oQ gv a w/\gv.length=bl.length/\∀(i:Nat) (p:aJ),gv[i]?=some p->i<bl.length/\∃dH:aJ,bt[i]?=some dH/\bU (bR cB (n+1) ((v1++v2++ext).map (·.den ae))) p.1=bU ae dH.1:=by
 have Y0:agree n cB (bR cB (n+1) ((v1++v2++ext).map (·.den ae))):=(agree.bR _ (n+1) cB).mono (by omega);have JO:∀j,j<(v1++v2).length->bR cB (n+1) ((v1++v2++ext).map (·.den ae)) (n+1+j)=((v1++v2).getD j (.const 0)).den ae:=λj aM=>by
  rw[Le _ _ _ j (by simp at aM⊢;omega)];have yq:j<(v1++v2++ext).length:=by simp at aM⊢;omega
  have e:(v1++v2++ext)[j]=(v1++v2)[j]:=List.getElem_append_left aM;simp only[U,se,pF aM,pF yq,Az,D1,e]
 have aNc:v1.length+v2.length=(v1++v2).length:=by simp
 obtain⟨cG,cC,dE⟩:=NH (N:=n+1+v1.length+v2.length+ext.length) ha Y0 hm (by omega) aD (aqK h.t) az cn f1 (λj aM=>by
  rw[JO j (by simp;omega),aim aM]) (by omega)
 rw[<-dE]at aI;have avx:dj n' bt.length ae (bt.take bl.length):=λp hp=>h.b p (nd hp);obtain⟨bg,b3,cy,et⟩:=aiW (N:=n+1+v1.length+v2.length+ext.length) ha Y0 hm (by omega) rF avx aI iC f2 (λj aM=>by
  rw[show n+1+v1.length+j=n+1+(v1.length+j) by omega,JO (v1.length+j) (by simp;omega),ain]) (by omega)
 have aZ:gv.length=bl.length:=(M3 aI).2;refine⟨by omega,by rw[jE];exact m1 cC b3,?_⟩;rw[<-dE,<-cy];have Be:∀(i:Nat) (p:aJ),gv[i]?=some p->i<bl.length/\∃dH:aJ,bt[i]?=some dH/\cl p.1=cl dH.1/\p.2=dH.2/\(cl p.1=false->∃sh off code code' cap k,p.1=[.rows sh off code cap k]/\dH.1=[.rows sh off code' cap k]/\off.bN n/\cap.bN n):=λi p hi=>by
  have lr:i<bl.length:=by rw[<-aZ];exact(List.getElem?_eq_some_iff.1 hi).1
  obtain⟨dH,h1,h2,GY,h3⟩:=Y2 iC i p (ahR f2 i p hi);rw[tI,if_pos lr]at h1;obtain⟨p0,g1,_,_,g3⟩:=Y2 aI i p hi;refine⟨lr,dH,h1,h2,GY,λaA=>?_⟩;obtain⟨sh,off,code,code',cap,k,s1,s2⟩:=h3 aA;obtain⟨hk,kP,c1,bQ,kK,bI,bn,cz⟩:=g3 aA;rw[s1]at bn;cases bn;have cb:A.ok n bl.length cB (.rows sh off bQ cap k):=rF _ (fC g1) _ (by rw[cz];simp);exact⟨sh,off,code,code',cap,k,s1,s2,cb.1.1,cb.1.2.2⟩
 have Y1:agree n ae (bR cB (n+1) ((v1++v2++ext).map (·.den ae))):=ha.sym.trans Y0 (bW _);have rG:∀(p dH:aJ),cl p.1=cl dH.1->(cl p.1=false->∃sh off code code' cap k,p.1=[.rows sh off code cap k]/\dH.1=[.rows sh off code' cap k]/\off.bN n/\cap.bN n)->bU (bR cB (n+1) ((v1++v2++ext).map (·.den ae))) p.1=bU ae dH.1:=λp dH h1 h2=>by
  cases aA:cl p.1 with
  |true=>rw[nA aA,nA (h1▸aA)]
  |false=>
   obtain⟨sh,off,code,code',cap,k,s1,s2,bn,cz⟩:=h2 aA;rw[s1,s2];simp only[bU];rw[I.cf Y1 cz]
 refine⟨?_,aZ,λi p hi=>by
  obtain⟨g1,dH,g2,g3,_,g4⟩:=Be i p hi;exact⟨g1,dH,g2,rG p dH g3 g4⟩⟩
 refine⟨?_,h.d,by rw[aZ];exact bg,⟨h.bK.ext,h.bK.j7,h.bK.mw,h.bK.lH,h.bK.ib,h.bK.jU,λi cs t hi aA=>?_,λi sh off code cap kind t hi=>?_,λi j p q hi aM he=>?_⟩⟩
 ·rw[aZ];have:=PV cG;simpa using this
 ·obtain⟨e3,h1,h2⟩:=et i cs t hi;obtain⟨lr,dH,k1,k2,_⟩:=Be i _ hi;rw[tI,if_pos lr,k1]at h1;have h1:=jC h1;subst h1;obtain⟨g1,nZ,r,hr,g2⟩:=h.bK.gZ i e3 t k1 (k2▸aA);rw[<-hm i lr];exact⟨g1,nZ,r,hr,by rw[h2];exact g2⟩
 ·obtain⟨lr,dH,k1,_,k2,k3⟩:=Be i _ hi;obtain⟨hk,kP,c1,bQ,kK,bI,s1,s2,bn,cz⟩:=k3 rfl;cases s1;obtain⟨C,t'⟩:=dH;simp only at s2 k2;subst s2;subst k2;obtain⟨e3,h1,h2⟩:=et i _ t hi;rw[tI,if_pos lr,k1]at h1;cases h1;simp only[du,gQ,A.den,qn,aO0,and_true,true_and]at h2;rw[<-hm i lr];have hR:=h.bK.rws i sh off bQ cap kind t k1;unfold wo at hR⊢;rw[I.cf Y1 bn,I.cf Y1 cz,h2];exact hR
 ·obtain⟨lr,dH,k1,k2,_,k3⟩:=Be i p hi;obtain⟨Hf,fA,l1,l2,_,oG⟩:=Be j q aM;rw[rG p dH k2 k3,rG q fA l2 oG];rw[<-hm i lr,<-hm j Hf]at he;exact h.bK.inj i j dH fA k1 l1 he
theorem eW.set {n nb:Nat} {ρ:Env} {m:Nat->Nat} {tm:List V} {xs:Array aW} {s:Nat} {v:V} (h:eW n nb ρ m tm xs) (hv:v.ok n nb ρ) (hr:∀x,xs[s]?=some x->v.rel ρ m x):eW n nb ρ m (xF tm s v) xs:=by
 rw[acZ];refine⟨by simp[h.1],λi u hu=>?_⟩;rw[wh]at hu;split at hu
 ·rename_i awU;subst awU;split at hu
  ·rename_i hlt;cases hu;rw[h.1]at hlt;exact⟨hv,_,Pn hlt,hr _ (Pn hlt)⟩
  ·cases hu
 ·exact h.2 i u hu
def IN (tmps:Array aW):List Nat->List Int->Prop
 |[],[]=>True
 |s::r,z::zs=>(0<=z/\z<=1)/\(∀x,tmps[s]?=some x->x= .bool (decide (z=1)))/\IN tmps r zs
 |_,_=>False
def F6 (w0:eL) (w:aG) (tmps:Array aW) (F:Nat->Prop):List (Nat×List aQ×br)->List Int->Prop
 |[],[]=>True
 |(s,sh,e)::r,code::len::cap::zs=>∃g:Nat,(∀x,tmps[s]?=some x->x=if cap<0 then .slice none 0 0 else .slice (some ⟨g,0,none⟩) len.toNat cap.toNat)/\Ii 0 0 len cap/\(0<=code/\code<=b6)/\(cap<0->ao code=[])/\
    (0<=cap->∃cells:Array aW,w.heap[g]?=some (.cells cells e (0,0))/\o8 cells 0 sh (ao code)/\cells.size=cap.toNat*sh.length/\w0.b.heap.size<=g/\(w0.ex g∨w0.r.heap.size<=g))/\
    (0<=cap->F g)/\F6 w0 w tmps (λns=>F ns/\(0<=cap->ns≠g)) r zs
 |_,_=>False
theorem Xm {nb:Nat} {tm:List V} {m:Nat->Nat} {tmps:Array aW}:∀{l:List Nat} {n:Nat} {ρ:Env},eW n nb ρ m tm tmps->aC S L (Mf tm l) n ρ λae n' ls=>(∀x∈ls,I.bN n' x)/\ls.length=l.length/\IN tmps l (ls.map (·.den ae))
 |[],n,ρ,aD=>aC.pure ⟨λ_ h=>by simp at h,rfl,trivial⟩
 |s::r,n,ρ,aD=>by
  unfold Mf;split
  ·rename_i e hs;obtain⟨h1,x,h2,h3⟩:=aD.2 s _ hs;have h3:x= .bool (e.den ρ):=h3;have key:aC S L (match e with| .lit v=>pure (I.const (cond v 1 0))|e=>Hv e) n ρ λae n' l=>l.bN n'/\(0<=l.den ae/\l.den ae<=1)/\e.den ρ=decide (l.den ae=1):=by
    cases e with
    |lit v=>cases v<;>exact aC.pure ⟨I.dF _ _,by simp only[I.bq];decide,by simp only[I.bq,bH.den];rfl⟩
    |_=>exact RL
   refine key.bind λaN a6 l hn ha ⟨g1,g2,g3⟩=>(Xm (l:=r) (aD.ext ha hn (bW _) (λ_ _=>rfl))).bind λb5 gd ls gm eb ⟨k1,k2,k3⟩=>aC.pure ⟨λy hy=>?_,by simp[k2],?_⟩
   ·rcases List.mem_cons.1 hy with rfl|hy
    ·exact g1.mono gm
    ·exact k1 y hy
   ·have az:=I.cf eb g1;simp only[du,IN,az];refine⟨g2,λy hy=>?_,k3⟩;rw[h2]at hy;cases hy;rw[h3,g3]
  ·exact aC.fail
theorem MI {nb:Nat} {m:Nat->Nat} {tmps:Array aW}:∀{l:List (Nat×Int×Int)} {tm:List V} {n:Nat} {ρ:Env},eW n nb ρ m tm tmps->aC S L (GS l tm) n ρ λae n' cK=>eW n' nb ae m cK tmps
 |[],tm,n,ρ,aD=>aC.pure aD
 |(s,lo,hi)::r,tm,n,ρ,aD=>by
  unfold GS;split
  ·rename_i k x hs;cases hc:(decide (lo<=x.lo)&&decide (x.hi<=hi))with
   |true=>simp only[cond_true];exact MI aD
   |false=>
    simp only[cond_false];refine jS λaf=>?_;simp only[du,gQ,ay,I.bq]at af;obtain⟨h1,y,h2,h3⟩:=aD.2 s _ hs;have h1:x.ok n ρ:=h1;exact MI (aD.set (v:= .w (.one (.int k ⟨x.l,lo,hi⟩))) ⟨h1.1,af.1,af.2⟩ λz hz=>by
     rw[h2]at hz;cases hz;exact h3)
  ·exact MI aD
theorem PW {n lo:Nat} {ρ:Env} {m:Nat->Nat} {tm:List V} {bl:List aJ} {a:Act} {w:aG} (h:R w0 n ρ m tm bl a w):∀{l:List (Nat×List aQ×br)} {used:List Nat} {ls:List I} {u:List Nat},AT lo l tm bl used=some (ls,u)->
 (∀x∈ls,I.bN n x)/\ls.length=(Gm l).length/\(∀b∈used,b∈u)/\(∀b∈u,b∈used∨lo<=b)/\∀F:Nat->Prop,(∀(b:Nat) (p:aJ),b∈u->b∉used->bl[b]?=some p->bU ρ p.1=2->cl p.1=false->F (m b))->F6 w0 w a.tmps F l (ls.map (·.den ρ))
 |[],used,ls,u,he=>by
  simp only[AT,bj,eO]at he;obtain⟨rfl,rfl⟩:=he;exact⟨λ_ h=>by simp at h,rfl,λ_ h=>h,λ_ h=> .inl h,λ_ _=>trivial⟩
 |(s,sh,e)::r,used,ls,u,he=>by
  unfold AT at he;split at he
  ·rename_i hs;split at he
   ·rename_i l1 oR hr;simp only[bj,eO]at he;obtain⟨rfl,rfl⟩:=he;obtain⟨g1,g2,g3,g4,g5⟩:=PW h hr;refine⟨λx hx=>?_,by simp[Gm]at g2⊢;omega,g3,g4,λF hF=>⟨0,λx hx=>?_,?_,?_,?_,?_,?_,?_⟩⟩
    ·simp only[oW]at hx;rcases hx with rfl|rfl|rfl|hx
     ·exact I.dF _ _
     ·exact I.dF _ _
     ·exact I.dF _ _
     ·exact g1 x hx
    ·obtain⟨_,y,h2,h3⟩:=h.t.2 s _ hs;rw[h2]at hx;cases hx;have rB:(I.const (-1)).den ρ<0:=by rw[I.bq];decide
     simp only[rB,if_true];exact h3
    ·simp only[I.bq];exact⟨⟨by omega,by omega,by omega,by omega⟩,⟨by omega,by omega⟩,λ_=>rfl,λh=>by omega⟩
    ·simp only[I.bq];exact⟨di _,D2 (kc []) (uP (l:=[]) (by simp) (by simp))⟩
    ·intro _;simp only[I.bq];exact oa
    ·simp only[I.bq];intro h;omega
    ·simp only[I.bq];intro h;omega
    ·refine g5 _ λb p hb hu aZ af aA=>⟨hF b p hb hu aZ af aA,?_⟩;simp only[I.bq];intro h;omega
   ·cases he
  ·rename_i b bG o ro len cap hs;split at he
   ·rename_i hk off code fO kind t aZ;cases hc:(tB sh hk&&aP kind 2&&I.beq o (.const 0)&&I.beq off (.const 0)&&I.beq ro (.const 0)&&I.beq cap fO&&aP t.1 e&&aP bG sh.length&&cO lo b&& !(used.any (aP b)))with
    |false=>rw[hc]at he;cases he
    |true=>
     rw[hc]at he;simp only[cond_true]at he;split at he
     ·rename_i l1 oR hr;simp only[bj,eO]at he;obtain⟨rfl,rfl⟩:=he;simp only[bx]at hc;obtain⟨⟨⟨⟨⟨⟨⟨⟨⟨c1,bQ⟩,cF⟩,dk⟩,fN⟩,hQ⟩,nT⟩,lX⟩,j5⟩,pQ⟩:=hc;have c1:=FJ c1;have bQ:=b1 bQ;have cF:=I.beq_eq cF;have dk:=I.beq_eq dk;have fN:=I.beq_eq fN;have hQ:=I.beq_eq hQ
      have nT:=b1 nT;have lX:=b1 lX;have j5:=gU j5
      have awq:b∉used:=λhb=>by
       have:used.any (aP b)=true:=List.any_eq_true.2 ⟨b,hb,IC b⟩;rw[this]at pQ;cases pQ
      subst c1;subst bQ;subst cF;subst dk;subst fN;subst hQ;subst nT;subst lX;obtain⟨g1,g2,g3,g4,g5⟩:=PW h hr;obtain⟨cb,y,h2,h3⟩:=h.t.2 s _ hs;have cb:(A.sl b sh.length (.const 0) (.const 0) len cap).ok n bl.length ρ:=cb;obtain⟨aj,⟨ah,au,de,iK⟩,jz⟩:=cb;simp only[I.bq]at jz;have hD:(A.rows sh (.const 0) code cap 2).ok n bl.length ρ:=h.b _ (fC aZ) _ (by simp);obtain⟨⟨r1,r2,ij⟩,aR,aE⟩:=hD;have pk:=h.bK.rws b sh (.const 0) code cap 2 t aZ (by decide);refine⟨λx hx=>?_,by simp[Gm]at g2⊢;omega,λb' oy=>g3 b' (eI _ oy),λb' oy=>?_,λF hF=>⟨m b,λx hx=>?_,jz,aR,pk.1,λh0=>?_,λh0=>?_,?_⟩⟩
      ·simp only[oW]at hx;rcases hx with rfl|rfl|rfl|hx
       ·exact r2
       ·exact de
       ·exact iK
       ·exact g1 x hx
      ·rcases g4 b' oy with h5|h5
       ·rcases List.mem_cons.1 h5 with rfl|h5
        ·exact .inr j5
        ·exact .inl h5
       ·exact .inr h5
      ·have ZY:y=x:=jC (h2.symm.trans hx);subst ZY;have h3:y=(A.sl b sh.length (.const 0) (.const 0) len cap).den ρ m:=h3;rw[h3];simp only[A.den,I.bq];split<;>simp
      ·obtain⟨_,cells,ma,fz,k1,⟨k2,k3⟩,k4⟩:=pk.2 h0;obtain⟨u6,tl,zX,R2,ayk,ayl⟩:=k4 (by decide);subst u6;have zX:=zX.two;subst zX;rw[I.bq]at k3;exact⟨cells,k1,k3,R2,ayk,ayl⟩
      ·exact hF b _ (g3 b (by simp)) awq aZ (w2 (by decide) h0) rfl
      ·refine g5 _ λb' p oy hu ai0 af aA=>⟨hF b' p oy (λh=>hu (eI _ h)) ai0 af aA,λh0=>?_⟩;have pg:bU ρ [A.rows sh (.const 0) code cap 2]=2:=w2 (by decide) h0;exact h.bK.ne ai0 aZ (by rw[af];exact bW 2) (by simp only[pg];decide) λe=>hu (by simp[e])
     ·cases he
   ·cases he
  ·cases he
theorem S5 {c:List A} (h:cl c=false):∃sh off code cap k,c=[.rows sh off code cap k]:=by
 unfold cl at h;split at h
 ·exact⟨_,_,_,_,_,rfl⟩
 ·cases h
theorem aaK {n:Nat} {ρ:Env} {m:Nat->Nat} {tm:List V} {a:Act} {w:aG}:∀{us:List Nat} {bl:List aJ},R w0 n ρ m tm bl a w->R w0 n ρ m tm (qb us bl) a w/\(qb us bl).length=bl.length/\∀(i:Nat) (p:aJ),(qb us bl)[i]?=some p->(bl[i]?=some p/\(i∈us->cl p.1=true∨bU ρ p.1=0))∨bU ρ p.1=0
 |[],bl,h=>⟨h,rfl,λi p hp=> .inl ⟨hp,λh=>by simp at h⟩⟩
 |b::r,bl,h=>by
  unfold qb;split
  ·rename_i sh off code cap k t aZ;obtain⟨g1,g2,g3⟩:=aaK (us:=r) (h.kill aZ);refine⟨g1,by rw[g2,lz],λi p hp=>?_⟩;rcases g3 i p hp with⟨g4,g5⟩|g4
   ·by_cases lr:i=b
    ·subst lr;rw[mz,ape (List.getElem?_eq_some_iff.1 aZ).1]at g4;cases g4;exact .inr (by simp[bU])
    ·rw[mz,ad4 (λe=>lr e.symm)]at g4;exact .inl ⟨g4,λhi=>g5 (by simpa [lr]using hi)⟩
   ·exact .inr g4
  ·rename_i mv;obtain⟨g1,g2,g3⟩:=aaK (us:=r) h;refine⟨g1,g2,λi p hp=>?_⟩;rcases g3 i p hp with⟨g4,g5⟩|g4
   ·refine .inl ⟨g4,λhi=>?_⟩;rcases List.mem_cons.1 hi with rfl|hi
    ·cases aA:cl p.1 with
     |true=>exact .inl rfl
     |false=>
      exfalso;obtain⟨c,t⟩:=p;obtain⟨sh,off,code,cap,k,rfl⟩:=S5 aA;exact mv _ _ _ _ _ _ g4
    ·exact g5 hi
   ·exact .inr g4
theorem aja {N:Nat} {b5:Env} {m:Nat->Nat} {bl:List aJ} {a:Act} {w:aG}:∀{l:List Nat} {zs:List Int} {v:Nat} {tm:List V},R w0 N b5 m tm bl a w->IN a.tmps l zs->(∀j,j<zs.length->b5 (v+j)=zs.getD j 0)->v+zs.length<=N->R w0 N b5 m (zL l v tm) bl a w
 |[],[],v,tm,h,_,_,_=>h
 |s::r,z::zs,v,tm,h,hb,hv,cP=>by
  unfold zL;have h0:=hv 0 (by simp);simp only[oX,gD]at h0;simp only[ke]at cP;refine aja (l:=r) (zs:=zs) ⟨eW.set h.t ?_ λx hx=>?_,h.d,h.b,h.bK⟩ hb.2.2 (λj aM=>by
   have:=hv (j+1) (by simpa using aM);rw[show v+1+j=v+(j+1) by omega];simpa using this) (by omega)
  ·exact⟨I.hj (by omega),I.dF _ _⟩
  ·rw[hb.2.1 x hx];simp[V.rel,W.den,A.den,bH.den,I.db,I.bq,h0]
 |[],_::_,_,_,_,h,_,_=>h.elim
 |_::_,[],_,_,_,h,_,_=>h.elim
theorem ai9 {N:Nat} {b5:Env} {a:Act} {w:aG}:∀{l:List (Nat×List aQ×br)} {zs:List Int} {v:Nat} {tm:List V} {bl:List aJ} {m:Nat->Nat} {F:Nat->Prop},R w0 N b5 m tm bl a w->F6 w0 w a.tmps F l zs->(∀g,F g->∀(i:Nat) (p:aJ),bl[i]?=some p->m i=g->bU b5 p.1=0)->
 (∀j,j<zs.length->b5 (v+j)=zs.getD j 0)->v+zs.length<=N->∃gw,(∀b,b<bl.length->gw b=m b)/\bl.length<=(wT l v tm bl).2.length/\R w0 N b5 gw (wT l v tm bl).1 (wT l v tm bl).2 a w
 |[],[],v,tm,bl,m,F,h,_,_,_,_=>⟨m,λ_ _=>rfl,bW _,h⟩
 |(s,sh,e)::r,code::len::cap::zs,v,tm,bl,m,F,h,hf,hF,hv,cP=>by
  obtain⟨g,f1,f2,f3,f4,f5,f6,f7⟩:=hf;have v0:=hv 0 (by simp);have v1:=hv 1 (by simp);have v2:=hv 2 (by simp);simp only[gD,hL,oX]at v0 v1 v2;simp only[ke]at cP;have hc:(-1:Int)<=cap/\cap<=9223372036854775807:=⟨f2.2.1.1,by have:=f2.2.1.2;omega⟩;have aO:(A.rows sh (.const 0) (.var v) (.var (v+2)) 2).ok N bl.length b5:=⟨⟨I.dF _ _,I.hj (by omega),I.hj (by omega)⟩,by rw[I.db,v0];exact f3,by rw[I.db,v2];exact hc⟩;have pf:=h.bK.push (x:=([.rows sh (.const 0) (.var v) (.var (v+2)) 2],(e,false))) (g:=g) h.b (λy hy=>by simp at hy;subst hy;exact aO) (λaA=>by cases aA) (λhk kP code' kK sJ he=>by
   cases he;intro _;simp only[I.db,v0,v2,I.bq];refine⟨f4,λh0=>?_⟩;obtain⟨cells,k1,k2,k3,k4,tl⟩:=f5 h0;exact⟨tl.elim .inl λh=> .inr (.inr h),cells,e,(0,0),k1,⟨di _,k2⟩,λ_=>⟨rfl,by trivial,.N9,k3,k4,tl⟩⟩) (λi p hi he=>by
   rcases mE cap 0 with h0|h0
   ·refine .inr (.inr ?_);simp only[bU,I.db,v2];rw[if_pos h0]
   ·exact .inr (.inl (hF g (f6 h0) i p hi he)))
  have dM:=e6.alloc N b5 m bl ([A.rows sh (.const 0) (.var v) (.var (v+2)) 2],(e,false)) g;have hR:R w0 N b5 (nG m bl.length g) (xF tm s (.w (.one (.sl bl.length sh.length (.const 0) (.const 0) (.var (v+1)) (.var (v+2)))))) (bl++[([.rows sh (.const 0) (.var v) (.var (v+2)) 2],(e,false))]) a w:=by
   refine⟨eW.set (h.t.ext dM.ha dM.hn dM.hb dM.hm) ?_ λx hx=>?_,h.d,h.b.alloc (λy hy=>by simp at hy;subst hy;exact aO),pf⟩
   ·refine⟨by simp,⟨I.dF _ _,I.dF _ _,I.hj (by omega),I.hj (by omega)⟩,?_⟩;simp only[I.bq,I.db,v1,v2];exact f2
   ·rw[f1 x hx];simp only[V.rel,W.den,A.den,I.bq,I.db,v1,v2,pz];split<;>simp
  obtain⟨gw,bg,b3,cy⟩:=ai9 (l:=r) (zs:=zs) (v:=v+3) hR f7 (λns Bh i p hi he=>by
   rw[Po]at hi;split at hi
   ·rename_i jW;rw[oS jW]at he;exact hF ns Bh.1 i p hi he
   ·have jW:=(List.getElem?_eq_some_iff.1 hi).1;have:i=bl.length:=by simp at jW;omega
    subst this;simp only[Nat.sub_self,xY,bj]at hi;subst hi;rw[pz]at he;rcases mE cap 0 with h0|h0
    ·simp only[bU,I.db,v2];rw[if_pos h0]
    ·exact absurd he.symm (Bh.2 h0)) (λj aM=>by
   have:=hv (j+3) (by simp only[ke];omega);rw[show v+3+j=v+(j+3) by omega];simpa using this) (by omega)
  simp only[gY,ke,qo]at bg b3;exact⟨gw,λb hb=>by rw[bg b (by omega)];exact oS hb,by unfold wT;omega,by unfold wT;exact cy⟩
 |[],_::_,_,_,_,_,_,_,h,_,_,_=>h.elim
 |_::_,[],_,_,_,_,_,_,h,_,_,_=>h.elim
 |_::_,[_],_,_,_,_,_,_,h,_,_,_=>h.elim
 |_::_,[_,_],_,_,_,_,_,_,h,_,_,_=>h.elim
theorem aj9 {tmps:Array aW}:∀{l:List Nat} {zs:List Int},IN tmps l zs->ab (Qe l) zs
 |[],[],_=>trivial
 |s::r,z::zs,h=>⟨h.1.1,h.1.2,aj9 h.2.2⟩
 |[],_::_,h=>h.elim
 |_::_,[],h=>h.elim
theorem aj8 {w:aG} {tmps:Array aW}:∀{l:List (Nat×List aQ×br)} {zs:List Int} {F:Nat->Prop},F6 w0 w tmps F l zs->ab (Gm l) zs
 |[],[],_,_=>trivial
 |(s,sh,e)::r,code::len::cap::zs,F,⟨g,f1,f2,f3,f4,f5,f6,f7⟩=>⟨f3.1,f3.2,f2.1.2.2.1,f2.1.2.2.2,f2.2.1.1,by have:=f2.2.1.2;omega,aj8 f7⟩
 |[],_::_,_,h=>h.elim
 |_::_,[],_,h=>h.elim
 |_::_,[_],_,h=>h.elim
 |_::_,[_,_],_,h=>h.elim
theorem Mem.acF {n:Nat} {ρ:Env} {m:Nat->Nat} {bl:List aJ} {w:aG} {b c:Nat} {C:List A} {sh:List aQ} {code:I} {t:br×Bool} (h:Mem w0 ρ m bl w) (aZ:bl[b]?=some (C,t)) (aA:cl C=true) (aD:t.2=false)
 (lI:∀row∈ao (code.den ρ),cM sh row) (lG:cj sh (ao (code.den ρ))=C.map (A.den ρ m)) (hlen:C.length=c*sh.length):Mem w0 ρ m (ei bl b ([.rows sh (.const 0) code (.const c) 2],t)) w:=by
 have tY:b<bl.length:=(List.getElem?_eq_some_iff.1 aZ).1;obtain⟨bg,b3,r,hr,cy⟩:=h.gZ b C t aZ aA;have hr:=hr aD;subst hr;rw[hK]at cy;have eC:∀(i:Nat) (p:aJ),(ei bl b ([.rows sh (.const 0) code (.const c) 2],t))[i]?=some p->(i=b/\p=([.rows sh (.const 0) code (.const c) 2],t))∨(i≠b/\bl[i]?=some p):=λi p hi=>by
  rw[mz,wh]at hi;split at hi
  ·rename_i iE;subst iE;simp only[tY,if_true,bj]at hi;exact .inl ⟨rfl,hi.symm⟩
  ·rename_i iE;exact .inr ⟨λe=>iE e.symm,hi⟩
 have rG:bU ρ [.rows sh (.const 0) code (.const c) 2]=2:=w2 (by decide) (by rw[I.bq];omega);refine⟨h.ext,h.j7,h.mw,h.lH,h.ib,h.jU,λi lq t' hi kl=>?_,λi hk kP code' kK sJ t' hi=>?_,λi j p q hi aM he=>?_⟩
 ·rcases eC i _ hi with⟨rfl,eo⟩|⟨dA,hi⟩
  ·cases eo;cases kl
  ·exact h.gZ i lq t' hi kl
 ·rcases eC i _ hi with⟨rfl,eo⟩|⟨dA,hi⟩
  ·cases eo;intro _;simp only[I.bq];refine⟨λh0=>by omega,λ_=>⟨b3.elim .inl λh=> .inr (.inr h),_,_,_,cy,⟨di _,lI,[],[],by simp[lG],rfl⟩,λ_=>⟨rfl,by trivial,.N9,by simp[hlen],bg,b3⟩⟩⟩
  ·exact h.rws i hk kP _ kK sJ t' hi
 ·have af:∀(i:Nat) (p:aJ),(ei bl b ([.rows sh (.const 0) code (.const c) 2],t))[i]?=some p->∃dH,bl[i]?=some dH/\bU ρ dH.1=bU ρ p.1:=λi p hi=>by
   rcases eC i _ hi with⟨rfl,eo⟩|⟨dA,hi⟩
   ·exact⟨_,aZ,by rw[eo];simp only[rG,nA aA]⟩
   ·exact⟨p,hi,rfl⟩
  obtain⟨dH,hp,ep⟩:=af i p hi;obtain⟨fA,ak,eq⟩:=af j q aM;rw[<-ep,<-eq];exact h.inj i j dH fA hp ak he
theorem acG {m:Nat->Nat} {tm:List V} {a:Act} {w:aG}:∀{l:List (Nat×List aQ×Nat)} {bl:List aJ} {n:Nat} {ρ:Env},R w0 n ρ m tm bl a w->aC S L (OY l bl) n ρ λae n' bt=>R w0 n' ae m tm bt a w/\bt.length=bl.length
 |[],bl,n,ρ,h=>aC.pure ⟨h,rfl⟩
 |(b,sh,c)::r,bl,n,ρ,h=>by
  unfold OY;split
  ·rename_i C t aZ;cases aA:cl C with
   |false=>simp only[cond_false];exact acG h
   |true=>
    simp only[cond_true];refine eM λhc=>?_;simp only[bx]at hc;obtain⟨⟨⟨c1,bQ⟩,cF⟩,dk⟩:=hc;have c1:t.2=false:=by simpa using c1
    have bQ:=b1 bQ;have dk:=gU dk;have cb:∀x∈C,A.ok n bl.length ρ x:=h.b _ (fC aZ);have oz:=Mm (w:=sh.length) (k:=c) bQ;have gE:ao ((I.const 0).den ρ)=[]:=by rw[I.bq];exact oa
    have hz:(0:Int)<=b6:=D2 (kc []) (uP (l:=[]) (by simp) (by simp));refine(L8 (nb:=bl.length) (m:=m) cF (rs:=rv sh.length c C) (c:= .const 0) (λrow hr x hx=>cb x (Mn row hr x hx)) (I.dF _ _) (by rw[I.bq];exact⟨di _,hz⟩) (by rw[gE];intro _ h;simp at h) (by rw[gE,oz.1];simp;omega)).bind λaN a6 code ia gk ⟨cG,cC,eF,dE,gP,gW,ie⟩=>?_;rw[gE,gq]at dE;have h1:=h.later ia gk;have Zw:C.map (A.den aN m)=C.map (A.den ρ m):=yG cb gk (λ_ _=>rfl);have pf:=h1.bK.acF (n:=a6) (c:=c) (sh:=sh) (code:=code) aZ aA c1 (by rw[dE];exact gW) (by rw[dE,ie,oz.2,Zw]) bQ;have p4:dj a6 (ei bl b ([.rows sh (.const 0) code (.const c) 2],t)).length aN (ei bl b ([.rows sh (.const 0) code (.const c) 2],t)):=h1.b.set (λy hy=>by
     have hy:y= .rows sh (.const 0) code (.const c) 2:=by simpa using hy
     subst hy;exact⟨⟨I.dF _ _,cG,I.dF _ _⟩,cC,by rw[I.bq];omega⟩)
    have hR:R w0 a6 aN m tm (ei bl b ([.rows sh (.const 0) code (.const c) 2],t)) a w:=⟨by rw[lz];exact h1.t,h1.d,p4,pf⟩;exact(acG (l:=r) hR).mono λb5 gd sn _ _ ⟨g1,g2⟩=>⟨g1,by rw[g2,lz]⟩
  ·exact aC.fail
theorem natsM_holds {G:fe} {IK:Unit->Nat->T}:∀{k n:Nat} {ρ:Env} {offs:List Int},(SQ k n IK).holds S L G ρ->offs.length=k->(∀z∈offs,0<=z)->(IK () (n+k)).holds S L G (bR ρ n offs)
 |0,n,ρ,[],h,_,_=>h
 |k+1,n,ρ,z::zs,h,hl,h0=>by
  have h1:(SQ k (n+1) IK).holds S L G (dI ρ n z):=h z (h0 z (by simp));have:=natsM_holds (offs:=zs) h1 (by simpa using hl) λy hy=>h0 y (eI _ hy);rw[show n+(k+1)=n+1+k by omega];exact this
 |0,_,_,_::_,_,hl,_=>by simp at hl
 |_+1,_,_,[],_,hl,_=>by simp at hl
def wq (w0:eL) (w:aG) (tmps:Array aW) (F:Nat->Prop):List (Nat×List aQ)->List Nat->List Int->List Int->Prop
 |[],[],[],[]=>True
 |(s,sh)::r,g::gs,o::os,code::len::cap::zs=>(∀x,tmps[s]?=some x->x=if cap<0 then .slice none 0 0 else .slice (some ⟨g,o.toNat,none⟩) len.toNat cap.toNat)/\Ii o 0 len cap/\(0<=code/\code<=b6)/\(cap<0->ao code=[])/\
    (0<=cap->(w0.ex g∨w0.ro g∨w0.r.heap.size<=g)/\∃(cells:Array aW) (t:br) (fz:Nat×Nat),w.heap[g]?=some (.cells cells t fz)/\o8 cells o.toNat sh (ao code))/\
    (0<=cap->F g)/\wq w0 w tmps F r gs os zs
 |_,_,_,_=>False
theorem wq.len {w:aG} {tmps:Array aW} {F:Nat->Prop}:∀{l:List (Nat×List aQ)} {gs:List Nat} {os zs:List Int},wq w0 w tmps F l gs os zs->os.length=l.length/\∀z∈os,0<=z
 |[],[],[],[],_=>⟨rfl,λ_ h=>by simp at h⟩
 |(s,sh)::r,g::gs,o::os,code::len::cap::zs,h=>by
  obtain⟨_,h2,_,_,_,_,h7⟩:=h;obtain⟨i1,i2⟩:=wq.len h7;exact⟨by simp[i1],λz hz=>by
   rcases List.mem_cons.1 hz with rfl|hz
   ·exact h2.1.1
   ·exact i2 z hz⟩
 |_::_,[],_,_,h=>h.elim
 |_::_,_::_,[],_,h=>h.elim
 |_::_,_::_,_::_,[],h=>h.elim
 |_::_,_::_,_::_,[_],h=>h.elim
 |_::_,_::_,_::_,[_,_],h=>h.elim
 |[],_::_,_,_,h=>h.elim
 |[],[],_::_,_,h=>h.elim
 |[],[],[],_::_,h=>h.elim
theorem aka {w:aG} {tmps:Array aW} {F:Nat->Prop}:∀{l:List (Nat×List aQ)} {gs:List Nat} {os zs:List Int},wq w0 w tmps F l gs os zs->ab (HZ l) zs
 |[],[],[],[],_=>trivial
 |(s,sh)::r,g::gs,o::os,code::len::cap::zs,⟨f1,f2,f3,f4,f5,f6,f7⟩=>⟨f3.1,f3.2,f2.1.2.2.1,f2.1.2.2.2,f2.2.1.1,by have:=f2.2.1.2;omega,aka f7⟩
 |_::_,[],_,_,h=>h.elim
 |_::_,_::_,[],_,h=>h.elim
 |_::_,_::_,_::_,[],h=>h.elim
 |_::_,_::_,_::_,[_],h=>h.elim
 |_::_,_::_,_::_,[_,_],h=>h.elim
 |[],_::_,_,_,h=>h.elim
 |[],[],_::_,_,h=>h.elim
 |[],[],[],_::_,h=>h.elim
theorem Tj {n:Nat} {ρ:Env} {m:Nat->Nat} {tm:List V} {bl:List aJ} {a:Act} {w:aG} (h:R w0 n ρ m tm bl a w):∀{l:List (Nat×List aQ)} {ls:List I},H2 l tm bl=some ls->
 (∀x∈ls,I.bN n x)/\ls.length=(HZ l).length/\∃gs os,wq w0 w a.tmps (λg=>∃(i:Nat) (p:aJ),bl[i]?=some p/\m i=g/\bU ρ p.1=1) l gs os (ls.map (·.den ρ))
 |[],ls,he=>by
  simp only[H2,bj]at he;subst he;exact⟨λ_ h=>by simp at h,rfl,[],[],trivial⟩
 |(s,sh)::r,ls,he=>by
  unfold H2 at he;split at he
  ·rename_i hs;split at he
   ·rename_i l1 hr;simp only[bj]at he;subst he;obtain⟨g1,g2,gs,os,g3⟩:=Tj h hr;refine⟨λx hx=>?_,by simp[HZ]at g2⊢;omega,0::gs,0::os,λx hx=>?_,?_,?_,?_,?_,?_,g3⟩
    ·simp only[oW]at hx;rcases hx with rfl|rfl|rfl|hx
     ·exact I.dF _ _
     ·exact I.dF _ _
     ·exact I.dF _ _
     ·exact g1 x hx
    ·obtain⟨_,y,h2,h3⟩:=h.t.2 s _ hs;rw[h2]at hx;cases hx;have rB:(I.const (-1)).den ρ<0:=by rw[I.bq];decide
     simp only[rB,if_true];exact h3
    ·simp only[I.bq];exact⟨⟨by omega,by omega,by omega,by omega⟩,⟨by omega,by omega⟩,λ_=>rfl,λh=>by omega⟩
    ·simp only[I.bq];exact⟨di _,D2 (kc []) (uP (l:=[]) (by simp) (by simp))⟩
    ·intro _;simp only[I.bq];exact oa
    ·simp only[I.bq];intro h;omega
    ·simp only[I.bq];intro h;omega
   ·cases he
  ·rename_i b bG o ro len cap hs;split at he
   ·rename_i hk off code fO kind t aZ;cases hc:(tB sh hk&&aP kind 1&&I.beq o off&&I.beq ro (.const 0)&&I.beq cap fO&&aP bG sh.length)with
    |false=>rw[hc]at he;cases he
    |true=>
     rw[hc]at he;simp only[cond_true]at he;split at he
     ·rename_i l1 hr;simp only[bj]at he;subst he;simp only[bx]at hc;obtain⟨⟨⟨⟨⟨c1,bQ⟩,cF⟩,dk⟩,fN⟩,hQ⟩:=hc;have c1:=FJ c1;have bQ:=b1 bQ;have cF:=I.beq_eq cF;have dk:=I.beq_eq dk;have fN:=I.beq_eq fN;have hQ:=b1 hQ
      subst c1;subst bQ;subst cF;subst dk;subst fN;subst hQ;obtain⟨g1,g2,gs,os,g3⟩:=Tj h hr;obtain⟨cb,y,h2,h3⟩:=h.t.2 s _ hs;have cb:(A.sl b sh.length o (.const 0) len cap).ok n bl.length ρ:=cb;obtain⟨aj,⟨ah,au,de,iK⟩,jz⟩:=cb;simp only[I.bq]at jz;have hD:(A.rows sh o code cap 1).ok n bl.length ρ:=h.b _ (fC aZ) _ (by simp);obtain⟨⟨r1,r2,ij⟩,aR,aE⟩:=hD;have pk:=h.bK.rws b sh o code cap 1 t aZ (by decide);refine⟨λx hx=>?_,by simp[HZ]at g2⊢;omega,m b::gs,o.den ρ::os,λx hx=>?_,jz,aR,pk.1,λh0=>?_,λh0=>?_,g3⟩
      ·simp only[oW]at hx;rcases hx with rfl|rfl|rfl|hx
       ·exact r2
       ·exact de
       ·exact iK
       ·exact g1 x hx
      ·have ZY:y=x:=jC (h2.symm.trans hx);subst ZY;have h3:y=(A.sl b sh.length o (.const 0) len cap).den ρ m:=h3;rw[h3];simp only[A.den,I.bq];split<;>simp
      ·obtain⟨eJ,cells,ma,fz,k1,⟨k2,k3⟩,k4⟩:=pk.2 h0;exact⟨eJ,cells,ma,fz,k1,k3⟩
      ·exact⟨b,_,aZ,rfl,w2 (by decide) h0⟩
     ·cases he
   ·cases he
  ·cases he
theorem wq.mono {w:aG} {tmps:Array aW} {F Eb:Nat->Prop} (hF:∀g,F g->Eb g):∀{l:List (Nat×List aQ)} {gs:List Nat} {os zs:List Int},wq w0 w tmps F l gs os zs->wq w0 w tmps Eb l gs os zs
 |[],[],[],[],_=>trivial
 |(s,sh)::r,g::gs,o::os,code::len::cap::zs,⟨f1,f2,f3,f4,f5,f6,f7⟩=>⟨f1,f2,f3,f4,f5,λh=>hF g (f6 h),wq.mono hF f7⟩
 |_::_,[],_,_,h=>h.elim
 |_::_,_::_,[],_,h=>h.elim
 |_::_,_::_,_::_,[],h=>h.elim
 |_::_,_::_,_::_,[_],h=>h.elim
 |_::_,_::_,_::_,[_,_],h=>h.elim
 |[],_::_,_,_,h=>h.elim
 |[],[],_::_,_,h=>h.elim
 |[],[],[],_::_,h=>h.elim
theorem WN {lo:Nat} {tm:List V} {bl:List aJ}:∀{l:List (Nat×List aQ×br)} {used:List Nat} {ls:List I} {u:List Nat},AT lo l tm bl used=some (ls,u)->∀b∈u,b∈used∨∃sh off code cap t,bl[b]?=some ([.rows sh off code cap 2],t)
 |[],used,ls,u,he=>by
  simp only[AT,bj,eO]at he;obtain⟨rfl,rfl⟩:=he
  exactλb hb=> .inl hb
 |(s,sh,e)::r,used,ls,u,he=>by
  unfold AT at he;split at he
  ·split at he
   ·rename_i l1 oR hr;simp only[bj,eO]at he;obtain⟨rfl,rfl⟩:=he;exact WN hr
   ·cases he
  ·rename_i b bG o ro len cap hs;split at he
   ·rename_i hk off code fO kind t aZ;cases hc:(tB sh hk&&aP kind 2&&I.beq o (.const 0)&&I.beq off (.const 0)&&I.beq ro (.const 0)&&I.beq cap fO&&aP t.1 e&&aP bG sh.length&&cO lo b&& !(used.any (aP b)))with
    |false=>rw[hc]at he;cases he
    |true=>
     rw[hc]at he;simp only[cond_true]at he;split at he
     ·rename_i l1 oR hr;simp only[bj,eO]at he;obtain⟨rfl,rfl⟩:=he;simp only[bx]at hc;obtain⟨⟨⟨⟨⟨⟨⟨⟨⟨c1,bQ⟩,cF⟩,dk⟩,fN⟩,hQ⟩,nT⟩,lX⟩,j5⟩,pQ⟩:=hc;have bQ:=b1 bQ;subst bQ;intro b' oy;rcases WN hr b' oy with h5|h5
      ·rcases List.mem_cons.1 h5 with rfl|h5
       ·exact .inr ⟨_,_,_,_,_,aZ⟩
       ·exact .inl h5
      ·exact .inr h5
     ·cases he
   ·cases he
  ·cases he
theorem aaJ {i:Nat} {p:aJ}:∀{us:List Nat} {bl:List aJ},bl[i]?=some p->i∉us->(qb us bl)[i]?=some p
 |[],bl,h,_=>h
 |b::r,bl,h,hi=>by
  unfold qb;split
  ·refine aaJ ?_ λh=>hi (eI _ h);rw[mz,ad4 (λe=>hi (by simp[e]))];exact h
  ·exact aaJ h λh=>hi (eI _ h)
theorem ajb {N:Nat} {b5:Env} {a:Act} {w:aG} {F:Nat->Prop}:∀{l:List (Nat×List aQ)} {gs:List Nat} {os zs:List Int} {v u:Nat} {tm:List V} {bl:List aJ} {m:Nat->Nat},R w0 N b5 m tm bl a w->wq w0 w a.tmps F l gs os zs->(∀g,F g->∀(i:Nat) (p:aJ),bl[i]?=some p->m i=g->bU b5 p.1<=1)->
 (∀j,j<zs.length->b5 (v+j)=zs.getD j 0)->(∀j,j<os.length->b5 (u+j)=os.getD j 0)->v+zs.length<=N->u+os.length<=N->
 ∃gw,(∀b,b<bl.length->gw b=m b)/\bl.length<=(headD l v u tm bl).2.length/\R w0 N b5 gw (headD l v u tm bl).1 (headD l v u tm bl).2 a w/\∀(i:Nat) (p:aJ),(headD l v u tm bl).2[i]?=some p->(i<bl.length/\bl[i]?=some p)∨(bU b5 p.1≠0->F (gw i))
 |[],[],[],[],v,u,tm,bl,m,h,_,_,_,_,_,_=>⟨m,λ_ _=>rfl,bW _,h,λi p hp=> .inl ⟨(List.getElem?_eq_some_iff.1 hp).1,hp⟩⟩
 |(s,sh)::r,g::gs,o::os,code::len::cap::zs,v,u,tm,bl,m,h,hf,hF,hv,hu,cP,YR=>by
  obtain⟨f1,f2,f3,f4,f5,f6,f7⟩:=hf;have v0:=hv 0 (by simp);have v1:=hv 1 (by simp);have v2:=hv 2 (by simp);have vq:=hu 0 (by simp);simp only[gD,hL,oX]at v0 v1 v2 vq;simp only[ke]at cP YR;have hc:(-1:Int)<=cap/\cap<=9223372036854775807:=⟨f2.2.1.1,by have:=f2.2.1.2;omega⟩;have aO:(A.rows sh (.var u) (.var v) (.var (v+2)) 1).ok N bl.length b5:=⟨⟨I.hj (by omega),I.hj (by omega),I.hj (by omega)⟩,by rw[I.db,v0];exact f3,by rw[I.db,v2];exact hc⟩;have ajt:bU b5 [A.rows sh (.var u) (.var v) (.var (v+2)) 1]<=1:=by
   simp only[bU];split<;>omega
  have pf:=h.bK.push (x:=([.rows sh (.var u) (.var v) (.var (v+2)) 1],(0,false))) (g:=g) h.b (λy hy=>by simp at hy;subst hy;exact aO) (λaA=>by cases aA) (λhk kP code' kK sJ he=>by
   cases he;intro _;simp only[I.db,v0,v2,vq];refine⟨f4,λh0=>?_⟩;obtain⟨u6,cells,t,fz,k1,k2⟩:=f5 h0;exact⟨u6,cells,t,fz,k1,⟨f2.1.1,k2⟩,λef=>by omega⟩) (λi p hi he=>by
   rcases mE cap 0 with h0|h0
   ·refine .inr (.inr ?_);simp only[bU,I.db,v2];rw[if_pos h0]
   ·exact .inl ⟨hF g (f6 h0) i p hi he,ajt⟩)
  have dM:=e6.alloc N b5 m bl ([A.rows sh (.var u) (.var v) (.var (v+2)) 1],(0,false)) g;have hR:R w0 N b5 (nG m bl.length g) (xF tm s (.w (.one (.sl bl.length sh.length (.var u) (.const 0) (.var (v+1)) (.var (v+2)))))) (bl++[([.rows sh (.var u) (.var v) (.var (v+2)) 1],(0,false))]) a w:=by
   refine⟨eW.set (h.t.ext dM.ha dM.hn dM.hb dM.hm) ?_ λx hx=>?_,h.d,h.b.alloc (λy hy=>by simp at hy;subst hy;exact aO),pf⟩
   ·refine⟨by simp,⟨I.hj (by omega),I.dF _ _,I.hj (by omega),I.hj (by omega)⟩,?_⟩;simp only[I.bq,I.db,v1,v2,vq];exact f2
   ·rw[f1 x hx];simp only[V.rel,W.den,A.den,I.bq,I.db,v1,v2,vq,pz];split<;>simp
  obtain⟨gw,bg,b3,cy,et⟩:=ajb (F:=F) (l:=r) (gs:=gs) (os:=os) (zs:=zs) (v:=v+3) (u:=u+1) hR f7 (λns Bh i p hi he=>by
   rw[Po]at hi;split at hi
   ·rename_i jW;rw[oS jW]at he;exact hF ns Bh i p hi he
   ·have jW:=(List.getElem?_eq_some_iff.1 hi).1;have:i=bl.length:=by simp at jW;omega
    subst this;simp only[Nat.sub_self,xY,bj]at hi;subst hi;exact ajt) (λj aM=>by
   have:=hv (j+3) (by simp only[ke];omega);rw[show v+3+j=v+(j+3) by omega];simpa using this) (λj aM=>by
   have:=hu (j+1) (by simp only[ke];omega);rw[show u+1+j=u+(j+1) by omega];simpa using this) (by omega) (by omega)
  simp only[gY,ke,qo]at bg b3;refine⟨gw,λb hb=>by rw[bg b (by omega)];exact oS hb,by unfold headD;omega,by unfold headD;exact cy,λi p hp=>?_⟩;unfold headD at hp;rcases et i p hp with⟨j8,n6⟩|j8
  ·simp only[gY,ke,qo]at j8;rw[Po]at n6;split at n6
   ·rename_i jW;exact .inl ⟨jW,n6⟩
   ·rename_i jW;have hi:i=bl.length:=by omega
    subst hi;simp only[Nat.sub_self,xY,bj]at n6;subst n6;refine .inr λh0=>?_;rw[bg bl.length (by omega),pz];refine f6 ?_;rcases mE cap 0 with h1|h1
    ·refine absurd ?_ h0;simp only[bU,I.db,v2];rw[if_pos h1]
    ·exact h1
  ·exact .inr j8
 |_::_,[],_,_,_,_,_,_,_,_,h,_,_,_,_,_=>h.elim
 |_::_,_::_,[],_,_,_,_,_,_,_,h,_,_,_,_,_=>h.elim
 |_::_,_::_,_::_,[],_,_,_,_,_,_,h,_,_,_,_,_=>h.elim
 |_::_,_::_,_::_,[_],_,_,_,_,_,_,h,_,_,_,_,_=>h.elim
 |_::_,_::_,_::_,[_,_],_,_,_,_,_,_,h,_,_,_,_,_=>h.elim
 |[],_::_,_,_,_,_,_,_,_,_,h,_,_,_,_,_=>h.elim
 |[],[],_::_,_,_,_,_,_,_,_,h,_,_,_,_,_=>h.elim
 |[],[],[],_::_,_,_,_,_,_,_,h,_,_,_,_,_=>h.elim
theorem ajd {li:hN} {n:Nat} {cB ae:Env} {m0 m':Nat->Nat} {tm cK oQ DL:List V} {bl bt gv so:List aJ} {l1 l2 v1 v2 gO hU gH:List I} {ca cc I2 zo:List (Int×Int)} {n':Nat} {a:Act} {w:aG} {NA ND NN:Nat} {gs:List Nat} {os:List Int}
 (hlen:bl.length<=bt.length)
 (ha:agree n cB ae) (hm:∀b,b<bl.length->m' b=m0 b) (aD:∀v∈tm,V.ok n bl.length cB v) (rF:dj n bl.length cB bl)
 (h:R w0 n' ae m' cK bt a w) (az:hs li.hT li.ints 0 (n+1) tm=some (oQ,l1,ca)) (aI:hb li.cells 0 (n+1+l1.length) bl=some (gv,l2,cc))
 (cn:hs li.hT li.ints 0 (n+1) cK=some (DL,v1,I2)) (iC:hb li.cells 0 (n+1+v1.length) (bt.take bl.length)=some (so,v2,zo))
 (f1:p2 oQ DL=true) (f2:p1 gv so=true) (aiZ:IN a.tmps li.uT (gO.map (·.den ae))) (Ra:F6 w0 w a.tmps (λg=>(∀(i:Nat) (p:aJ),i<bl.length->bt[i]?=some p->m' i=g->bU ae p.1=0)/\¬∃(i:Nat) (p:aJ),bt[i]?=some p/\m' i=g/\bU ae p.1=1) li.tL (hU.map (·.den ae)))
 (JZ:wq w0 w a.tmps (λg=>∃(i:Nat) (p:aJ),bt[i]?=some p/\m' i=g/\bU ae p.1=1) li.py gs os (gH.map (·.den ae)))
 (aiG:NA=n+1+l1.length+l2.length+gO.length) (aiH:ND=n+1+l1.length+l2.length+(gO++hU).length) (aiI:NN=n+1+l1.length+l2.length+(gO++hU++gH).length):
 ab (ca++cc++(Qe li.uT++Gm li.tL++HZ li.py)) ((v1++v2++(gO++hU++gH)).map (·.den ae))/\∃gw,(∀b,b<bl.length->gw b=m0 b)/\bl.length<=(wT li.tL NA (headD li.py ND NN (zL li.uT (n+1+l1.length+l2.length) oQ) gv).1 (headD li.py ND NN (zL li.uT (n+1+l1.length+l2.length) oQ) gv).2).2.length/\
  R w0 (NN+li.py.length) (bR (bR cB (n+1) ((v1++v2++(gO++hU++gH)).map (·.den ae))) NN os) gw (wT li.tL NA (headD li.py ND NN (zL li.uT (n+1+l1.length+l2.length) oQ) gv).1 (headD li.py ND NN (zL li.uT (n+1+l1.length+l2.length) oQ) gv).2).1 (wT li.tL NA (headD li.py ND NN (zL li.uT (n+1+l1.length+l2.length) oQ) gv).1 (headD li.py ND NN (zL li.uT (n+1+l1.length+l2.length) oQ) gv).2).2 a w:=by
 obtain⟨axg,i1,i2,i3,i4⟩:=ajc (ext:=gO++hU++gH) hlen ha hm aD rF h az aI cn iC f1 f2;obtain⟨awx,aNe⟩:=JZ.len;subst aiG;subst aiH;subst aiI;have JO:∀j,j<(gO++hU++gH).length->bR cB (n+1) ((v1++v2++(gO++hU++gH)).map (·.den ae)) (n+1+l1.length+l2.length+j)=((gO++hU++gH).map (·.den ae)).getD j 0:=λj aM=>by
  rw[show n+1+l1.length+l2.length+j=n+1+(v1.length+v2.length+j) by omega,Le _ _ _ _ (by simp at aM⊢;omega)];rw[jE (l₁:=v1++v2),xP,LF (by simp),xP]
  congr 2
  simp
 generalize ajW:bR cB (n+1) ((v1++v2++(gO++hU++gH)).map (·.den ae))=b5 at*;have wR:agree (n+1+l1.length+l2.length+(gO++hU++gH).length) b5 (bR b5 (n+1+l1.length+l2.length+(gO++hU++gH).length) os):=agree.bR os _ b5;have axI:=i2.later (LG _ li.py.length) wR;have Zg:∀j,j<(gO++hU++gH).length->bR b5 (n+1+l1.length+l2.length+(gO++hU++gH).length) os (n+1+l1.length+l2.length+j)=((gO++hU++gH).map (·.den ae)).getD j 0:=λj aM=>by
  rw[<-JO j aM];exact(wR _ (by omega))
 have Ri:∀(i:Nat) (p:aJ),gv[i]?=some p->bU (bR b5 (n+1+l1.length+l2.length+(gO++hU++gH).length) os) p.1=bU b5 p.1:=λi p hi=>yD (i2.b p (fC hi)) wR;generalize axx:bR b5 (n+1+l1.length+l2.length+(gO++hU++gH).length) os=iL at*;have ea:=aja (v:=n+1+l1.length+l2.length) axI aiZ (λj aM=>by
  simp only[pG]at aM;rw[Zg j (by simp;omega),mF,jE,xP,AA (by simpa using aM),xP]) (by simp;omega)
 obtain⟨ir,cG,cC,dE,gP⟩:=ajb (v:=n+1+l1.length+l2.length+(gO++hU).length) (u:=n+1+l1.length+l2.length+(gO++hU++gH).length) ea JZ (λg hg i p hi he=>by
  obtain⟨g1,dH,g2,g3⟩:=i4 i p hi;rw[Ri i p hi,g3];obtain⟨j,q,bg,b3,cy⟩:=hg;rcases h.bK.inj i j dH q g2 bg (by rw[b3,<-he,hm i g1])with ef|ef|ef|ef
  ·subst ef;rw[g2]at bg;cases bg;omega
  ·exact ef.1
  ·omega
  ·omega) (λj aM=>by
  simp only[pG]at aM;rw[show n+1+l1.length+l2.length+(gO++hU).length+j=n+1+l1.length+l2.length+((gO++hU).length+j) by omega,Zg _ (by simp at aM⊢;omega),jE (l₁:=gO++hU),xP,LF (by simp),xP]
  congr 2
  simp) (λj aM=>by rw[<-axx,Le _ _ _ _ aM]) (by simp only[pG,gY];omega) (by rw[awx];exact bW _)
 obtain⟨gw,bg,b3,cy⟩:=ai9 (v:=n+1+l1.length+l2.length+gO.length) dE Ra (λg hg i p hi he=>by
  rcases gP i p hi with⟨g0,g1⟩|g1
  ·obtain⟨nZ,dH,g2,g3⟩:=i4 i p g1;rw[Ri i p g1,g3];exact hg.1 i dH nZ g2 (by rw[hm i nZ,<-cG i g0];exact he)
  ·by_cases h0:bU iL p.1=0
   ·exact h0
   ·have:=g1 h0;rw[he]at this;exact absurd this hg.2) (λj aM=>by
  simp only[pG]at aM;rw[show n+1+l1.length+l2.length+gO.length+j=n+1+l1.length+l2.length+(gO.length+j) by omega,Zg _ (by simp;omega),mF,jE,xP,LF (by simp),jE,AA (by simp;omega),xP]
  congr 2
  simp) (by simp;omega)
 refine⟨?_,gw,λb hb=>by rw[bg b (by rw[i3]at cC;omega),cG b (by rw[i3];exact hb)],by rw[i3]at cC;omega,cy⟩;rw[jE,jE (l₁:=gO++hU),jE (l₁:=gO)];exact m1 i1 (m1 (m1 (aj9 aiZ) (aj8 Ra)) (aka JZ))
theorem Xl {a b c:Nat} (h:a=c) (bm:b=c):b=a:=bm.trans h.symm
theorem ayV {li:hN} {c:Code} {e:Nat->List V->List aJ->x0->T} (hd:rd=none∨pr c=true) (he:VL rd S L w0 P c e) {Q:Exit->Act->aG->Prop} {n:Nat} {ρ:Env} {m:Nat->Nat} {tm:List V} {bl:List aJ} {a:Act} {w:aG} {G:fe} {k:x0}
 (h:R w0 n ρ m tm bl a w) (ag:(abj li e n tm bl k).holds S L G ρ) (af:IP S L w0 k n bl.length ρ m G Q):(Code.loop c).wpIn (wm rd) 0 P Q a w:=by
 unfold abj at ag;obtain⟨apS,HI,agP,Hj,aiV,⟨hz1,RD⟩,ag⟩:=acG (S:=S) (L:=L) h G _ ag;have af:=af.later (⟨Hj,aiV,by rw[RD];exact bW _,λ_ _=>rfl⟩:e6 n bl.length ρ m HI agP.length apS m) (gr.refl _ G);clear h;have h:=hz1;clear hz1 RD Hj aiV;revert h af ag;generalize HI=n;generalize apS=ρ;generalize agP=bl;intro ag af h;obtain⟨cB,gS,tm,ue,CJ,ZL,ag⟩:=MI (S:=S) (L:=L) h.t G _ ag;have MQ:=h.later ue CJ;have h:R w0 gS cB m tm bl a w:=⟨ZL,MQ.d,MQ.b,MQ.bK⟩;have af:=af.later (⟨ue,CJ,bW _,λ_ _=>rfl⟩:e6 n bl.length ρ m gS bl.length cB m) (gr.refl _ G);obtain⟨aN,a6,gO,ia,gk,⟨s1,s2,bn⟩,ag⟩:=Xm (S:=S) (L:=L) h.t G _ ag;have h1:=h.later ia gk;have af:=af.later (⟨ia,gk,bW _,λ_ _=>rfl⟩:e6 gS bl.length cB m a6 bl.length aN m) (gr.refl _ G);split at ag
 rotate_left
 ·exact ag.elim
 rename_i oQ l1 ca hU us gH az QK atb;obtain⟨b7,a2,_,_,a5⟩:=PW h1 QK;obtain⟨k1,k2,k3⟩:=aaK (us:=us) h1;obtain⟨r1,r2,gs,os,ij⟩:=Tj h1 atb;cases aI:hb li.cells 0 (a6+1+l1.length) (qb us bl)with
 |none=>rw[aI]at ag;exact ag.elim
 |some b3=>
  obtain⟨gv,l2,cc⟩:=b3;rw[aI]at ag;simp only at ag;cases hf:(p2 oQ oQ&&p1 gv gv)with
  |false=>rw[hf]at ag;exact ag.elim
  |true=>
   rw[hf]at ag;simp only[cU,cond_false,T.holds]at ag;simp only[bx]at hf;obtain⟨mi,o5,YL,ea⟩:=ag;have RB:∀v∈tm,V.ok a6 (qb us bl).length aN v:=λv hv=>by
    obtain⟨i,hi⟩:=List.getElem?_of_mem hv;exact(k1.t.2 i v hi).1
   have XP:hb li.cells 0 (a6+1+l1.length) ((qb us bl).take (qb us bl).length)=some (gv,l2,cc):=by rw[ad5];exact aI
   have avp:F6 w0 w a.tmps (λg=>(∀(i:Nat) (p:aJ),i<(qb us bl).length->(qb us bl)[i]?=some p->m i=g->bU aN p.1=0)/\¬∃(i:Nat) (p:aJ),(qb us bl)[i]?=some p/\m i=g/\bU aN p.1=1) li.tL (hU.map (·.den aN)):=by
    refine a5 _ λb p hb _ aZ pg oA=>?_;have key:∀(i:Nat) (q:aJ),(qb us bl)[i]?=some q->m i=m b->bU aN q.1=0:=λi q hi he=>by
     rcases k3 i q hi with⟨g1,g2⟩|g1
     ·by_cases lr:i=b
      ·subst lr;rw[aZ]at g1;cases g1;rcases g2 hb with g2|g2
       ·rw[oA]at g2;cases g2
       ·exact g2
      ·rcases h1.bK.inj i b q p g1 aZ he with g3|g3|g3|g3
       ·exact absurd g3 lr
       ·omega
       ·exact g3
       ·omega
     ·exact g1
    exact⟨λi q _ hi he=>key i q hi he,λ⟨i,q,hi,he,af⟩=>by have:=key i q hi he;omega⟩
   have JZ:wq w0 w a.tmps (λg=>∃(i:Nat) (p:aJ),(qb us bl)[i]?=some p/\m i=g/\bU aN p.1=1) li.py gs os (gH.map (·.den aN)):=by
    refine ij.mono λg ⟨i,p,hi,he,af⟩=>⟨i,p,aaJ hi λhu=>?_,he,af⟩;rcases WN QK i hu with ef|⟨sh,off,code,cap,t,ef⟩
    ·simp at ef
    ·rw[hi]at ef;cases ef;simp only[bU]at af;split at af<;>omega
   obtain⟨i1,gw,i2,i3,i4⟩:=ajd (bW _) (agree.refl a6 aN) (λ_ _=>rfl) RB k1.b k1 az aI az XP hf.1 hf.2 bn avp JZ rfl rfl rfl;generalize aiI:a6+1+l1.length+l2.length+(gO++hU++gH).length=NN at*;generalize aiH:a6+1+l1.length+l2.length+(gO++hU).length=ND at*;generalize aiG:a6+1+l1.length+l2.length+gO.length=NA at*;generalize avJ:headD li.py ND NN (zL li.uT (a6+1+l1.length+l2.length) oQ) gv=d at*;refine wpIn_loop_ghost (λN dT w'=>∃zs os gw,ab (ca++cc++(Qe li.uT++Gm li.tL++HZ li.py)) zs/\mi zs/\o5 zs=N/\(os.length=li.py.length/\∀z∈os,0<=z)/\(∀b,b<(qb us bl).length->gw b=m b)/\
    R w0 (NN+li.py.length) (bR (bR aN (a6+1) zs) NN os) gw (wT li.tL NA d.1 d.2).1 (wT li.tL NA d.1 d.2).2 dT w') (o5 ((l1++l2++(gO++hU++gH)).map (·.den aN))) ⟨_,os,gw,i1,YL,rfl,JZ.len,i2,i4⟩ ?_
   rintro N b7 eN ⟨zs,abU,gw,hz1,RD,rfl,⟨axs,axt⟩,axq,axr⟩
   have CL:=natsM_holds (nj ea hz1 RD) axs axt;refine he hd _ _ _ _ _ _ _ b7 eN _ axr CL λx n' ae m' cK bt eV dT w' h1 h2 h3 h4=>?_;have G6:agree a6 aN (bR aN (a6+1) zs):=(agree.bR _ (a6+1) aN).mono (by omega);have avr:agree a6 aN (bR (bR aN (a6+1) zs) NN abU):=G6.trans (agree.bR abU NN _) (by omega);have YN:e6 a6 bl.length aN m (NN+li.py.length) (wT li.tL NA d.1 d.2).2.length (bR (bR aN (a6+1) zs) NN abU) gw:=⟨by omega,avr,by rw[k2]at i3;exact i3,λb hb=>axq b (by rw[k2];exact hb)⟩;have EU:gr a6 G (G.set a6 λvs=>mi vs/\o5 vs<o5 zs):=λl hl=>by
    unfold fe.set;cases hb:aP l a6 with
    |true=>have:=b1 hb;omega
    |false=>rfl
   have dM:=YN.trans h1;have YK:eV a6=λvs=>mi vs/\o5 vs<o5 zs:=by
    rw[h2 a6 (by omega)];unfold fe.set;have:aP a6 a6=true:=IC a6;rw[this];rfl
   cases x with
   |exit id=>exact af (.exit id) n' ae m' cK bt eV dT w' dM (EU.trans h2 (by omega)) h3 h4
   |ret=>exact af .ret n' ae m' cK bt eV dT w' dM (EU.trans h2 (by omega)) h3 h4
   |normal=>
    simp only at h4;obtain⟨aer,abz,cK,ajz,aiS,ZN,h4⟩:=MI (S:=S) (L:=L) h3.t eV _ h4;have p3:=h3.later ajz aiS;have h3:R w0 abz aer m' cK bt dT w':=⟨ZN,p3.d,p3.b,p3.bK⟩;have dM:=dM.trans (⟨ajz,aiS,bW _,λ_ _=>rfl⟩:e6 n' bt.length ae m' abz bt.length aer m');obtain⟨zg,Kq,akQ,gm,eb,⟨t1,t2,t3⟩,h4⟩:=Xm (S:=S) (L:=L) h3.t eV _ h4;have h3:=h3.later gm eb;split at h4
    rotate_left
    ·exact h4.elim
    rename_i DL v1 I2 aa8 pA ak0 cn ata atc;obtain⟨c1,bQ,_,dk,fN⟩:=PW h3 ata;obtain⟨d1,d2,aMQ,al3,d3⟩:=Tj h3 atc;cases iC:hb li.cells 0 (a6+1+v1.length) (bt.take bl.length)with
    |none=>rw[iC]at h4;exact h4.elim
    |some et=>
     obtain⟨so,v2,zo⟩:=et;rw[iC]at h4;simp only at h4;cases l0:(p2 oQ DL&&p1 gv so)with
     |false=>rw[l0]at h4;exact h4.elim
     |true=>
      rw[l0]at h4;simp only[cond_true,T.holds,YK]at h4;simp only[bx]at l0;have YO:=dM.trans (⟨gm,eb,bW _,λ_ _=>rfl⟩:e6 abz bt.length aer m' Kq bt.length zg m');have avq:F6 w0 w' dT.tmps (λg=>(∀(i:Nat) (p:aJ),i<(qb us bl).length->bt[i]?=some p->m' i=g->bU zg p.1=0)/\¬∃(i:Nat) (p:aJ),bt[i]?=some p/\m' i=g/\bU zg p.1=1) li.tL (aa8.map (·.den zg)):=by
       refine fN _ λb p hb _ aZ pg oA=>⟨λi q jW hi he=>?_,λ⟨i,q,hi,he,af⟩=>?_⟩
       ·have M5:bl.length<=b:=by
         rcases dk b hb with h|h
         ·simp at h
         ·exact h
        rw[k2]at jW;rcases h3.bK.inj i b q p hi aZ he with g3|g3|g3|g3
        ·omega
        ·omega
        ·exact g3
        ·omega
       ·rcases h3.bK.inj i b q p hi aZ he with g3|g3|g3|g3
        ·subst g3;rw[hi]at aZ;cases aZ;omega
        ·omega
        ·omega
        ·omega
      obtain⟨jc,HG,p9,rM,tk⟩:=ajd (NA:=NA) (ND:=ND) (NN:=NN) (by rw[k2];exact YO.hb) YO.ha (λb hb=>YO.hm b (by rw[k2]at hb;exact hb)) RB k1.b h3 az aI cn (by rw[k2];exact iC) l0.1 l0.2 t3 avq d3 (by have:=t2;have:=Xl s2 t2;omega) (by have:=Xl s2 t2;simp only[gY]at*;omega) (by have:=Xl s2 t2;simp only[gY]at*;omega);rw[avJ]at tk;exact⟨_,h4.2,_,al3,HG,jc,h4.1,rfl,d3.len,p9,tk⟩
theorem toL {ops:Array Oper}:ops.toList.toArray=ops:=lO
theorem Yo (N:Nat):∀(i:Nat) (bl:List aJ),(j6 N i bl).length=bl.length
 |_,[]=>rfl
 |i,_::r=>by simp[j6,Yo N (i+1) r]
theorem Ju (N:Nat):∀(i:Nat) (bl:List aJ) (k:Nat) (p:aJ),(j6 N i bl)[k]?=some p->p=hB∨(i+k<N/\(cl p.1||Bo p.1)=true/\bl[k]?=some p)
 |_,[],k,p,h=>by simp[j6]at h
 |i,q::r,0,p,h=>by
  simp only[j6,xY,bj]at h;cases hc:(dX i N&&(cl q.1||Bo q.1))with
  |false=>rw[hc]at h;exact .inl h.symm
  |true=>
   rw[hc]at h;simp only[cond_true]at h;subst h;simp only[bx]at hc;exact .inr ⟨by simpa using uR hc.1,hc.2,rfl⟩
 |i,q::r,k+1,p,h=>by
  rcases Ju N (i+1) r k p (by simpa [j6]using h)with h1|⟨h1,h2,h3⟩
  ·exact .inl h1
  ·exact .inr ⟨by omega,h2,by simpa using h3⟩
theorem amg:∀{a b:List aJ},preB a b=true->∀(k:Nat) (p:aJ),a[k]?=some p->b[k]?=some p
 |[],_,_,_,_,h=>by simp at h
 |(c,t)::r,(e3,t')::s,hf,k,p,h=>by
  simp only[preB,bx]at hf;obtain⟨⟨⟨h1,h2⟩,h3⟩,h4⟩:=hf;cases k with
  |zero=>
   have az:=Gx h1;have aI:=b1 h2;have cn:t.2=t'.2:=by simpa using h3
   have:t=t':=Pg aI cn;subst az;subst this;simpa using h
  |succ k=>have:=amg h4 k p (by simpa using h);simpa using this
 |_::_,[],h,_,_,_=>by simp[preB]at h
theorem ax5 {c:List A} (h:Bo c=true):∃sh off code cap,c=[.rows sh off code cap 1]:=by
 unfold Bo at h;split at h
 ·rename_i sh off code cap k;have:=b1 h;subst this;exact⟨sh,off,code,cap,rfl⟩
 ·cases h
def Tr (ρ b5:Env) (c:List A):Prop:=∀sh off code cap k,c=[.rows sh off code cap k]->off.den b5=off.den ρ/\code.den b5=code.den ρ/\cap.den b5=cap.den ρ
theorem akA {ρ b5:Env} {c:List A} (h:(cl c||Bo c)=true) (hr:Tr ρ b5 c):bU b5 c=bU ρ c:=by
 rcases D3 _ _▸h with h|h
 ·rw[nA h,nA h]
 ·obtain⟨sh,off,code,cap,rfl⟩:=ax5 h;simp only[bU,(hr sh off code cap 1 rfl).2.2]
theorem Mem.sub {ρ b5:Env} {m gw:Nat->Nat} {bl sn:List aJ} {w:aG} (h:Mem w0 ρ m bl w) (hs:∀(i:Nat) (p:aJ),sn[i]?=some p->p=hB∨(bl[i]?=some p/\(cl p.1||Bo p.1)=true/\gw i=m i/\p.1.map (A.den b5 gw)=p.1.map (A.den ρ m)/\Tr ρ b5 p.1)):Mem w0 b5 gw sn w:=by
 have mW:bU b5 hB.1=0:=by simp[hB,bU]
 refine⟨h.ext,h.j7,h.mw,h.lH,h.ib,h.jU,λi cs t hi aA=>?_,λi sh off code cap kind t hi=>?_,λi j p q hi aM he=>?_⟩
 ·rcases hs i _ hi with h1|⟨h1,_,h3,h4,_⟩
  ·cases h1;simp[cl]at aA
  ·rw[h3,h4];exact h.gZ i cs t h1 aA
 ·rcases hs i _ hi with h1|⟨h1,h2,h3,_,h5⟩
  ·cases h1;intro af;exact absurd rfl af
  ·obtain⟨az,aI,cn⟩:=h5 sh off code cap kind rfl;have:=h.rws i sh off code cap kind t h1;unfold wo at this⊢;rw[az,aI,cn,h3];exact this
 ·rcases hs i _ hi with h1|⟨h1,h2,h3,_,h5⟩
  ·subst h1;exact .inr (.inr (.inl mW))
  ·rcases hs j _ aM with g1|⟨g1,g2,g3,_,g5⟩
   ·subst g1;exact .inr (.inr (.inr mW))
   ·rw[akA h2 h5,akA g2 g5];exact h.inj i j p q h1 g1 (by rw[<-h3,<-g3];exact he)
theorem dj.j6 {n nb:Nat} {ρ:Env} {bl:List aJ} (h:dj n nb ρ bl) (N:Nat):dj n nb ρ (Go.b9.j6 N 0 bl):=λp hp=>by
 obtain⟨i,hi⟩:=List.mem_iff_getElem?.1 hp;rcases Ju N 0 bl i p hi with h1|⟨_,_,h3⟩
 ·subst h1;intro a ha;simp only[hB,List.mem_singleton]at ha;subst ha;exact⟨⟨I.dF _ _,I.dF _ _,I.dF _ _⟩,⟨by simp[I.bq],by rw[I.bq];exact D2 (kc []) (uP (by simp) (λ_ h=>by cases h))⟩,by simp[I.bq]⟩
 ·exact h p (fC h3)
theorem amI {n nb:Nat} {ρ ae:Env} {c:List A} (cb:∀a∈c,A.ok n nb ρ a) (ha:agree n ρ ae) (back:Bool):cond back (Tr ae ρ c) (Tr ρ ae c):=by
 have key:∀sh off code cap k,c=[.rows sh off code cap k]->off.den ae=off.den ρ/\code.den ae=code.den ρ/\cap.den ae=cap.den ρ:=λsh off code cap k hc=>by
  have:=cb _ (by rw[hc];exact List.mem_singleton.2 rfl);obtain⟨⟨h1,h2,h3⟩,_⟩:=this;exact⟨I.cf ha h1,I.cf ha h2,I.cf ha h3⟩
 cases back with
 |true=>exactλsh off code cap k hc=>by obtain⟨h1,h2,h3⟩:=key sh off code cap k hc;exact⟨h1.symm,h2.symm,h3.symm⟩
 |false=>exact key
theorem avP {N:Nat} {tm:List V} {bl:List aJ} {o:Oper} {a:Act} {w:aG} {v:aW} (aA:Rf N tm bl o=true) (h:Ga P o a w v):(execOp a.eval o).run P w= .ok (.value v) w:=by
 rcases h with h|⟨f,args,h,_⟩
 ·exact h
 ·exfalso;have key:∀s:Sem aW,(do pure (mh (<-s)):Sem Next).run P w= .ok (.enter f args) w->False:=λs hs=>by
   simp only[jl]at hs;cases hx:s.run P w with
   |ok u w'=>rw[hx]at hs;simp at hs
   |halt x w'=>rw[hx]at hs;simp at hs
  unfold Rf at aA;split at aA
  ·rename_i op t x y u gR;exact key (eqGuard op t x y (a.eval x) (a.eval y) >>= λ_=>binOp op t (a.eval x) (a.eval y)) (by simpa [execOp,gR]using h)
  ·rename_i t x i gR;exact key (Instr.indexAt t (a.eval x) (a.eval i)) (by simpa [execOp,gR]using h)
  ·rename_i t x lo hi gx gR;exact key (uL t (a.eval x) (lo.map a.eval) (hi.map a.eval) (gx.map a.eval)) (by simpa [execOp,gR]using h)
  ·rename_i t p gR;exact key (pH t (a.eval p)) (by simpa [execOp,gR]using h)
  ·cases aA
theorem avO {tm:List V} {o:Oper} {a:Act} {w:aG} {v:aW} (aA:Nf tm o=true) (h:Ga P o a w v):(execOp a.eval o).run P w= .ok (.value v) w:=by
 rcases h with h|⟨f,args,h,_⟩
 ·exact h
 ·exfalso;have key:∀s:Sem aW,(do pure (mh (<-s)):Sem Next).run P w= .ok (.enter f args) w->False:=λs hs=>by
   simp only[jl]at hs;cases hx:s.run P w with
   |ok u w'=>rw[hx]at hs;simp at hs
   |halt x w'=>rw[hx]at hs;simp at hs
  unfold Nf at aA;split at aA
  ·rename_i t x lo hi gx gR;exact key (uL t (a.eval x) (lo.map a.eval) (hi.map a.eval) (gx.map a.eval)) (by simpa [execOp,gR]using h)
  ·cases aA
theorem avQ {ops:Array Oper} {N:Nat} {tm:List V} {bl:List aJ} {o:Oper} {a:Act} {w:aG} {v:aW} (aA:Re N tm bl o=true) (h:Ga P o a w v):(execOp a.eval o).run P w= .ok (.value v) w:=by
 rcases h with h|⟨f,args,h,_⟩
 ·exact h
 ·exfalso;have key:∀s:Sem aW,(do pure (mh (<-s)):Sem Next).run P w= .ok (.enter f args) w->False:=λs hs=>by
   simp only[jl]at hs;cases hx:s.run P w with
   |ok u w'=>rw[hx]at hs;simp at hs
   |halt x w'=>rw[hx]at hs;simp at hs
  unfold Re at aA;split at aA
  ·rename_i x gR;simp[execOp,gR]at h
  ·rename_i x gR;simp[execOp,gR]at h
  ·rename_i x i gR;exact key (Instr.extract (a.eval x) i) (by simpa [execOp,gR]using h)
  ·rename_i s x i gR;exact key (Instr.fieldAt s (a.eval x) i) (by simpa [execOp,gR]using h)
  ·rename_i t p gR;exact key (pH t (a.eval p)) (by simpa [execOp,gR]using h)
  ·rename_i t x lo hi gx gR;exact key (uL t (a.eval x) (lo.map a.eval) (hi.map a.eval) (gx.map a.eval)) (by simpa [execOp,gR]using h)
  ·cases aA
theorem arx {ops:Array Oper} {Q:Exit->Act->aG->Prop} {inl:mj} (dy:iM S P gl w0 cal) (hg:gM gl w0) (nu:ri S L w0 P inl) (wP:∀c a w,¬Q (.panic c) a w)
 {N gS:Nat} {pP:List aJ} {cB:Env} {m0:Nat->Nat} (cP:N<=pP.length) (rF:dj gS pP.length cB pP):∀(f:Nat) {listed:Array Bool} {n:Nat} {ρ:Env} {m:Nat->Nat} {tm:List V} {bl:List aJ} {a:Act} {w:aG} {G:fe} {k:iz},
 R w0 n ρ m tm bl a w->e6 gS pP.length cB m0 n bl.length ρ m->(∀(k:Nat) (p:aJ),(j6 N 0 pP)[k]?=some p->(j6 N 0 bl)[k]?=some p)->(Cx P gl cal inl ops N (j6 N 0 pP) f listed n tm bl k).holds S L G ρ->ml S L w0 k n bl.length ρ m G (Q .normal)->wpAnyH P .any ops Q (λw=>Mem w0 cB m0 (j6 N 0 pP) w) f listed a w:=by
 have down:∀{n:Nat} {ρ:Env} {m:Nat->Nat} {bl:List aJ} {w:aG},e6 gS pP.length cB m0 n bl.length ρ m->(∀(k:Nat) (p:aJ),(j6 N 0 pP)[k]?=some p->(j6 N 0 bl)[k]?=some p)->Mem w0 ρ m bl w->Mem w0 cB m0 (j6 N 0 pP) w:=λhl hp hm=>by
  refine hm.sub λi p hi=>?_;rcases Ju N 0 pP i p hi with h1|⟨h1,h2,h3⟩
  ·exact .inl h1
  ·refine .inr ?_;rcases Ju N 0 _ i p (hp i p hi)with g1|⟨_,_,g3⟩
   ·subst g1;simp[hB,cl,Bo]at h2
   ·exact⟨g3,h2,(hl.hm i (by omega)).symm,(yG (rF p (fC h3)) hl.ha hl.hm).symm,amI (rF p (fC h3)) hl.ha true⟩
 have up:∀{n:Nat} {ρ:Env} {m:Nat->Nat} {bl:List aJ} {w:aG},e6 gS pP.length cB m0 n bl.length ρ m->(∀(k:Nat) (p:aJ),(j6 N 0 pP)[k]?=some p->(j6 N 0 bl)[k]?=some p)->Mem w0 cB m0 (j6 N 0 pP) w->Mem w0 ρ m (j6 N 0 bl) w:=λ{n ρ m bl w} hl hp hm=>by
  refine hm.sub λi p hi=>?_;rcases Ju N 0 bl i p hi with h1|⟨h1,h2,h3⟩
  ·exact .inl h1
  ·refine .inr ?_;have hlt:i<(j6 N 0 pP).length:=by rw[Yo];omega
   have ak:=hp i _ (pF hlt);rw[hi]at ak;have ak:p=(j6 N 0 pP)[i]:=jC ak;have h0:(j6 N 0 pP)[i]?=some p:=by rw[pF hlt,ak]
   rcases Ju N 0 pP i p h0 with g1|⟨_,_,g3⟩
   ·subst g1;simp[hB,cl,Bo]at h2
   ·exact⟨h0,h2,hl.hm i (by omega),yG (rF p (fC g3)) hl.ha hl.hm,amI (rF p (fC g3)) hl.ha false⟩
 intro f;induction f with
 |zero=>
  intro listed n ρ m tm bl a w G k h hl hp ag af;unfold Cx at ag;unfold wpAnyH;split at ag
  ·rename_i hr;exact⟨hr,af n ρ m tm bl G a w (e6.refl _ _ _ _) (gr.refl _ _) h ag⟩
  ·exact ag.elim
 |succ f ih=>
  intro listed n ρ m tm bl a w G k h hl hp ag af;unfold Cx at ag;split at ag
  ·rename_i hr;exact⟨λ_=>af n ρ m tm bl G a w (e6.refl _ _ _ _) (gr.refl _ _) h ag,λi hi=>by rw[hr]at hi;cases hi⟩
  ·rename_i l ph;split at ag
   ·rename_i i hi;unfold aje at hi;cases yt:Ut ops with
    |false=>rw[yt]at hi;cases hi
    |true=>
    rw[yt,cond_true]at hi;have eo:=Uu hi;have CS:=ID hi;simp only[bx]at eo;cases aA:ops[i]? with
    |none=>simp only[aA]at ag;exact ag.elim
    |some o=>
     simp only[aA]at ag;have lG:Re N tm bl o=true∨Rf N tm bl o=true∨Nf tm o=true:=by
      have:=eo.1;simp only[aA,D3,bx]at this;rcases this with(h|h)|h
      ·exact .inl h
      ·exact .inr h.2
      ·exact .inr (.inr h.2)
     obtain⟨cK,ui,js⟩:=MN h.t ag;have h:R w0 n ρ m cK bl a w:=⟨ui,h.d,h.b,h.bK⟩;have hS:=down hl hp h.bK;rcases js with⟨hw,ag⟩|⟨hw,ag⟩
     ·have hlen:(j6 N 0 bl).length=bl.length:=Yo N 0 bl;obtain⟨ae,n',v,yr,nt,⟨hv,val,hr,ak⟩,JP⟩:=acs (L:=L) (bl:=j6 N 0 bl) dy (by rw[hlen];exact h.b.j6 N) hg ⟨w,up hl hp hS⟩ (by rw[hlen];exact ui) o G _ ag;rw[hlen]at hv;have hy:YieldsIf P ops (λw=>Mem w0 cB m0 (j6 N 0 pP) w) o val a:= .inl ⟨hw,λw' yy=>lG.elim (λhf=>avQ (ops:=ops) hf (ak w' (up hl hp yy))) (λhf=>hf.elim (λhf=>avP hf (ak w' (up hl hp yy))) (λhf=>avO hf (ak w' (up hl hp yy))))⟩;refine wpAnyH_take aA yt eo.2 (by simpa using CS) (λc a w hp=>absurd hp (wP _ _ _)) hy hS ?_;have hlt:e6 n bl.length ρ m n' bl.length ae m:=⟨yr,nt,bW _,λ_ _=>rfl⟩;exact ih ⟨eW.put (ui.ext nt yr (bW _) (λ_ _=>rfl)) o.dst hv hr,by rw[put_defers];exact h.d,h.b.ext nt yr (bW _),h.bK.sP h.b nt⟩ (hl.trans hlt) hp JP (af.later hlt (gr.refl _ _))
     ·refine wpAnyH_take aA yt eo.2 (by simpa using CS) (λc a w hp=>absurd hp (wP _ _ _)) (.inr ⟨hw,rfl⟩) hS ?_;exact ih (h.skip o.dst) hl hp ag af
   split at ag
   ·rename_i i hi;unfold alX at hi;cases yt:Ut ops with
    |false=>rw[yt]at hi;cases hi
    |true=>
    rw[yt,cond_true]at hi;have eo:=Uu hi;have CS:=ID hi;simp only[bx]at eo;cases aA:ops[i]? with
    |none=>simp only[aA]at ag;exact ag.elim
    |some o=>
     simp only[aA]at ag;obtain⟨cK,ui,js⟩:=MN h.t ag;have h:R w0 n ρ m cK bl a w:=⟨ui,h.d,h.b,h.bK⟩;have hS:=down hl hp h.bK;rcases js with⟨_,ag⟩|⟨hw,ag⟩
     ·exact ag.elim
     ·refine wpAnyH_take aA yt eo.2 (by simpa using CS) (λc a w hp=>absurd hp (wP _ _ _)) (.inr ⟨hw,rfl⟩) hS ?_;exact ih (h.skip o.dst) hl hp ag af
   unfold wpAnyH;refine⟨λhr=>absurd hr ph,λi hi=>?_⟩;have eo:=allT_holds ag i hi;unfold wpOp;cases aA:ops[i]? with
   |none=>simp only[aA]at eo;exact eo.elim
   |some o=>
    simp only[aA]at eo⊢;obtain⟨cK,ui,js⟩:=MN h.t eo;have h:R w0 n ρ m cK bl a w:=⟨ui,h.d,h.b,h.bK⟩;rcases js with⟨hw,Nn⟩|⟨hw,Nn⟩
    ·rw[if_pos hw];refine .inl (ano dy hg nu h Nn λn' ae m' cK bt eV dT w' h1 h2 h3 h4=>?_);cases hf:preB (j6 N 0 pP) (j6 N 0 bt)with
     |false=>rw[hf]at h4;exact h4.elim
     |true=>
      rw[hf,cond_true]at h4;have E2:=hl.trans h1;have hf:=amg hf;exact⟨down E2 hf h3.bK,ih h3 E2 hf h4 (af.later h1 h2)⟩
    ·rw[if_neg (by simp[hw])];exact⟨down hl hp h.bK,ih (h.skip o.dst) hl hp Nn af⟩
theorem Jc {inl:mj} {li:Nat->Option hN} {rounds:Nat} (hm:P.follows .mixedOrders=true) (dy:iM S P gl w0 cal) (hg:gM gl w0) (nu:ri S L w0 P inl):∀(c:Code),VL rd S L w0 P c (pU P gl cal inl li rounds c):=by
 intro c;induction c with
 |skip=>intro hd n tm bl k G ρ m a w Q h ag af;exact wpIn_skip (af .normal n ρ m tm bl G a w (e6.refl _ _ _ _) (gr.refl _ _) h ag)
 |exit id=>intro hd n tm bl k G ρ m a w Q h ag af;exact wpIn_exit (af (.exit id) n ρ m tm bl G a w (e6.refl _ _ _ _) (gr.refl _ _) h ag)
 |ret=>intro hd n tm bl k G ρ m a w Q h ag af;exact wpIn_ret (af .ret n ρ m tm bl G a w (e6.refl _ _ _ _) (gr.refl _ _) h ag)
 |region id ops draw=>
  intro hd n tm bl k G ρ m a w Q h ag af;have YS:ml S L w0 (k .normal) n bl.length ρ m G (uG Q .normal):=λn' ae m' cK bt eV dT w' h1 h2 h3 h4=>af .normal n' ae m' cK bt eV dT w' h1 h2 h3 h4;cases draw with
  |false=>
   simp only[pU,cond_false]at ag;refine aEj hd ?_;exact S3 dy hg nu ops.toList h ag YS
  |true=>
   simp only[pU,cond_true]at ag;cases aD:(K4 ops (Nc P cal ops)&&Um P (ops.toList.take (Nc P cal ops)))with
   |false=>
    simp only[aD,cond_false]at ag;cases hsz:cO (ops.toList.filter λo=> !abk o).length 12 with
    |false=>simp only[hsz,cond_false]at ag;exact ag.elim
    |true=>
     simp only[hsz,cond_true]at ag;have wS:R w0 n ρ m tm bl a w.drew:=⟨h.t,h.d,h.b,h.bK.grow (Uv (sW w))⟩;refine amt hm hd (wpAny_of_held (S:=λw=>Mem w0 ρ m (j6 (Nd ops tm bl) 0 bl) w) _ _ _ _ ?_);exact arx dy hg nu (λc a w h=>h) (N:=Nd ops tm bl) (by unfold Nd;cases abm ops<;>cases ops.toList.any RN<;>simp<;>exact Nat.min_le_left _ _) h.b ops.size wS (e6.refl _ _ _ _) (λ_ _ h=>h) ag YS
   |true=>
    simp only[aD,cond_true]at ag;simp only[bx]at aD;have hle:Nc P cal ops<=ops.toList.length:=by
     have h1:=aD.1;simp only[K4,bx]at h1;simpa using gU h1.1.1.2
    generalize Nc P cal ops=ph at*;have wS:R w0 n ρ m tm bl a w.drew:=⟨h.t,h.d,h.b,h.bK.grow (Uv (sW w))⟩;have key:=aH9 (P:=P) (Q:=uG Q) (a:=a) (w:=w) (l:=ops.toList) (C:=λw'=>Mem w0 ρ m bl w') ph (Lx P ops) hm (by rw[toL];exact aD.1) (λw' yy=>wS.bK.grow yy) (λj o aM aA gG b w'=>by
     have:=aIP (l:=ops.toList) (P:=P) aD.2 aM aA gG b w';rw[toL]at this;exact this) (by
     rw[toL];refine Rd dy hg h.b ⟨_,h.bK⟩ _ (bW _) (agree.refl _ _) h.t h.d ag λn' ae cK wB h1 h2 h3 h4 h5 im b w' CO yn Nu=>?_;have hl:e6 n bl.length ρ m n' bl.length ae m:=⟨h1,h2,bW _,λ_ _=>rfl⟩;have au2:=(wS.bK.grow yn).sP h.b h2;refine WY (S:=S) (L:=L) (w0:=w0) (P:=P) (K:=λb w'=>wpList P ops (calm (uG Q)) (ops.toList.drop ph) b w') CO Nu wS.bK.ext.size wS.bK.ib (ops.toList.take ph) 0 (λj aM=>?_) (by simp;exact F2 (by simpa using hle)) ⟨h3,h4,h.b.ext h2 h1 (bW _),au2⟩ (λnB p qN hp=> .inl ?_) rfl (λt=>⟨λ⟨j,o,aM,_⟩=>by omega,λ_=>rfl⟩) h5 (λKq zg aNK anA aKO VQ ae9 sS k1 k2 k3 k4=>S3 dy hg nu _ k3 k4 ((YS.later hl (gr.refl _ _)).later k1 k2)) h4
     ·have av6:j<ph:=by simp at aM;omega
      rw[tI,if_pos av6];simp
     ·rw[yD (h.b _ (fC qN)) h2]at hp;exact wS.bK.lt qN hp)
    rw[toL]at key;exact amt hm hd key
 |seq x y axX RG=>
  intro hd n tm bl k G ρ m a w Q h ag af;have EZ:rd=none∨pr x=true:=hd.imp id λh=>by simp only[pr,bx]at h;exact h.1
  have zH:rd=none∨pr y=true:=hd.imp id λh=>by simp only[pr,bx]at h;exact h.2
  refine wpIn_seq (axX EZ n tm bl _ G ρ m a w _ h ag λx n' ae m' cK bt eV dT w' h1 h2 h3 h4=>?_);cases x with
  |normal=>exact RG zH n' cK bt k eV ae m' dT w' Q h3 h4 (af.later h1 h2)
  |exit id=>exact af (.exit id) n' ae m' cK bt eV dT w' h1 h2 h3 h4
  |ret=>exact af .ret n' ae m' cK bt eV dT w' h1 h2 h3 h4
 |cond x y z RG aj7=>
  intro hd n tm bl k G ρ m a w Q h ag af;simp only[pU]at ag;have hx:=cS h.t x;split at ag
  ·rename_i b hb;rw[hb]at hx;have dN:a.eval x= .bool (b.den ρ):=hx.2;have EZ:rd=none∨pr y=true:=hd.imp id λh=>by simp only[pr,bx]at h;exact h.1
   have zH:rd=none∨pr z=true:=hd.imp id λh=>by simp only[pr,bx]at h;exact h.2
   refine wpIn_cond dN ?_;split at ag
   ·rename_i v;cases v with
    |true=>simp only[cond_true]at ag;exact RG EZ n tm bl k G ρ m a w Q h ag af
    |false=>simp only[cond_false]at ag;exact aj7 zH n tm bl k G ρ m a w Q h ag af
   ·simp only[T.holds]at ag;cases hd:bH.den ρ b with
    |true=>exact RG EZ n _ bl k G ρ m a w Q ⟨K3 hd h.t,h.d,h.b,h.bK⟩ (ag.1 (by simpa using hd)) af
    |false=>exact aj7 zH n _ bl k G ρ m a w Q ⟨K3 hd h.t,h.d,h.b,h.bK⟩ (ag.2 (by simpa using hd)) af
  ·exact ag.elim
 |block id x ih=>
  intro hd n tm bl k G ρ m a w Q h ag af;refine wpIn_block (ih hd n tm bl _ G ρ m a w _ h ag λx n' ae m' cK bt eV dT w' h1 h2 h3 h4=>?_);cases x with
  |normal=>exact af .normal n' ae m' cK bt eV dT w' h1 h2 h3 h4
  |ret=>exact af .ret n' ae m' cK bt eV dT w' h1 h2 h3 h4
  |exit E9=>
   simp only at h4;simp only[X.to,Exit.inBlock];cases hb:aP E9 id with
   |true=>
    simp only[hb,cond_true]at h4;rw[if_pos (b1 hb)];exact af .normal n' ae m' cK bt eV dT w' h1 h2 h3 h4
   |false=>
    simp only[hb,cond_false]at h4;rw[if_neg (λe=>by subst e;rw[show aP E9 E9=true from IC E9]at hb;cases hb)];exact af (.exit E9) n' ae m' cK bt eV dT w' h1 h2 h3 h4
 |loop x ih=>
  intro hd n tm bl k G ρ m a w Q h ag af;simp only[pU]at ag;split at ag
  ·exact ayV (c:=x) hd ih h ag af
  ·exact wpIn_loop_rounds rounds (amC (c:=x) hd ih rounds h ag af)
 |_=>intro hd n tm bl k G ρ m a w Q h ag af;exact ag.elim
def H4 (a:Act):ResultVar->Sem aW
 | .tmp t=>Uw (a.tmps.getD t undef)
 | .cell x t=>do loadVar t (<-asAddr (a.tmps.getD x undef))
theorem aEp {n:Nat} {ρ:Env} {m:Nat->Nat} {bl:List aJ} {tm:List V} {a:Act} {w:aG} {r:ResultVar} {u:W} (hg:gM gl w0) (h:R w0 n ρ m tm bl a w) (hr:OV P gl bl tm r=some u):
 u.ok n bl.length ρ/\(H4 a r).run P w= .ok (u.den ρ m) w:=by
 cases r with
 |tmp t=>
  simp only[OV]at hr;cases aD:tm[t]? with
  |none=>simp[aD]at hr
  |some v=>
   obtain⟨h1,x,h2,h3⟩:=h.t.2 t v aD;simp only[aD]at hr;cases v with
   |w aGm=>
    simp only[bj]at hr;subst hr;refine⟨h1,?_⟩;have:a.tmps.getD t undef=aGm.den ρ m:=by simp[h2];exact h3
    simp only[H4,this];rfl
   |_=>simp at hr
 |cell x t=>
  simp only[OV]at hr;cases aD:tm[x]? with
  |none=>simp[aD]at hr
  |some v=>
   obtain⟨h1,y,h2,h3⟩:=h.t.2 x v aD;simp only[aD]at hr;cases v with
   |jh l=>simp at hr
   |any=>simp at hr
   |sL _ _ _=>simp at hr
   |s5 _ _=>simp at hr
   |w q=>
    cases q with
    |agg l=>simp at hr
    |one p=>
     simp only at hr;have hy:a.tmps.getD x undef=p.den ρ m:=by simp[h2];exact h3
     cases hc:Ja bl gl p with
     |none=>simp[hc]at hr
     |some cs=>
      obtain⟨g,o,hp,cb,hcell⟩:=Xz h.bK h.b hg hc;simp only[H4,hy,hp];cases rE:lf P t with
      |none=>simp[hc,rE]at hr
      |some b=>
       cases b with
       |true=>
        cases hs:gT P t with
        |none=>simp[hc,rE,hs]at hr
        |some k=>
         simp only[hc,rE,hs]at hr;cases af:cO k cs.length with
         |false=>simp[af]at hr
         |true=>
          simp only[af,cond_true,bj]at hr;subst hr;have af:=gU af;refine⟨λa h=>cb a (nd h),?_⟩;have hl:=Pp (P:=P) w ⟨g,o,none⟩ ((cs.take k).map (A.den ρ m)) λj v aM=>by
           rw[kX];rw[se]at aM;cases ak:(cs.take k)[j]? with
           |none=>simp[ak]at aM
           |some a=>
            simp only[ak,Az,bj]at aM;subst aM;refine hcell j a ?_;rw[tI]at ak;split at ak
            ·exact ak
            ·cases ak
          simp only[pG,sf,F2 af]at hl;simp[asAddr,loadVar,tz rE,kq hs,hl,W.den]
       |false=>
        cases cs with
        |nil=>simp[hc,rE]at hr
        |cons z r=>
         simp only[hc,rE,bj]at hr;subst hr;refine⟨cb z (by simp),?_⟩;have:=hcell 0 z rfl;simp only[oX]at this;simp[asAddr,loadVar,tz rE,this,W.den]
theorem amy {n:Nat} {ρ:Env} {m:Nat->Nat} {bl:List aJ} {tm:List V} {a:Act} {w:aG} (hg:gM gl w0) (h:R w0 n ρ m tm bl a w):∀{rs:List ResultVar} {l:List W},H5 P gl bl tm rs=some l->
 (∀u∈l,W.ok n bl.length ρ u)/\(rs.mapM (m:=Sem) (H4 a)).run P w= .ok (l.map (W.den ρ m)) w
 |[],l,hr=>by simp[H5]at hr;subst hr;exact⟨by simp,by simp⟩
 |r::s,l,hr=>by
  simp only[H5]at hr;cases h1:OV P gl bl tm r with
  |none=>simp[h1]at hr
  |some u=>
   cases h2:H5 P gl bl tm s with
   |none=>simp[h1,h2]at hr
   |some l'=>
    simp only[h1,h2,bj]at hr;subst hr;have az:=aEp hg h h1;have aI:=amy hg h h2;refine⟨λx hx=>by rcases List.mem_cons.1 hx with rfl|hx;exact az.1;exact aI.1 x hx,?_⟩;rw[List.mapM_cons,jl];simp only[az.2,aI.2,jF,jl,kv,du]
theorem acx {fn:Func} {n:Nat} {ρ:Env} {m:Nat->Nat} {bl:List aJ} {tm:List V} {a:Act} {w:aG} {k:RK} {G:fe} (hg:gM gl w0) (h:R w0 n ρ m tm bl a w) (ag:(OT P gl fn n tm bl k).holds S L G ρ):
 ∃v val,V.ok n bl.length ρ v/\v.rel ρ m val/\(results fn a.tmps).run P w= .ok val w/\(k n v bl).holds S L G ρ:=by
 unfold OT at ag;cases hr:H5 P gl bl tm fn.results.toList with
 |none=>
  simp only[hr]at ag;cases aA:abP tm fn.results.toList with
  |none=>simp[aA,T.holds]at ag
  |some v=>
   simp only[aA]at ag;obtain⟨t,e,hv⟩:∃t,fn.results.toList=[.tmp t]/\tm[t]?=some v:=by
    unfold abP at aA;split at aA
    ·rename_i t he;refine⟨t,he,?_⟩;split at aA<;>first|(cases aA;assumption)|cases aA
    ·cases aA
   obtain⟨h1,x,h2,h3⟩:=h.t.2 t v hv;refine⟨v,x,h1,h3,?_,ag⟩;have pZ:fn.results=#[.tmp t]:=by rw[<-lO (xs:=fn.results),e]
   have ex:a.tmps.getD t undef=x:=by simp[h2]
   have e:results fn a.tmps=(do let vs<-fn.results.mapM (H4 a);Uw (if h:vs.size=1 then vs[0]else .tuple vs)):=by
    unfold results
    congr 1
   rw[e,pZ,aI3];simp[jl,Sem.run_map,jF,H4,h2]
 |some l=>
  obtain⟨h1,h2⟩:=amy hg h hr;have jv:(results fn a.tmps).run P w= .ok (if h:(l.map (W.den ρ m)).toArray.size=1 then(l.map (W.den ρ m)).toArray[0]else .tuple (l.map (W.den ρ m)).toArray) w:=by
   have e:results fn a.tmps=(do let vs<-fn.results.mapM (H4 a);Uw (if h:vs.size=1 then vs[0]else .tuple vs)):=by
    unfold results
    congr 1
   rw[e,aI3];simp only[jl,Sem.run_map,jF,h2,kv]
  simp only[hr]at ag;split at ag
  ·rename_i u heq;have heq:=jC heq;subst heq;exact⟨.w u,_,h1 u (by simp),rfl,by rw[jv];simp,ag⟩
  ·rename_i l' dA heq;have heq:=jC heq;subst heq;refine⟨.jh l,_,h1,rfl,?_,ag⟩;rw[jv,dif_neg];intro hs;simp at hs
   match l,hs,dA with
   |[u],_,dA=>exact dA u rfl
  ·rename_i heq;cases heq
theorem Wc {ρ:Env} {m:Nat->Nat}:∀{vs:List V} {xs:List aW},fQ ρ m vs xs->vs.length=xs.length
 |[],[],_=>rfl
 |_::_,_::_,h=>by simp[Wc h.2]
 |[],_::_,h=>h.elim
 |_::_,[],h=>h.elim
theorem Wa {n nb:Nat} {ρ:Env} {m:Nat->Nat} (k:Nat):∀{vs:List V} {xs:List aW},(∀v∈vs,V.ok n nb ρ v)->fQ ρ m vs xs->F9 n nb ρ m (vs++KR k) (xs++fD k undef)
 |[],[],_,_=>by
  simp only[gq];induction k with
  |zero=>trivial
  |succ k ih=>exact⟨by intro x hx;simp at hx,rfl,ih⟩
 |v::r,x::s,h,hr=>⟨h v (by simp),hr.1,Wa k (λu hu=>h u (eI _ hu)) hr.2⟩
 |[],_::_,_,h=>h.elim
 |_::_,[],_,h=>h.elim
theorem agR (sF:w0.ds=[]) {li:dL->Nat->Option hN} {rounds:Nat} {inl:mj} (hm:P.follows .mixedOrders=true) (dy:iM S P gl w0 cal) (hg:gM gl w0) (ih:ri S L w0 P inl):ri S L w0 P (Qc P gl cal inl li rounds):=by
 intro f n vs bl k G ρ m w xs R' hb mY lu hrel ag af;unfold Qc at ag;cases hf:P.funcs[f]? with
 |none=>simp[hf,T.holds]at ag
 |some fn=>
  cases CL:fn.body with
  |none=>simp[hf,CL,T.holds]at ag
  |some c=>
   simp only[hf,CL]at ag;cases hc:(!(fn.name== "runtime.NumGoroutine")&&cO vs.length fn.ntmps)with
   |false=>simp[hc,T.holds]at ag
   |true=>
    simp only[hc,cond_true]at ag;simp only[bx,Bool.not_eq_true']at hc;have hlen:=Wc hrel;refine⟨?_,calls_of_wp hf CL ?_⟩
    ·have h1:¬fn.name= "runtime.NumGoroutine" :=by have:=hc.1;simpa using this
     simp[callFunc,hf,CL,h1]
    ·have hR:R w0 n ρ m (vs++KR (fn.ntmps-vs.length)) bl {tmps:=xs.toArray++Ci (fn.ntmps-xs.toArray.size) undef,defers:=[]} w:=by
      refine⟨?_,sF.symm,hb,mY⟩;have:=PV (Wa (fn.ntmps-vs.length) lu hrel);have e:(xs++fD (fn.ntmps-vs.length) undef).toArray=xs.toArray++Ci (fn.ntmps-xs.toArray.size) undef:=by
       simp[hlen]
      rw[e]at this;exact this
     refine wpIn_wide.1 (Jc (rd:=none) hm dy hg ih c (.inl rfl) n _ bl _ G ρ m _ w _ hR ag λx n' ae m' cK bt eV dT w' h1 h2 h3 h4=>?_);cases x with
     |exit id=>exact h4.elim
     |normal=>
      obtain⟨v,val,cG,cC,dE,gP⟩:=acx hg h3 h4;exact⟨h3.d.trans sF,val,dE,af n' v bt eV ae m' w' val h1 h2 cG cC h3.b h3.bK gP⟩
     |ret=>
      obtain⟨v,val,cG,cC,dE,gP⟩:=acx hg h3 h4;exact⟨h3.d.trans sF,val,dE,af n' v bt eV ae m' w' val h1 h2 cG cC h3.b h3.bK gP⟩
theorem Xt (sF:w0.ds=[]) {li:dL->Nat->Option hN} {rounds:Nat} (hm:P.follows .mixedOrders=true) (dy:iM S P gl w0 cal) (hg:gM gl w0):∀d,ri S L w0 P (Mk P gl cal li rounds d)
 |0=>λf n vs bl k G ρ m w xs R' _ _ _ _ ag _=>ag.elim
 |d+1=>agR sF hm dy hg (Xt sF hm dy hg d)
def xZ (S:Nat->List Int->List Int->Prop) (L:V->Env->Prop) (w0:eL) (P:b4) (bc:qq):Prop:=
 ∀f g,bc f=some g->∀n vs bl k G ρ m w xs R',dj n (pE bl) ρ bl->Mem w0 ρ m bl w->(∀v∈vs,V.ok n bl.length ρ v)->fQ ρ m vs xs->(g n vs bl k).holds S L G ρ->Ge S L w0 k n bl.length ρ m G R'->
  (callFunc f xs.toArray).run P w= .ok (.enter f xs.toArray) w/\nJ P f xs.toArray w R'
theorem aA2 {bc:qq} {inl:mj} (n0:xZ S L w0 P bc) (h:ri S L w0 P inl):ri S L w0 P (abR bc inl):=by
 intro f n vs bl k G ρ m w xs R' h1 h2 h3 h4 h5 h6;unfold abR at h5;cases hf:bc f with
 |none=>rw[hf]at h5;exact h f n vs bl k G ρ m w xs R' h1 h2 h3 h4 h5 h6
 |some g=>rw[hf]at h5;exact n0 f g hf n vs bl k G ρ m w xs R' h1 h2 h3 h4 h5 h6
theorem Qt (sF:w0.ds=[]) {bc:qq} {li:dL->Nat->Option hN} {rounds:Nat} (hm:P.follows .mixedOrders=true) (dy:iM S P gl w0 cal) (hg:gM gl w0) (n0:xZ S L w0 P bc):∀d,ri S L w0 P (I9 bc P gl cal li rounds d)
 |0=>λf n vs bl k G ρ m w xs R' _ _ _ _ ag _=>ag.elim
 |d+1=>agR sF hm dy hg (aA2 n0 (Qt sF hm dy hg n0 d))
theorem Mem.extends {b w w':aG} {ρ:Env} {m:Nat->Nat} {bl:List aJ} (h:Mem ⟨b,w,λ_=>False,λ_=>False,[]⟩ ρ m bl w'):w.Extends w':=by
 have tZ:∀i:Nat,i<w.heap.size->w'.heap[i]?=w.heap[i]?:=λi hi=>h.jU i hi id;exact⟨h.j7,h.mw,h.lH,h.ib,λa ha=>by simp only[nK,tZ a.block ha],λa ha=>by simp only[D4,tZ a.block ha],tZ⟩
theorem asj {b w:aG} {li:dL->Nat->Option hN} {rounds d:Nat} (hm:P.follows .mixedOrders=true) (dy:iM S P gl ⟨b,w,λ_=>False,λ_=>False,[]⟩ cal) (hg:gM gl ⟨b,w,λ_=>False,λ_=>False,[]⟩) (f:dL) (n:Nat) (vs:List V) (ρ:Env) (xs:List aW) (he:b.Extends w)
 (lu:∀v∈vs,V.ok n 0 ρ v) (hrel:fQ ρ (λ_=>0) vs xs) (ag:(Mk P gl cal li rounds d f n vs [] λn' v _=> .leaf v).holds S (λv ae=>L v ae) (λ_ _=>False) ρ):
 nJ P f xs.toArray w λe w'=>∃v ae m val nb,e= .returned val/\v.rel ae m val/\(∃n',V.ok n' nb ae v)/\L v ae/\w.Extends w':=by
 have mY:Mem ⟨b,w,λ_=>False,λ_=>False,[]⟩ ρ (λ_=>0) [] w:=⟨he,rfl,rfl,rfl,bW _,λ_ _ _=>rfl,λi cs t h=>by simp at h,λi sh off code cap kind t h=>by simp at h,λi j p q h=>by simp at h⟩;refine(Xt rfl (L:=L) (li:=li) (rounds:=rounds) hm dy hg d f n vs [] (λn' v _=> .leaf v) (λ_ _=>False) ρ (λ_=>0) w xs _ (λp hp=>by simp at hp) mY lu hrel ag ?_).2;intro n' v bt eV ae m' w' val h1 h2 h3 h4 h5 h6 h7;exact⟨v,ae,m',val,_,rfl,h4,⟨n',h3⟩,h7,h6.extends⟩
end
end Go.b9
namespace Go.b9
open M
def aQ.sym (s:Nat):aQ->A
 |int k lo hi=> .int k ⟨.var s,lo,hi⟩
 |str=> .str (.var s)
 |bool=> .bool (.eq (.var s) (.const 1))
inductive D where
 |str
 |int (k:dW) (lo hi:Int)
 |bool
 |agg (k:dW) (n:Nat) (lo hi:Int)
 |mix (l:List aQ)
 |Ai (l:List UInt8)
 |gn (k:dW) (c:Int)
def ai (lo hi:Int):Nat->List (Int×Int)
 |0=>[]
 |n+1=>(lo,hi)::ai lo hi n
noncomputable def D.bds:D->List (Int×Int)
 |str=>[(0,qu)]
 |int _ lo hi=>[(lo,hi)]
 |bool=>[(0,1)]
 |agg _ n lo hi=>ai lo hi n
 |mix l=>l.map aQ.hA
 |Ai _=>[]
 |gn .. =>[]
def D.num:D->Nat
 |str=>1
 |int .. =>1
 |bool=>1
 |agg _ n _ _=>n
 |mix l=>l.length
 |Ai _=>0
 |gn .. =>0
def D.val:D->List Int->aW
 |str,zs=> .string (en (bF (zs.getD 0 0)))
 |int k _ _,zs=> .int k (zs.getD 0 0)
 |bool,zs=> .bool (decide (zs.getD 0 0=1))
 |agg k n _ _,zs=> .agg ((zs.take n).map (.int k)).toArray
 |mix l,zs=> .agg (wi aQ.val l zs).toArray
 |Ai l,_=> .string (en (yB l))
 |gn k c,_=> .int k c
def xx (k:dW) (lo hi:Int):Nat->Nat->List A
 |_,0=>[]
 |s,n+1=> .int k ⟨.var s,lo,hi⟩::xx k lo hi (s+1) n
def Ko:Nat->List aQ->List A
 |_,[]=>[]
 |s,c::r=>c.sym s::Ko (s+1) r
def D.sym (s:Nat):D->W
 |str=> .one (.str (.var s))
 |int k lo hi=> .one (.int k ⟨.var s,lo,hi⟩)
 |bool=> .one (.bool (.eq (.var s) (.const 1)))
 |agg k n lo hi=> .agg (xx k lo hi s n)
 |mix l=> .agg (Ko s l)
 |Ai l=> .one (.str (.const (kJ (yB l))))
 |gn k c=> .one (.int k (b0.const c))
noncomputable def aY:List D->List (Int×Int)
 |[]=>[]
 |d::r=>d.bds++aY r
def pB:List D->List Int->List aW
 |[],_=>[]
 |d::r,zs=>d.val zs::pB r (zs.drop d.num)
def vo:Nat->List D->List W
 |_,[]=>[]
 |s,d::r=>d.sym s::vo (s+d.num) r
theorem dR:∀{b:List (Int×Int)} {l:List Int},ab b l->l.length=b.length
 |[],[],_=>rfl
 |_::_,_::_,h=>by simp[dR h.2.2]
 |[],_::_,h=>h.elim
 |_::_,[],h=>h.elim
theorem H3 (lo hi:Int):∀n,(ai lo hi n).length=n
 |0=>rfl
 |n+1=>by simp[ai,H3 lo hi n]
theorem D.Mb (d:D):d.bds.length=d.num:=by cases d<;>simp[D.bds,D.num,H3]
theorem Bm:∀{b b':List (Int×Int)} {l:List Int},ab (b++b') l->ab b (l.take b.length)/\ab b' (l.drop b.length)
 |[],_,_,h=>⟨trivial,h⟩
 |_::_,_,_::_,h=>by
  have ih:=Bm h.2.2;exact⟨⟨h.1,h.2.1,ih.1⟩,ih.2⟩
 |_::_,_,[],h=>h.elim
def kf (ρ:Env) (s:Nat) (zs:List Int):Prop:=∀j,j<zs.length->ρ (s+j)=zs.getD j 0
theorem kf.bR (ρ:Env) (s:Nat) (zs:List Int):kf (bR ρ s zs) s zs:=λj aM=>Le zs s ρ j aM
theorem kf.tail {ρ:Env} {s:Nat} {z:Int} {zs:List Int} (h:kf ρ s (z::zs)):ρ s=z/\kf ρ (s+1) zs:=by
 refine⟨by simpa using h 0 (by simp),λj aM=>?_⟩;have:=h (j+1) (by simpa using aM);rw[show s+1+j=s+(j+1) by omega,this];simp
theorem kf.drop {ρ:Env} {s:Nat} {zs:List Int} (h:kf ρ s zs) (k:Nat):kf ρ (s+k) (zs.drop k):=λj aM=>by
 have:=h (k+j) (by simp at aM;omega);rw[show s+k+j=s+(k+j) by omega,this];simp[U]
theorem acw {ρ:Env} {m:Nat->Nat} {N nb:Nat} {k:dW} {lo hi:Int}:∀(n s:Nat) (zs:List Int),ab (ai lo hi n) (zs.take n)->kf ρ s zs->s+n<=N->
 (∀a∈xx k lo hi s n,A.ok N nb ρ a)/\(xx k lo hi s n).map (A.den ρ m)=(zs.take n).map (.int k)
 |0,s,zs,_,_,_=>by simp[xx]
 |n+1,s,[],h,_,_=>by simp[ai,ab]at h
 |n+1,s,z::zs,h,ha,cP=>by
  have aD:=ha.tail;simp only[ai,nL,ab]at h;obtain⟨h1,h2⟩:=acw (m:=m) (nb:=nb) (k:=k) (N:=N) n (s+1) zs h.2.2 aD.2 (by omega);refine⟨λa hm=>?_,by simp only[xx,du,A.den,I.db,aD.1,h2,nL]⟩;rcases List.mem_cons.1 hm with rfl|hm
  ·exact⟨I.hj (by omega),by simp only[I.db,aD.1];exact h.1,by simp only[I.db,aD.1];exact h.2.1⟩
  ·exact h1 a hm
theorem aQ.O6 {ρ:Env} {m:Nat->Nat} {N nb:Nat} (c:aQ) {s:Nat} {z:Int} (h0:c.hA.1<=z) (h1:z<=c.hA.2) (hz:ρ s=z) (cP:s<N):(c.sym s).ok N nb ρ/\(c.sym s).den ρ m=c.val z:=by
 cases c with
 |int k lo hi=>exact⟨⟨I.hj cP,by simp only[I.db,hz];exact h0,by simp only[I.db,hz];exact h1⟩,by simp[aQ.sym,aQ.val,A.den,I.db,hz]⟩
 |str=>exact⟨⟨I.hj cP,by rw[I.db,hz];exact h0,by rw[I.db,hz];exact h1⟩,by simp[aQ.sym,aQ.val,A.den,I.db,hz]⟩
 |bool=>exact⟨⟨I.hj cP,I.dF _ _⟩,by simp[aQ.sym,aQ.val,A.den,bH.den,I.db,I.bq,hz]⟩
theorem alv {ρ:Env} {m:Nat->Nat} {N nb:Nat}:∀(l:List aQ) (s:Nat) (zs:List Int),ab (l.map aQ.hA) (zs.take l.length)->kf ρ s zs->s+l.length<=N->
 (∀a∈Ko s l,A.ok N nb ρ a)/\(Ko s l).map (A.den ρ m)=wi aQ.val l zs
 |[],s,zs,_,_,_=>by simp[Ko]
 |_::_,s,[],h,_,_=>by simp[ab]at h
 |c::r,s,z::zs,h,ha,cP=>by
  have aD:=ha.tail;simp only[du,ke,nL,ab]at h;obtain⟨h1,h2⟩:=alv (m:=m) (nb:=nb) (N:=N) r (s+1) zs h.2.2 aD.2 (by simp at cP;omega);have hc:=c.O6 (m:=m) (nb:=nb) (N:=N) h.1 h.2.1 aD.1 (by simp at cP;omega);refine⟨λa hm=>?_,by simp only[Ko,du,hc.2,h2,Ux]⟩;rcases List.mem_cons.1 hm with rfl|hm
  ·exact hc.1
  ·exact h1 a hm
theorem D.O6 {ρ:Env} {m:Nat->Nat} {N nb:Nat} (d:D) {s:Nat} {zs:List Int} (h:ab d.bds (zs.take d.num)) (ha:kf ρ s zs) (cP:s+d.num<=N):(d.sym s).ok N nb ρ/\(d.sym s).den ρ m=d.val zs:=by
 cases d with
 |str=>
  cases zs with
  |nil=>simp[D.bds,ab]at h
  |cons z r=>
   have aD:=ha.tail;simp only[D.bds,D.num,nL,ab]at h;simp only[D.num]at cP;exact⟨⟨I.hj (by omega),by rw[I.db,aD.1];exact h.1,by rw[I.db,aD.1];exact h.2.1⟩,by simp[D.sym,W.den,A.den,D.val,I.db,aD.1]⟩
 |int k lo hi=>
  cases zs with
  |nil=>simp[D.bds,ab]at h
  |cons z r=>
   have aD:=ha.tail;simp only[D.bds,D.num,nL,ab]at h;simp only[D.num]at cP;exact⟨⟨I.hj (by omega),by simp only[I.db,aD.1];exact h.1,by simp only[I.db,aD.1];exact h.2.1⟩,by simp[D.sym,W.den,A.den,D.val,I.db,aD.1]⟩
 |bool=>
  cases zs with
  |nil=>simp[D.bds,ab]at h
  |cons z r=>
   have aD:=ha.tail;simp only[D.num]at cP;exact⟨⟨I.hj (by omega),I.dF _ _⟩,by simp[D.sym,W.den,A.den,D.val,bH.den,I.db,I.bq,aD.1]⟩
 |agg k n lo hi=>
  have:=acw (m:=m) (nb:=nb) (k:=k) n s zs h ha cP;exact⟨this.1,by simp only[D.sym,W.den,D.val,this.2]⟩
 |mix l=>
  have:=alv (m:=m) (nb:=nb) l s zs h ha cP;exact⟨this.1,by simp only[D.sym,W.den,D.val,this.2]⟩
 |Ai l=>exact⟨⟨I.dF _ _,by rw[I.bq];exact aym l⟩,by simp[D.sym,W.den,A.den,D.val,I.bq,BK]⟩
 |gn k c=>exact⟨b0.qD _ _ c,by simp[D.sym,W.den,A.den,D.val,b0.const,I.bq]⟩
theorem TJ {ρ:Env} {m:Nat->Nat} {N nb:Nat}:∀(ds:List D) {s:Nat} {zs:List Int},ab (aY ds) zs->kf ρ s zs->s+(aY ds).length<=N->(∀u∈vo s ds,W.ok N nb ρ u)/\(vo s ds).map (W.den ρ m)=pB ds zs
 |[],s,zs,_,_,_=>by simp[vo,pB]
 |d::r,s,zs,h,ha,cP=>by
  have hs:=Bm h;rw[D.Mb]at hs;simp only[aY,gY,D.Mb]at cP;have h1:=d.O6 (m:=m) (nb:=nb) hs.1 ha (N:=N) (by omega);have h2:=TJ (m:=m) (nb:=nb) (N:=N) r hs.2 (ha.drop d.num) (by omega);exact⟨λu hu=>by rcases List.mem_cons.1 hu with rfl|hu;exact h1.1;exact h2.1 u hu,by simp[vo,pB,h1.2,h2.2]⟩
def H6 (ds:List D) (s:Nat):V:=match vo s ds with|[u]=> .w u|l=> .jh l
def oO (ds:List D) (zs:List Int):aW:=match pB ds zs with|[x]=>x|l=> .tuple l.toArray
def tW (lo hi:Int) (x:b0):Bool:=decide (lo<=x.lo)&&decide (x.hi<=hi)
def ow (k:dW) (lo hi:Int):List A->Option (List I)
 |[]=>some []
 | .int bI x::r=>cond (decide (k=bI)&&tW lo hi x) (match ow k lo hi r with|some l=>some (x.l::l)|none=>none) none
 |_::_=>none
def aQ.fit:aQ->A->Option I
 |int k lo hi,.int bI x=>cond (decide (k=bI)&&tW lo hi x) (some x.l) none
 |str,.str l=>some l
 |bool,.bool (.lit b)=>some (.const (cond b 1 0))
 |_,_=>none
def u4:List aQ->List A->Option (List I)
 |[],[]=>some []
 |c::r,a::s=>match c.fit a,u4 r s with|some x,some l=>some (x::l)|_,_=>none
 |_,_=>none
def GV:D->V->Option (List I)
 | .int k lo hi,.w (.one (.int bI x))=>cond (decide (k=bI)&&tW lo hi x) (some [x.l]) none
 | .agg k n lo hi,.w (.agg l)=>cond (aP l.length n) (ow k lo hi l) none
 | .mix l,.w (.agg s)=>u4 l s
 | .str,.w (.one (.str l))=>some [l]
 | .bool,.w (.one (.bool (.lit b)))=>some [.const (cond b 1 0)]
 | .Ai l,.w (.one (.str x))=>match x.eT with|some c=>cond (decide (c=kJ (yB l))) (some []) none|none=>none
 | .gn k c,.w (.one (.int bI x))=>match x.l.eT with|some d=>cond (decide (k=bI)&&decide (d=c)) (some []) none|none=>none
 |_,_=>none
def tX:List D->List V->Option (List I)
 |[],[]=>some []
 |d::r,v::s=>match GV d v,tX r s with|some a,some b=>some (a++b)|_,_=>none
 |_,_=>none
theorem MH {n:Nat} {ρ:Env} {lo hi:Int} {x:b0} (h:tW lo hi x=true) (hx:x.ok n ρ):lo<=x.l.den ρ/\x.l.den ρ<=hi:=by
 simp only[tW,bx,decide_eq_true_eq]at h;have:=hx.2;omega
theorem QU {n nb:Nat} {ρ:Env} {m:Nat->Nat} {k:dW} {lo hi:Int}:∀{l:List A} {r:List I},ow k lo hi l=some r->(∀a∈l,A.ok n nb ρ a)->r.length=l.length/\ab (ai lo hi l.length) (r.map (·.den ρ))/\l.map (A.den ρ m)=(r.map (·.den ρ)).map (.int k)
 |[],r,h,_=>by simp[ow]at h;subst h;exact⟨rfl,trivial,rfl⟩
 | .int bI x::s,r,h,cb=>by
  simp only[ow]at h;cases hc:(decide (k=bI)&&tW lo hi x)with
  |false=>simp[hc]at h
  |true=>
   simp only[hc,cond_true]at h;simp only[bx,decide_eq_true_eq]at hc;cases hr:ow k lo hi s with
   |none=>simp[hr]at h
   |some r'=>
    simp only[hr,bj]at h;subst h;obtain⟨h1,h2,h3⟩:=QU (m:=m) hr λa ha=>cb a (eI _ ha);have hx:x.ok n ρ:=cb (.int bI x) (by simp);have hf:=MH hc.2 hx;exact⟨by simp[h1],⟨hf.1,hf.2,h2⟩,by simp only[du,h3,A.den,hc.1]⟩
 | .bool _::_,_,h,_=>by simp[ow]at h
 | .ptr .. ::_,_,h,_=>by simp[ow]at h
 | .q1 .. ::_,_,h,_=>by simp[ow]at h
 | .gptr .. ::_,_,h,_=>by simp[ow]at h
 | .slc .. ::_,_,h,_=>by simp[ow]at h
 | .con _::_,_,h,_=>by simp[ow]at h
 | .str _::_,_,h,_=>by simp[ow]at h
theorem aQ.atC {n nb:Nat} {ρ:Env} {m:Nat->Nat} {c:aQ} {a:A} {l:I} (h:c.fit a=some l) (cb:a.ok n nb ρ):(c.hA.1<=l.den ρ/\l.den ρ<=c.hA.2)/\a.den ρ m=c.val (l.den ρ):=by
 unfold aQ.fit at h;split at h
 ·rename_i k lo hi bI x;cases hc:(decide (k=bI)&&tW lo hi x)with
  |false=>simp[hc]at h
  |true=>
   simp only[hc,cond_true,bj]at h;subst h;simp only[bx,decide_eq_true_eq]at hc;exact⟨MH hc.2 cb,by simp only[A.den,aQ.val,hc.1]⟩
 ·simp only[bj]at h;subst h;exact⟨cb.2,rfl⟩
 ·rename_i b;simp only[bj]at h;subst h;cases b<;>simp[aQ.hA,aQ.val,A.den,bH.den,I.bq]
 ·cases h
theorem ah2 {n nb:Nat} {ρ:Env} {m:Nat->Nat}:∀{d:List aQ} {l:List A} {r:List I},u4 d l=some r->(∀a∈l,A.ok n nb ρ a)->r.length=d.length/\ab (d.map aQ.hA) (r.map (·.den ρ))/\l.map (A.den ρ m)=wi aQ.val d (r.map (·.den ρ))
 |[],[],r,h,_=>by simp[u4]at h;subst h;exact⟨rfl,trivial,rfl⟩
 |c::d,a::s,r,h,cb=>by
  simp only[u4]at h;cases hx:c.fit a with
  |none=>simp[hx]at h
  |some x=>
   cases hr:u4 d s with
   |none=>simp[hx,hr]at h
   |some r'=>
    simp only[hx,hr,bj]at h;subst h;obtain⟨h1,h2,h3⟩:=ah2 (m:=m) hr λa ha=>cb a (eI _ ha);have hf:=aQ.atC (m:=m) hx (cb a (by simp));exact⟨by simp[h1],⟨hf.1.1,hf.1.2,h2⟩,by simp only[du,h3,hf.2,Ux]⟩
 |[],_::_,_,h,_=>by simp[u4]at h
 |_::_,[],_,h,_=>by simp[u4]at h
theorem anr {n:Nat} {ρ:Env} {l:List UInt8} {x:I} {c:Int} (hc:x.eT=some c) (h:c=kJ (yB l)):bF (x.den ρ)=yB l:=by rw[I.k9 hc,h,BK]
theorem ahZ {n nb:Nat} {ρ:Env} {m:Nat->Nat} {d:D} {v:V} {r:List I} {x:aW} (h:GV d v=some r) (cb:v.ok n nb ρ) (hx:v.rel ρ m x):r.length=d.num/\ab d.bds (r.map (·.den ρ))/\∀zs,d.val ((r.map (·.den ρ))++zs)=x:=by
 unfold GV at h;split at h
 ·rename_i k lo hi bI y;cases hc:(decide (k=bI)&&tW lo hi y)with
  |false=>simp[hc]at h
  |true=>
   simp only[hc,cond_true,bj]at h;subst h;simp only[bx,decide_eq_true_eq]at hc;have hf:=MH hc.2 cb;simp only[V.rel,W.den,A.den]at hx;exact⟨rfl,⟨hf.1,hf.2,trivial⟩,λzs=>by simp[D.val,hx,hc.1]⟩
 ·rename_i k n' lo hi l;cases hc:aP l.length n' with
  |false=>simp[hc]at h
  |true=>
   simp only[hc,cond_true]at h;have hl:=b1 hc;subst hl;obtain⟨h1,h2,h3⟩:=QU (m:=m) h cb;simp only[V.rel,W.den]at hx;exact⟨h1,h2,λzs=>by rw[hx,h3];simp only[D.val];rw[Pq (by simp[h1]),uK (by simp[h1])]⟩
 ·rename_i l s;obtain⟨h1,h2,h3⟩:=ah2 (m:=m) h cb;simp only[V.rel,W.den]at hx;refine⟨h1,h2,λzs=>?_⟩;rw[hx,h3];simp only[D.val]
  congr 2
  have key:∀(a:List aQ) (b c:List Int),b.length=a.length->wi aQ.val a (b++c)=wi aQ.val a b:=by
   intro a;induction a with
   |nil=>intro b c _;simp
   |cons p a ih=>
    intro b c hb;cases b with
    |nil=>simp at hb
    |cons z b=>simp[ih b c (by simpa using hb)]
  exact key _ _ _ (by simp[h1])
 ·rename_i l;simp only[bj]at h;subst h;simp only[V.rel,W.den,A.den]at hx;exact⟨rfl,⟨cb.2.1,cb.2.2,trivial⟩,λzs=>by rw[hx];rfl⟩
 ·rename_i b;simp only[bj]at h;subst h;simp only[V.rel,W.den,A.den,bH.den]at hx;cases b<;>exact⟨rfl,by simp[D.bds,ab,I.bq],λzs=>by rw[hx];simp[D.val,I.bq]⟩
 ·rename_i l y;cases hc:y.eT with
  |none=>simp[hc]at h
  |some c=>
   simp only[hc]at h;cases hd:decide (c=kJ (yB l))with
   |false=>simp[hd]at h
   |true=>
    simp only[hd,cond_true,bj]at h;subst h;have hd:c=kJ (yB l):=by simpa using hd
    refine⟨rfl,trivial,λzs=>?_⟩;have hx:x= .string (en (bF (y.den ρ))):=hx;rw[hx,anr (n:=n) hc hd];rfl
 ·rename_i k c bI y;cases hc:y.l.eT with
  |none=>simp[hc]at h
  |some d=>
   simp only[hc]at h;cases hd:(decide (k=bI)&&decide (d=c))with
   |false=>simp[hd]at h
   |true=>
    simp only[hd,cond_true,bj]at h;subst h;simp only[bx,decide_eq_true_eq]at hd;refine⟨rfl,trivial,λzs=>?_⟩;have hx:x= .int bI (y.l.den ρ):=hx;rw[hx,I.k9 hc,<-hd.1,hd.2];rfl
 ·cases h
theorem QX {n nb:Nat} {ρ:Env} {m:Nat->Nat}:∀{ds:List D} {vs:List V} {r:List I} {xs:List aW},tX ds vs=some r->(∀v∈vs,V.ok n nb ρ v)->fQ ρ m vs xs->ab (aY ds) (r.map (·.den ρ))/\pB ds (r.map (·.den ρ))=xs
 |[],[],r,[],h,_,_=>by simp[tX]at h;subst h;exact⟨trivial,rfl⟩
 |d::ds,v::vs,r,x::xs,h,cb,hr=>by
  simp only[tX]at h;cases h1:GV d v with
  |none=>simp[h1]at h
  |some a=>
   cases h2:tX ds vs with
   |none=>simp[h1,h2]at h
   |some b=>
    simp only[h1,h2,bj]at h;subst h;obtain⟨cG,cC,dE⟩:=ahZ (m:=m) h1 (cb v (by simp)) hr.1;obtain⟨bg,b3⟩:=QX h2 (λu hu=>cb u (eI _ hu)) hr.2;refine⟨by rw[jE];exact m1 cC bg,?_⟩;rw[jE];simp only[pB,dE];rw[show d.num=(a.map (·.den ρ)).length by simp[cG],F3,b3]
 |[],_::_,_,_,h,_,_=>by simp[tX]at h
 |_::_,[],_,_,h,_,_=>by simp[tX]at h
 |[],[],_,_::_,_,_,hr=>hr.elim
 |_::_,_::_,_,[],_,_,hr=>hr.elim
structure bJ where
 f:dL
 id:Nat
 args:List D
 res:List D
def bJ.bD (P:b4) (wb:aG) (c:bJ) (spec:List Int->List Int->Prop):Prop:=
 (∀args w,(callFunc c.f args).run P w= .ok (.enter c.f args) w)/\
 ∀zs,ab (aY c.args) zs->∃rs,ab (aY c.res) rs/\spec zs rs/\∀w,wb.Extends w->nJ P c.f (pB c.args zs).toArray w λe w'=>e= .returned (oO c.res rs)/\w.Extends w'
noncomputable def Yg (d:D) (v:V):M (List I):=
 match d,v with
 | .bool,.w (.one (.bool e))=>bind (Hv e) λl=>pure [l]
 | .mix l,.w (.agg s)=>DF l s
 | .int k lo hi,.w (.one (.int bI x))=>cond (decide (k=bI)) (cond (tW lo hi x) (pure [x.l]) (bind (h8 39 [x.l,.const lo,.const hi]) λ_=>pure [x.l])) fail
 |d,v=>match GV d v with|some r=>pure r|none=>fail
noncomputable def QW:List D->List V->M (List I)
 |[],[]=>pure []
 |d::r,v::s=>bind (Yg d v) λa=>bind (QW r s) λb=>pure (a++b)
 |_,_=>fail
noncomputable def bJ.M (c:bJ):List aJ->List V->M V:=λ_ vs n k=>
 match tX c.args vs with
 |some l=> .call c.id l n (aY c.res) (k (H6 c.res n) (n+(aY c.res).length))
 |none=>QW c.args vs n λl n=> .call c.id l n (aY c.res) (k (H6 c.res n) (n+(aY c.res).length))
section
variable {S:Nat->List Int->List Int->Prop} {L:V->Env->Prop}
theorem Yf {k:dW} {lo hi:Int} {n nb:Nat} {ρ:Env}:∀{l:List A} {r:List I},ow k lo hi l=some r->(∀a∈l,A.ok n nb ρ a)->∀x∈r,I.bN n x
 |[],r,h,_=>by simp[ow]at h;subst h;intro x hx;simp at hx
 |a::s,r,h,cb=>by
  cases a with
  |int bI x=>
   simp only[ow]at h;cases hc:(decide (k=bI)&&tW lo hi x)with
   |false=>simp[hc]at h
   |true=>
    cases hr:ow k lo hi s with
    |none=>simp[hc,hr]at h
    |some r'=>
     simp only[hc,hr,cond_true,bj]at h;subst h;intro y hy;rcases List.mem_cons.1 hy with hy|hy
     ·rw[hy];have h0:A.ok n nb ρ (.int bI x):=cb _ (List.mem_cons_self ..);have h0:x.ok n ρ:=h0;exact h0.1
     ·exact Yf hr (λa ha=>cb a (eI _ ha)) y hy
  |_=>simp[ow]at h
theorem ah1 {n nb:Nat} {ρ:Env}:∀{d:List aQ} {l:List A} {r:List I},u4 d l=some r->(∀a∈l,A.ok n nb ρ a)->∀x∈r,I.bN n x
 |[],[],r,h,_=>by simp[u4]at h;subst h;intro x hx;simp at hx
 |c::d,a::s,r,h,cb=>by
  simp only[u4]at h;cases hx:c.fit a with
  |none=>simp[hx]at h
  |some x=>
   cases hr:u4 d s with
   |none=>simp[hx,hr]at h
   |some r'=>
    simp only[hx,hr,bj]at h;subst h;intro y hy;rcases List.mem_cons.1 hy with hy|hy
    ·subst hy;have h0:=cb a (by simp);unfold aQ.fit at hx;split at hx
     ·rename_i k lo hi bI z;cases hc:(decide (k=bI)&&tW lo hi z)with
      |false=>simp[hc]at hx
      |true=>
       simp only[hc,cond_true,bj]at hx;subst hx;have h0:z.ok n ρ:=h0;exact h0.1
     ·simp only[bj]at hx;subst hx;exact h0.1
     ·simp only[bj]at hx;subst hx;exact I.dF _ _
     ·cases hx
    ·exact ah1 hr (λa ha=>cb a (eI _ ha)) y hy
 |[],_::_,_,h,_=>by simp[u4]at h
 |_::_,[],_,h,_=>by simp[u4]at h
theorem atG {n nb:Nat} {ρ:Env} {d:D} {v:V} {r:List I} (h:GV d v=some r) (cb:v.ok n nb ρ):∀x∈r,I.bN n x:=by
 unfold GV at h;split at h
 ·rename_i k lo hi bI y;cases hc:(decide (k=bI)&&tW lo hi y)with
  |false=>simp[hc]at h
  |true=>
   simp only[hc,cond_true,bj]at h;subst h;have h0:y.ok n ρ:=cb;intro x hx;simp at hx;subst hx;exact h0.1
 ·rename_i k n' lo hi l;cases hc:aP l.length n' with
  |false=>simp[hc]at h
  |true=>
   simp only[hc,cond_true]at h;exact Yf h cb
 ·exact ah1 h cb
 ·simp only[bj]at h;subst h;intro x hx;simp at hx;subst hx;exact cb.1
 ·simp only[bj]at h;subst h;intro x hx;simp at hx;subst hx;exact I.dF _ _
 ·rename_i l y;cases hc:y.eT with
  |none=>simp[hc]at h
  |some c=>
   simp only[hc]at h;cases hd:decide (c=kJ (yB l))with
   |false=>simp[hd]at h
   |true=>
    simp only[hd,cond_true,bj]at h;subst h;intro x hx;simp at hx
 ·rename_i k c bI y;cases hc:y.l.eT with
  |none=>simp[hc]at h
  |some d=>
   simp only[hc]at h;cases hd:(decide (k=bI)&&decide (d=c))with
   |false=>simp[hd]at h
   |true=>
    simp only[hd,cond_true,bj]at h;subst h;intro x hx;simp at hx
 ·cases h
theorem cM.Z9:∀{sh:List aQ} {zs:List Int},cM sh zs->ab (sh.map aQ.hA) zs/\wi aQ.val sh zs=dS sh zs
 |[],[],_=>⟨trivial,rfl⟩
 |c::sh,z::zs,h=>⟨⟨h.1.1,h.1.2,(cM.Z9 h.2).1⟩,by simp[dS,(cM.Z9 h.2).2]⟩
 |[],_::_,h=>h.elim
 |_::_,[],h=>h.elim
theorem ao8 {f:aQ->Int->aW}:∀(a:List aQ) (b c:List Int),b.length=a.length->wi f a (b++c)=wi f a b
 |[],b,c,_=>by simp
 |_::a,[],c,h=>by simp at h
 |_::a,z::b,c,h=>by simp[ao8 a b c (by simpa using h)]
theorem atE {d:D} {v:V} {X:aW} {n nb:Nat} {ρ:Env} {m:Nat->Nat} (hv:v.ok n nb ρ) (cg:v.rel ρ m X):aC S L (Yg d v) n ρ λae n' ls=>(∀x∈ls,I.bN n' x)/\ls.length=d.num/\ab d.bds (ls.map (·.den ae))/\∀zs,d.val ((ls.map (·.den ae))++zs)=X:=by
 unfold Yg;split
 ·rename_i e;have cg:X= .bool (e.den ρ):=cg;exact RL.bind λaN a6 l hn ha ⟨g1,g2,g3⟩=>aC.pure ⟨λx hx=>by simp at hx;subst hx;exact g1,rfl,⟨g2.1,g2.2,trivial⟩,λzs=>by rw[cg,g3];rfl⟩
 ·rename_i l s;have cg:X= .agg (s.map (A.den ρ m)).toArray:=cg;refine(KU (nb:=nb) (m:=m) hv).mono λaN a6 ls hn ha ⟨g1,g2,g3⟩=>?_;have h1:=cM.Z9 g2;have h2:=g2.len;refine⟨g1,by simpa [D.num]using h2,h1.1,λzs=>?_⟩;rw[cg,<-g3,<-h1.2];simp only[D.val];rw[ao8 _ _ _ (by simpa using h2)]
 ·rename_i k lo hi bI x;have cg:X= .int bI (x.l.den ρ):=cg;have hv:x.ok n ρ:=hv;refine eM λaf=>?_;have af:=of_decide_eq_true af;subst af;cases hf:tW lo hi x with
  |true=>
   have:=MH hf hv;exact aC.pure ⟨λy hy=>by simp at hy;subst hy;exact hv.1,rfl,⟨this.1,this.2,trivial⟩,λzs=>by rw[cg];rfl⟩
  |false=>
   refine jS λhc=>aC.pure ?_;simp only[du,gQ,ay,I.bq]at hc;exact⟨λy hy=>by simp at hy;subst hy;exact hv.1,rfl,⟨hc.1,hc.2,trivial⟩,λzs=>by rw[cg];rfl⟩
 ·split
  ·rename_i hf;obtain⟨cG,cC,dE⟩:=ahZ (m:=m) hf hv cg;exact aC.pure ⟨atG hf hv,cG,cC,dE⟩
  ·exact aC.fail
theorem fQ.ext {n nb:Nat} {ρ ae:Env} {m m':Nat->Nat}:∀{vs:List V} {xs:List aW},fQ ρ m vs xs->(∀v∈vs,V.ok n nb ρ v)->agree n ρ ae->(∀b,b<nb->m' b=m b)->fQ ae m' vs xs
 |[],[],_,_,_,_=>trivial
 |v::vs,x::xs,h,cb,ha,hm=>⟨V.rel.ext h.1 (cb v (by simp)) ha hm,fQ.ext h.2 (λu hu=>cb u (eI _ hu)) ha hm⟩
 |[],_::_,h,_,_,_=>h.elim
 |_::_,[],h,_,_,_=>h.elim
theorem ah0 {nb:Nat} {m:Nat->Nat}:∀{ds:List D} {vs:List V} {xs:List aW} {n:Nat} {ρ:Env},(∀v∈vs,V.ok n nb ρ v)->fQ ρ m vs xs->aC S L (QW ds vs) n ρ λae n' ls=>(∀x∈ls,I.bN n' x)/\ab (aY ds) (ls.map (·.den ae))/\pB ds (ls.map (·.den ae))=xs
 |[],[],[],n,ρ,_,_=>aC.pure ⟨λ_ h=>by simp at h,trivial,rfl⟩
 |d::ds,v::vs,x::xs,n,ρ,cb,hr=>by
  unfold QW;refine(atE (nb:=nb) (cb v (by simp)) hr.1).bind λaN a6 a ia gk ⟨p0,cG,cC,dE⟩=>(ah0 (ds:=ds) (vs:=vs) (λu hu=>(cb u (eI _ hu)).ext gk ia (bW _)) (fQ.ext hr.2 (λu hu=>cb u (eI _ hu)) gk (λ_ _=>rfl))).bind λb5 gd b gm eb ⟨eJ,bg,b3⟩=>aC.pure ⟨λy hy=>?_,?_,?_⟩
  ·rcases List.mem_append.1 hy with hy|hy
   ·exact(p0 y hy).mono gm
   ·exact eJ y hy
  ·have e:a.map (·.den b5)=a.map (·.den aN):=kU λy hy=>I.cf eb (p0 y hy);rw[jE,e];exact m1 cC bg
  ·have e:a.map (·.den b5)=a.map (·.den aN):=kU λy hy=>I.cf eb (p0 y hy);rw[jE,e];simp only[pB,dE];rw[show d.num=(a.map (·.den aN)).length by simp[cG],F3,b3]
 |[],_::_,_,_,_,_,_=>aC.fail
 |_::_,[],_,_,_,_,_=>aC.fail
 |[],[],_::_,_,_,_,hr=>hr.elim
 |_::_,_::_,[],_,_,_,hr=>hr.elim
end
section
variable {S:Nat->List Int->List Int->Prop} {P:b4} {gl:fP} {w0:eL}
theorem Qu {L:V->Env->Prop} {id:Nat} {l:List I} {n:Nat} {bds:List (Int×Int)} {r:T} {G:fe} {ρ:Env} (h:(T.call id l n bds r).holds S L G ρ) {rs:List Int} (hi:ab bds rs) (hs:S id (l.map (·.den ρ)) rs):r.holds S L G (bR ρ n rs):=
 nj h hi hs
theorem To {ρ:Env} {m:Nat->Nat} {N nb:Nat} {ds:List D} {s:Nat} {zs:List Int} (h:ab (aY ds) zs) (ha:kf ρ s zs) (cP:s+(aY ds).length<=N):(H6 ds s).ok N nb ρ/\(H6 ds s).rel ρ m (oO ds zs):=by
 have hs:=TJ (m:=m) (nb:=nb) ds h ha cP;unfold H6 oO;rw[<-hs.2];split
 ·rename_i u heq;rw[heq]at hs;rw[heq];exact⟨hs.1 u (by simp),rfl⟩
 ·rename_i l dA;refine⟨hs.1,?_⟩;split
  ·rename_i x heq;have:∃u,vo s ds=[u]:=by
    cases hl:vo s ds with
    |nil=>rw[hl]at heq;simp at heq
    |cons u r=>
     cases r with
     |nil=>exact⟨u,rfl⟩
     |cons _ _=>rw[hl]at heq;simp at heq
   obtain⟨u,hu⟩:=this;exact absurd hu (dA u)
  ·rfl
def bJ.AM (P:b4) (wb:aG) (c:bJ) (spec:List Int->List Int->Prop):Prop:=
 ∀zs,ab (aY c.args) zs->∃rs,ab (aY c.res) rs/\spec zs rs/\∀w,wb.Extends w->x1 P c.f (pB c.args zs).toArray w (oO c.res rs)
theorem bJ.bD.f {wb:aG} {c:bJ} {spec:List Int->List Int->Prop} (h:c.bD P wb spec):c.AM P wb spec:=λzs hz=>by
 obtain⟨rs,h1,h2,h3⟩:=h.2 zs hz;exact⟨rs,h1,h2,λw hw=> .inr ⟨h.1 _ _,h3 w hw⟩⟩
theorem bJ.snd {c:bJ} {spec:List Int->List Int->Prop} (hc:c.AM P w0.b spec) (hS:∀zs rs,spec zs rs->S c.id zs rs) (L:V->Env->Prop) (n:Nat) (ρ:Env) (m:Nat->Nat) (bl:List aJ) (vs:List V) (xs:List aW)
 (lu:∀v∈vs,V.ok n bl.length ρ v) (hr:fQ ρ m vs xs):aC S L (c.M bl vs) n ρ λae n' v=>v.ok n' bl.length ae/\∃val,v.rel ae m val/\∀w,Mem w0 ρ m bl w->x1 P c.f xs.toArray w val:=by
 intro G k af;unfold bJ.M at af;cases hl:tX c.args vs with
 |none=>
  simp only[hl]at af;obtain⟨aN,a6,l,ia,gk,⟨_,h1,h2⟩,af⟩:=ah0 (S:=S) (L:=L) (nb:=bl.length) lu hr G _ af;obtain⟨rs,r1,r2,ij⟩:=hc _ h1;have ag:=Qu af r1 (hS _ _ r2);have hlen:=dR r1;have pj:=To (m:=m) (nb:=bl.length) (N:=a6+(aY c.res).length) r1 (kf.bR aN a6 rs) (bW _);refine⟨_,_,_,nf ia (LG _ _),gk.trans (agree.bR rs a6 aN) ia,⟨pj.1,_,pj.2,λw hw=>?_⟩,ag⟩;rw[h2]at ij;exact ij w hw.ext
 |some l=>
  simp only[hl]at af;obtain⟨h1,h2⟩:=QX hl lu hr;obtain⟨rs,r1,r2,ij⟩:=hc _ h1;have ag:=Qu af r1 (hS _ _ r2);have hlen:=dR r1;have pj:=To (m:=m) (nb:=bl.length) (N:=n+(aY c.res).length) r1 (kf.bR ρ n rs) (bW _);refine⟨_,_,_,LG _ _,agree.bR rs n ρ,⟨pj.1,_,pj.2,λw hw=>?_⟩,ag⟩;rw[h2]at ij;exact ij w hw.ext
def abr:List aJ->List V->M V:=λ_ vs=>
 match vs with
 |[.w (.one (.int .u64 x)),.w (.one (.int .u64 y))]=>
  cond (decide (0<=x.lo)&&decide (x.hi<18446744073709551616)&&decide (0<=y.lo)&&decide (y.hi<18446744073709551616)) (bind (mulM x y) λp=>bind (A2 p 18446744073709551616) λq=>
   pure (.jh [.one (.int .u64 q),.one (.int .u64 ⟨p.l.sub (q.l.smul 18446744073709551616),0,18446744073709551615⟩)])) fail
 |_=>fail
def WO:List aJ->List V->M V:=λ_ vs=>
 match vs with
 |[.w (.one (.int .u64 x)),.w (.one (.int .u64 y)),.w (.one (.int .u64 c))]=>
  cond (decide (0<=x.lo)&&decide (0<=y.lo)&&decide (0<=c.lo)&&decide (c.hi<=1)) (bind (A2 ⟨(x.l.add y.l).add c.l,x.lo+y.lo+c.lo,x.hi+y.hi+c.hi⟩ 18446744073709551616) λq=>
   pure (.jh [.one (.int .u64 ⟨((x.l.add y.l).add c.l).sub (q.l.smul 18446744073709551616),0,18446744073709551615⟩),.one (.int .u64 q)])) fail
 |_=>fail
def adj:List aJ->List V->M V:=λ_ vs=>
 match vs with
 |[.w (.one (.int .u64 x)),.w (.one (.int .u64 y)),.w (.one (.int .u64 c))]=>
  cond (decide (0<=x.lo)&&decide (x.hi<18446744073709551616)&&decide (0<=y.lo)&&decide (y.hi<18446744073709551616)&&decide (0<=c.lo)&&decide (c.hi<=1)) (bind (A2 ⟨(x.l.sub y.l).sub c.l,x.lo-y.hi-c.hi,x.hi-y.lo-c.lo⟩ 18446744073709551616) λq=>
   pure (.jh [.one (.int .u64 ⟨((x.l.sub y.l).sub c.l).sub (q.l.smul 18446744073709551616),0,18446744073709551615⟩),.one (.int .u64 ⟨q.l.smul (-1),0,1⟩)])) fail
 |_=>fail
def IS (P:b4) (f:dL):Prop:=∀x y:Int,0<=x->x<18446744073709551616->0<=y->y<18446744073709551616->∀w,x1 P f #[.int .u64 x,.int .u64 y] w (.tuple #[.int .u64 (x*y/18446744073709551616),.int .u64 (x*y% 18446744073709551616)])
def IL (P:b4) (f:dL):Prop:=∀x y c:Int,0<=x->0<=y->0<=c->c<=1->∀w,x1 P f #[.int .u64 x,.int .u64 y,.int .u64 c] w (.tuple #[.int .u64 ((x+y+c)% 18446744073709551616),.int .u64 ((x+y+c)/18446744073709551616)])
def IV (P:b4) (f:dL):Prop:=∀x y c:Int,0<=x->x<18446744073709551616->0<=y->y<18446744073709551616->0<=c->c<=1->∀w,x1 P f #[.int .u64 x,.int .u64 y,.int .u64 c] w (.tuple #[.int .u64 ((x-y-c)% 18446744073709551616),.int .u64 (-((x-y-c)/18446744073709551616))])
variable {L:V->Env->Prop} {n:Nat} {ρ:Env} {m:Nat->Nat} {bl:List aJ} {vs:List V} {xs:List aW}
theorem ak1 {x y c:A} (hr:fQ ρ m [.w (.one x),.w (.one y),.w (.one c)] xs):xs=[x.den ρ m,y.den ρ m,c.den ρ m]:=by
 match xs,hr with
 |[a,b,d],h=>obtain⟨rfl,rfl,rfl,_⟩:=h;rfl
 |[],h=>exact h.elim
 |[_],h=>exact h.2.elim
 |[_,_],h=>exact h.2.2.elim
 |_::_::_::_::_,h=>exact h.2.2.2.elim
theorem ayW {x y:A} (hr:fQ ρ m [.w (.one x),.w (.one y)] xs):xs=[x.den ρ m,y.den ρ m]:=by
 match xs,hr with
 |[a,b],h=>obtain⟨rfl,rfl,_⟩:=h;rfl
 |[],h=>exact h.elim
 |[_],h=>exact h.2.elim
 |_::_::_::_,h=>exact h.2.2.elim
theorem azc {f:dL} (hf:IS P f) (lu:∀v∈vs,V.ok n bl.length ρ v) (hr:fQ ρ m vs xs):aC S L (abr bl vs) n ρ λae n' v=>v.ok n' bl.length ae/\∃val,v.rel ae m val/\∀w,Mem w0 ρ m bl w->x1 P f xs.toArray w val:=by
 unfold abr;split
 ·rename_i x y;refine eM λhc=>?_;simp only[bx,decide_eq_true_eq]at hc;have hx:x.ok n ρ:=lu (.w (.one (.int .u64 x))) (by simp);have hy:y.ok n ρ:=lu (.w (.one (.int .u64 y))) (by simp);have CA:=hx.2;have Mg:=hy.2
  refine(abu hx hy).bind λaN a6 p ia gk ⟨hp,ep⟩=>?_;refine(Ev (by decide) hp).bind λb5 gd q gm eb ⟨ak,eq,_⟩=>aC.pure ?_;have JY:=hp.agree eb gm;have X6:p.l.den b5=x.l.den ρ*y.l.den ρ:=by rw[I.cf eb hp.1,ep]
  have aI:(p.l.sub (q.l.smul 18446744073709551616)).den b5=x.l.den ρ*y.l.den ρ% 18446744073709551616:=by
   rw[I.lZ,I.mU,X6,eq,ep];omega
  refine⟨λu hu=>?_,_,rfl,λw _=>?_⟩
  ·simp at hu;rcases hu with rfl|rfl
   ·exact ak
   ·exact⟨I.xE JY.1 (I.xD ak.1),by simp only[aI];omega,by simp only[aI];omega⟩
  ·rw[ayW hr];have:=hf (x.l.den ρ) (y.l.den ρ) (by omega) (by omega) (by omega) (by omega) w;simpa [A.den,W.den,aI,eq,ep]using this
 ·exact aC.fail
theorem arc {f:dL} (hf:IL P f) (lu:∀v∈vs,V.ok n bl.length ρ v) (hr:fQ ρ m vs xs):aC S L (WO bl vs) n ρ λae n' v=>v.ok n' bl.length ae/\∃val,v.rel ae m val/\∀w,Mem w0 ρ m bl w->x1 P f xs.toArray w val:=by
 unfold WO;split
 ·rename_i x y c;refine eM λhc=>?_;simp only[bx,decide_eq_true_eq]at hc;have hx:x.ok n ρ:=lu (.w (.one (.int .u64 x))) (by simp);have hy:y.ok n ρ:=lu (.w (.one (.int .u64 y))) (by simp);have G9:c.ok n ρ:=lu (.w (.one (.int .u64 c))) (by simp);have CA:=hx.2;have Mg:=hy.2;have bc:=G9.2
  have hs:(b0.mk ((x.l.add y.l).add c.l) (x.lo+y.lo+c.lo) (x.hi+y.hi+c.hi)).ok n ρ:=⟨I.yW (I.yW hx.1 hy.1) G9.1,by simp only[I.den_add];omega,by simp only[I.den_add];omega⟩;refine(Ev (x:=⟨(x.l.add y.l).add c.l,x.lo+y.lo+c.lo,x.hi+y.hi+c.hi⟩) (by decide) hs).bind λb5 gd q gm eb ⟨ak,eq,_⟩=>aC.pure ?_;have zR:=hs.agree eb gm;simp only[I.den_add]at eq;have aI:(((x.l.add y.l).add c.l).sub (q.l.smul 18446744073709551616)).den b5=(x.l.den ρ+y.l.den ρ+c.l.den ρ)% 18446744073709551616:=by
   rw[I.lZ,I.mU,I.cf eb hs.1,I.den_add,I.den_add,eq];omega
  refine⟨λu hu=>?_,_,rfl,λw _=>?_⟩
  ·simp at hu;rcases hu with rfl|rfl
   ·exact⟨I.xE zR.1 (I.xD ak.1),by simp only[aI];omega,by simp only[aI];omega⟩
   ·exact ak
  ·rw[ak1 hr];have:=hf (x.l.den ρ) (y.l.den ρ) (c.l.den ρ) (by omega) (by omega) (by omega) (by omega) w;simpa [A.den,W.den,aI,eq]using this
 ·exact aC.fail
theorem aFK {f:dL} (hf:IV P f) (lu:∀v∈vs,V.ok n bl.length ρ v) (hr:fQ ρ m vs xs):aC S L (adj bl vs) n ρ λae n' v=>v.ok n' bl.length ae/\∃val,v.rel ae m val/\∀w,Mem w0 ρ m bl w->x1 P f xs.toArray w val:=by
 unfold adj;split
 ·rename_i x y c;refine eM λhc=>?_;simp only[bx,decide_eq_true_eq]at hc;have hx:x.ok n ρ:=lu (.w (.one (.int .u64 x))) (by simp);have hy:y.ok n ρ:=lu (.w (.one (.int .u64 y))) (by simp);have G9:c.ok n ρ:=lu (.w (.one (.int .u64 c))) (by simp);have CA:=hx.2;have Mg:=hy.2;have bc:=G9.2
  have hs:(b0.mk ((x.l.sub y.l).sub c.l) (x.lo-y.hi-c.hi) (x.hi-y.lo-c.lo)).ok n ρ:=⟨I.xE (I.xE hx.1 hy.1) G9.1,by simp only[I.lZ];omega,by simp only[I.lZ];omega⟩;refine(Ev (x:=⟨(x.l.sub y.l).sub c.l,x.lo-y.hi-c.hi,x.hi-y.lo-c.lo⟩) (by decide) hs).bind λb5 gd q gm eb ⟨ak,eq,_⟩=>aC.pure ?_;have zR:=hs.agree eb gm;simp only[I.lZ]at eq;have aI:(((x.l.sub y.l).sub c.l).sub (q.l.smul 18446744073709551616)).den b5=(x.l.den ρ-y.l.den ρ-c.l.den ρ)% 18446744073709551616:=by
   rw[I.lZ,I.mU,I.cf eb hs.1,I.lZ,I.lZ,eq];omega
  have cn:(q.l.smul (-1)).den b5=-((x.l.den ρ-y.l.den ρ-c.l.den ρ)/18446744073709551616):=by
   rw[I.mU,eq];omega
  refine⟨λu hu=>?_,_,rfl,λw _=>?_⟩
  ·simp at hu;rcases hu with rfl|rfl
   ·exact⟨I.xE zR.1 (I.xD ak.1),by simp only[aI];omega,by simp only[aI];omega⟩
   ·exact⟨I.xD ak.1,by simp only[cn];omega,by simp only[cn];omega⟩
  ·rw[ak1 hr];have:=hf (x.l.den ρ) (y.l.den ρ) (c.l.den ρ) (by omega) (by omega) (by omega) (by omega) (by omega) (by omega) w;simpa [A.den,W.den,aI,cn]using this
 ·exact aC.fail
end
end Go.b9
