/- The evaluator's soundness: operations and regions. -/
import Derived.Test.YtacpildnjohidaaDoorPaa
import Derived.Laws.Append
import Derived.Deep.AppendSrc
import Derived.Deep.Upon
import Derived.Laws.MakeOwn
import Derived.Lib.MakeNoZero
import Derived.Laws.Externs
import Derived.KernelRfl
import Derived.Lib.ConvBytes
import Derived.ArgAppend
import Derived.OrdersIn
import Derived.TacticsIn
import Derived.LoopNIn
import Derived.Sort.LoopGhostIn
open Array renaming toArray_toList->kc,toList_map->xV,replicate->zx,eq_empty_of_size_eq_zero->Bq,length_toList->Br,getElem?_eq_getElem->Mw,getElem?_toList->MG,getElem?_eq_none->SF,ext'->SG,toList_range->abH,size_append->amf,mapM_eq_mapM_toList->aD8,range->aEI,getElem?_modify->aEP,getElem?_push_lt->aER
open Bool renaming and_eq_true->bo,not_true->ix,false_eq_true->uv,or_eq_true->Bm
open Classical renaming byContradiction->abu
open Eq renaming trans->uw
open Function renaming comp->Mv
open Go renaming World->aE,Value->aP,TypeId->bh,Program->bQ,FuncId->dn,run_underlying->eU,Calls->lG,Operand->oM,run_loadCells_list->My,setRow_other->MH,setRow_heap->MI,run_firstCells_some->SH
open Go.Builtin renaming zeroCells->ns,copy_->xY,append_->I2,firstCells->I3,lenOf->SI,nextslicecap->amc,clear_->aml
open Go.Code renaming region->aEZ
open Go.Extern renaming findNext->abx,find->aby
open Go.Extern.BytealgMakeNoZero renaming digits->zA,makeNoZero->abN
open Go.Fence renaming wide->FI
open Go.Instr renaming sureAddr->mO,loadAt->nr,sliceAt->rH,storeAt->abG,buildSlice->amd,alloc->aEN
open Go.Lib renaming bytesWorld->MK,bytesCells->ML
open Go.Next renaming value->kr
open Go.Oper renaming wp->mQ,uponIn->aEX,wpIn_mono->aEY
open Go.Question renaming cut->aEJ
open Go.Region renaming wanted->zz,noSelect->Ss
open Go.Result renaming andThen_ok->iz
open Go.Sem renaming run_bind->ic,run_pure->js
open Go.Value renaming int->xS,slice->MA
open Go.Value.int renaming injEq->aLf
open Go.World renaming cell?->lH,frozen?->Bn,alloc->I4,freeze->SK,alloc_eq->SL,drew->abO,drew_eq->amh
open Go.World.Extends renaming refl->qc,drew->Su
open Int renaming le_refl->cL,lt_or_le->kI,toNat_natCast->nY,le_trans->Bl,natCast_nonneg->IN
open List renaming getD->U,map_cons->cQ,mem_cons_of_mem->dU,mem_of_getElem?->eD,replicate->eH,nil_append->e2,map_nil->e3,length_append->fc,range->fk,append_nil->fY,map_append->iy,getD_cons_zero->iU,length_cons->jd,map_congr_left->jQ,getD_cons_succ->j4,cons_append->kp,append_assoc->kq,take_append_drop->ld,mem_of_mem_take->lf,take_succ_cons->lI,length_map->l6,mem_cons->mL,map_map->nk,length_drop->nn,length->np,getElem?_eq_getElem->nq,take_zero->nt,length_nil->n0,mem_of_mem_drop->oN,take_of_length_le->pt,getElem?_map->pw,length_take->px,getElem?_take->qY,flatten_cons->sH,getElem?_set->sI,flatMap_cons->sL,getElem?_cons_zero->uz,getD_eq_getElem?_getD->uA,getElem?_append_left->xQ,eq_nil_of_length_eq_zero->xX,drop_drop->zv,size_toArray->zy,replicate_succ->Bs,mem_of_find?_eq_some->FC,getElem_mem->FD,getElem?_append_right->IS,getElem?_append->Mx,take_append_of_le_length->Mz,mem_or_eq_of_mem_set->MJ,find?_some->St,length_replicate->SP,getElem?_set_ne->abv,take_length->abw,ext_getElem?->abI,getElem?_eq_none->abJ,getElem?_set_self->alX,getElem?_range->amb,all_cons->ame,eq_of_mem_replicate->ami,drop_append_of_le_length->aEH,flatMap_map->aEM
open List.cons renaming injEq->nZ
open Nat renaming beq->aK,le_refl->bL,eq_of_beq_eq_true->bO,ble->cx,blt->dv,le_of_ble_eq_true->e8,le_trans->lg,add_zero->mM,le_succ->qZ,zero_add->uC,lt_succ_self->xT,succ_mul->xU,add_mul->xW,mul_one->zw,min_eq_left->Dc,lt_of_lt_of_le->FA,beq_refl->FB,zero_le->IP,le_add_right->IT,min->I1,mod_lt->Ms,mod_eq_of_lt->abt,mul_le_mul_right->abM,mul_le_mul->alW,le_of_mul_le_mul_right->aEQ
open Option renaming isSome_none->uD,map_some->xP,getD_some->Bk
open Option.some renaming injEq->a7,inj->hV
open Prod renaming ext->Mo
open Prod.mk renaming injEq->ek
open Pure renaming pure->Sv
set_option linter.unusedVariables false
set_option linter.unusedSimpArgs false
namespace Go.b6
open M
structure en (n nb:Nat) (ρ:Env) (m:Nat->Nat) (n' lz:Nat) (aa:Env) (m':Nat->Nat):Prop where
 hn:n<=n'
 ha:agree n ρ aa
 hb:nb<=lz
 hm:∀b,b<nb->m' b=m b
theorem en.refl (n nb:Nat) (ρ:Env) (m:Nat->Nat):en n nb ρ m n nb ρ m:=⟨bL _,agree.refl _ _,bL _,λ_ _=>rfl⟩
theorem en.trans {n nb aT CK eF ai3:Nat} {ρ aJ bR:Env} {m gB eQ:Nat->Nat} (h:en n nb ρ m aT CK aJ gB) (a8:en aT CK aJ gB eF ai3 bR eQ):en n nb ρ m eF ai3 bR eQ:=
 ⟨lg h.hn a8.hn,h.ha.trans a8.ha h.hn,lg h.hb a8.hb,λb hb=>(a8.hm b (FA hb h.hb)).trans (h.hm b hb)⟩
def eM (n:Nat) (G ee:ev):Prop:=∀l,l<n->ee l=G l
theorem eM.refl (n:Nat) (G:ev):eM n G G:=λ_ _=>rfl
theorem eM.trans {n n':Nat} {G ee Tu:ev} (h:eM n G ee) (a8:eM n' ee Tu) (hn:n<=n'):eM n G Tu:=λl hl=>(a8 l (by omega)).trans (h l hl)
structure R (w0:dX) (n:Nat) (ρ:Env) (m:Nat->Nat) (tm:List V) (bl:List aG) (a:Act) (w:aE):Prop where
 t:ef n bl.length ρ m tm a.tmps
 d:a.defers=w0.ds
 b:cM n bl.length ρ bl
 bB:Mem w0 ρ m bl w
section
variable (S:Nat->List Int->List Int->Prop) (L:V->Env->Prop) (w0:dX)
def ku (k:gR) (n nb:Nat) (ρ:Env) (m:Nat->Nat) (G:ev) (K:Act->aE->Prop):Prop:=
 ∀n' aa m' cr bj ee dr w',en n nb ρ m n' (np bj) aa m'->eM n G ee->R w0 n' aa m' cr bj dr w'->(k n' cr bj).holds S L ee aa->K dr w'
def Dn (k:RK) (n nb:Nat) (ρ:Env) (m:Nat->Nat) (G:ev) (R':Ending->aE->Prop):Prop:=
 ∀n' v bj ee aa m' w' val,en n nb ρ m n' (np bj) aa m'->eM n G ee->V.ok n' bj.length aa v->v.rel aa m' val->cM n' bj.length aa bj->Mem w0 aa m' bj w'->(k n' v bj).holds S L ee aa->R' (.returned val) w'
def oO (P:bQ) (inl:kt):Prop:=
 ∀f n vs bl k G ρ m w xs R',cM n (np bl) ρ bl->Mem w0 ρ m bl w->(∀v∈vs,V.ok n bl.length ρ v)->eJ ρ m vs xs->(inl f n vs bl k).holds S L G ρ->Dn S L w0 k n bl.length ρ m G R'->
  (callFunc f xs.toArray).run P w= .ok (.enter f xs.toArray) w/\lG P f xs.toArray w R'
end
section
variable {S:Nat->List Int->List Int->Prop} {L:V->Env->Prop} {w0:dX} {P:bQ} {gl:eI} {cal:eW} {inl:kt}
theorem ku.later {k:gR} {n nb aT CK:Nat} {ρ aJ:Env} {m gB:Nat->Nat} {G G1:ev} {K:Act->aE->Prop} (h:ku S L w0 k n nb ρ m G K) (hl:en n nb ρ m aT CK aJ gB) (aM:eM n G G1):ku S L w0 k aT CK aJ gB G1 K:=
 λn' aa m' cr bj ee dr w' h1 h2 h3 h4=>h n' aa m' cr bj ee dr w' (hl.trans h1) (aM.trans h2 hl.hn) h3 h4
def lC (m:Nat->Nat) (nb g:Nat):Nat->Nat:=λb=>if b=nb then g else m b
theorem mG {m:Nat->Nat} {nb g b:Nat} (h:b<nb):lC m nb g b=m b:=by simp[lC];omega
theorem nf (m:Nat->Nat) (nb g:Nat):lC m nb g nb=g:=by simp[lC]
theorem Mem.push {n:Nat} {ρ:Env} {m:Nat->Nat} {bl:List aG} {w:aE} {x:aG} {g:Nat} (h:Mem w0 ρ m bl w) (hb:cM n bl.length ρ bl) (hx:∀a∈x.1,A.ok n bl.length ρ a)
 (h1:b7 x.1=true->w0.b.heap.size<=g/\(w0.ex g∨w0.r.heap.size<=g)/\∃r:List aP,(x.2.2=false->r=[])/\w.heap[g]?=some (.cells (x.1.map (A.den ρ m)++r).toArray x.2.1 (0,0)))
 (h2:∀sh off code cap kind,x.1=[.rows sh off code cap kind]->sN w0 ρ g sh off code cap kind x.2.1 w)
 (h3:∀(i:Nat) (p:aG),bl[i]?=some p->m i=g->(bJ ρ p.1<=1/\bJ ρ x.1<=1)∨bJ ρ p.1=0∨bJ ρ x.1=0):
 Mem w0 ρ (lC m bl.length g) (bl++[x]) w:=by
 have hold:∀(i:Nat) (p:aG),(bl++[x])[i]?=some p->(i<bl.length/\bl[i]?=some p)∨(i=bl.length/\p=x):=λi p hi=>by
  rw[Mx]at hi
  split at hi
  ·rename_i iP;exact .inl ⟨iP,hi⟩
  ·have:i=bl.length:=by
    have:=(List.getElem?_eq_some_iff.1 hi).1
    simp at this;omega
   subst this
   simp only[Nat.sub_self,uz,a7]at hi
   exact .inr ⟨rfl,hi.symm⟩
 refine⟨h.ext,h.iZ,h.kA,h.j7,h.gj,h.iO,λi jT t' hi ax=>?_,λi sh off code cap kind t' hi=>?_,λi j p q hi aI he=>?_⟩
 ·rcases hold i _ hi with⟨iP,hi⟩|⟨rfl,dJ⟩
  ·obtain⟨g1,lS,r,hr,g2⟩:=h.fe i jT t' hi ax
   rw[mG iP]
   refine⟨g1,lS,r,hr,?_⟩
   rw[vp (hb _ (eD hi)) (agree.refl n ρ) (λb hb=>mG hb)]
   exact g2
  ·subst dJ
   rw[nf]
   obtain⟨g1,lS,r,hr,g2⟩:=h1 ax
   refine⟨g1,lS,r,hr,?_⟩
   rw[vp hx (agree.refl n ρ) (λb hb=>mG hb)]
   exact g2
 ·rcases hold i _ hi with⟨iP,hi⟩|⟨rfl,dJ⟩
  ·rw[mG iP]
   exact h.rws i sh off code cap kind t' hi
  ·subst dJ
   rw[nf]
   exact h2 sh off code cap kind rfl
 ·rcases hold i p hi with⟨iP,Ad⟩|⟨rfl,dJ⟩<;>rcases hold j q aI with⟨agY,Kz⟩|⟨rfl,vb⟩
  ·rw[mG iP,mG agY]at he
   exact h.inj i j p q Ad Kz he
  ·rw[mG iP,nf]at he
   subst vb
   exact .inr (h3 i p Ad he)
  ·rw[mG agY,nf]at he
   subst dJ
   rcases h3 j q Kz he.symm with h|h|h
   ·exact .inr (.inl ⟨h.2,h.1⟩)
   ·exact .inr (.inr (.inr h))
   ·exact .inr (.inr (.inl h))
  ·exact .inl rfl
theorem Mem.alloc {n:Nat} {ρ:Env} {m:Nat->Nat} {bl:List aG} {w:aE} {cs:List A} {t:bh} {ex:List aP} {open_:Bool} (h:Mem w0 ρ m bl w) (hb:cM n bl.length ρ bl) (hc:∀a∈cs,A.ok n bl.length ρ a) (e6:open_=false->ex=[]) (mm:b7 cs=true):
 Mem w0 ρ (lC m bl.length w.heap.size) (bl++[(cs,(t,open_))]) (w.alloc (.cells (cs.map (A.den ρ m)++ex).toArray t)):=by
 refine(h.grow ((qc w).alloc _)).push hb hc (λ_=>⟨h.ext.size,.inr h.gj,ex,e6,heap_alloc_new w _⟩) (λsh off code cap kind e=>?_) λi p hi he=>?_
 ·simp only at e
  subst e
  cases mm
 ·by_cases ab:bJ ρ p.1=0
  ·exact .inr (.inl ab)
  ·have:=h.lt hi ab;omega
theorem Mem.put {kd:Nat} {ρ:Env} {m:Nat->Nat} {bl:List aG} {w:aE} {b:Nat} {sh:List aL} {off code cap code':I} {t:bh×Bool} {cells row:Array aP} {fz:Nat×Nat} (h:Mem w0 ρ m bl w) (im:2<=kd) (aQ:bl[b]?=some ([.rows sh off code cap kd],t)) (cZ:0<=cap.den ρ)
 (hr:sN w0 ρ (m b) sh off code' cap kd t.1 (w.setRow (m b) row)):Mem w0 ρ m (dE bl b ([.rows sh off code' cap kd],t)) (w.setRow (m b) row):=by
 have q8:b<bl.length:=(List.getElem?_eq_some_iff.1 aQ).1
 have mZ:∀c,bJ ρ [.rows sh off c cap kd]=kd:=λc=>tA (by omega) cZ
 obtain⟨_,hl⟩:=h.rws b sh off code cap kd t aQ (by omega)
 obtain⟨_,cells,km,fz,_,_,h5⟩:=hl cZ
 obtain⟨_,_,_,_,h1,Cm⟩:=h5 im
 have dN:∀(i:Nat) (p:aG),(dE bl b ([.rows sh off code' cap kd],t))[i]?=some p->(i=b/\p=([.rows sh off code' cap kd],t))∨(i≠b/\bl[i]?=some p):=λi p hi=>by
  rw[kE,sI]at hi
  split at hi
  ·rename_i gZ
   subst gZ
   simp only[q8,if_true,a7]at hi
   exact .inl ⟨rfl,hi.symm⟩
  ·rename_i gZ;exact .inr ⟨λe=>gZ e.symm,hi⟩
 refine⟨h.ext.setRow (m b) _ h1,h.iZ,h.kA,h.j7,by simp;exact h.gj,λi hi hx=>?_,λi jT t' hi ax=>?_,λi fh jB code' jw p1 t' hi=>?_,λi j p q hi aI he=>?_⟩
 ·rw[MH w (m b) i _ (λe=>by
   subst e
   rcases Cm with h3|h3
   ·exact hx h3
   ·omega)]
  exact h.iO i hi hx
 ·rcases dN i _ hi with⟨rfl,dJ⟩|⟨cW,hi⟩
  ·cases dJ;cases ax
  ·obtain⟨g1,lS,g2⟩:=h.fe i jT t' hi ax
   exact⟨g1,lS,by rw[MH w (m b) (m i) _ (λe=>h.ne aQ hi (by rw[mZ];exact im) (by rw[lv ax];decide) (λe=>cW e.symm) (by first|exact e|exact e.symm))];exact g2⟩
 ·rcases dN i _ hi with⟨rfl,dJ⟩|⟨cW,hi⟩
  ·cases dJ;exact hr
  ·exact(h.rws i fh jB _ jw p1 t' hi).grow λab hc=>MH w (m b) (m i) _ (λe=>h.ne aQ hi (by rw[mZ];exact im) (by simp only[tA ab hc];exact ab) (λe=>cW e.symm) (by first|exact e|exact e.symm))
 ·have ab:∀(i:Nat) (p:aG),(dE bl b ([.rows sh off code' cap kd],t))[i]?=some p->∃dc,bl[i]?=some dc/\bJ ρ dc.1=bJ ρ p.1:=λi p hi=>by
   rcases dN i _ hi with⟨rfl,dJ⟩|⟨cW,hi⟩
   ·exact⟨_,aQ,by rw[dJ];simp only[mZ]⟩
   ·exact⟨p,hi,rfl⟩
  obtain⟨dc,hp,ep⟩:=ab i p hi
  obtain⟨eA,aj,eq⟩:=ab j q aI
  rw[<-ep,<-eq]
  exact h.inj i j dc eA hp aj he
theorem Mem.kill {ρ:Env} {m:Nat->Nat} {bl:List aG} {w:aE} {b k:Nat} {sh:List aL} {off code cap:I} {t:bh×Bool} (h:Mem w0 ρ m bl w) (aQ:bl[b]?=some ([.rows sh off code cap k],t)):Mem w0 ρ m (dE bl b ([.rows sh off code cap 0],t)) w:=by
 have q8:b<bl.length:=(List.getElem?_eq_some_iff.1 aQ).1
 have dN:∀(i:Nat) (p:aG),(dE bl b ([.rows sh off code cap 0],t))[i]?=some p->(i=b/\p=([.rows sh off code cap 0],t))∨(i≠b/\bl[i]?=some p):=λi p hi=>by
  rw[kE,sI]at hi
  split at hi
  ·rename_i gZ
   subst gZ
   simp only[q8,if_true,a7]at hi
   exact .inl ⟨rfl,hi.symm⟩
  ·rename_i gZ;exact .inr ⟨λe=>gZ e.symm,hi⟩
 have kO:bJ ρ [.rows sh off code cap 0]=0:=by simp[bJ]
 refine⟨h.ext,h.iZ,h.kA,h.j7,h.gj,h.iO,λi jT t' hi ax=>?_,λi fh jB code' jw p1 t' hi=>?_,λi j p q hi aI he=>?_⟩
 ·rcases dN i _ hi with⟨rfl,dJ⟩|⟨cW,hi⟩
  ·cases dJ;cases ax
  ·exact h.fe i jT t' hi ax
 ·rcases dN i _ hi with⟨rfl,dJ⟩|⟨cW,hi⟩
  ·cases dJ;exactλab=>absurd rfl ab
  ·exact h.rws i fh jB _ jw p1 t' hi
 ·rcases dN i _ hi with⟨rfl,dJ⟩|⟨cW,hi⟩
  ·exact .inr (.inr (.inl (by rw[dJ];exact kO)))
  ·rcases dN j _ aI with⟨rfl,vb⟩|⟨cW,aI⟩
   ·exact .inr (.inr (.inr (by rw[vb];exact kO)))
   ·exact h.inj i j p q hi aI he
theorem en.alloc (n:Nat) (ρ:Env) (m:Nat->Nat) (bl:List aG) (x:aG) (g:Nat):en n bl.length ρ m n (bl++[x]).length ρ (lC m bl.length g):=
 ⟨bL _,agree.refl _ _,by simp,λb hb=>mG hb⟩
theorem cM.alloc {n:Nat} {ρ:Env} {bl:List aG} {cs:List A} {t:bh×Bool} (hb:cM n bl.length ρ bl) (hc:∀a∈cs,A.ok n bl.length ρ a):cM n (bl++[(cs,t)]).length ρ (bl++[(cs,t)]):=by
 intro p hp a ha
 rcases List.mem_append.1 hp with hp|hp
 ·exact(hb p hp a ha).ext (agree.refl n ρ) (bL _) (by simp)
 ·simp at hp;subst hp;exact(hc a ha).ext (agree.refl n ρ) (bL _) (by simp)
theorem R.alloc {n:Nat} {ρ:Env} {m:Nat->Nat} {tm:List V} {bl:List aG} {a:Act} {w:aE} {cs:List A} {t:bh} (h:R w0 n ρ m tm bl a w) (hc:∀x∈cs,A.ok n bl.length ρ x) (dst:Option Tmp) (mm:b7 cs=true):
 R w0 n ρ (lC m bl.length w.heap.size) (fw tm dst (.w (.one (.ptr bl.length 0)))) (bl++[(cs,(t,false))]) (a.put dst (.pointer (some ⟨w.heap.size,0,none⟩))) (w.alloc (.cells (cs.map (A.den ρ m)).toArray t)):=by
 have hl:=en.alloc n ρ m bl (cs,(t,false)) w.heap.size
 have nI:=h.bB.alloc (t:=t) (ex:=[]) (open_:=false) h.b hc (λ_=>rfl) mm
 rw[fY]at nI
 exact⟨ef.put (h.t.ext hl.ha hl.hn hl.hb hl.hm) dst (by simp[V.ok,W.ok,A.ok]) (by simp[V.rel,W.den,A.den,nf]),by rw[put_defers];exact h.d,h.b.alloc hc,nI⟩
theorem R.row {n:Nat} {ρ:Env} {m:Nat->Nat} {tm:List V} {bl:List aG} {a:Act} {w:aE} {cs:List A} {t:bh} {ex:List aP} {open_:Bool} (h:R w0 n ρ m tm bl a w) (hc:∀x∈cs,A.ok n bl.length ρ x) (e6:open_=false->ex=[]) (mm:b7 cs=true) (dst:Option Tmp) {v:V} {x:aP}
 (hv:v.ok n (bl.length+1) ρ) (hx:v.rel ρ (lC m bl.length w.heap.size) x):
 R w0 n ρ (lC m bl.length w.heap.size) (fw tm dst v) (bl++[(cs,(t,open_))]) (a.put dst x) (w.alloc (.cells (cs.map (A.den ρ m)++ex).toArray t)):=by
 have hl:=en.alloc n ρ m bl (cs,(t,open_)) w.heap.size
 exact⟨ef.put (h.t.ext hl.ha hl.hn hl.hb hl.hm) dst (by simpa using hv) hx,by rw[put_defers];exact h.d,h.b.alloc hc,h.bB.alloc h.b hc e6 mm⟩
theorem Mem.storeCells {n:Nat} {ρ:Env} {m:Nat->Nat} {bl:List aG} {w:aE} {b off:Nat} {cs l:List A} {dp:bh×Bool} (h:Mem w0 ρ m bl w) (hb:cM n bl.length ρ bl) (hl:∀a∈l,A.ok n bl.length ρ a)
 (aQ:bl[b]?=some (cs,dp)) (yA:off+l.length<=cs.length) (ri:b7 cs=true) (qF:b7 (cs.take off++l++cs.drop (off+l.length))=true):
 ∃w',(Go.storeCells ⟨m b,off,none⟩ (l.map (A.den ρ m))).run P w= .ok () w'/\Mem w0 ρ m (dE bl b (cs.take off++l++cs.drop (off+l.length),dp)) w':=by
 obtain⟨h1,Cm,r,hr,h2⟩:=h.fe b cs dp aQ ri
 have lV:=run_storeCells_at P (m b) off dp.1 (l.map (A.den ρ m)) 0 (cs.map (A.den ρ m)++r).toArray w h2 (by simp;omega) (λx hx=>by
  obtain⟨a,ha,rfl⟩:=List.mem_map.1 hx
  exact A.QH (hl a ha))
 have Pl:∀k,k<=cs.length->(cs.map (A.den ρ m)++r).take k=(cs.take k).map (A.den ρ m)/\(cs.map (A.den ρ m)++r).drop k=(cs.drop k).map (A.den ρ m)++r:=λk ab=>by
  refine⟨?_,?_⟩
  ·rw[Mz (by simpa using ab),List.map_take]
  ·rw[aEH (by simpa using ab),List.map_drop]
 refine⟨w.setRow (m b) ((cs.take off++l++cs.drop (off+l.length)).map (A.den ρ m)++r).toArray,?_,?_⟩
 ·simp only[mM,l6]at lV
  rw[lV]
  congr 3
  simp only[iy,kq]
  rw[(Pl off (by omega)).1,(Pl (off+l.length) (by omega)).2]
 ·have q8:b<bl.length:=(List.getElem?_eq_some_iff.1 aQ).1
  have dN:∀(i:Nat) (p:aG),(dE bl b (cs.take off++l++cs.drop (off+l.length),dp))[i]?=some p->(i=b/\p=(cs.take off++l++cs.drop (off+l.length),dp))∨(i≠b/\bl[i]?=some p):=λi p hi=>by
   rw[kE,sI]at hi
   split at hi
   ·rename_i gZ
    subst gZ
    simp only[q8,if_true,a7]at hi
    exact .inl ⟨rfl,hi.symm⟩
   ·rename_i gZ;exact .inr ⟨λe=>gZ e.symm,hi⟩
  have mZ:bJ ρ cs=2:=lv ri
  refine⟨h.ext.setRow (m b) _ h1,h.iZ,h.kA,h.j7,by simp;exact h.gj,λi hi hx=>?_,λi jT t' hi ax=>?_,λi sh jB code cap kind t' hi=>?_,λi j p q hi aI he=>?_⟩
  ·rw[MH w (m b) i _ (λe=>by
    subst e
    rcases Cm with h3|h3
    ·exact hx h3
    ·omega)]
   exact h.iO i hi hx
  ·rcases dN i _ hi with⟨rfl,dJ⟩|⟨cW,hi⟩
   ·cases dJ
    exact⟨h1,Cm,r,hr,MI w (m i) _ _ _ _ h2⟩
   ·obtain⟨g1,lS,g2⟩:=h.fe i jT t' hi ax
    exact⟨g1,lS,by rw[MH w (m b) (m i) _ (λe=>h.ne aQ hi (by rw[mZ];exact bL 2) (by rw[lv ax];decide) (λe=>cW e.symm) (by first|exact e|exact e.symm))];exact g2⟩
  ·rcases dN i _ hi with⟨rfl,dJ⟩|⟨cW,hi⟩
   ·have hi:=(Prod.mk.inj dJ).1
    rw[<-hi]at qF
    cases qF
   ·exact(h.rws i sh jB code cap kind t' hi).grow λab hc=>MH w (m b) (m i) _ (λe=>h.ne aQ hi (by rw[mZ];exact bL 2) (by simp only[tA ab hc];exact ab) (λe=>cW e.symm) (by first|exact e|exact e.symm))
  ·have ab:∀(i:Nat) (p:aG),(dE bl b (cs.take off++l++cs.drop (off+l.length),dp))[i]?=some p->∃dc,bl[i]?=some dc/\bJ ρ dc.1=bJ ρ p.1:=λi p hi=>by
    rcases dN i _ hi with⟨rfl,dJ⟩|⟨cW,hi⟩
    ·exact⟨_,aQ,by rw[dJ];exact mZ.trans (lv qF).symm⟩
    ·exact⟨p,hi,rfl⟩
   obtain⟨dc,hp,ep⟩:=ab i p hi
   obtain⟨eA,aj,eq⟩:=ab j q aI
   rw[<-ep,<-eq]
   exact h.inj i j dc eA hp aj he
theorem Mem.store {n:Nat} {ρ:Env} {m:Nat->Nat} {bl:List aG} {w:aE} {b off:Nat} {cs l:List A} {dp:bh×Bool} (h:Mem w0 ρ m bl w) (hb:cM n bl.length ρ bl) (hl:∀a∈l,A.ok n bl.length ρ a)
 (aQ:bl[b]?=some (cs,dp)) (yA:off+l.length<=cs.length) (o0:0<l.length) (ri:b7 cs=true) (qF:b7 (cs.take off++l++cs.drop (off+l.length))=true) (ty:bh) (hs:e7 P ty=some l.length) (v:aP) (hv:v.cells=(l.map (A.den ρ m)).toArray):
 ∃w',(abG ty (.pointer (some ⟨m b,off,none⟩)) v).run P w= .ok () w'/\Mem w0 ρ m (dE bl b (cs.take off++l++cs.drop (off+l.length),dp)) w':=by
 obtain⟨w',ir,Af⟩:=h.storeCells (P:=P) hb hl aQ yA ri qF
 refine⟨w',?_,Af⟩
 simp only[abG,mO,ic,js,iz,storeVar,jn hs,hv]
 simp only[zy,l6,ne_eq,not_true_eq_false,if_false,js,iz]
 simp only[js,iz,ir]
theorem j2 (bl:List aG) (b:Nat) (x:aG):(dE bl b x).length=bl.length:=by rw[kE];simp
theorem cM.set {n:Nat} {ρ:Env} {bl:List aG} {b:Nat} {cs:List A} {t:bh×Bool} (hb:cM n bl.length ρ bl) (hc:∀a∈cs,A.ok n bl.length ρ a):cM n (dE bl b (cs,t)).length ρ (dE bl b (cs,t)):=by
 intro p hp a ha
 rw[j2]
 rw[kE]at hp
 rcases MJ hp with h|h
 ·exact hb p h a ha
 ·subst h;exact hc a ha
theorem IG {t:bh} {cs:List A} (h:nX P t=some cs):∃i z,P.info? t=some i/\i.zero=some z/\zS z.cells.toList=some cs:=by
 unfold nX at h
 cases hi:P.info? t with
 |none=>simp[hi]at h
 |some i=>
  cases hz:i.zero with
  |none=>simp[hi,hz]at h
  |some z=>simp only[hi,hz]at h;exact⟨i,z,rfl,hz,h⟩
theorem afX {Z:Array aP} {i:Nat} (h:i<Z.size):Z[i]! =Z[i]:=by simp[h]
theorem azP {z:List A} {Z:Array aP} {n nb:Nat} {ρ:Env} {m:Nat->Nat} (hz:z.map (A.den ρ m)=Z.toList) (bV:∀a∈z,A.ok n nb ρ a) (h0:0<z.length) (len:Nat):
 (∀a∈LS z len,A.ok n nb ρ a)/\((LS z len).map (A.den ρ m)).toArray=(aEI (len*Z.size)).map λi=>Z[i% Z.size]! :=by
 have hl:Z.size=z.length:=by have:=congrArg np hz;simpa using this.symm
 have hi:∀i,i% z.length<z.length:=λi=>Ms _ h0
 refine⟨λa ha=>?_,?_⟩
 ·obtain⟨i,_,rfl⟩:=List.mem_map.1 ha
  rw[nq (hi i)]
  exact bV _ (FD _)
 ·apply SG
  rw[xV,abH]
  simp only[LS,nk,hl]
  refine jQ λi _=>?_
  simp only[Mv]
  have h1:i% z.length<Z.size:=by rw[hl];exact hi i
  rw[afX h1,nq (hi i)]
  simp only[Bk]
  have h2:=congrArg (λl=>l[i% z.length]?) hz
  simp only[pw,nq (hi i),xP]at h2
  rw[MG,Mw h1]at h2
  simpa using h2
theorem aog {t:bh} {len n:Nat} {ρ:Env} {m:Nat->Nat} {bl:List aG} {parts:List (Nat×V)} {vals:Array (Nat×aP)} {cs:List A} {e:bh} (h:UX P t len parts=some (cs,e)) (hr:MX n bl.length ρ m parts vals.toList):
 (∀a∈cs,A.ok n bl.length ρ a)/\∀w,(amd t len vals).run P w= .ok (.slice (some ⟨w.heap.size,0,none⟩) len len) (w.alloc (.cells (cs.map (A.den ρ m)).toArray e)):=by
 unfold UX at h
 cases h1:jo P t with
 |none=>simp[h1]at h
 |some cX=>
  simp only[h1]at h
  cases h2:e7 P cX with
  |none=>simp[h2]at h
  |some s=>
   cases h3:nX P cX with
   |none=>simp[h2,h3]at h
   |some z=>
    simp only[h2,h3]at h
    cases hc:(aK z.length s&&dv 0 s&&cx (len*s) 16777216)with
    |false=>simp[hc]at h
    |true=>
     simp only[hc,cond_true]at h
     simp only[bo]at hc
     have c1:=bO hc.1.1
     have bH:=r3 hc.1.2
     have cp:=e8 hc.2
     cases h4:yw (λi=>some (i*s,s)) (LS z len) parts with
     |none=>simp[h4]at h
     |some l=>
      simp only[h4,a7,ek]at h
      obtain⟨rfl,rfl⟩:=h
      obtain⟨inf,l8,hi,jk,lU⟩:=IG h3
      have rb:=zT lU n bl.length ρ m
      have Ez:=azP (Z:=l8.cells) rb.2 rb.1 (by omega) len
      have Eg:l8.cells.size=s:=by have:=congrArg np rb.2;simp at this;omega
      obtain⟨g1,g2⟩:=OD (m:=m) h4 Ez.1 hr
      refine⟨g1,λw=>?_⟩
      rw[Ez.2,Eg]at g2
      have hn:¬(16777216<len*s):=by omega
      by_cases m1:len=0
      ·subst m1
       have g3:Instr.fill (λi=>some (i*s,s)) ((aEI (0*s)).map λi=>(#[]:Array aP)[i% (#[]:Array aP).size]!) vals.toList=some (l.map (A.den ρ m)).toArray:=by
        rw[<-g2];congr 1;simp
       simp[amd,eU (h8 h1),jn h2]at g3⊢
       simp[g3,newRow]
      ·have cW:¬(len*s=0):=by
        intro h0
        rcases Nat.mul_eq_zero.1 h0 with h0|h0<;>omega
       have O9:¬(s=0):=by omega
       simp[amd,eU (h8 h1),jn h2,hn,cW,m1,O9,zeroValue,typeInfo,hi,jk,Eg,g2,newRow]
theorem aDR {Z:Array aP} {k:Nat} (h:0<Z.size):∃r:List aP,ns Z (k+1)=(Z.toList++r).toArray:=by
 refine⟨(ns Z (k+1)).toList.drop Z.size,?_⟩
 apply SG
 have:(ns Z (k+1)).toList.take Z.size=Z.toList:=by
  apply abI
  intro i
  rw[qY]
  by_cases hi:i<Z.size
  ·have h1:i<(k+1)*Z.size:=FA hi (by rw[xU];omega)
   rw[if_pos hi]
   simp only[ns,xV,abH,pw,amb h1,xP,abt hi]
   rw[afX hi,MG,Mw hi]
  ·rw[if_neg hi,abJ (by simpa using hi)]
 conv=>lhs;rw[<-ld Z.size (ns Z (k+1)).toList,this]
theorem GQ {w:aE} {n:Nat} {ρ:Env} {m:Nat->Nat} {bl:List aG} {b off k:Nat} {cs:List A} (hm:Mem w0 ρ m bl w) (hb:cM n bl.length ρ bl) (h:va bl b off k=some cs):
 cs.length=k/\(∀a∈cs,A.ok n bl.length ρ a)/\∀j v,(cs.map (A.den ρ m))[j]?=some v->w.cell? ((⟨m b,off,none⟩:Addr).add j)=some v:=by
 unfold va at h
 cases aQ:bl[b]? with
 |none=>simp[aQ]at h
 |some q=>
  obtain⟨C,t⟩:=q
  simp only[aQ]at h
  cases hc:(cx (off+k) C.length&&b7 C)with
  |false=>simp[hc]at h
  |true=>
   simp only[hc,cond_true,a7]at h
   simp only[bo]at hc
   have hle:=e8 hc.1
   subst h
   obtain⟨_,_,r,_,h2⟩:=hm.fe b C t aQ hc.2
   refine⟨by simp;omega,λa ha=>hb _ (eD aQ) a (oN (lf ha)),λj v aI=>?_⟩
   rw[jG]
   rw[pw,qY]at aI
   split at aI
   ·rename_i aIt
    rw[List.getElem?_drop]at aI
    cases aj:C[off+j]? with
    |none=>simp[aj]at aI
    |some y=>
     simp only[aj,xP,a7]at aI
     have hlt:off+j<C.length:=(List.getElem?_eq_some_iff.1 aj).1
     simp only[lH,h2,uD,uv,if_false,List.getElem?_toArray]
     rw[xQ (by simpa using hlt),pw,aj]
     simp[aI]
   ·simp at aI
theorem af2 {n:Nat} {ρ:Env} {m:Nat->Nat} {tm:List V} {bl:List aG} {a:Act} {w:aE} {G:ev} {K:Act->aE->Prop} {k:gR} {i:TypeInfo} {e:bh} {z:List A} {d:Option Tmp} {gp qR len:Nat} {olds news:List A} {Z:Array aP}
 (h:R w0 n ρ m tm bl a w) (ax:∀a∈olds,A.ok n bl.length ρ a) (hn:∀a∈news,A.ok n bl.length ρ a) (hz:∀a∈z,A.ok n bl.length ρ a) (Eg:z.map (A.den ρ m)=Z.toList) (ae:(OM i e z d gp qR len olds news n tm bl k).holds S L G ρ) (ab:ku S L w0 k n bl.length ρ m G K):
 (gp+len<=1000000/\amc (gp+len) qR*i.bytes<=281474976710656/\qR<gp+len/\0<len)/\
 K (a.put d (.slice (some ⟨w.heap.size,0,none⟩) (gp+len) (grownCap w (gp+len) qR e))) (w.drew.alloc (.cells ((olds.map (A.den ρ m)).toArray++(news.map (A.den ρ m)).toArray++ns Z (grownCap w (gp+len) qR e-(gp+len))) e)):=by
 unfold OM at ae
 cases hc:(cx (gp+len) 1000000&&cx (amc (gp+len) qR*i.bytes) 281474976710656&&dv qR (gp+len)&&dv 0 len&&aK z.length i.size&&dv 0 i.size&&b7 (olds++news)&&b7 (olds++news++z))with
 |false=>rw[hc]at ae;exact ae.elim
 |true=>
  simp only[hc,cond_true,T.holds]at ae
  simp only[bo]at hc
  obtain⟨⟨hc,ri⟩,qF⟩:=hc
  have c1:=e8 hc.1.1.1.1.1
  have bH:=e8 hc.1.1.1.1.2
  have cp:=r3 hc.1.1.1.2
  have cR:=r3 hc.1.1.2
  have eO:=bO hc.1.2
  have gI:=r3 hc.2
  refine⟨⟨c1,bH,cp,cR⟩,?_⟩
  have hsz:Z.size=z.length:=by have:=congrArg np Eg;simpa using this.symm
  have oh:gp+len<=grownCap w (gp+len) qR e:=by unfold grownCap aEJ;exact IT _ _
  generalize grownCap w (gp+len) qR e=c at oh⊢
  have tn:R w0 n ρ m tm bl a w.drew:=⟨h.t,h.d,h.b,h.bB.grow (Su (qc w))⟩
  by_cases OX:c=gp+len
  ·subst OX
   have Xy:ns Z (gp+len-(gp+len))=#[]:=by simp[ns]
   rw[Xy]
   have hR:=R.row (t:=e) (cs:=olds++news) (ex:=[]) (open_:=false) tn (λx hx=>(List.mem_append.1 hx).elim (ax x) (hn x)) (λ_=>rfl) ri d (v:= .w (.one (.slc bl.length 0 (gp+len) (gp+len)))) (x:= .slice (some ⟨w.heap.size,0,none⟩) (gp+len) (gp+len)) (by simp[V.ok,W.ok,A.ok]) (by
    show MA (some ⟨w.heap.size,0,none⟩) _ _=_
    simp[W.den,A.den,nf])
   have:=ab n ρ _ _ _ G _ _ (en.alloc n ρ m bl (olds++news,(e,false)) w.heap.size) (eM.refl _ _) hR ae.1
   simpa [iy]using this
  ·obtain⟨q,aj⟩:∃q,c-(gp+len)=q+1:=⟨c-(gp+len)-1,by omega⟩
   rw[aj]
   obtain⟨r,hr⟩:=aDR (Z:=Z) (k:=q) (by omega)
   rw[hr,<-Eg]
   have hR:=R.row (t:=e) (cs:=olds++news++z) (ex:=r) (open_:=true) tn (λx hx=>(List.mem_append.1 hx).elim (λhx=>(List.mem_append.1 hx).elim (ax x) (hn x)) (hz x)) (λh=>by cases h) qF d (v:= .p3 bl.length (gp+len) (gp+len+1)) (x:= .slice (some ⟨w.heap.size,0,none⟩) (gp+len) c) (by simp[V.ok]) ⟨c,by omega,by
    rw[nf];rfl⟩
   have:=ab n ρ _ _ _ G _ _ (en.alloc n ρ m bl (olds++news++z,(e,true)) w.heap.size) (eM.refl _ _) hR ae.2
   simpa [iy]using this
theorem anL {n:Nat} {ρ:Env} {m:Nat->Nat} {tm:List V} {bl:List aG} {a:Act} {w:aE} {G:ev} {o:Oper} {K:Act->aE->Prop} {Q:Exit->Act->aE->Prop} {k:gR} {c:Call} {s x:oM} {t t':bh}
 (h:R w0 n ρ m tm bl a w) (e6:o.op= .call c) (lU:c.callee= .builtin .append) (fv:c.args.toList=[s,x]) (mn:c.argTypes.toList=[t,t'])
 (ae:(UA P o.dst t t' (cd tm s) (cd tm x) n tm bl k).holds S L G ρ) (ab:ku S L w0 k n bl.length ρ m G K):o.wp P a w K Q:=by
 have bZ:c.args=#[s,x]:=by rw[<-kc (xs:=c.args),fv]
 have a2:c.argTypes=#[t,t']:=by rw[<-kc (xs:=c.argTypes),mn]
 have hex:execOp a.eval o=(do pure (kr (<-I2 #[t,t'] o.type #[a.eval s,a.eval x]))):=by
  simp[execOp,e6,resolve,lU,bZ,a2,invoke,builtin]
 have Ak:∀v w',(I2 #[t,t'] o.type #[a.eval s,a.eval x]).run P w= .ok v w'->K (a.put o.dst v) w'->o.wp P a w K Q:=λv w' h1 h2=>by
  unfold mQ
  simp only[hex,ic,h1,iz,js]
  exact h2
 have hs:=cy h.t s
 have hx:=cy h.t x
 unfold UA at ae
 split at ae
 ·rename_i b' jB oz jw e Am Aj
  rw[Am]at hx
  have dk:a.eval x= .slice (some ⟨m b',jB,none⟩) oz jw:=hx.2
  split at ae
  ·rename_i i z hi hz
   split at ae
   ·rename_i news as3
    obtain⟨aT,eF,ru⟩:=GQ h.bB h.b as3
    cases Pp:aK t t' with
    |false=>simp[Pp,T.holds]at ae
    |true=>
     have Pp:=bO Pp
     subst Pp
     simp only[FB,ix,cond_false]at ae
     obtain⟨inf,l8,oi,jk,rb⟩:=IG hz
     rw[hi]at oi
     simp only[a7]at oi
     subst oi
     have rb:=zT rb n bl.length ρ m
     cases oZ:XG (cd tm s)with
     |true=>
      simp only[oZ,cond_true]at ae
      have sb:a.eval s= .slice none 0 0:=by
       unfold XG at oZ
       split at oZ
       ·rename_i hv
        rw[hv]at hs
        exact hs.2
       ·cases oZ
      obtain⟨⟨c1,bH,cp,cR⟩,eO⟩:=af2 (Z:=l8.cells) h (λ_ h=>by simp at h) eF rb.1 rb.2 ae ab
      simp only[uC]at c1 bH cp cR eO
      refine Ak _ _ ?_ eO
      rw[sb,dk,run_append_nil w t _ e i l8 (h8 Aj) hi jk ⟨m b',jB,none⟩ oz jw (news.map (A.den ρ m)) (by simpa using aT) ru cR (by omega) (by rw[nextslicecap_zero cR]at bH;exact bH)]
      simp
     |false=>
      simp only[oZ,cond_false]at ae
      split at ae
      ·rename_i b off len cap rk
       rw[rk]at hs
       have sb:a.eval s= .slice (some ⟨m b,off,none⟩) len cap:=hs.2
       split at ae
       ·rename_i olds hold
        obtain⟨o1,tF,ajj⟩:=GQ h.bB h.b hold
        obtain⟨⟨c1,bH,cp,cR⟩,eO⟩:=af2 (Z:=l8.cells) h tF eF rb.1 rb.2 ae ab
        refine Ak _ _ ?_ eO
        rw[sb,dk,run_append_grow w t _ e i l8 (h8 Aj) hi jk ⟨m b,off,none⟩ len cap (olds.map (A.den ρ m)) (by simpa using o1) ajj ⟨m b',jB,none⟩ oz jw (news.map (A.den ρ m)) (by simpa using aT) ru cp (by omega) bH]
       ·exact ae.elim
      ·rename_i b len lo rk
       rw[rk]at hs
       obtain⟨lQ,Cs,sb⟩:=hs.2
       split at ae
       ·rename_i cs ty aQ
        cases hc:(cx (len+oz) lo&&cx ((len+oz)*i.size) cs.length&&dv 0 (oz*i.size)&&b7 cs&&b7 (cs.take (len*i.size)++news++cs.drop (len*i.size+news.length)))with
        |false=>rw[hc]at ae;exact ae.elim
        |true=>
         simp only[hc,cond_true]at ae
         simp only[bo]at hc
         obtain⟨⟨hc,ri⟩,qF⟩:=hc
         have c1:=e8 hc.1.1
         have bH:=e8 hc.1.2
         have cp:=r3 hc.2
         obtain⟨w',ir,Af⟩:=h.bB.storeCells (P:=P) (off:=len*i.size) (l:=news) h.b eF aQ (by rw[aT,<-xW];exact bH) ri qF
         have bV:∀a∈cs.take (len*i.size)++news++cs.drop (len*i.size+news.length),A.ok n bl.length ρ a:=λa ha=>by
          have c0:=h.b _ (eD aQ)
          rcases List.mem_append.1 ha with ha|ha
          ·rcases List.mem_append.1 ha with ha|ha
           ·exact c0 a (lf ha)
           ·exact eF a ha
          ·exact c0 a (oN ha)
         have Kg:b<bl.length:=(List.getElem?_eq_some_iff.1 aQ).1
         refine Ak (.slice (some ⟨m b,0,none⟩) (len+oz) lQ) w' ?_ (ab n ρ m _ _ G _ w' ⟨bL _,agree.refl _ _,by rw[j2];exact bL _,λ_ _=>rfl⟩ (eM.refl _ _) ⟨?_,by rw[put_defers];exact h.d,h.b.set bV,Af⟩ ae)
         ·have Cu:=SH (P:=P) w i.size oz ⟨m b',jB,none⟩ oz jw (news.map (A.den ρ m)) (by simpa using aT) ru
          have hle:len+oz<=lQ:=by omega
          rw[sb,dk]
          simp[I2,eU (h8 Aj),sizeOf,typeInfo,hi,SI,hle,Cu,jG,ir]
         ·rw[j2]
          exact ef.put h.t o.dst Kg ⟨lQ,by omega,rfl⟩
       ·exact ae.elim
      ·exact ae.elim
   ·exact ae.elim
  ·exact ae.elim
 ·exact ae.elim
theorem QX {n:Nat} {ρ:Env} {m:Nat->Nat} {tm:List V} {bl:List aG} {a:Act} {w:aE} {G:ev} {o:Oper} {K:Act->aE->Prop} {Q:Exit->Act->aE->Prop} {k:gR}
 (cU:hk S P gl w0 cal) (hg:eX gl w0) (h:R w0 n ρ m tm bl a w) (ae:(AW P cal gl bl tm o n λv n'=>k n' (fw tm o.dst v) bl).holds S L G ρ) (ab:ku S L w0 k n bl.length ρ m G K):o.wp P a w K Q:=by
 obtain⟨aa,n',v,hn,ha,⟨hv,val,hr,aj⟩,GY⟩:=ZH (L:=L) cU h.b hg ⟨w,h.bB⟩ h.t o G _ ae
 have hl:en n bl.length ρ m n' bl.length aa m:=⟨hn,ha,bL _,λ_ _=>rfl⟩
 have hR:∀w',w.Extends w'->R w0 n' aa m (fw tm o.dst v) bl (a.put o.dst val) w':=λw' he=>
  ⟨ef.put (h.t.ext ha hn (bL _) (λ_ _=>rfl)) o.dst hv hr,by rw[put_defers];exact h.d,h.b.ext ha hn (bL _),(h.bB.grow he).p6 h.b ha⟩
 unfold mQ
 rcases aj w h.bB with aj|⟨f,args,aj,hc⟩
 ·rw[aj]
  exact ab n' aa m _ bl G _ w hl (eM.refl _ _) (hR w (qc w)) GY
 ·rw[aj]
  refine hc.mono λe p8 ⟨he,hx⟩=>?_
  subst he
  exact ab n' aa m _ bl G _ p8 hl (eM.refl _ _) (hR p8 hx) GY
theorem aoT {n nb:Nat} {ρ:Env} {m:Nat->Nat} {v:V} {f:Nat} {jS:List A} {x:aP} (h:Vb v=some (f,jS)) (hv:v.ok n nb ρ) (hr:v.rel ρ m x):
 (∀y∈jS,A.ok n nb ρ y)/\x= .func (.func f) #[] (jS.map (A.den ρ m)).toArray:=by
 unfold Vb at h
 split at h
 ·simp only[a7,ek]at h
  obtain⟨rfl,rfl⟩:=h
  exact⟨hv,hr⟩
 ·rename_i qB a b
  cases hc:(aK a.size 0&&aK b.size 0)with
  |false=>simp[hc]at h
  |true=>
   simp only[hc,cond_true,a7,ek]at h
   obtain⟨rfl,rfl⟩:=h
   simp only[bo]at hc
   have aw:=Bq (bO hc.1)
   have aF:=Bq (bO hc.2)
   subst aw;subst aF
   have hr:x= .func (.func qB) #[] #[]:=hr
   exact⟨λy hy=>by simp at hy,by rw[hr];rfl⟩
 ·cases h
end
end Go.b6
namespace Go.b6
open M
theorem cw.row {sh:List aL} {row:List Int} (hs:nT sh=true) (h:cw sh row):ZO row:=by
 unfold nT at hs
 simp only[bo]at hs
 obtain⟨⟨h0,J4⟩,h2⟩:=hs
 refine⟨by rw[h.len];exact e8 h0,?_⟩
 have hp:=Tx
 clear h0 J4
 induction sh generalizing row with
 |nil=>
  cases row with
  |nil=>intro z hz;simp at hz
  |cons _ _=>exact h.elim
 |cons c sh ih=>
  cases row with
  |nil=>exact h.elim
  |cons x r=>
   simp only[ame,bo]at h2
   intro z hz
   rcases List.mem_cons.1 hz with rfl|hz
   ·have h3:=h.1
    cases c with
    |int k lo hi=>
     have h4:=h2.1
     simp only[bo,decide_eq_true_eq]at h4
     simp only[aL.fq]at h3
     omega
    |str=>simp only[aL.fq]at h3;omega
    |bool=>simp only[aL.fq]at h3;omega
   ·exact ih h.2 h2.2 z hz
theorem Dl {sh:List aL} {rows:List (List Int)} (hs:nT sh=true) (hl:rows.length<=1073741824) (h:∀row∈rows,cw sh row):rc rows<=bN:=
 rK (by unfold maxLen;omega) λrow hr=>(h row hr).row hs
theorem aL.val_one (c:aL) (z:Int):(c.val z).oneCell'=true:=by cases c<;>rfl
theorem aj1:∀{sh:List aL} {row:List Int},∀u∈dq sh row,u.oneCell'=true
 |[],_,u,h=>by simp[dq]at h
 |_::_,[],u,h=>by simp[dq]at h
 |c::sh,z::r,u,h=>by
  simp only[dq,mL]at h
  rcases h with rfl|h
  ·exact aL.val_one c z
  ·exact aj1 u h
theorem VO {sh:List aL} {rows:List (List Int)}:∀u∈b2 sh rows,u.oneCell'=true:=λu h=>by
 obtain⟨row,_,h⟩:=List.mem_flatMap.1 h
 exact aj1 u h
theorem mU.flat {cells:Array aP} {off:Nat} {sh:List aL} {rows:List (List Int)} (h:mU cells off sh rows) {j:Nat} {v:aP} (aI:(b2 sh rows)[j]?=some v):cells[off+j]?=some v:=by
 obtain⟨h1,pre,post,h2,h3⟩:=h
 have hlt:=(List.getElem?_eq_some_iff.1 aI).1
 rw[<-MG,h2,kq,IS (by omega),xQ (by omega)]
 rw[show off+j-pre.length=j by omega];exact aI
theorem mU.sub {cells:Array aP} {off:Nat} {sh:List aL} {rows:List (List Int)} (h:mU cells off sh rows) (a k:Nat) (ha:a<=rows.length):mU cells (off+a*sh.length) sh ((rows.drop a).take k):=by
 obtain⟨h1,pre,post,h2,h3⟩:=h
 refine⟨λrow hr=>h1 row (oN (lf hr)),pre++b2 sh (rows.take a),b2 sh ((rows.drop a).drop k)++post,?_,?_⟩
 ·rw[h2]
  have:rows=rows.take a++((rows.drop a).take k++(rows.drop a).drop k):=by rw[ld,ld]
  conv=>lhs;rw[this]
  simp only[wK,kq]
 ·rw[fc,h3,oc λrow hr=>h1 row (lf hr),px,Dc ha]
section
variable {S:Nat->List Int->List Int->Prop} {L:V->Env->Prop} {n:Nat} {ρ:Env} {m:Nat->Nat} {bl:List aG} {gl:eI} {w0:dX} {P:bQ}
theorem Pu {e:bw}:az S L (EH e) n ρ λaa n' l=>l.bD n'/\(0<=l.den aa/\l.den aa<=1)/\e.den ρ=decide (l.den aa=1):=by
 intro A k ab
 cases h:e.den ρ with
 |true=>exact⟨_,n+1,_,qZ _,agree.de _ _ _,⟨I.fg (xT n),by simp[I.cE,kF],by simp[I.cE,kF]⟩,ab 1 (by decide) (by decide) (by simp[h])⟩
 |false=>exact⟨_,n+1,_,qZ _,agree.de _ _ _,⟨I.fg (xT n),by simp[I.cE,kF],by simp[I.cE,kF]⟩,ab 0 (by decide) (by decide) (by simp[h])⟩
theorem aoL {nb:Nat} {c:aL} {a:A} (ha:a.ok n nb ρ):az S L (U6 c a) n ρ λaa n' l=>l.bD n'/\(c.fq.1<=l.den aa/\l.den aa<=c.fq.2)/\c.val (l.den aa)=a.den ρ m:=by
 unfold U6
 split
 ·refine dY λhc=>az.pure ?_
  simp only[bo,decide_eq_true_eq]at hc
  obtain⟨⟨h1,h2⟩,h3⟩:=hc
  have h4:=ha.2
  refine⟨ha.1,⟨?_,?_⟩,?_⟩
  ·simp only[aL.fq];omega
  ·simp only[aL.fq];omega
  ·simp only[aL.val,A.den,h1]
 ·exact az.pure ⟨ha.1,ha.2,rfl⟩
 ·split
  ·rename_i v
   refine az.pure ⟨I.c5 _ _,?_,?_⟩
   ·simp only[aL.fq,I.bg];cases v<;>decide
   ·simp only[aL.val,A.den,bw.den,I.bg];cases v<;>rfl
  ·rename_i e _
   exact Pu.mono λaa n' l _ _ ⟨h1,h2,h3⟩=>⟨h1,h2,by simp only[aL.val,A.den,h3]⟩
 ·exact az.fail
theorem H6 {nb:Nat}:∀{sh:List aL} {l:List A} {n:Nat} {ρ:Env},(∀a∈l,A.ok n nb ρ a)->az S L (A5 sh l) n ρ λaa n' ls=>(∀x∈ls,I.bD n' x)/\cw sh (ls.map (·.den aa))/\dq sh (ls.map (·.den aa))=l.map (A.den ρ m)
 |[],[],n,ρ,_=>az.pure ⟨λ_ h=>by simp at h,trivial,rfl⟩
 |c::sh,a::r,n,ρ,h=>by
  have h0:=h a (by simp)
  refine(aoL (m:=m) h0).bind λaJ aT x hn ha ⟨g1,g2,g3⟩=>(H6 (nb:=nb) (sh:=sh) (l:=r) λb hb=>(h b (dU _ hb)).ext ha hn (bL _)).bind λbR eF ls eL dz ⟨k1,k2,k3⟩=>az.pure ⟨λy hy=>?_,?_,?_⟩
  ·rcases List.mem_cons.1 hy with rfl|hy
   ·exact g1.mono eL
   ·exact k1 y hy
  ·simp only[cQ]
   exact⟨by rw[I.bX dz g1];exact g2,k2⟩
  ·simp only[cQ,dq,I.bX dz g1,g3,k3]
   rw[vp (λb hb=>h b (dU _ hb)) ha (λ_ _=>rfl)]
 |[],_::_,_,_,_=>az.fail
 |_::_,[],_,_,_=>az.fail
theorem Jx {w:Nat}:∀{k:Nat} {l:List A},l.length=k*w->(oS w k l).length=k/\(oS w k l).flatten=l
 |0,l,h=>by
  have:l=[]:=xX (by omega)
  subst this;exact⟨rfl,rfl⟩
 |k+1,l,h=>by
  rw[xU]at h
  have ih:=Jx (w:=w) (k:=k) (l:=l.drop w) (by simp;omega)
  exact⟨by simp[oS,ih.1],by simp[oS,ih.2]⟩
theorem Jy {w:Nat}:∀{k:Nat} {l:List A},∀row∈oS w k l,∀a∈row,a∈l
 |0,l,row,h,a,ha=>by simp[oS]at h
 |k+1,l,row,h,a,ha=>by
  simp only[oS,mL]at h
  rcases h with rfl|h
  ·exact lf ha
  ·exact oN (Jy row h a ha)
theorem Ji {nb:Nat} {sh:List aL} (kh:nT sh=true):∀{rs:List (List A)} {n:Nat} {ρ:Env} {c:I},(∀row∈rs,∀a∈row,A.ok n nb ρ a)->c.bD n->(0<=c.den ρ/\c.den ρ<=bN)->(∀row∈ah (c.den ρ),cw sh row)->(ah (c.den ρ)).length+rs.length<=1073741824->
 az S L (BE sh rs c) n ρ λaa n' eg=>eg.bD n'/\(0<=eg.den aa/\eg.den aa<=bN)/\∃dT,ah (eg.den aa)=ah (c.den ρ)++dT/\dT.length=rs.length/\(∀row∈dT,cw sh row)/\b2 sh dT=rs.flatten.map (A.den ρ m)
 |[],n,ρ,c,_,h1,h2,_,_=>az.pure ⟨h1,h2,[],by simp,rfl,λ_ h=>by simp at h,rfl⟩
 |row::rs,n,ρ,c,h0,h1,h2,h3,h4=>by
  refine(H6 (nb:=nb) (m:=m) (sh:=sh) (l:=row) (h0 row (by simp))).bind λaJ aT ls hn ha ⟨g1,g2,g3⟩=>?_
  have aw:c.den aJ=c.den ρ:=I.bX ha h1
  have hf:bt 23 ((c::ls).map (·.den aJ))=rc (ah (c.den ρ)++[ls.map (·.den aJ)]):=by
   simp only[cQ,bt,aw]
  simp only[jd]at h4
  have rj:∀r∈ah (c.den ρ)++[ls.map (·.den aJ)],cw sh r:=λr hr=>by
   rcases List.mem_append.1 hr with hr|hr
   ·exact h3 r hr
   ·simp at hr;subst hr;exact g2
  have hb:rc (ah (c.den ρ)++[ls.map (·.den aJ)])<=bN:=Dl kh (by simp;omega) rj
  refine(hI (by rw[hf];exact ja _) (by rw[hf];exact hb)).bind λbR eF eg eL dz ⟨k1,k2⟩=>?_
  rw[hf]at k2
  have aF:ah (eg.den bR)=ah (c.den ρ)++[ls.map (·.den aJ)]:=by rw[k2,jm]
  have aM:=ha.trans dz hn
  refine(Ji (nb:=nb) (rs:=rs) (c:=eg) kh (λr hr a Ej=>(h0 r (dU _ hr) a Ej).ext aM (lg hn eL) (bL _)) k1 (by rw[k2];exact⟨ja _,hb⟩) (by rw[aF];exact rj) (by rw[aF];simp;omega)).mono λhj ru cp Ag tl ⟨cm,cl,dT,c3,e0,fb,gm⟩=>⟨cm,cl,ls.map (·.den aJ)::dT,?_,by simp[e0],λr hr=>?_,?_⟩
  ·rw[c3,aF];simp
  ·rcases List.mem_cons.1 hr with rfl|hr
   ·exact g2
   ·exact fb r hr
  ·show dq sh (ls.map (·.den aJ))++b2 sh dT=_
   rw[gm,g3,sH,iy]
   congr 1
   refine jQ λa OV=>A.lR (n:=n) (nb:=nb) ?_ aM (λ_ _=>rfl)
   obtain⟨r,hr,Ej⟩:=List.mem_flatten.1 OV
   exact h0 r (dU _ hr) a Ej
def anm (P:bQ) (qU:bh) (sh:List aL) (X:aP) (w:aE) (old:List (List Int)) (aa:Env) (n':Nat) (p:I×I):Prop:=
 p.1.bD n'/\p.2.bD n'/\(0<=p.1.den aa/\p.1.den aa<=bN)/\∃dT,ah (p.1.den aa)=old++dT/\p.2.den aa=dT.length/\(∀row∈dT,cw sh row)/\old.length+dT.length<=1073741824/\Src P sh.length qU X dT.length (b2 sh dT) w
theorem akG {sh:List aL} (kh:nT sh=true) {w:aE} (hb:cM n bl.length ρ bl) (hw:Mem w0 ρ m bl w) {qU:bh} {x:V} {X:aP} (hx:x.ok n bl.length ρ) (bT:x.rel ρ m X) {base:I} (ra:base.bD n)
 (agu:0<=base.den ρ/\base.den ρ<=bN) (wO:∀row∈ah (base.den ρ),cw sh row):az S L (Rm P qU sh bl x base) n ρ (anm P qU sh X w (ah (base.den ρ))):=by
 unfold Rm
 split
 ·rename_i b off len cap
  split
  ·rename_i cs cX c0 Ha
   obtain⟨c1,bH,cp⟩:=GQ hw hb c0
   refine iM λab=>?_
   simp only[cQ,e3,au,I.bg]at ab
   have ml:=Jx (w:=sh.length) (k:=len) c1
   refine(Ji (nb:=bl.length) (m:=m) kh (rs:=oS sh.length len cs) (c:=base) (λrow hr a ha=>bH a (Jy row hr a ha)) ra agu wO (by rw[ml.1];omega)).bind λaJ aT eg hn ha ⟨cm,cl,dT,c3,e0,fb,gm⟩=>az.pure ⟨cm,I.c5 _ _,cl,dT,c3,?_,fb,by rw[e0,ml.1];omega,?_⟩
   ·rw[I.bg,e0,ml.1]
   ·have bT:X= .slice (some ⟨m b,off,none⟩) len cap:=bT
    rw[ml.2]at gm
    rw[bT,gm,e0,ml.1]
    exact Src.ofSlice w (h8 Ha) _ _ _ _ (by simpa using c1) cp (λu hu=>by
     obtain⟨a,ha,rfl⟩:=List.mem_map.1 hu
     exact A.QH (bH a ha))
  ·exact az.fail
 ·rename_i b bq o ro len cap
  split
  ·rename_i fh off code eE kind dp cX aQ Ha
   refine dY λhc=>iM λkP=>iM λoY=>?_
   simp only[bo]at hc
   obtain⟨⟨⟨c1,bH⟩,cp⟩,cR⟩:=hc
   have c1:0<kind:=e8 c1
   have bH:=C6 bH
   have cp:=I.beq_eq cp
   have cR:=bO cR
   subst bH;subst cp;subst cR
   simp only[cQ,e3,au,I.den_add]at kP oY
   have o3:(A.sl b sh.length o ro len cap).ok n bl.length ρ:=hx
   obtain⟨ptr,aw,aF,cb⟩:=uj (m:=m) o3
   have bT:X=(A.sl b sh.length o ro len cap).den ρ m:=bT
   rw[aw]at bT
   obtain⟨ai,⟨af,ar,cN,ia⟩,⟨iR,k9,la,lb⟩,⟨lD,k8⟩,gC,iQ⟩:=o3
   have m3:=hw.rws b sh o code eE kind dp aQ (by omega)
   have j8:∀row∈ah (code.den ρ),cw sh row:=λrow hr=>by
    rcases kI (eE.den ρ) 0 with h|h
    ·rw[m3.1 h]at hr;simp at hr
    ·obtain⟨_,cells,km,fz,_,⟨_,g3⟩,_⟩:=m3.2 h
     exact g3.1 row hr
   have KP:∀row∈(((ah (code.den ρ)).drop (ro.den ρ).toNat).take (len.den ρ).toNat),cw sh row:=λrow hr=>j8 row (oN (lf hr))
   have hlen:(((ah (code.den ρ)).drop (ro.den ρ).toNat).take (len.den ρ).toNat).length=(len.den ρ).toNat:=by simp;omega
   have re:bt 22 ([code,ro,ro.add len].map (·.den ρ))=rc (((ah (code.den ρ)).drop (ro.den ρ).toNat).take (len.den ρ).toNat):=by
    simp only[cQ,e3,bt,I.den_add]
    have:(ro.den ρ+len.den ρ).toNat-(ro.den ρ).toNat=(len.den ρ).toNat:=by omega
    rw[this]
   have GL:Src P sh.length qU X (((ah (code.den ρ)).drop (ro.den ρ).toNat).take (len.den ρ).toNat).length (b2 sh (((ah (code.den ρ)).drop (ro.den ρ).toNat).take (len.den ρ).toNat)) w:=by
    rw[bT]
    by_cases cZ:cap.den ρ<0
    ·have h0:=gC cZ
     rw[aF cZ,if_pos cZ,h0]
     simp only[Int.toNat_zero,nt]
     exact Src.ofNil w (h8 Ha) 0
    ·rw[cb (by omega),if_neg cZ,hlen]
     refine Src.ofSlice w (h8 Ha) _ _ _ _ (by rw[oc KP,hlen]) (λj u hu=>?_) VO
     rw[jG]
     rcases kI (eE.den ρ) 0 with h|h
     ·rw[m3.1 h]at hu;simp[b2]at hu
     ·obtain⟨_,cells,km,fz,g1,⟨_,g3⟩,_⟩:=m3.2 h
      have:=(g3.sub (ro.den ρ).toNat (len.den ρ).toNat (by omega)).flat hu
      simp only[lH,g1,uD,uv,if_false]
      exact this
   generalize rf:(((ah (code.den ρ)).drop (ro.den ρ).toNat).take (len.den ρ).toNat)=mid at KP hlen re GL
   have nF:rc mid<=bN:=Dl kh (by omega) KP
   refine(hI (by rw[re];exact ja _) (by rw[re];exact nF)).bind λaJ aT s gi eK ⟨g1,g2⟩=>?_
   rw[re]at g2
   have Ce:base.den aJ=base.den ρ:=I.bX eK ra
   have kg:bt 24 ([base,s].map (·.den aJ))=rc (ah (base.den ρ)++mid):=by
    simp only[cQ,e3,bt,Ce,g2,jm]
   have iE:∀row∈ah (base.den ρ)++mid,cw sh row:=λrow hr=>(List.mem_append.1 hr).elim (wO row) (KP row)
   have og:rc (ah (base.den ρ)++mid)<=bN:=Dl kh (by simp;omega) iE
   refine(hI (by rw[kg];exact ja _) (by rw[kg];exact og)).bind λbR eF c eL dz ⟨k1,k2⟩=>az.pure ⟨k1,cN.mono (lg gi eL),?_,mid,?_,?_,KP,by omega,GL⟩
   ·rw[k2,kg];exact⟨ja _,og⟩
   ·rw[k2,kg,jm]
   ·rw[I.bX (eK.trans dz gi) cN,hlen];omega
  ·exact az.fail
 ·rename_i l
  split
  ·rename_i hu
   refine dY λGO=>?_
   have atz:∃lo hi,sh=[.int .u8 lo hi]/\lo=0/\hi=255:=by
    unfold Nt at GO
    split at GO
    ·simp only[bo,decide_eq_true_eq]at GO
     exact⟨_,_,rfl,GO.1,GO.2⟩
    ·cases GO
   obtain⟨lo,hi,rfl,rfl,rfl⟩:=atz
   have hl:(A.str l).ok n bl.length ρ:=hx
   have bT:X= .string (dI (bp (l.den ρ))):=bT
   have asU:=I8 hl.2.2
   unfold kW at asU
   refine(hI (op:=0) (args:=[l]) (IN _) (by show((bp (l.den ρ)).length:Int)<=_;omega)).bind λaJ aT len gi eK ⟨g1,g2⟩=>iM λab=>?_
   have g2:len.den aJ=(bp (l.den ρ)).length:=g2
   have Ce:base.den aJ=base.den ρ:=I.bX eK ra
   have el:l.den aJ=l.den ρ:=I.bX eK hl.1
   simp only[cQ,e3,au,Ce,g2]at ab
   have re:bt 27 ([l].map (·.den aJ))=rc ((bp (l.den ρ)).map λb=>[(b.toNat:Int)]):=by
    simp only[cQ,e3,bt,el]
   have rf:∀row∈((bp (l.den ρ)).map λb=>[(b.toNat:Int)]),cw [.int .u8 0 255] row:=λrow hr=>by
    obtain⟨b,_,rfl⟩:=List.mem_map.1 hr
    have:=b.toNat_lt
    refine⟨⟨?_,?_⟩,trivial⟩
    ·simp only[aL.fq];omega
    ·simp only[aL.fq];omega
   have G6:((bp (l.den ρ)).map λb=>[(b.toNat:Int)]).length=(bp (l.den ρ)).length:=by simp
   have j6:b2 [.int .u8 0 255] ((bp (l.den ρ)).map λb=>[(b.toNat:Int)])=byteCells (dI (bp (l.den ρ))):=by
    unfold byteCells b2 dI
    simp only[aEM]
    generalize bp (l.den ρ)=q
    induction q with
    |nil=>rfl
    |cons y r ih=>rw[sL,cQ,ih];rfl
   have GL:=Src.ofString (P:=P) w hu (dI (bp (l.den ρ)))
   rw[<-j6,zL,<-bT]at GL
   generalize nI:((bp (l.den ρ)).map λb=>[(b.toNat:Int)])=mid at rf G6 re GL
   have nF:rc mid<=bN:=Dl kh (by omega) rf
   refine(hI (by rw[re];exact ja _) (by rw[re];exact nF)).bind λbR eF s eL dz ⟨h1,h2⟩=>?_
   rw[re]at h2
   have apy:base.den bR=base.den ρ:=(I.bX dz (ra.mono gi)).trans Ce
   have kg:bt 24 ([base,s].map (·.den bR))=rc (ah (base.den ρ)++mid):=by
    simp only[cQ,e3,bt,apy,h2,jm]
   have iE:∀row∈ah (base.den ρ)++mid,cw [.int .u8 0 255] row:=λrow hr=>(List.mem_append.1 hr).elim (wO row) (rf row)
   have og:rc (ah (base.den ρ)++mid)<=bN:=Dl kh (by simp;omega) iE
   refine(hI (by rw[kg];exact ja _) (by rw[kg];exact og)).bind λhj ru c Ag tl ⟨k1,k2⟩=>az.pure ⟨k1,g1.mono (lg eL Ag),?_,mid,?_,?_,rf,by omega,?_⟩
   ·rw[k2,kg];exact⟨ja _,og⟩
   ·rw[k2,kg,jm]
   ·rw[I.bX (dz.trans tl eL) g1,g2,G6]
   ·rw[G6];exact GL
  ·exact az.fail
 ·split
  ·rename_i cX Ha
   refine iM λab=>az.pure ⟨ra,I.c5 _ _,agu,[],by simp,by simp[I.bg],λ_ h=>by simp at h,?_,?_⟩
   ·simp only[cQ,e3,au,I.bg]at ab
    simp only[n0];omega
   ·have bT:X= .slice none 0 0:=bT
    rw[bT]
    exact Src.ofNil w (h8 Ha) 0
  ·exact az.fail
 ·exact az.fail
theorem az1 (w:aE) (t qU ty e:bh) (i:TypeInfo) (aA:P.underlying t=some (.slice e)) (hi:P.info? e=some i) (g gp qR:Nat) (cur:Array aP) (Gx:bh) (hg:w.heap[g]?=some (.cells cur Gx (0,0))) (x:aP) (k:Nat) (news:List aP) (hs:Src P i.size qU x k news w)
 (KM:gp+k<=qR) (yA:gp*i.size+news.length<=cur.size):
 (I2 #[t,qU] ty #[.slice (some ⟨g,0,none⟩) gp qR,x]).run P w= .ok (.slice (some ⟨g,0,none⟩) (gp+k) qR) (w.setRow g (cur.toList.take (gp*i.size)++news++cur.toList.drop (gp*i.size+news.length)).toArray):=by
 have lV:=run_storeCells_at P g (gp*i.size) Gx news 0 cur w hg (by simpa using yA) hs.one
 simp only[mM]at lV
 rcases hs.kind with⟨cX,ab⟩|ab<;>simp[I2,eU aA,eU ab,sizeOf,typeInfo,hi,hs.len,KM,hs.cells,Addr.add_lit,lV]
theorem alP (Z:Array aP) (k:Nat):(ns Z k).size=k*Z.size:=by simp[ns]
theorem af4 (w:aE) (HB old:Nat) (e:bh) (h:HB<=1073741824):HB<=grownCap w HB old e/\grownCap w HB old e<=9223372036854775807:=by
 have hlt:=Ms (w.tape w.drawn (.appendCap HB old e)) (show 0<2^63-HB by omega)
 simp only[grownCap,aEJ]
 omega
theorem ajH {kd:Nat} {tm:List V} {a:Act} {w:aE} {G:ev} {K:Act->aE->Prop} {k:gR} {e:bh} {d:Option Tmp} {sh:List aL} {code len:I} {c:Int} {g:Nat}
 (im:2<=kd) (h:R w0 n ρ m tm bl a w) (c0:code.bD n) (Cw:len.bD n) (gL:0<=code.den ρ/\code.den ρ<=bN) (hc:-1<=c/\c<=9223372036854775807) (vh:Fs 0 0 (len.den ρ) c)
 (oZ:c<0->ah (code.den ρ)=[])
 (KD:0<=c->∃(cells:Array aP) (fz:Nat×Nat),(w.heap[g]?=some (.cells cells e fz)/\zD kd fz cells.size)/\mU cells 0 sh (ah (code.den ρ))/\cells.size=c.toNat*sh.length/\w0.b.heap.size<=g/\(w0.ex g∨w0.r.heap.size<=g))
 (yC:∀(i:Nat) (p:aG),bl[i]?=some p->m i=g->bJ ρ p.1=0∨c<0)
 (ae:(k (n+1) (fw tm d (.w (.one (.sl bl.length sh.length (.const 0) (.const 0) len (.var n))))) (bl++[([.rows sh (.const 0) code (.var n) kd],(e,false))])).holds S L G (de ρ n c)) (ab:ku S L w0 k n bl.length ρ m G K):
 K (a.put d (if c<0 then .slice none 0 0 else .slice (some ⟨g,0,none⟩) (len.den ρ).toNat c.toNat)) w:=by
 have ha:agree n ρ (de ρ n c):=agree.de _ _ _
 have nF:cM (n+1) bl.length (de ρ n c) bl:=h.b.ext ha (qZ _) (bL _)
 have Pb:Mem w0 (de ρ n c) m bl w:=h.bB.p6 h.b ha
 have aw:code.den (de ρ n c)=code.den ρ:=I.bX ha c0
 have aF:len.den (de ρ n c)=len.den ρ:=I.bX ha Cw
 have cb:(I.var n).den (de ρ n c)=c:=by simp[I.cE,kF]
 have aM:(A.rows sh (.const 0) code (.var n) kd).ok (n+1) bl.length (de ρ n c):=⟨⟨I.c5 _ _,c0.mono (qZ _),I.fg (xT n)⟩,by rw[aw];exact gL,by rw[cb];omega⟩
 have mY:=Pb.push (x:=([.rows sh (.const 0) code (.var n) kd],(e,false))) (g:=g) nF (λy hy=>by simp at hy;subst hy;exact aM) (λax=>by cases ax) (λfh jB code' jw p1 he=>by
  cases he
  intro _
  refine⟨λh=>by rw[cb]at h;rw[aw];exact oZ h,λh=>?_⟩
  rw[cb]at h
  obtain⟨cells,fz,⟨g1,lS⟩,g2,g3,g4,g5⟩:=KD h
  exact⟨g5.elim .inl λh=> .inr (.inr h),cells,e,fz,g1,⟨by rw[I.bg];exact cL _,by rw[aw,I.bg];exact g2⟩,λ_=>⟨rfl,I.bg _ _,lS,by rw[cb];exact g3,g4,g5⟩⟩) (λi p hi he=>by
  rcases yC i p hi he with c9|c9
  ·exact .inr (.inl (by rw[vm (h.b _ (eD hi)) ha];exact c9))
  ·refine .inr (.inr ?_)
   simp only[bJ,cb]
   rw[if_pos c9])
 have dB:en n bl.length ρ m (n+1) (bl++[([A.rows sh (.const 0) code (.var n) kd],(e,false))]).length (de ρ n c) (lC m bl.length g):=⟨qZ _,ha,by simp,λb hb=>mG hb⟩
 refine ab _ _ _ _ _ G _ _ dB (eM.refl _ _) ⟨ef.put (h.t.ext dB.ha dB.hn dB.hb dB.hm) d ?_ ?_,by rw[put_defers];exact h.d,nF.alloc (λy hy=>by simp at hy;subst hy;exact aM),mY⟩ ae
 ·refine⟨by simp,⟨I.c5 _ _,I.c5 _ _,Cw.mono (qZ _),I.fg (xT n)⟩,?_⟩
  rw[I.bg,aF,cb]
  exact vh
 ·simp only[V.rel,W.den,A.den,aF,cb,I.bg,nf]
  split<;>simp
theorem Zp {kd:Nat} {tm:List V} {a:Act} {w:aE} {G:ev} {K:Act->aE->Prop} {k:gR} {e:bh} {d:Option Tmp} {sh:List aL} {code len:I} {c:Int} {g:Nat}
 (im:2<=kd) (h:R w0 n ρ m tm bl a w) (c0:code.bD n) (Cw:len.bD n) (gL:0<=code.den ρ/\code.den ρ<=bN) (hc:-1<=c/\c<=9223372036854775807) (vh:Fs 0 0 (len.den ρ) c)
 (oZ:c<0->ah (code.den ρ)=[])
 (KD:0<=c->∃(cells:Array aP) (fz:Nat×Nat),(w.heap[g]?=some (.cells cells e fz)/\zD kd fz cells.size)/\mU cells 0 sh (ah (code.den ρ))/\cells.size=c.toNat*sh.length/\w0.b.heap.size<=g/\(w0.ex g∨w0.r.heap.size<=g))
 (yC:∀(i:Nat) (p:aG),bl[i]?=some p->m i=g->bJ ρ p.1=0∨c<0)
 (ae:(J0 kd e d sh code len n tm bl k).holds S L G ρ) (ab:ku S L w0 k n bl.length ρ m G K):
 K (a.put d (if c<0 then .slice none 0 0 else .slice (some ⟨g,0,none⟩) (len.den ρ).toNat c.toNat)) w:=by
 unfold J0 at ae
 exact ajH im h c0 Cw gL hc vh oZ KD yC (ae c (by omega) (by omega)) ab
theorem Zq {tm:List V} {a:Act} {w:aE} {G:ev} {K:Act->aE->Prop} {k:gR} {e:bh} {d:Option Tmp} {sh:List aL} {code len:I} {c:Int} {g:Nat}
 (h:R w0 n ρ m tm bl a w) (c0:code.bD n) (Cw:len.bD n) (gL:0<=code.den ρ/\code.den ρ<=bN) (hc:-1<=c/\c<=9223372036854775807) (vh:Fs 0 0 (len.den ρ) c)
 (oZ:c<0->ah (code.den ρ)=[])
 (KD:0<=c->∃cells:Array aP,w.heap[g]?=some (.cells cells e (0,0))/\mU cells 0 sh (ah (code.den ρ))/\cells.size=c.toNat*sh.length/\w0.b.heap.size<=g/\(w0.ex g∨w0.r.heap.size<=g))
 (yC:∀(i:Nat) (p:aG),bl[i]?=some p->m i=g->bJ ρ p.1=0∨c<0)
 (ae:(GH e d sh code len n tm bl k).holds S L G ρ) (ab:ku S L w0 k n bl.length ρ m G K):
 K (a.put d (if c<0 then .slice none 0 0 else .slice (some ⟨g,0,none⟩) (len.den ρ).toNat c.toNat)) w:=
 Zp (kd:=2) (bL 2) h c0 Cw gL hc vh oZ (λh0=>by
  obtain⟨cells,g1,g2⟩:=KD h0
  exact⟨cells,(0,0),⟨g1,.Le⟩,g2⟩) yC ae ab
theorem af3 {tm:List V} {a:Act} {w:aE} {G:ev} {K:Act->aE->Prop} {k:gR} {e:bh} {d:Option Tmp} {sh:List aL} {code len:I} {rows:List (List Int)} {c:Nat} {cells:Array aP}
 (h:R w0 n ρ m tm bl a w) (c0:code.bD n) (Cw:len.bD n) (gL:0<=code.den ρ/\code.den ρ<=bN) (rj:ah (code.den ρ)=rows) (bV:∀row∈rows,cw sh row) (hlen:len.den ρ=rows.length)
 (cZ:rows.length<=c) (aIn:c<=9223372036854775807) (Wy:cells.size=c*sh.length) (asB:∃post,cells.toList=b2 sh rows++post)
 (ae:(GH e d sh code len n tm bl k).holds S L G ρ) (ab:ku S L w0 k n bl.length ρ m G K):
 K (a.put d (.slice (some ⟨w.heap.size,0,none⟩) rows.length c)) (w.drew.alloc (.cells cells e)):=by
 have tn:R w0 n ρ m tm bl a w.drew:=⟨h.t,h.d,h.b,h.bB.grow (Su (qc w))⟩
 have hR:R w0 n ρ m tm bl a (w.drew.alloc (.cells cells e)):=⟨h.t,h.d,h.b,tn.bB.grow ((qc w.drew).alloc _)⟩
 have key:=Zq (c:=(c:Int)) (g:=w.heap.size) hR c0 Cw gL ⟨by omega,by omega⟩ (by rw[hlen];exact⟨⟨by omega,by omega,by omega,by omega⟩,⟨by omega,by omega⟩,λh=>by omega,λ_=>by omega⟩) (λh=>by omega)
  (λ_=>⟨cells,heap_alloc_new w.drew _,by
    obtain⟨post,hp⟩:=asB
    rw[rj]
    exact⟨bV,[],post,by simpa using hp,rfl⟩,by simpa using Wy,h.bB.ext.size,.inr h.bB.gj⟩) (λi p hi he=>by
    by_cases kO:bJ ρ p.1=0
    ·exact .inl kO
    ·have:=tn.bB.lt hi kO
     have c9:w.drew.heap.size=w.heap.size:=rfl
     omega) ae ab
 rw[if_neg (by omega),hlen]at key
 simpa using key
theorem aDP {nb:Nat} {v:V} {X:aP} (h:abm v=true) (hv:v.ok n nb ρ) (hr:v.rel ρ m X):∃base,X= .slice base 0 0:=by
 unfold abm at h
 split at h
 ·rename_i b bq o ro len cap
  split at h
  ·rename_i l c hl hc
   simp only[bo,decide_eq_true_eq]at h
   have aw:=I.jI hl (ρ:=ρ)
   have aF:=I.jI hc (ρ:=ρ)
   have hr:X=(A.sl b bq o ro len cap).den ρ m:=hr
   simp only[A.den,aw,aF,h.1,h.2]at hr
   exact⟨_,hr⟩
  ·cases h
 ·rename_i b off len cap
  simp only[bo]at h
  have aw:=bO h.1
  have aF:=bO h.2
  subst aw;subst aF
  exact⟨_,hr⟩
 ·exact⟨none,hr⟩
 ·cases h
theorem afv (w:aE) (size:Nat) (base:Option Addr) (c:Nat):(I3 size 0 (.slice base 0 c)).run P w= .ok #[] w:=by
 cases base with
 |none=>exact run_firstCells_none w size 0 0 c
 |some b=>exact SH w size 0 b 0 c [] (by simp) (λj v h=>by simp at h)
theorem R.later {n':Nat} {aa:Env} {tm:List V} {a:Act} {w:aE} (h:R w0 n ρ m tm bl a w) (hn:n<=n') (ha:agree n ρ aa):R w0 n' aa m tm bl a w:=
 ⟨h.t.ext ha hn (bL _) (λ_ _=>rfl),h.d,h.b.ext ha hn (bL _),h.bB.p6 h.b ha⟩
theorem k6:ah 0=[]:=jm []
theorem R.kill {tm:List V} {a:Act} {w:aE} {b k:Nat} {sh:List aL} {off code cap:I} {t:bh×Bool} (h:R w0 n ρ m tm bl a w) (aQ:bl[b]?=some ([.rows sh off code cap k],t)):R w0 n ρ m tm (dE bl b ([.rows sh off code cap 0],t)) a w:=
 ⟨by rw[j2];exact h.t,h.d,h.b.set (λy hy=>by
  simp at hy;subst hy
  exact h.b _ (eD aQ) (.rows sh off code cap k) (by simp)),h.bB.kill aQ⟩
theorem anM {tm:List V} {a:Act} {w:aE} {G:ev} {o:Oper} {K:Act->aE->Prop} {Q:Exit->Act->aE->Prop} {k:gR} {c:Call} {s x:oM} {t t':bh} {pB:T}
 (h:R w0 n ρ m tm bl a w) (e6:o.op= .call c) (lU:c.callee= .builtin .append) (fv:c.args.toList=[s,x]) (mn:c.argTypes.toList=[t,t'])
 (bx:UB P o.dst t t' (cd tm s) (cd tm x) n tm bl k=some pB) (ae:pB.holds S L G ρ) (ab:ku S L w0 k n bl.length ρ m G K):o.wp P a w K Q:=by
 have bZ:c.args=#[s,x]:=by rw[<-kc (xs:=c.args),fv]
 have a2:c.argTypes=#[t,t']:=by rw[<-kc (xs:=c.argTypes),mn]
 have hex:execOp a.eval o=(do pure (kr (<-I2 #[t,t'] o.type #[a.eval s,a.eval x]))):=by
  simp[execOp,e6,resolve,lU,bZ,a2,invoke,builtin]
 have Ak:∀v w',(I2 #[t,t'] o.type #[a.eval s,a.eval x]).run P w= .ok v w'->K (a.put o.dst v) w'->o.wp P a w K Q:=λv w' h1 h2=>by
  unfold mQ
  simp only[hex,ic,h1,iz,js]
  exact h2
 have hs:=cy h.t s
 have hx:=cy h.t x
 unfold UB at bx
 split at bx
 ·cases bx
 rename_i e Aj
 split at bx
 rotate_left
 ·cases bx
 rename_i i z hi hz
 obtain⟨inf,l8,oi,jk,rb⟩:=IG hz
 rw[hi]at oi
 simp only[a7]at oi
 subst oi
 have ou:l8.cells.size=z.length:=by
  have:=(zT rb n bl.length ρ m).2
  have:=congrArg np this
  simpa using this.symm
 split at bx
 ·
  rename_i Xy
  obtain⟨base,sb⟩:=aDP Xy hs.1 hs.2
  split at bx
  rotate_left
  ·cases bx
  rename_i sh _
  cases il:GF sh i z with
  |false=>simp[il]at bx
  |true=>
  simp only[il,cond_true,a7]at bx
  subst bx
  unfold GF at il
  simp only[bo]at il
  obtain⟨⟨⟨d1,d2⟩,d3⟩,d4⟩:=il
  have d2:=bO d2
  have d3:=bO d3
  have d4:=e8 d4
  unfold afP at ae
  have e5:(I.const 0).den ρ=0:=I.bg _ _
  obtain⟨aa,n',p,hn,ha,⟨bb,b0,cv,dT,dK,jC,lX,nQ,mx⟩,ae⟩:=(akG (P:=P) d1 h.b h.bB hx.1 hx.2 (I.c5 _ _) (by rw[e5];exact⟨cL _,by have:=rK (l:=[]) (by simp) (by simp);exact Bl (ja []) this⟩) (by rw[e5,k6];simp)) G _ ae
  rw[e5,k6,e2]at dK
  rw[e5,k6]at nQ
  simp only[n0,uC]at nQ
  have tk:=h.later hn ha
  have lp:=ab.later (G1:=G) (⟨hn,ha,bL _,λ_ _=>rfl⟩:en n bl.length ρ m n' bl.length aa m) (eM.refl _ _)
  rw[<-d2]at mx
  have ag8:dT.length=0->(k n' (fw tm o.dst (cd tm s)) bl).holds S L G aa->o.wp P a w K Q:=λh0 O2=>by
   have iq:dT=[]:=xX h0
   subst iq
   refine Ak _ _ (by rw[sb];exact run_append_nothing w t t' o.type e i (h8 Aj) hi base 0 0 (bL _) _ mx) ?_
   refine lp n' aa m _ bl G _ w (en.refl _ _ _ _) (eM.refl _ _) ⟨ef.put tk.t o.dst (cy tk.t s).1 ?_,by rw[put_defers];exact h.d,tk.b,tk.bB⟩ O2
   rw[<-sb];exact(cy tk.t s).2
  have agR:0<dT.length->(GH e o.dst sh p.1 p.2 n' tm bl k).holds S L G aa->o.wp P a w K Q:=λh0 O2=>by
   have Kj:=af4 w (0+dT.length) 0 e (by omega)
   refine Ak _ _ (by rw[sb];exact run_append_grow_src w t t' o.type e i l8 (h8 Aj) hi jk base 0 0 [] (afv _ _ _ _) _ _ _ mx (by omega) (by omega) (growslice_fits (by omega) (by
    have:=alW (show 0+dT.length<=1073741824 by omega) d4
    omega))) ?_
   have key:=af3 (c:=grownCap w (0+dT.length) 0 e) (cells:=([]++b2 sh dT).toArray++ns l8.cells (grownCap w (0+dT.length) 0 e-(0+dT.length))) tk bb b0 cv dK lX jC (by omega) Kj.2 (by
    have:=mx.newsLen
    rw[amf,alP,ou,d3,zy,e2,this,d2,<-xW]
    congr 1;omega) ⟨(ns l8.cells (grownCap w (0+dT.length) 0 e-(0+dT.length))).toList,by simp⟩ O2 lp
   simpa using key
  split at ae
  ·rename_i hc0
   have:=I.jI hc0 (ρ:=aa)
   exact ag8 (by omega) ae
  ·rename_i aoy hc0 cW
   have:=I.jI cW (ρ:=aa)
   exact agR (by
    have:aoy≠0:=λe=>hc0 e
    omega) ae
  ·simp only[T.holds,bw.den,I.bg,decide_eq_true_eq,decide_eq_false_iff_not]at ae
   by_cases h0:dT.length=0
   ·exact ag8 h0 (ae.1 (by omega))
   ·exact agR (by omega) (ae.2 (by omega))
 ·split at bx
  rotate_left
  ·cases bx
  rename_i b bq off ro len cap rk
  split at bx
  rotate_left
  ·cases bx
  rename_i sh jB code eE kind dp aQ
  cases il:(GF sh i z&&aK kind 2&&I.beq off (.const 0)&&I.beq jB (.const 0)&&I.beq ro (.const 0)&&I.beq cap eE&&aK dp.1 e)with
  |false=>rw[il]at bx;cases bx
  |true=>
  rw[il]at bx
  simp only[cond_true,a7]at bx
  subst bx
  simp only[bo]at il
  obtain⟨⟨⟨⟨⟨⟨il,k2⟩,b3⟩,b4⟩,c7⟩,lO⟩,lP⟩:=il
  have lP:=bO lP
  have k2:=bO k2
  have b3:=I.beq_eq b3
  have b4:=I.beq_eq b4
  have c7:=I.beq_eq c7
  have lO:=I.beq_eq lO
  subst k2;subst b3;subst b4;subst c7;subst lO
  unfold GF at il
  simp only[bo]at il
  obtain⟨⟨⟨d1,d2⟩,d3⟩,d4⟩:=il
  have d2:=bO d2
  have d3:=bO d3
  have d4:=e8 d4
  obtain⟨O5,ae⟩:=ae
  simp only[cQ,e3,au]at O5
  rw[rk]at hs
  have EC:(A.sl b bq (.const 0) (.const 0) len cap).ok n bl.length ρ:=hs.1
  obtain⟨ptr,aw,aF,cb⟩:=uj (m:=m) EC
  have sb:a.eval s=(A.sl b bq (.const 0) (.const 0) len cap).den ρ m:=hs.2
  rw[aw]at sb
  obtain⟨ai,⟨af,ar,cN,ia⟩,⟨iR,k9,la,lb⟩,⟨lD,k8⟩,gC,iQ⟩:=EC
  rw[I.bg]at k8
  have m3:=h.bB.rws b sh (.const 0) code cap 2 dp aQ (by decide)
  have fu:(A.rows sh (.const 0) code cap 2).ok n bl.length ρ:=h.b _ (eD aQ) _ (by simp)
  obtain⟨⟨r1,r2,gn⟩,k5,aC⟩:=fu
  have j8:∀row∈ah (code.den ρ),cw sh row:=λrow hr=>by
   rcases kI (cap.den ρ) 0 with h|h
   ·rw[m3.1 h]at hr;simp at hr
   ·obtain⟨_,cells,km,fz,_,⟨_,g3⟩,_⟩:=m3.2 h
    exact g3.1 row hr
  obtain⟨aa,n',p,hn,ha,⟨bb,b0,cv,dT,dK,jC,lX,nQ,mx⟩,ae⟩:=(akG (P:=P) d1 h.b h.bB hx.1 hx.2 r2 k5 j8) G _ ae
  rw[<-d2]at mx
  generalize rj:ah (code.den ρ)=rows at*
  have asR:=h.kill aQ
  have tk:=asR.later hn ha
  have nF:=j2 bl b ([.rows sh (.const 0) code cap 0],dp)
  have lp:ku S L w0 k n' (dE bl b ([.rows sh (.const 0) code cap 0],dp)).length aa m G K:=by
   rw[nF]
   exact ab.later (⟨hn,ha,bL _,λ_ _=>rfl⟩:en n bl.length ρ m n' bl.length aa m) (eM.refl _ _)
  have Pa:(len.add p.2).den aa=(rows++dT).length:=by
   rw[I.den_add,I.bX ha cN,jC,O5];simp
  have iE:∀row∈rows++dT,cw sh row:=λrow hr=>(List.mem_append.1 hr).elim (j8 row) (lX row)
  have ag7:=mx.newsLen
  have ag3:(len.den ρ).toNat=rows.length:=by omega
  have jJ:cap.den aa=cap.den ρ:=I.bX ha ia
  have G5:(len.add p.2).bD n':=I.vG (cN.mono hn) b0
  have O7:(rows++dT).length=rows.length+dT.length:=fc
  have j6:(b2 sh rows).length=rows.length*i.size:=by rw[oc j8,d2]
  by_cases KM:((rows.length+dT.length:Nat):Int)<=cap.den ρ∨(cap.den ρ<0/\dT.length=0)
  ·by_cases hc0:cap.den ρ<0
   ·
    have iq:dT.length=0:=by rcases KM with h|h<;>omega
    have iq:dT=[]:=xX iq
    subst iq
    have Xc:rows=[]:=m3.1 hc0
    subst Xc
    have m1:=gC hc0
    refine Ak _ _ (by rw[sb,aF hc0,if_pos hc0,m1];exact run_append_nothing w t t' o.type e i (h8 Aj) hi none 0 0 (bL _) _ mx) ?_
    have key:=Zq (c:=-1) (g:=w.heap.size) tk bb G5 cv ⟨by omega,by omega⟩ (by rw[Pa];exact⟨⟨by omega,by omega,by omega,by omega⟩,⟨by omega,by omega⟩,λh=>by simp,λh=>by omega⟩) (λ_=>by rw[dK];rfl) (λh=>by omega) (λ_ _ _ _=> .inr (by omega)) ae lp
    rw[if_pos (by omega)]at key
    exact key
   ·
    obtain⟨_,cells,km,fz,g1,⟨g2,g3⟩,g4⟩:=m3.2 (by omega)
    obtain⟨g0,g5,g6,g7,g8,g9⟩:=g4 (by decide)
    subst g0
    have g6:=g6.two
    subst g6
    rw[I.bg]at g3
    obtain⟨_,pre,post,g10,g11⟩:=g3
    have o2:pre=[]:=xX (by simpa using g11)
    subst o2
    simp only[e2]at g10
    have hsz:cells.size=(b2 sh rows).length+post.length:=by rw[<-Br,g10,fc]
    have ahd:rows.length+dT.length<=(cap.den ρ).toNat:=by rcases KM with h|h<;>omega
    have yA:rows.length*i.size+(b2 sh dT).length<=cells.size:=by
     rw[ag7,g7,<-xW,d2]
     exact abM _ ahd
    have ir:=az1 w t t' o.type e i (h8 Aj) hi (m b) rows.length (cap.den ρ).toNat cells dp.1 g1 _ _ _ mx ahd yA
    have atB:a.eval s= .slice (some ⟨m b,0,none⟩) rows.length (cap.den ρ).toNat:=by
     rw[sb,cb (by omega),if_neg hc0,ag3,I.bg];simp
    refine Ak _ _ (by rw[atB];exact ir) ?_
    have vc:(cells.toList.take (rows.length*i.size)++b2 sh dT++cells.toList.drop (rows.length*i.size+(b2 sh dT).length))=b2 sh (rows++dT)++cells.toList.drop (rows.length*i.size+(b2 sh dT).length):=by
     rw[wK,g10,Mz (by omega),<-j6,abw]
    rw[vc]
    have Pd:=h.bB.put (kd:=2) (cells:=cells) (fz:=(0,0)) (code':=code) (by decide) aQ (by omega) (row:=(b2 sh (rows++dT)++cells.toList.drop (rows.length*i.size+(b2 sh dT).length)).toArray) (λ_=>⟨λh=>by omega,λ_=>⟨g9.elim .inl λh=> .inr (.inr h),_,_,(0,0),MI w (m b) _ _ _ _ g1,⟨g2,by
     rw[rj,I.bg]
     exact⟨j8,[],b2 sh dT++cells.toList.drop (rows.length*i.size+(b2 sh dT).length),by simp[wK],rfl⟩⟩,λ_=>⟨rfl,g5,.Le,by
     rw[<-g7];simp only[zy,fc,nn,Br,wK];omega,g8,g9⟩⟩⟩)
    have atx:dE bl b ([.rows sh (.const 0) code cap 2],dp)=bl:=by
     rw[kE]
     exact abI λj=>by
      rw[sI]
      split
      ·rename_i aI
       subst aI
       first|exact aQ.symm|(rw[if_pos (List.getElem?_eq_some_iff.1 aQ).1];exact aQ.symm)
      ·rfl
    rw[atx]at Pd
    have Ef:R w0 n ρ m tm bl a (w.setRow (m b) (b2 sh (rows++dT)++cells.toList.drop (rows.length*i.size+(b2 sh dT).length)).toArray):=⟨h.t,h.d,h.b,Pd⟩
    have arJ:=(Ef.kill aQ).later hn ha
    have key:=Zq (e:=e) (d:=o.dst) (c:=cap.den ρ) (g:=m b) arJ bb G5 cv ⟨by omega,by omega⟩ (by rw[Pa,O7];exact⟨⟨by omega,by omega,by omega,by omega⟩,⟨by omega,by omega⟩,λh=>by omega,λh=>by omega⟩) (λh=>by omega)
     (λ_=>⟨_,by rw[<-lP];exact MI w (m b) _ _ _ _ g1,by
       rw[dK]
       exact⟨iE,[],cells.toList.drop (rows.length*i.size+(b2 sh dT).length),by simp,rfl⟩,by
       rw[<-g7];simp only[zy,fc,nn,Br,wK];omega,g8,g9⟩) (λj q aI he=>by
       by_cases Es:j=b
       ·subst Es
        rw[kE,alX (List.getElem?_eq_some_iff.1 aQ).1]at aI
        simp only[a7]at aI
        subst aI
        exact .inl (by simp[bJ])
       ·rw[kE,abv (λe=>Es e.symm)]at aI
        have mZ:bJ ρ [A.rows sh (.const 0) code cap 2]=2:=tA (by decide) (by omega)
        have asS:bJ ρ q.1=0:=by
         rcases h.bB.inj j b q _ aI aQ he with c9|c9|c9|c9
         ·exact absurd c9 Es
         ·have:=c9.2;simp only[mZ]at this;omega
         ·exact c9
         ·simp only[mZ]at c9;omega
        exact .inl (by rw[vm (h.b _ (eD aI)) ha];exact asS)) ae lp
    rw[if_neg hc0,Pa,O7,nY]at key
    exact key
  ·
   have agS:(if cap.den ρ<0 then 0 else(cap.den ρ).toNat)<rows.length+dT.length:=by
    split
    ·rename_i hc
     have:¬dT.length=0:=λe=>KM (.inr ⟨hc,e⟩)
     omega
    ·omega
   have hold:(I3 i.size rows.length (.slice ptr rows.length (if cap.den ρ<0 then 0 else(cap.den ρ).toNat))).run P w.drew= .ok (b2 sh rows).toArray w.drew:=by
    by_cases hc:cap.den ρ<0
    ·have Xc:rows=[]:=m3.1 hc
     subst Xc
     exact afv _ _ _ _
    ·obtain⟨_,cells,km,fz,g1,⟨g2,g3⟩,g4⟩:=m3.2 (by omega)
     rw[cb (by omega)]
     refine SH w.drew i.size rows.length _ rows.length _ (b2 sh rows) j6 λj v hv=>?_
     rw[jG,I.bg]
     have:=g3.flat hv
     rw[I.bg]at this
     have lS:w.drew.heap[m b]?=some (.cells cells km fz):=g1
     simp only[lH,lS,uD,uv,if_false]
     simpa using this
   have Kj:=af4 w (rows.length+dT.length) (if cap.den ρ<0 then 0 else(cap.den ρ).toNat) e nQ
   refine Ak _ _ (by rw[sb,ag3];exact run_append_grow_src w t t' o.type e i l8 (h8 Aj) hi jk ptr rows.length _ (b2 sh rows) hold _ _ _ mx agS (by omega) (growslice_fits agS (by
    have:=alW nQ d4
    omega))) ?_
   have key:=af3 (e:=e) (d:=o.dst) (c:=grownCap w (rows.length+dT.length) (if cap.den ρ<0 then 0 else(cap.den ρ).toNat) e) (cells:=(b2 sh rows++b2 sh dT).toArray++ns l8.cells (grownCap w (rows.length+dT.length) (if cap.den ρ<0 then 0 else(cap.den ρ).toNat) e-(rows.length+dT.length))) tk bb G5 cv dK iE Pa (by rw[O7];exact Kj.1) Kj.2 (by
    rw[amf,alP,ou,d3,zy,fc,j6,ag7,<-xW,d2,<-xW]
    congr 1;omega) ⟨(ns l8.cells (grownCap w (rows.length+dT.length) (if cap.den ρ<0 then 0 else(cap.den ρ).toNat) e-(rows.length+dT.length))).toList,by rw[wK];simp⟩ ae lp
   rw[O7]at key
   exact key
theorem aA7 {tm:List V} {a:Act} {w:aE} {G:ev} {o:Oper} {K:Act->aE->Prop} {Q:Exit->Act->aE->Prop} {k:gR} {pB:T}
 (h:R w0 n ρ m tm bl a w) (bx:aan P o n tm bl k=some pB) (ae:pB.holds S L G ρ) (ab:ku S L w0 k n bl.length ρ m G K):o.wp P a w K Q:=by
 unfold aan at bx
 split at bx
 ·rename_i c ax
  split at bx
  ·rename_i hc
   split at bx
   ·rename_i s x t t' fv mn
    exact anM h ax hc fv mn bx ae ab
   ·cases bx
  ·cases bx
 ·cases bx
end
end Go.b6
namespace Go.b6
open M
theorem LZ:∀{s1 s2:List aL} {l1 l2:List Int},l1.length=s1.length->dq (s1++s2) (l1++l2)=dq s1 l1++dq s2 l2
 |[],_,[],_,_=>rfl
 |c::s1,s2,z::l1,l2,h=>by
  simp only[kp,dq,LZ (s1:=s1) (s2:=s2) (l1:=l1) (l2:=l2) (by simpa using h)]
 |[],_,_::_,_,h=>by simp at h
 |_::_,_,[],_,h=>by simp at h
theorem Jb:∀{s1 s2:List aL} {l1 l2:List Int},l1.length=s1.length->(cw (s1++s2) (l1++l2)↔cw s1 l1/\cw s2 l2)
 |[],_,[],_,_=>by simp[cw]
 |c::s1,s2,z::l1,l2,h=>by
  simp only[kp,cw,Jb (s1:=s1) (s2:=s2) (l1:=l1) (l2:=l2) (by simpa using h),and_assoc]
 |[],_,_::_,_,h=>by simp at h
 |_::_,_,[],_,h=>by simp at h
theorem aj4 {sh:List aL} {row ls:List Int} {j s:Nat} (h:cw sh row) (hl:cw ((sh.drop j).take s) ls) (aI:j+s<=sh.length):
 cw sh (row.take j++ls++row.drop (j+ls.length))/\dq sh (row.take j++ls++row.drop (j+ls.length))=(dq sh row).take j++dq ((sh.drop j).take s) ls++(dq sh row).drop (j+s):=by
 have hlen:=h.len
 have WY:ls.length=s:=by rw[hl.len];simp;omega
 have e:sh=sh.take j++((sh.drop j).take s++sh.drop (j+s)):=by
  rw[<-zv,ld,ld]
 have oa:row=row.take j++((row.drop j).take s++row.drop (j+s)):=by
  rw[<-zv,ld,ld]
 have l1:(row.take j).length=(sh.take j).length:=by simp[hlen]
 have l2:((row.drop j).take s).length=((sh.drop j).take s).length:=by simp[hlen]
 have mv:ls.length=((sh.drop j).take s).length:=hl.len
 have h0:cw (sh.take j++((sh.drop j).take s++sh.drop (j+s))) (row.take j++((row.drop j).take s++row.drop (j+s))):=by rw[<-e,<-oa];exact h
 rw[Jb l1,Jb l2]at h0
 have hv:dq sh row=dq (sh.take j) (row.take j)++(dq ((sh.drop j).take s) ((row.drop j).take s)++dq (sh.drop (j+s)) (row.drop (j+s))):=by
  conv=>lhs;rw[e,oa]
  rw[LZ l1,LZ l2]
 have k1:(dq (sh.take j) (row.take j)).length=j:=by rw[Fl h0.1];simp;omega
 have k2:(dq ((sh.drop j).take s) ((row.drop j).take s)).length=s:=by rw[Fl h0.2.1];simp;omega
 rw[WY]
 refine⟨?_,?_⟩
 ·rw[kq]
  conv=>lhs;rw[e]
  rw[Jb l1,Jb mv]
  exact⟨h0.1,hl,h0.2.2⟩
 ·rw[kq]
  conv=>lhs;rw[e]
  have aA:(dq sh row).take j=dq (sh.take j) (row.take j):=by rw[hv];exact List.take_left' k1
  have hd:(dq sh row).drop (j+s)=dq (sh.drop (j+s)) (row.drop (j+s)):=by
   rw[hv,<-kq];exact List.drop_left' (by rw[fc,k1,k2])
  rw[LZ l1,LZ mv,aA,hd,kq]
theorem VP {sh:List aL}:∀{rows:List (List Int)} {i:Nat} {row:List Int},rows[i]?=some row->b2 sh rows=b2 sh (rows.take i)++(dq sh row++b2 sh (rows.drop (i+1)))
 |r::rs,0,row,h=>by simp at h;subst h;simp[b2]
 |r::rs,i+1,row,h=>by
  have ih:=VP (sh:=sh) (rows:=rs) (i:=i) (by simpa using h)
  simp only[b2,sL,lI,List.drop_succ_cons]at ih⊢
  rw[ih,kq]
 |[],_,_,h=>by simp at h
theorem apS {sh:List aL} {rows:List (List Int)} {i:Nat} {row Fk:List Int} (h:rows[i]?=some row):b2 sh (rows.set i Fk)=b2 sh (rows.take i)++(dq sh Fk++b2 sh (rows.drop (i+1))):=by
 have hlt:=(List.getElem?_eq_some_iff.1 h).1
 have:=VP (sh:=sh) (rows:=rows.set i Fk) (i:=i) (row:=Fk) (by simp[hlt])
 rw[this,List.take_set,List.drop_set_of_lt (by omega)]
 congr 1
 congr 1
 rw[List.set_eq_of_length_le (by simp;omega)]
theorem Ra {P:bQ} (g o:Nat) (t:bh) (fz:Nat×Nat) (kd:Nat):∀(vs:List aP) (i:Nat) (cur:Array aP) (w:aE),zD kd fz cur.size->w.heap[g]?=some (.cells cur t fz)->o+i+vs.length<=cur.size->(∀v∈vs,v.oneCell'=true)->
 (storeCells ⟨g,o,none⟩ vs i).run P w= .ok () (w.setRow g (cur.toList.take (o+i)++vs++cur.toList.drop (o+i+vs.length)).toArray)
 |[],i,cur,w,_,hg,_,_=>by
  simp only[storeCells,fY,n0,mM,ld,kc]
  rw[setRow_self w g cur t fz hg]
  rfl
 |v::rest,i,cur,w,WH,hg,hl,h1=>by
  have hi:o+i<cur.size:=by simp at hl;omega
  have hcell:w.cell? ⟨g,o+i,none⟩=some cur[o+i]:=by simp[lH,hg,hi]
  have asD:w.frozen? ⟨g,o+i,none⟩=false:=by
   rcases WH with⟨_,rfl⟩|⟨_,rfl⟩
   ·simp[Bn,hg]
   ·simp[Bn,hg];omega
  have lV:(store ((⟨g,o,none⟩:Addr).add i) v).run P w= .ok () (w.setRow g (cur.setIfInBounds (o+i) v)):=by
   rw[jG,run_store P w _ v _ (h1 v (by simp)),hcell]
   simp[asD,setCell_eq_setRow w g (o+i) cur t fz v hg]
  have ih:=Ra (P:=P) g o t fz kd rest (i+1) (cur.setIfInBounds (o+i) v) (w.setRow g (cur.setIfInBounds (o+i) v)) (by simpa using WH) (MI w g cur _ t _ hg) (by simp at hl⊢;omega) (λx hx=>h1 x (by simp[hx]))
  simp only[storeCells,ic,lV,iz,ih,setRow_setRow]
  congr 3
  have e:=list_seg_step cur.toList (o+i) v rest (by simp at hl⊢;omega)
  simpa [Array.toList_setIfInBounds,Nat.add_assoc]using e
section
variable {S:Nat->List Int->List Int->Prop} {L:V->Env->Prop} {n:Nat} {ρ:Env} {m:Nat->Nat} {bl:List aG} {gl:eI} {w0:dX} {P:bQ}
theorem ahL {tm:List V} {a:Act} (h:ef n bl.length ρ m tm a.tmps) {x:oM} {l:I} (hl:rn (cd tm x)=some l):∃k,a.eval x= .int k (l.den ρ)/\l.bD n:=by
 have hx:=cy h x
 unfold rn at hl
 split at hl
 ·rename_i k kB hv
  simp only[a7]at hl
  subst hl
  rw[hv]at hx
  exact⟨k,hx.2,hx.1.1⟩
 ·cases hl
theorem Mem.mark {w0:dX} {P:bQ} {ρ:Env} {m:Nat->Nat} {bl:List aG} {w:aE} {b c:Nat} {C:List A} {code:I} {t:bh×Bool} {s e:bh} (h:Mem w0 ρ m bl w) (aQ:bl[b]?=some (C,t)) (ax:b7 C=true) (aA:t.2=false) (hlen:C.length=c)
 (hs:P.underlying s=some (.slice e)) (he:P.underlying e=some (.int .u8))
 (j8:∀row∈ah (code.den ρ),cw iW row) (j6:b2 iW (ah (code.den ρ))=C.map (A.den ρ m)):
 ∃w',(convert s s (.slice (some ⟨m b,0,none⟩) c c)).run P w= .ok (.slice (some ⟨m b,0,none⟩) c c) w'/\Mem w0 ρ m (dE bl b ([.rows iW (.const 0) code (.const c) 3],t)) w':=by
 have q8:b<bl.length:=(List.getElem?_eq_some_iff.1 aQ).1
 obtain⟨bb,b0,r,hr,cv⟩:=h.fe b C t aQ ax
 have hr:=hr aA
 subst hr
 rw[fY]at cv
 have hsz:(C.map (A.den ρ m)).toArray.size=c:=by simp[hlen]
 have kh:w.shape? (m b)=some (t.1,c):=by
  unfold World.shape?
  rw[cv];simp[hlen]
 have GV:∀i:Nat,i≠m b->(w.freeze ⟨m b,c,none⟩ 1).heap[i]?=w.heap[i]?:=λi hi=>by
  unfold SK
  rw[if_neg (by decide)]
  simp only[aEP]
  rw[if_neg (λe=>hi e.symm)]
 have re:(w.freeze ⟨m b,c,none⟩ 1).heap[m b]?=some (.cells (C.map (A.den ρ m)).toArray t.1 (c,c+1)):=by
  unfold SK
  rw[if_neg (by decide)]
  simp only[aEP,if_true,cv,xP]
  rfl
 have agP:(w.freeze ⟨m b,c,none⟩ 1).heap.size=w.heap.size:=by
  unfold SK
  rw[if_neg (by decide)]
  simp
 refine⟨w.freeze ⟨m b,c,none⟩ 1,?_,?_⟩
 ·simp[convert,eU hs,eU he,markStringish,kh]
 generalize zX:w.freeze ⟨m b,c,none⟩ 1=w' at*
 have iZ:w'.os=w.os/\w'.tape=w.tape/\w'.output=w.output:=by
  subst zX
  unfold SK
  rw[if_neg (by decide)]
  exact⟨rfl,rfl,rfl⟩
 have dN:∀(i:Nat) (p:aG),(dE bl b ([.rows iW (.const 0) code (.const c) 3],t))[i]?=some p->(i=b/\p=([.rows iW (.const 0) code (.const c) 3],t))∨(i≠b/\bl[i]?=some p):=λi p hi=>by
  rw[kE,sI]at hi
  split at hi
  ·rename_i gZ
   subst gZ
   simp only[q8,if_true,a7]at hi
   exact .inl ⟨rfl,hi.symm⟩
  ·rename_i gZ;exact .inr ⟨λe=>gZ e.symm,hi⟩
 have mZ:bJ ρ C=2:=lv ax
 have O3:bJ ρ [.rows iW (.const 0) code (.const c) 3]=3:=tA (by decide) (by rw[I.bg];omega)
 have W5:∀i:Nat,i<w0.b.heap.size->w'.heap[i]?=w.heap[i]?:=λi hi=>GV i (by omega)
 have En:w0.b.Extends w':=⟨iZ.1.trans h.ext.os,iZ.2.1.trans h.ext.tape,iZ.2.2.trans h.ext.output,by rw[agP];exact h.ext.size,
  λy hy=>uw (by simp only[lH,W5 y.block hy]) (h.ext.cell y hy),λy hy=>uw (by simp only[Bn,W5 y.block hy]) (h.ext.frozen y hy),λi hi=>(W5 i hi).trans (h.ext.block i hi)⟩
 refine⟨En,iZ.1.trans h.iZ,iZ.2.1.trans h.kA,iZ.2.2.trans h.j7,by rw[agP];exact h.gj,λi hi hx=>?_,λi jT t' hi jj=>?_,λi fh jB code' jw p1 t' hi=>?_,λi j p q hi aI he=>?_⟩
 ·rw[GV i (λe=>by
   subst e
   rcases b0 with h3|h3
   ·exact hx h3
   ·omega)]
  exact h.iO i hi hx
 ·rcases dN i _ hi with⟨rfl,dJ⟩|⟨cW,hi⟩
  ·cases dJ;cases jj
  ·obtain⟨g1,lS,g2⟩:=h.fe i jT t' hi jj
   exact⟨g1,lS,by rw[GV (m i) (λe=>h.ne aQ hi (by rw[mZ];exact bL 2) (by rw[lv jj];decide) (λe=>cW e.symm) (by first|exact e|exact e.symm))];exact g2⟩
 ·rcases dN i _ hi with⟨rfl,dJ⟩|⟨cW,hi⟩
  ·cases dJ
   intro _
   simp only[I.bg]
   refine⟨λh0=>by omega,λ_=>⟨b0.elim .inl λh=> .inr (.inr h),_,_,_,re,⟨cL _,j8,[],[],by simp[j6],rfl⟩,λ_=>⟨rfl,by trivial,.inr ⟨by decide,by rw[hsz]⟩,by simp[hlen,iW],bb,b0⟩⟩⟩
  ·exact(h.rws i fh jB _ jw p1 t' hi).grow λab hc=>GV (m i) (λe=>h.ne aQ hi (by rw[mZ];exact bL 2) (by simp only[tA ab hc];exact ab) (λe=>cW e.symm) (by first|exact e|exact e.symm))
 ·have ab:∀(i:Nat) (p:aG),(dE bl b ([.rows iW (.const 0) code (.const c) 3],t))[i]?=some p->∃dc,bl[i]?=some dc/\(bJ ρ dc.1=bJ ρ p.1∨(bJ ρ dc.1=2/\bJ ρ p.1=3)):=λi p hi=>by
   rcases dN i _ hi with⟨rfl,dJ⟩|⟨cW,hi⟩
   ·exact⟨_,aQ,.inr ⟨mZ,by rw[dJ];exact O3⟩⟩
   ·exact⟨p,hi,.inl rfl⟩
  obtain⟨dc,hp,ep⟩:=ab i p hi
  obtain⟨eA,aj,eq⟩:=ab j q aI
  have:=h.inj i j dc eA hp aj he
  omega
theorem afd:∀(n t:Nat) (acc:Array aP),∃l:List (List Int),l.length=n/\(∀r∈l,cw iW r)/\(zA n t acc).toList=acc.toList++b2 iW l
 |0,_,_=>⟨[],rfl,by simp,by simp[zA,b2]⟩
 |n+1,t,acc=>by
  obtain⟨l,h1,h2,h3⟩:=afd n (t/256) (acc.push (.int .u8 (Int.ofNat (t% 256))))
  refine⟨[((t% 256:Nat):Int)]::l,by simp[h1],λr hr=>?_,?_⟩
  ·rcases List.mem_cons.1 hr with rfl|hr
   ·exact⟨⟨by simp only[aL.fq];omega,by simp only[aL.fq];omega⟩,trivial⟩
   ·exact h2 r hr
  ·rw[zA,h3]
   simp[b2,iW,dq,aL.val]
theorem az3 {P:bQ} (w:aE) (jM:Array bh) (t e:bh) (aA:P.underlying t=some (.slice e)) (n:Nat) (hn:n<=281474976710656):
 ∃(c d:Nat),(abN jM #[t] #[.int .i64 n]).run P w= .ok (.slice (some ⟨w.heap.size,0,none⟩) n c) (w.drew.drew.alloc (.cells (zA c d #[]) e))/\n<=c/\(n<=maxLen->c<=maxLen):=by
 have Kn:abN jM #[t] #[.int .i64 n]=
  (do
    let .slice elem<-underlying t|stuck "bytealg.MakeNoZero: slice type expected"
    if(n:Int)<0||(n:Int)>2^48 then runtimePanic (.error "makeslice: len out of range")
    let cap<-choose (.appendCap (n:Int).toNat 0 elem)
    askRoom cap
    let bytes<-choose (.extern "internal/bytealg.MakeNoZero.bytes" 0)
    let a<-newRow elem (zA cap bytes #[])
    pure (.slice (some a) (n:Int).toNat cap)):=rfl
 have h1:¬(n:Int)<0:=by omega
 have h2:¬(281474976710656:Int)<(n:Int):=by omega
 exact⟨grownCap w n 0 e,_,by
  rw[Kn]
  simp[eU aA,h1,h2,Question.forced,newRow,grownCap]
  rfl,by simpa using grownCap_ge w n 0 e,λhm=>by simpa using grownCap_le_maxLen w n 0 e hm⟩
theorem apM {fn:Func} (h:Pv fn=true):fn.body.isNone=true/\(fn.name== "runtime.NumGoroutine")=false/\abx fn=none/\aby fn=some (abN fn.params fn.resultTypes):=by
 unfold Pv at h
 simp only[bo,beq_iff_eq]at h
 obtain⟨⟨h1,h2⟩,h3⟩:=h
 have g1:Extern.allNextRows.lookup "internal/bytealg.MakeNoZero" =none:=by kernel_rfl
 have g2:Extern.allNextRows.lookup "" =none:=by kernel_rfl
 have g3:Extern.allGenericRows.lookup "internal/bytealg.MakeNoZero" =none:=by kernel_rfl
 have g4:Extern.allTypedRows.lookup "internal/bytealg.MakeNoZero" =some abN:=by kernel_rfl
 refine⟨h2,by rw[h1];decide,?_,?_⟩
 ·unfold abx
  simp only[h1,h3,g1,g2]
  rfl
 ·unfold aby
  simp only[h1,g3,g4]
  rfl
theorem aA9 {tm:List V} {a:Act} {w:aE} {G:ev} {o:Oper} {K:Act->aE->Prop} {Q:Exit->Act->aE->Prop} {k:gR} {pB:T}
 (h:R w0 n ρ m tm bl a w) (bx:A7 P o n tm bl k=some pB) (ae:pB.holds S L G ρ) (ab:ku S L w0 k n bl.length ρ m G K):o.wp P a w K Q:=by
 unfold A7 at bx
 split at bx
 ·rename_i t p x ax
  have hp:=cy h.t p
  have hx:=cy h.t x
  split at bx
  ·rename_i b bq cu i j u KI Am
   rw[KI]at hp
   rw[Am]at hx
   split at bx
   ·rename_i sh off code cap kind dp s aQ hs
    cases hc:(cx 2 kind&&aK bq sh.length&&I.beq cu off&&aK u.cells.length s&&dv 0 s&&cx (j+s) sh.length&&nT sh)with
    |false=>rw[hc]at bx;cases bx
    |true=>
     rw[hc]at bx
     simp only[cond_true,a7]at bx
     subst bx
     simp only[bo]at hc
     obtain⟨⟨⟨⟨⟨⟨c1,bH⟩,cp⟩,cR⟩,eO⟩,gI⟩,nz⟩:=hc
     have c1:=e8 c1;have bH:=bO bH;have cp:=I.beq_eq cp;have cR:=bO cR;have eO:=r3 eO;have gI:=e8 gI
     subst bH;subst cp;subst cR
     have KH:a.eval p= .pointer (some ⟨m b,(cu.den ρ).toNat+(i.den ρ).toNat*sh.length+j,none⟩):=hp.2
     have dk:a.eval x=u.den ρ m:=hx.2
     have atj:(A.ep b sh.length cu i j).ok n bl.length ρ:=hp.1
     have fu:(A.rows sh cu code cap kind).ok n bl.length ρ:=h.b _ (eD aQ) _ (by simp)
     have c0:az S L (bind (gh 21 [code,i]) λ_=>bind (FW 67 [code,i,.const sh.length]) λ_=>bind (A5 ((sh.drop j).take u.cells.length) u.cells) λls=>bind (fa 42 (code::i:: .const j::ls) 0 bN) λcode'=>pure code') n ρ λaa n' code'=>code'.bD n'/\(0<=code'.den aa/\code'.den aa<=bN)/\(0<=i.den ρ/\i.den ρ<(ah (code.den ρ)).length)/\
      ∃ls:List Int,cw ((sh.drop j).take u.cells.length) ls/\dq ((sh.drop j).take u.cells.length) ls=u.cells.map (A.den ρ m)/\
       ah (code'.den aa)=(ah (code.den ρ)).set (i.den ρ).toNat (((ah (code.den ρ)).getD (i.den ρ).toNat []).take j++ls++((ah (code.den ρ)).getD (i.den ρ).toNat []).drop (j+ls.length)):=by
      refine iM λkP=>?_
      have kP:0<=i.den ρ/\i.den ρ<(ah (code.den ρ)).length:=kP
      have hlt:(i.den ρ).toNat<(ah (code.den ρ)).length:=by omega
      have cZ:0<=cap.den ρ:=by
       rcases kI (cap.den ρ) 0 with ik|ik
       ·have:=(h.bB.rws b sh cu code cap kind dp aQ (by omega)).1 ik
        rw[this]at hlt;simp at hlt
       ·exact ik
      obtain⟨_,cells,km,fz,bb,⟨b0,cv⟩,dK⟩:=(h.bB.rws b sh cu code cap kind dp aQ (by omega)).2 cZ
      have GX:(ah (code.den ρ)).getD (i.den ρ).toNat []=(ah (code.den ρ))[(i.den ρ).toNat]:=by simp[U,hlt]
      have jz:cw sh ((ah (code.den ρ)).getD (i.den ρ).toNat []):=by rw[GX];exact cv.1 _ (FD hlt)
      refine(Nj (op:=67) (ls:=[code,i,.const sh.length]) (by simp only[cQ,e3,au,I.bg,nY];exact jz.len)).bind λck iH _ _ _ ⟨EF,rh⟩=>?_
      have EF:=EF.symm;have rh:=rh.symm
      subst EF;subst rh
      refine(H6 (nb:=bl.length) (m:=m) (λy hy=>W.Gf hx.1 y hy)).bind λaJ aT ls gi eK ⟨g1,g2,g3⟩=>?_
      have hf:bt 42 ((code::i::I.const j::ls).map (·.den aJ))=rc ((ah (code.den ρ)).set (i.den ρ).toNat (((ah (code.den ρ)).getD (i.den ρ).toNat []).take j++ls.map (·.den aJ)++((ah (code.den ρ)).getD (i.den ρ).toNat []).drop (j+(ls.map (·.den aJ)).length))):=by
       simp only[cQ,bt,I.bg,nY,I.bX eK fu.1.2.1,I.bX eK atj.2.1.2]
      have atm:=aj4 jz g2 gI
      have rj:∀r∈(ah (code.den ρ)).set (i.den ρ).toNat (((ah (code.den ρ)).getD (i.den ρ).toNat []).take j++ls.map (·.den aJ)++((ah (code.den ρ)).getD (i.den ρ).toNat []).drop (j+(ls.map (·.den aJ)).length)),cw sh r:=λr hr=>by
       rcases MJ hr with hr|hr
       ·exact cv.1 r hr
       ·subst hr;exact atm.1
      have o0:0<sh.length:=by omega
      have hlen:(ah (code.den ρ)).length<=maxLen:=by
       have Lv:=cv
       obtain⟨_,pre,post,cm,cl⟩:=Lv
       have h4:=congrArg np cm
       simp only[fc,oc cv.1,Br]at h4
       obtain⟨_,_,_,h5,_⟩:=dK c1
       rw[h5]at h4
       have h6:(ah (code.den ρ)).length*sh.length<=(cap.den ρ).toNat*sh.length:=by omega
       have h7:=aEQ h6 o0
       have:=fu.2.2.2
       unfold maxLen;omega
      have hL:=rK (l:=(ah (code.den ρ)).set (i.den ρ).toNat (((ah (code.den ρ)).getD (i.den ρ).toNat []).take j++ls.map (·.den aJ)++((ah (code.den ρ)).getD (i.den ρ).toNat []).drop (j+(ls.map (·.den aJ)).length))) (by simpa using hlen) λr hr=>(rj r hr).row nz
      refine(hI (by rw[hf];exact ja _) (by rw[hf];exact hL)).bind λbR eF code' eL dz ⟨k1,k2⟩=>az.pure ?_
      rw[hf]at k2
      exact⟨k1,by rw[k2];exact⟨ja _,hL⟩,kP,ls.map (·.den aJ),g2,g3,by rw[k2,jm]⟩
     obtain⟨aa,n',code',hn,ha,⟨g1,g2,g3,ls,g4,g5,g6⟩,ae⟩:=c0 G _ ae
     have hR:=h.later hn ha
     have hlt:(i.den ρ).toNat<(ah (code.den ρ)).length:=by omega
     have cZ:0<=cap.den ρ:=by
      rcases kI (cap.den ρ) 0 with ik|ik
      ·have:=(h.bB.rws b sh cu code cap kind dp aQ (by omega)).1 ik
       rw[this]at hlt;simp at hlt
      ·exact ik
     obtain⟨eB,cells,km,fz,bb,⟨b0,cv⟩,dK⟩:=(h.bB.rws b sh cu code cap kind dp aQ (by omega)).2 cZ
     obtain⟨r0,r1,r2,gn,k5,aC⟩:=dK c1
     subst r0
     obtain⟨y0,pre,post,HL,Lx⟩:=cv
     have Pk:(ah (code.den ρ))[(i.den ρ).toNat]?=some ((ah (code.den ρ)).getD (i.den ρ).toNat []):=by simp[U,hlt]
     generalize aID:(ah (code.den ρ)).getD (i.den ρ).toNat []=row at g6 Pk
     have EB:=y0 row (eD Pk)
     obtain⟨cm,cl⟩:=aj4 EB g4 gI
     have atW:u.cells.length=(u.cells.map (A.den ρ m)).length:=by simp
     have agB:cells.toList=(pre++b2 sh ((ah (code.den ρ)).take (i.den ρ).toNat))++(dq sh row++(b2 sh ((ah (code.den ρ)).drop ((i.den ρ).toNat+1))++post)):=by
      rw[HL,VP Pk];simp only[kq]
     have aM:(pre++b2 sh ((ah (code.den ρ)).take (i.den ρ).toNat)).length=(cu.den ρ).toNat+(i.den ρ).toNat*sh.length:=by
      rw[fc,Lx,oc λr hr=>y0 r (lf hr),px,Dc (by omega)]
     have cY:=Fl EB
     have asz:(cu.den ρ).toNat+(i.den ρ).toNat*sh.length+j+0+(u.cells.map (A.den ρ m)).length<=cells.size:=by
      have:=congrArg np agB
      simp only[fc,Br,cY]at this aM
      simp;omega
     have lV:=Ra (P:=P) (m b) ((cu.den ρ).toNat+(i.den ρ).toNat*sh.length+j) _ fz kind (u.cells.map (A.den ρ m)) 0 cells w r2 bb asz (λv hv=>by
      obtain⟨y,hy,rfl⟩:=List.mem_map.1 hv
      exact A.QH (W.Gf hx.1 y hy))
     simp only[mM]at lV
     have vc:cells.toList.take ((cu.den ρ).toNat+(i.den ρ).toNat*sh.length+j)++u.cells.map (A.den ρ m)++cells.toList.drop ((cu.den ρ).toNat+(i.den ρ).toNat*sh.length+j+(u.cells.map (A.den ρ m)).length)=pre++b2 sh (ah (code'.den aa))++post:=by
      rw[g6,apS Pk,agB,<-aM,cl,g5]
      rw[List.take_append,pt (by omega),Nat.add_sub_cancel_left,Mz (by omega)]
      rw[List.drop_append,List.drop_of_length_le (by omega),e2]
      rw[show(pre++b2 sh ((ah (code.den ρ)).take (i.den ρ).toNat)).length+j+(u.cells.map (A.den ρ m)).length-(pre++b2 sh ((ah (code.den ρ)).take (i.den ρ).toNat)).length=j+u.cells.length by simp;omega]
      rw[aEH (by omega)]
      simp only[kq]
     rw[vc]at lV
     have ahe:∀r∈ah (code'.den aa),cw sh r:=λr hr=>by
      rw[g6]at hr
      rcases MJ hr with hr|hr
      ·exact y0 r hr
      ·subst hr;exact cm
     have Cv:(ah (code'.den aa)).length=(ah (code.den ρ)).length:=by rw[g6];simp
     have hsz:(pre++b2 sh (ah (code'.den aa))++post).length=cells.size:=by
      have aw:=congrArg np HL
      simp only[fc,oc ahe,oc y0,Br,Cv]at aw⊢
      omega
     have d1:cap.den aa=cap.den ρ:=I.bX ha fu.1.2.2
     have d2:cu.den aa=cu.den ρ:=I.bX ha fu.1.1
     have Pd:=hR.bB.put (kd:=kind) (cells:=cells) (fz:=fz) (code':=code') c1 aQ (by rw[d1];exact cZ) (row:=(pre++b2 sh (ah (code'.den aa))++post).toArray) (λ_=>⟨λc9=>by rw[d1]at c9;omega,λ_=>⟨eB,_,_,fz,MI w (m b) _ _ _ _ bb,⟨by rw[d2];exact b0,by
      rw[d2]
      exact⟨ahe,pre,post,rfl,Lx⟩⟩,λ_=>⟨rfl,by rw[d2];exact r1,by simp only[zy,hsz];exact r2,by rw[d1];simp only[zy,hsz];exact gn,k5,aC⟩⟩⟩)
     unfold mQ
     have ir:(abG t (.pointer (some ⟨m b,(cu.den ρ).toNat+(i.den ρ).toNat*sh.length+j,none⟩)) (u.den ρ m)).run P w= .ok () (w.setRow (m b) (pre++b2 sh (ah (code'.den aa))++post).toArray):=by
      simp only[abG,mO,ic,js,iz,storeVar,jn hs,W.Ob (m:=m) u hx.1]
      simp only[zy,l6,ne_eq,not_true_eq_false,if_false,js,iz]
      simp only[js,iz,lV]
     simp only[execOp,ax,ic,KH,dk,ir,iz,js]
     refine ab n' aa m _ _ G _ _ ⟨hn,ha,by rw[j2];exact bL _,λ_ _=>rfl⟩ (eM.refl _ _) ⟨?_,by rw[put_defers];exact h.d,hR.b.set (λy hy=>by
      simp at hy;subst hy
      exact⟨⟨fu.1.1.mono hn,g1,fu.1.2.2.mono hn⟩,g2,by rw[d1];exact fu.2.2⟩),Pd⟩ ae
     rw[j2]
     exact ef.put hR.t o.dst (by intro x hx;simp at hx) rfl
   ·cases bx
  ·cases bx
 ·rename_i s d x ax
  have hx:=cy h.t x
  split at bx
  ·rename_i l Am
   rw[Am]at hx
   split at bx
   ·rename_i e hs hd
    split at bx
    ·rename_i he
     simp only[a7]at bx
     subst bx
     have wU:(A.str l).ok n bl.length ρ:=hx.1
     have dk:a.eval x= .string (dI (bp (l.den ρ))):=hx.2
     have c0:az S L (bind (fa 27 [l] 0 bN) λcode=>bind (fa 0 [l] 0 9223372036854775807) λlen=>pure (code,len)) n ρ λaa n' p=>(p.1.bD n'/\p.2.bD n')/\(0<=p.1.den aa/\p.1.den aa<=bN)/\(bp (l.den ρ)).length<=9223372036854775807/\ah (p.1.den aa)=(bp (l.den ρ)).map (λb=>[(b.toNat:Int)])/\p.2.den aa=(bp (l.den ρ)).length:=by
      have kP:(bp (l.den ρ)).length<=9223372036854775807:=by have:=I8 wU.2.2;unfold kW at this;omega
      have hL:rc ((bp (l.den ρ)).map λb=>[(b.toNat:Int)])<=bN:=rK (by simp;unfold maxLen;omega) λr hr=>by
       obtain⟨b,_,rfl⟩:=List.mem_map.1 hr
       have hp:=Tx
       have:=b.toNat_lt
       exact⟨by simp,λz hz=>by simp at hz;subst hz;omega⟩
      refine(hI (op:=27) (args:=[l]) (ja _) hL).bind λaJ aT code gi eK ⟨g1,g2⟩=>?_
      have g2:code.den aJ=rc ((bp (l.den ρ)).map λb=>[(b.toNat:Int)]):=g2
      have WU:l.den aJ=l.den ρ:=I.bX eK wU.1
      refine(hI (op:=0) (args:=[l]) (lo:=0) (hi:=9223372036854775807) (IN _) (by
       show((bp (l.den aJ)).length:Int)<=_
       rw[WU];omega)).bind λbR eF len eL dz ⟨k1,k2⟩=>az.pure ?_
      have k2:len.den bR=((bp (l.den aJ)).length:Nat):=k2
      have cb:code.den bR=code.den aJ:=I.bX dz g1
      refine⟨⟨g1.mono eL,k1⟩,by rw[cb,g2];exact⟨ja _,hL⟩,kP,by rw[cb,g2,jm],by rw[k2,WU]⟩
     obtain⟨aa,n',p,hn,ha,⟨⟨g1,lS⟩,g2,g3,g4,g5⟩,ae⟩:=c0 G (λp n=>J0 3 e o.dst iW p.1 p.2 n tm bl k) ae
     have hR:=h.later hn ha
     have ir:=Lib.run_convert_string_bytes (P:=P) w s d e (dI (bp (l.den ρ))) hs (h8 hd) he
     generalize cZ:grownCap w (dI (bp (l.den ρ))).size 0 e=c at ir
     have oh:(dI (bp (l.den ρ))).size<=c:=by rw[<-cZ];exact grownCap_ge w _ 0 e
     have hle:c<=9223372036854775807:=by rw[<-cZ];exact grownCap_le_maxLen w _ 0 e (by rw[zL];exact g3)
     have Ac:(MK w e (dI (bp (l.den ρ)))).heap[w.heap.size]?=some (.cells (ML w e (dI (bp (l.den ρ)))) e ((ML w e (dI (bp (l.den ρ)))).size,(ML w e (dI (bp (l.den ρ)))).size+1)):=Lib.bytesWorld_at_new w e _
     have asm:(ML w e (dI (bp (l.den ρ)))).size=c:=by
      have asF:=oh
      rw[zL]at asF
      simp only[ML,amf,Array.size_map,Array.size_replicate,cZ]
      show(dI (bp (l.den ρ))).size+_=_
      omega
     have En:w.Extends (MK w e (dI (bp (l.den ρ)))):=by
      have hb:∀i:Nat,i<w.heap.size->(MK w e (dI (bp (l.den ρ)))).heap[i]?=w.heap[i]?:=λi hi=>Lib.bytesWorld_at_old w e _ i hi
      exact⟨rfl,rfl,rfl,by simp[MK,SK,I4,abO,-SL,-amh],λy hy=>by simp only[lH,hb y.block hy],λy hy=>by simp only[Bn,hb y.block hy],hb⟩
     have Ef:R w0 n' aa m tm bl a (MK w e (dI (bp (l.den ρ)))):=⟨hR.t,hR.d,hR.b,hR.bB.grow En⟩
     unfold mQ
     simp only[execOp,ax,ic,dk,ir,iz,js]
     have lp:ku S L w0 k n' bl.length aa m G K:=ab.later ⟨hn,ha,bL _,λ_ _=>rfl⟩ (eM.refl _ _)
     have gj:(dI (bp (l.den ρ))).size=(bp (l.den ρ)).length:=zL _
     have key:=Zp (kd:=3) (c:=(c:Int)) (g:=w.heap.size) (by omega) Ef g1 lS g2 ⟨by omega,by omega⟩ (by rw[g5];exact⟨⟨by omega,by omega,by omega,by omega⟩,⟨by omega,by omega⟩,λh=>by omega,λ_=>by omega⟩) (λh=>by omega)
      (λ_=>⟨_,_,⟨Ac,.inr ⟨by decide,rfl⟩⟩,by
        rw[g4]
        refine⟨λr hr=>?_,[],eH (c-(bp (l.den ρ)).length) (.int .u8 0),?_,rfl⟩
        ·obtain⟨b,_,rfl⟩:=List.mem_map.1 hr
         have:=b.toNat_lt
         exact⟨⟨by simp[aL.fq],by simp only[aL.fq];omega⟩,trivial⟩
        ·simp only[ML,cZ,Array.toList_append,xV,Array.toList_replicate,e2]
         congr 1
         ·show(bp (l.den ρ)).map _=_
          simp only[b2,aEM]
          induction bp (l.den ρ)with
          |nil=>rfl
          |cons b r ih=>simp[dq,aL.val,iW,ih],by
        rw[asm];simp[iW],h.bB.ext.size,.inr h.bB.gj⟩) (λi p hi he=>by
         by_cases kO:bJ aa p.1=0
         ·exact .inl kO
         ·have:=hR.bB.lt hi kO;omega) ae lp
     rw[if_neg (by omega),g5]at key
     have key:K (a.put o.dst (.slice (some ⟨w.heap.size,0,none⟩) (bp (l.den ρ)).length c)) (MK w e (dI (bp (l.den ρ)))):=by simpa using key
     rw[gj]
     exact key
    ·cases bx
   ·cases bx
  ·rename_i b len cap Am
   rw[Am]at hx
   split at bx
   ·rename_i C t e aQ hd
    split at bx
    ·rename_i he
     cases hc:(aK s d&&b7 C&& !t.2&&aK C.length len&&aK cap len&&cx len 1000000)with
     |false=>rw[hc]at bx;cases bx
     |true=>
      rw[hc]at bx
      simp only[cond_true,a7]at bx
      subst bx
      simp only[bo]at hc
      obtain⟨⟨⟨⟨⟨eh,c1⟩,bH⟩,cp⟩,cR⟩,eO⟩:=hc
      have eh:=bO eh
      have bH:t.2=false:=by simpa using bH
      have cp:=bO cp
      have cR:=bO cR
      have eO:=e8 eO
      subst eh;subst cR
      have bV:∀x∈C,A.ok n bl.length ρ x:=h.b _ (eD aQ)
      have ml:=Jx (w:=1) (k:=cap) (l:=C) (by omega)
      have e5:ah ((I.const 0).den ρ)=[]:=by rw[I.bg];exact k6
      have hz:(0:Int)<=bN:=Bl (ja []) (rK (l:=[]) (by simp) (by simp))
      obtain⟨aa,n',code,hn,ha,⟨cm,cl,dT,c3,e0,fb,gm⟩,ae⟩:=Ji (S:=S) (L:=L) (nb:=bl.length) (m:=m) (sh:=iW) (by decide) (rs:=oS 1 cap C) (c:= .const 0) (n:=n) (ρ:=ρ) (λrow hr x hx=>bV x (Jy row hr x hx)) (I.c5 _ _) (by rw[I.bg];exact⟨cL _,hz⟩) (by rw[e5];intro _ h;simp at h) (by rw[e5,ml.1];simp;omega) G _ ae
      rw[e5,e2]at c3
      have hR:=h.later hn ha
      have W0:C.map (A.den aa m)=C.map (A.den ρ m):=vp bV ha (λ_ _=>rfl)
      obtain⟨w',ir,mY⟩:=hR.bB.mark (P:=P) (s:=s) (e:=e) (code:=code) aQ c1 bH cp (h8 hd) he (by rw[c3];exact fb) (by rw[c3,gm,ml.2,W0])
      unfold mQ
      have at3:a.eval x= .slice (some ⟨m b,0,none⟩) cap cap:=hx.2
      simp only[execOp,ax,ic,at3,ir,iz,js]
      have Kh:b<bl.length:=(List.getElem?_eq_some_iff.1 aQ).1
      refine ab n' aa m _ _ G _ _ ⟨hn,ha,by rw[j2];exact bL _,λ_ _=>rfl⟩ (eM.refl _ _) ⟨?_,by rw[put_defers];exact h.d,hR.b.set (λy hy=>by
       have hy:y= .rows iW (.const 0) code (.const cap) 3:=by simpa using hy
       subst hy
       exact⟨⟨I.c5 _ _,cm,I.c5 _ _⟩,cl,by rw[I.bg];omega⟩),mY⟩ ae
      rw[j2]
      exact ef.put hR.t o.dst ⟨Kh,⟨I.c5 _ _,I.c5 _ _,I.c5 _ _,I.c5 _ _⟩,by simp only[I.bg,Fs];omega⟩ (by
       show _=_
       simp[W.den,A.den,I.bg])
    ·cases bx
   ·cases bx
  ·cases bx
 ·rename_i t x y ax
  split at bx
  ·rename_i e oA nO hd asY asZ
   cases hi:P.info? e with
   |none=>simp[hi]at bx
   |some i=>
    simp only[hi]at bx
    split at bx
    ·rename_i z hz
     cases hc:(aK i.size 1&&cx i.bytes 1024&&decide (z=0))with
     |false=>rw[hc]at bx;cases bx
     |true=>
      rw[hc]at bx
      simp only[cond_true,a7]at bx
      subst bx
      simp only[bo,decide_eq_true_eq]at hc
      have c1:=bO hc.1.1
      have bH:=e8 hc.1.2
      have cp:=hc.2
      subst cp
      obtain⟨avf,hx,fv⟩:=ahL h.t asY
      obtain⟨avg,hy,EE⟩:=ahL h.t asZ
      obtain⟨WT,ae⟩:=ae
      have WT:0<=oA.den ρ/\oA.den ρ<=nO.den ρ/\nO.den ρ<=1073741824:=WT
      obtain⟨bb,b0,cv⟩:=WT
      have eB:0<=nO.den ρ:=by omega
      have jz:∀r∈eH (oA.den ρ).toNat [(0:Int)],cw iW r:=λr hr=>by
       rw[ami hr]
       exact⟨⟨by simp[aL.fq],by simp[aL.fq]⟩,trivial⟩
      have hL:rc (eH (oA.den ρ).toNat [(0:Int)])<=bN:=Dl (sh:=iW) (by decide) (by simp;omega) jz
      have hf:bt 26 ([oA,I.const 0].map (·.den ρ))=rc (eH (oA.den ρ).toNat [(0:Int)]):=by
       simp only[cQ,e3,bt,I.bg]
      obtain⟨aa,n',code,hn,ha,⟨g1,g2⟩,ae⟩:=hI (S:=S) (L:=L) (n:=n) (op:=26) (args:=[oA,.const 0]) (lo:=0) (hi:=bN) (by rw[hf];exact ja _) (by rw[hf];exact hL) G _ ae
      rw[hf]at g2
      have hR:=h.later hn ha
      have d1:oA.den aa=oA.den ρ:=I.bX ha fv
      have ir:=run_make (P:=P) w t e i (.int .u8 0) (h8 hd) hi hz avf avg (oA.den ρ) (nO.den ρ) bb b0 (by
       have h0:(i.bytes:Int)<=1024:=by omega
       have h2:(i.bytes:Int)*nO.den ρ<=1024*1073741824:=Int.mul_le_mul h0 cv eB (by decide)
       omega) (by omega)
      have ag5:(madeCells (xS .u8 0).cells ((nO.den ρ).toNat*i.size)).toList=eH (nO.den ρ).toNat (.int .u8 0):=by
       rw[c1,zw]
       refine abI λj=>?_
       simp only[madeCells,Value.cells,xV,abH]
       rw[pw,List.getElem?_replicate]
       by_cases aI:j<(nO.den ρ).toNat
       ·rw[if_pos aI,amb aI]
        simp[Nat.mod_one]
       ·rw[if_neg aI,abJ (by simp;omega)];rfl
      have hsz:(madeCells (xS .u8 0).cells ((nO.den ρ).toNat*i.size)).size=(nO.den ρ).toNat:=by
       have:=congrArg np ag5
       simpa using this
      have Ac:(w.alloc (.cells (madeCells (xS .u8 0).cells ((nO.den ρ).toNat*i.size)) e)).heap[w.heap.size]?=some (.cells (madeCells (xS .u8 0).cells ((nO.den ρ).toNat*i.size)) e (0,0)):=by simp[I4,-SL]
      have En:w.Extends (w.alloc (.cells (madeCells (xS .u8 0).cells ((nO.den ρ).toNat*i.size)) e)):=by
       have hb:∀j:Nat,j<w.heap.size->(w.alloc (.cells (madeCells (xS .u8 0).cells ((nO.den ρ).toNat*i.size)) e)).heap[j]?=w.heap[j]?:=λj aI=>by
        simp only[I4]
        rw[aER aI,Mw aI]
       exact⟨rfl,rfl,rfl,by simp[I4,-SL],λy hy=>by simp only[lH,hb y.block hy],λy hy=>by simp only[Bn,hb y.block hy],hb⟩
      generalize zX:w.alloc (.cells (madeCells (xS .u8 0).cells ((nO.den ρ).toNat*i.size)) e)=W at*
      have Ef:R w0 n' aa m tm bl a W:=⟨hR.t,hR.d,hR.b,hR.bB.grow En⟩
      unfold mQ
      simp only[execOp,ax,ic,hx,hy,ir,iz,js]
      have lp:ku S L w0 k n' bl.length aa m G K:=ab.later ⟨hn,ha,bL _,λ_ _=>rfl⟩ (eM.refl _ _)
      have key:=Zp (kd:=2) (c:=nO.den ρ) (g:=w.heap.size) (bL _) Ef g1 (fv.mono hn) (by rw[g2];exact⟨ja _,hL⟩) ⟨by omega,by omega⟩ (by rw[d1];exact⟨⟨by omega,by omega,by omega,by omega⟩,⟨by omega,by omega⟩,λh=>by omega,λ_=>by omega⟩) (λh=>by omega)
       (λ_=>⟨_,_,⟨Ac,.inl ⟨rfl,rfl⟩⟩,by
         rw[g2,jm]
         refine⟨jz,[],eH ((nO.den ρ).toNat-(oA.den ρ).toNat) (.int .u8 0),?_,rfl⟩
         rw[ag5,e2]
         have aw:b2 iW (eH (oA.den ρ).toNat [(0:Int)])=eH (oA.den ρ).toNat (.int .u8 0):=by
          generalize (oA.den ρ).toNat=q
          induction q with
          |zero=>rfl
          |succ q ih=>
           rw[Bs,Bs]
           simp only[b2,sL]at ih⊢
           rw[ih];rfl
         rw[aw,List.replicate_append_replicate]
         congr 1;omega,by rw[hsz];simp[iW],h.bB.ext.size,.inr h.bB.gj⟩) (λj p aI he=>by
         by_cases kO:bJ aa p.1=0
         ·exact .inl kO
         ·have:=hR.bB.lt aI kO;omega) ae lp
      rw[if_neg (by omega),d1]at key
      have key:K (a.put o.dst (.slice (some ⟨w.heap.size,0,none⟩) (oA.den ρ).toNat (nO.den ρ).toNat)) W:=key
      exact key
    ·cases bx
  ·cases bx
 ·rename_i c ax
  split at bx
  ·rename_i f hc
   split at bx
   ·rename_i fn x hf qD
    split at bx
    ·rename_i y t hx m2
     split at bx
     ·rename_i e hd
      split at bx
      ·rename_i he
       cases hm:Pv fn with
       |false=>rw[hm]at bx;cases bx
       |true=>
        rw[hm]at bx
        simp only[cond_true,a7]at bx
        subst bx
        obtain⟨gB,eQ,ET,yO⟩:=apM hm
        have fv:=cy h.t x
        rw[hx]at fv
        have EE:y.l.bD n:=fv.1.1
        obtain⟨WS,ae⟩:=ae
        have WS:0<=y.l.den ρ/\y.l.den ρ<=1073741824:=WS
        obtain⟨bb,b0⟩:=WS
        obtain⟨N,cF⟩:∃N:Nat,y.l.den ρ=N:=⟨(y.l.den ρ).toNat,by omega⟩
        have dk:a.eval x= .int .i64 (N:Int):=by rw[<-cF];exact fv.2
        have atr:fn.resultTypes=#[t]:=SG (by rw[m2])
        obtain⟨lQ,DL,ir,hle,Eu⟩:=az3 (P:=P) w fn.params t e (h8 hd) N (by omega)
        have Eu:=Eu (by unfold maxLen;omega)
        unfold maxLen at Eu
        obtain⟨l,l1,l2,mv⟩:=afd lQ DL #[]
        have Wx:(execOp a.eval o).run P w= .ok (.value (.slice (some ⟨w.heap.size,0,none⟩) N lQ)) (w.drew.drew.alloc (.cells (zA lQ DL #[]) e)):=by
         rw[ZU hc o ax,run_callFunc_extern hf eQ gB ET yO]
         have:c.args.map a.eval=#[.int .i64 (N:Int)]:=SG (by rw[xV,qD];simp[dk])
         rw[this,atr,ir]
         rfl
        have KY:∀r∈l.take N,cw iW r:=λr hr=>l2 r (lf hr)
        have ou:(l.take N).length=N:=by rw[px,l1];omega
        have ahs:rc (l.take N)<=bN:=Dl (sh:=iW) (by decide) (by rw[ou];omega) KY
        have ae:=ae (rc (l.take N)) (ja _) ahs
        have eK:agree n ρ (de ρ n (rc (l.take N))):=agree.de _ _ _
        have aX:y.l.den (de ρ n (rc (l.take N)))=N:=by rw[I.bX eK EE,cF]
        have Vg:(I.var n).den (de ρ n (rc (l.take N)))=rc (l.take N):=by simp[I.cE,kF]
        have ae:=ae (by
         show y.l.den (de ρ n (rc (l.take N)))=((ah ((I.var n).den (de ρ n (rc (l.take N))))).length:Int)
         rw[aX,Vg,jm,ou])
        have ae:=ae (lQ:Int) (by omega) (by omega)
        have ae:=ae (by
         have dz:agree (n+1) (de ρ n (rc (l.take N))) (de (de ρ n (rc (l.take N))) (n+1) (lQ:Int)):=agree.de _ _ _
         show y.l.den (de (de ρ n (rc (l.take N))) (n+1) (lQ:Int))<=(I.var (n+1)).den (de (de ρ n (rc (l.take N))) (n+1) (lQ:Int))
         rw[I.bX dz (EE.mono (qZ _)),aX]
         simp only[I.cE,kF]
         omega)
        have hR:=h.later (qZ n) eK
        have Ac:(w.drew.drew.alloc (.cells (zA lQ DL #[]) e)).heap[w.heap.size]?=some (.cells (zA lQ DL #[]) e (0,0)):=by simp[I4,abO,-SL,-amh]
        have En:w.Extends (w.drew.drew.alloc (.cells (zA lQ DL #[]) e)):=by
         have hb:∀j:Nat,j<w.heap.size->(w.drew.drew.alloc (.cells (zA lQ DL #[]) e)).heap[j]?=w.heap[j]?:=λj aI=>by
          simp only[I4,abO]
          rw[aER aI,Mw aI]
         exact⟨rfl,rfl,rfl,by simp[I4,abO,-SL,-amh],λy hy=>by simp only[lH,hb y.block hy],λy hy=>by simp only[Bn,hb y.block hy],hb⟩
        generalize zX:w.drew.drew.alloc (.cells (zA lQ DL #[]) e)=W at*
        have Ef:R w0 (n+1) (de ρ n (rc (l.take N))) m tm bl a W:=⟨hR.t,hR.d,hR.b,hR.bB.grow En⟩
        unfold mQ
        simp only[Wx]
        have lp:ku S L w0 k (n+1) bl.length (de ρ n (rc (l.take N))) m G K:=ab.later ⟨qZ n,eK,bL _,λ_ _=>rfl⟩ (eM.refl _ _)
        have key:=ajH (kd:=2) (c:=(lQ:Int)) (g:=w.heap.size) (code:= .var n) (len:=y.l) (e:=e) (d:=o.dst) (sh:=iW) (bL _) Ef (I.fg (xT n)) (EE.mono (qZ _)) (by rw[Vg];exact⟨ja _,ahs⟩) ⟨by omega,by omega⟩ (by rw[aX];exact⟨⟨by omega,by omega,by omega,by omega⟩,⟨by omega,by omega⟩,λh=>by omega,λ_=>by omega⟩) (λh=>by omega)
         (λ_=>⟨_,_,⟨Ac,.inl ⟨rfl,rfl⟩⟩,by
           rw[Vg,jm]
           refine⟨KY,[],b2 iW (l.drop N),?_,rfl⟩
           rw[mv]
           show b2 iW l=b2 iW (l.take N)++b2 iW (l.drop N)
           rw[<-wK,ld],by
           have aw:=congrArg np mv
           simp only[fc,oc l2,l1]at aw
           simpa [iW]using aw,h.bB.ext.size,.inr h.bB.gj⟩) (λj p aI he=>by
           by_cases kO:bJ (de ρ n (rc (l.take N))) p.1=0
           ·exact .inl kO
           ·have:=hR.bB.lt aI kO;omega) ae lp
        rw[if_neg (by omega),aX]at key
        have key:K (a.put o.dst (.slice (some ⟨w.heap.size,0,none⟩) N lQ)) W:=by simpa using key
        exact key
      ·cases bx
     ·cases bx
    ·cases bx
   ·cases bx
  ·cases bx
 ·cases bx
end
end Go.b6
namespace Go.b6
open M
theorem azK {α:Type} (f:Nat->α) (s k:Nat):(fk ((k+1)*s)).map (λi=>f (i% s))=(fk s).map (λi=>f (i% s))++(fk (k*s)).map (λi=>f (i% s)):=by
 rw[xU,Nat.add_comm (k*s) s,List.range_add,iy,nk]
 congr 1
 refine jQ λi _=>?_
 simp only[Mv,Nat.add_mod_left]
theorem alO (Z:Array aP):∀k:Nat,(ns Z k).toList=(eH k Z.toList).flatten
 |0=>by simp[ns]
 |k+1=>by
  have ih:=alO Z k
  simp only[ns,xV,abH]at ih⊢
  rw[azK (λi=>Z[i]!) Z.size k,ih,Bs,sH]
  congr 1
  refine List.ext_getElem (by simp) λi h1 h2=>?_
  simp only[l6,List.length_range]at h1
  simp[abt h1,h1]
theorem afI (sh:List aL) (row:List Int):∀k:Nat,b2 sh (eH k row)=(eH k (dq sh row)).flatten
 |0=>rfl
 |k+1=>by
  have ih:=afI sh row k
  rw[Bs,Bs,sH,<-ih];rfl
section
variable {S:Nat->List Int->List Int->Prop} {L:V->Env->Prop} {n:Nat} {ρ:Env} {m:Nat->Nat} {bl:List aG} {gl:eI} {w0:dX} {P:bQ}
theorem Mem.rewrite {w:aE} {b:Nat} {sh:List aL} {off code cap code':I} {kind:Nat} {dp:bh×Bool} (h:Mem w0 ρ m bl w) (aQ:bl[b]?=some ([.rows sh off code cap kind],dp)) (ab:2<=kind) (cZ:0<=cap.den ρ)
 (rj:∀r∈ah (code'.den ρ),cw sh r) (hlen:(ah (code'.den ρ)).length=(ah (code.den ρ)).length):
 ∃(cells:Array aP) (post:List aP) (fz:Nat×Nat),w.heap[m b]?=some (.cells cells dp.1 fz)/\zD kind fz cells.size/\off.den ρ=0/\(∀r∈ah (code.den ρ),cw sh r)/\cells.toList=b2 sh (ah (code.den ρ))++post/\cells.size=(cap.den ρ).toNat*sh.length/\
  Mem w0 ρ m (dE bl b ([.rows sh off code' cap kind],dp)) (w.setRow (m b) (b2 sh (ah (code'.den ρ))++post).toArray):=by
 obtain⟨eB,cells,km,fz,bb,⟨b0,cv⟩,dK⟩:=(h.rws b sh off code cap kind dp aQ (by omega)).2 cZ
 obtain⟨r0,r1,r2,gn,k5,aC⟩:=dK ab
 subst r0
 obtain⟨y0,pre,post,HL,Lx⟩:=cv
 rw[r1]at Lx
 have o2:pre=[]:=xX (by simpa using Lx)
 subst o2
 rw[e2]at HL
 have hsz:(b2 sh (ah (code'.den ρ))++post).length=cells.size:=by
  have aw:=congrArg np HL
  simp only[fc,oc rj,oc y0,Br,hlen]at aw⊢
  omega
 refine⟨cells,post,fz,bb,r2,r1,y0,HL,gn,?_⟩
 exact h.put (kd:=kind) (cells:=cells) (fz:=fz) (code':=code') ab aQ cZ (row:=(b2 sh (ah (code'.den ρ))++post).toArray) (λ_=>⟨λc9=>by omega,λ_=>⟨eB,_,_,fz,MI w (m b) _ _ _ _ bb,⟨by rw[r1];exact cL _,by
  rw[r1]
  exact⟨rj,[],post,by simp,rfl⟩⟩,λ_=>⟨rfl,r1,by simp only[zy,hsz];exact r2,by simp only[zy,hsz];exact gn,k5,aC⟩⟩⟩)
theorem aiN {sh:List aL} {rows mid:List (List Int)} {post:List aP} {cells:List aP} {a:Nat} (hr:∀r∈rows,cw sh r) (hm:∀r∈mid,cw sh r) (hc:cells=b2 sh rows++post) (ha:a+mid.length<=rows.length):
 cells.take (a*sh.length)++b2 sh mid++cells.drop (a*sh.length+(b2 sh mid).length)=b2 sh (rows.take a++mid++rows.drop (a+mid.length))++post:=by
 have h1:b2 sh rows=b2 sh (rows.take a)++b2 sh (rows.drop a):=by rw[<-wK,ld]
 have h2:b2 sh rows=b2 sh (rows.take (a+mid.length))++b2 sh (rows.drop (a+mid.length)):=by rw[<-wK,ld]
 have l1:(b2 sh (rows.take a)).length=a*sh.length:=by rw[oc λr h=>hr r (lf h),px,Dc (by omega)]
 have l2:(b2 sh (rows.take (a+mid.length))).length=a*sh.length+(b2 sh mid).length:=by rw[oc λr h=>hr r (lf h),oc hm,px,Dc (by omega),xW]
 have aw:cells.take (a*sh.length)=b2 sh (rows.take a):=by
  rw[hc,h1,kq,Mz (by omega),pt (by omega)]
 have aF:cells.drop (a*sh.length+(b2 sh mid).length)=b2 sh (rows.drop (a+mid.length))++post:=by
  rw[hc,h2,kq,<-l2,List.drop_left]
 rw[aw,aF,wK,wK]
 simp only[kq]
theorem Qu {sh:List aL} {rows mid:List (List Int)} {a k:Nat} (hr:∀r∈rows,cw sh r) (hm:∀r∈mid,cw sh r):∀r∈rows.take a++mid++rows.drop k,cw sh r:=λr h=>by
 rcases List.mem_append.1 h with h|h
 ·rcases List.mem_append.1 h with h|h
  ·exact hr r (lf h)
  ·exact hm r h
 ·exact hr r (oN h)
theorem YL {rows mid:List (List Int)} {a:Nat} (ha:a+mid.length<=rows.length):(rows.take a++mid++rows.drop (a+mid.length)).length=rows.length:=by
 simp only[fc,px,nn];omega
theorem Q9 {w:aE} {b:Nat} {sh:List aL} {off code cap:I} {kind:Nat} {dp:bh×Bool} (h:Mem w0 ρ m bl w) (aQ:bl[b]?=some ([.rows sh off code cap kind],dp)) (ab:2<=kind) (cZ:0<=cap.den ρ) (Cr:cap.den ρ<=9223372036854775807) (o0:0<sh.length):(ah (code.den ρ)).length<=maxLen/\∀r∈ah (code.den ρ),cw sh r:=by
 obtain⟨eB,cells,km,fz,bb,⟨b0,cv⟩,dK⟩:=(h.rws b sh off code cap kind dp aQ (by omega)).2 cZ
 obtain⟨_,_,_,h5,_⟩:=dK ab
 obtain⟨y0,pre,post,cm,cl⟩:=cv
 refine⟨?_,y0⟩
 have h4:=congrArg np cm
 simp only[fc,oc y0,Br]at h4
 rw[h5]at h4
 have h6:(ah (code.den ρ)).length*sh.length<=(cap.den ρ).toNat*sh.length:=by omega
 have h7:=aEQ h6 o0
 unfold maxLen;omega
theorem aky {sh:List aL} (h:nT sh=true):0<sh.length:=by
 unfold nT at h
 simp only[bo]at h
 exact r3 h.1.2
theorem aj7 {w:aE} {b:Nat} {sh:List aL} {off code cap:I} {kind:Nat} {dp:bh×Bool} (h:Mem w0 ρ m bl w) (aQ:bl[b]?=some ([.rows sh off code cap kind],dp)) (ab:2<=kind) (Cr:cap.den ρ<=9223372036854775807) (o0:0<sh.length):(ah (code.den ρ)).length<=maxLen/\∀r∈ah (code.den ρ),cw sh r:=by
 rcases kI (cap.den ρ) 0 with hc|hc
 ·rw[(h.rws b sh off code cap kind dp aQ (by omega)).1 hc]
  exact⟨IP _,λr hr=>by simp at hr⟩
 ·exact Q9 h aQ ab hc Cr o0
theorem Mem.azM {w:aE} {b:Nat} {sh:List aL} {off code cap code':I} {kind:Nat} {dp:bh×Bool} (h:Mem w0 ρ m bl w) (aQ:bl[b]?=some ([.rows sh off code cap kind],dp)) (he:ah (code'.den ρ)=ah (code.den ρ)):Mem w0 ρ m (dE bl b ([.rows sh off code' cap kind],dp)) w:=by
 rw[kE]
 have hlt:=(List.getElem?_eq_some_iff.1 aQ).1
 have hg:∀(i:Nat) (p:aG),(bl.set b ([.rows sh off code' cap kind],dp))[i]?=some p->(i=b/\p=([.rows sh off code' cap kind],dp))∨(i≠b/\bl[i]?=some p):=λi p hi=>by
  rw[sI]at hi
  by_cases jV:b=i
  ·subst jV
   rw[if_pos rfl,if_pos hlt]at hi
   exact .inl ⟨rfl,(hV hi).symm⟩
  ·rw[if_neg jV]at hi
   exact .inr ⟨λe=>jV e.symm,hi⟩
 have im:∀(i:Nat) (p:aG),(bl.set b ([.rows sh off code' cap kind],dp))[i]?=some p->∃q:aG,bl[i]?=some q/\bJ ρ p.1=bJ ρ q.1:=λi p hi=>by
  rcases hg i p hi with⟨rfl,rfl⟩|⟨_,h2⟩
  ·exact⟨_,aQ,rfl⟩
  ·exact⟨_,h2,rfl⟩
 refine⟨h.ext,h.iZ,h.kA,h.j7,h.gj,h.iO,λi cs t hi ax=>?_,λi fh jB iN jw p1 t hi=>?_,λi j p q hi aI hm=>?_⟩
 ·rcases hg i _ hi with⟨_,h2⟩|⟨_,h2⟩
  ·cases h2;exact absurd ax (by simp[b7])
  ·exact h.fe i cs t h2 ax
 ·rcases hg i _ hi with⟨rfl,h2⟩|⟨_,h2⟩
  ·cases h2
   have:=h.rws _ sh off code cap kind dp aQ
   unfold sN at this⊢
   rw[he];exact this
  ·exact h.rws i _ _ _ _ _ t h2
 ·obtain⟨dc,hp,ep⟩:=im i p hi
  obtain⟨eA,aj,eq⟩:=im j q aI
  rw[ep,eq]
  exact h.inj i j dc eA hp aj hm
theorem aBa {tm:List V} {a:Act} {w:aE} {G:ev} {o:Oper} {K:Act->aE->Prop} {Q:Exit->Act->aE->Prop} {k:gR} {pB:T}
 (h:R w0 n ρ m tm bl a w) (bx:aao P o n tm bl k=some pB) (ae:pB.holds S L G ρ) (ab:ku S L w0 k n bl.length ρ m G K):o.wp P a w K Q:=by
 unfold aao at bx
 split at bx
 rotate_left
 ·cases bx
 rename_i c ax
 split at bx
 ·rename_i lU
  split at bx
  rotate_left
  ·cases bx
  rename_i x t fv mn
  have hx:=cy h.t x
  split at bx
  rotate_left
  ·cases bx
  rename_i b bq cu ro len cap e hv he
  rw[hv]at hx
  split at bx
  rotate_left
  ·cases bx
  rename_i sh off code eE kind dp z aQ hz
  cases hc:(cx 2 kind&&I.beq cu off&&aK bq sh.length&&nT sh&&aK z.length sh.length)with
  |false=>rw[hc]at bx;cases bx
  |true=>
   rw[hc]at bx
   simp only[cond_true,a7]at bx
   subst bx
   simp only[bo]at hc
   obtain⟨⟨⟨⟨c1,bH⟩,cp⟩,cR⟩,eO⟩:=hc
   have c1:=e8 c1;have bH:=I.beq_eq bH;have cp:=bO cp;have eO:=bO eO
   subst bH;subst cp
   obtain⟨inf,l8,hi,jk,rb⟩:=IG hz
   have bZ:c.args=#[x]:=by rw[<-kc (xs:=c.args),fv]
   have a2:c.argTypes=#[t]:=by rw[<-kc (xs:=c.argTypes),mn]
   have o3:(A.sl b sh.length cu ro len cap).ok n bl.length ρ:=hx.1
   obtain⟨ptr,aw,aF,cb⟩:=uj (m:=m) o3
   have dk:a.eval x=(A.sl b sh.length cu ro len cap).den ρ m:=hx.2
   rw[aw]at dk
   obtain⟨ai,⟨af,ar,cN,ia⟩,⟨iR,k9,la,lb⟩,⟨lD,k8⟩,gC,iQ⟩:=o3
   have fu:(A.rows sh cu code eE kind).ok n bl.length ρ:=h.b _ (eD aQ) _ (by simp)
   have o0:=aky cR
   have c0:az S L (bind (gh 65 [code,ro,len]) λ_=>bind (A5 sh z) λls=>bind (fa 61 (code::ro::len::ls) 0 bN) λcode'=>pure code') n ρ λaa n' code'=>code'.bD n'/\(0<=code'.den aa/\code'.den aa<=bN)/\(0<=ro.den ρ/\0<len.den ρ/\ro.den ρ+len.den ρ<=(ah (code.den ρ)).length)/\0<=eE.den ρ/\
    ∃row:List Int,cw sh row/\dq sh row=l8.cells.toList/\ah (code'.den aa)=(ah (code.den ρ)).take (ro.den ρ).toNat++eH (len.den ρ).toNat row++(ah (code.den ρ)).drop ((ro.den ρ).toNat+(len.den ρ).toNat):=by
    refine iM λkP=>?_
    have kP:0<=ro.den ρ/\0<len.den ρ/\ro.den ρ+len.den ρ<=(ah (code.den ρ)).length:=kP
    have Hc:=zT rb n bl.length ρ m
    refine(H6 (nb:=bl.length) (m:=m) Hc.1).bind λaJ aT ls gi eK ⟨g1,g2,g3⟩=>?_
    rw[Hc.2]at g3
    have cZ:0<=eE.den ρ:=by
     rcases kI (eE.den ρ) 0 with ik|ik
     ·have:=(h.bB.rws b sh cu code eE kind dp aQ (by omega)).1 ik
      rw[this]at kP;simp at kP;omega
     ·exact ik
    obtain⟨Eu,j8⟩:=Q9 h.bB aQ c1 cZ fu.2.2.2 o0
    have hf:bt 61 ((code::ro::len::ls).map (·.den aJ))=rc ((ah (code.den ρ)).take (ro.den ρ).toNat++eH (len.den ρ).toNat (ls.map (·.den aJ))++(ah (code.den ρ)).drop ((ro.den ρ).toNat+(len.den ρ).toNat)):=by
     simp only[cQ,bt,I.bX eK fu.1.2.1,I.bX eK ar,I.bX eK cN]
    have bV:∀r∈(ah (code.den ρ)).take (ro.den ρ).toNat++eH (len.den ρ).toNat (ls.map (·.den aJ))++(ah (code.den ρ)).drop ((ro.den ρ).toNat+(len.den ρ).toNat),cw sh r:=Qu j8 λr hr=>by rw[ami hr];exact g2
    have hL:=rK (l:=(ah (code.den ρ)).take (ro.den ρ).toNat++eH (len.den ρ).toNat (ls.map (·.den aJ))++(ah (code.den ρ)).drop ((ro.den ρ).toNat+(len.den ρ).toNat)) (by simp only[fc,px,nn,SP];omega) λr hr=>(bV r hr).row cR
    refine(hI (by rw[hf];exact ja _) (by rw[hf];exact hL)).bind λbR eF code' eL dz ⟨k1,k2⟩=>az.pure ?_
    rw[hf]at k2
    exact⟨k1,by rw[k2];exact⟨ja _,hL⟩,kP,cZ,ls.map (·.den aJ),g2,g3,by rw[k2,jm]⟩
   obtain⟨aa,n',code',hn,ha,⟨g1,g2,g3,cZ,row,g4,g5,g6⟩,ae⟩:=c0 G _ ae
   have hR:=h.later hn ha
   have d1:code.den aa=code.den ρ:=I.bX ha fu.1.2.1
   have d2:eE.den aa=eE.den ρ:=I.bX ha fu.1.2.2
   have Ez:(eH (len.den ρ).toNat row).length=(len.den ρ).toNat:=SP
   have rf:∀r∈eH (len.den ρ).toNat row,cw sh r:=λr hr=>by rw[ami hr];exact g4
   have hle:(ro.den ρ).toNat+(eH (len.den ρ).toNat row).length<=(ah (code.den ρ)).length:=by rw[Ez];omega
   have rj:∀r∈ah (code.den ρ),cw sh r:=(Q9 h.bB aQ c1 cZ fu.2.2.2 o0).2
   obtain⟨cells,post,fz,cm,cl,c3,e0,fb,gm,m7⟩:=hR.bB.rewrite (code':=code') aQ c1 (by rw[d2];exact cZ) (by rw[g6];exact Qu rj rf) (by
    rw[g6,d1]
    have:=YL hle
    rw[Ez]at this;exact this)
   rw[d1]at e0 fb
   have c3:cu.den ρ=0:=by rw[<-I.bX ha af];exact c3
   have Ki:0<=cap.den ρ:=by
    rcases kI (cap.den ρ) 0 with ik|ik
    ·have:=gC ik;omega
    ·exact ik
   have bT:a.eval x= .slice (some ⟨m b,(ro.den ρ).toNat*sh.length,none⟩) (len.den ρ).toNat (cap.den ρ).toNat:=by
    rw[dk,cb Ki,if_neg (by omega),c3];simp
   have ou:(ns l8.cells (len.den ρ).toNat).toList=b2 sh (eH (len.den ρ).toNat row):=by rw[alO,afI,g5]
   have auc:(ns l8.cells (len.den ρ).toNat).toList.length=(len.den ρ).toNat*sh.length:=by rw[ou,oc rf,Ez]
   have Wz:=congrArg np fb
   simp only[fc,Br,oc e0]at Wz
   have yA:(ro.den ρ).toNat*sh.length+0+(ns l8.cells (len.den ρ).toNat).toList.length<=cells.size:=by
    rw[auc]
    have:((ro.den ρ).toNat+(len.den ρ).toNat)*sh.length<=(ah (code.den ρ)).length*sh.length:=abM _ (by omega)
    rw[xW]at this
    omega
   have lV:=Ra (P:=P) (m b) ((ro.den ρ).toNat*sh.length) dp.1 fz kind (ns l8.cells (len.den ρ).toNat).toList 0 cells w cl cm yA (by rw[ou];exact VO)
   rw[mM,ou,aiN e0 rf fb hle]at lV
   rw[Ez]at lV
   rw[<-g6]at lV
   obtain⟨q,aj⟩:∃q,(len.den ρ).toNat=q+1:=⟨(len.den ρ).toNat-1,by omega⟩
   have KY:∀w:aE,(zeroValue e).run P w= .ok l8 w:=λw=>by simp[zeroValue,typeInfo,hi,jk]
   have ir:(aml #[t] o.type #[.slice (some ⟨m b,(ro.den ρ).toNat*sh.length,none⟩) (q+1) (cap.den ρ).toNat]).run P w= .ok (.tuple #[]) (w.setRow (m b) (b2 sh (ah (code'.den aa))++post).toArray):=by
    rw[aj]at lV ou
    have atC:(storeCells ⟨m b,(ro.den ρ).toNat*sh.length,none⟩ (ns l8.cells (q+1)).toList 0).run P w= .ok () (w.setRow (m b) (b2 sh (ah (code'.den aa))++post).toArray):=by rw[ou];exact lV
    simp[aml,eU (h8 he),KY,atC]
   rw[aj]at bT
   unfold mQ
   have hex:execOp a.eval o=(do pure (kr (<-aml #[t] o.type #[a.eval x]))):=by
    simp[execOp,ax,resolve,lU,bZ,a2,invoke,builtin]
   simp only[hex,bT,ic,ir,iz,js]
   refine ab n' aa m _ _ G _ _ ⟨hn,ha,by rw[j2];exact bL _,λ_ _=>rfl⟩ (eM.refl _ _) ⟨?_,by rw[put_defers];exact h.d,hR.b.set (λy hy=>by
    simp at hy;subst hy
    exact⟨⟨fu.1.1.mono hn,g1,fu.1.2.2.mono hn⟩,g2,by rw[d2];exact fu.2.2⟩),m7⟩ ae
   rw[j2]
   exact ef.put hR.t o.dst (by intro x hx;simp at hx) rfl
 ·rename_i lU
  split at bx
  rotate_left
  ·cases bx
  rename_i x y t t' fv mn
  have hx:=cy h.t x
  have hy:=cy h.t y
  split at bx
  rotate_left
  ·rename_i b bq cu ro len cap e hv kR he
   rw[hv]at hx
   rw[kR]at hy
   split at bx
   rotate_left
   ·cases bx
   rename_i s hs
   simp only[a7]at bx
   subst bx
   have bZ:c.args=#[x,y]:=by rw[<-kc (xs:=c.args),fv]
   have a2:c.argTypes=#[t,t']:=by rw[<-kc (xs:=c.argTypes),mn]
   have o3:(A.sl b bq cu ro len cap).ok n bl.length ρ:=hx.1
   obtain⟨ptr,aw,aF,cb⟩:=uj (m:=m) o3
   have dk:a.eval x=(A.sl b bq cu ro len cap).den ρ m:=hx.2
   rw[aw]at dk
   have w1:a.eval y= .slice none 0 0:=hy.2
   obtain⟨zC,abW,Tq,bT⟩:∃A B C,a.eval x= .slice A B C:=⟨_,_,_,dk⟩
   have ir:(xY #[t,t'] o.type #[.slice zC abW Tq,.slice none 0 0]).run P w= .ok (goInt 0) w:=by
    cases zC<;>simp[xY,eU (h8 he),SI,jn hs,I3,storeCells]
   unfold mQ
   have hex:execOp a.eval o=(do pure (kr (<-xY #[t,t'] o.type #[a.eval x,a.eval y]))):=by
    simp[execOp,ax,resolve,lU,bZ,a2,invoke,builtin]
   simp only[hex,bT,w1,ic,ir,iz,js]
   exact ab n ρ m _ _ G _ _ (en.refl _ _ _ _) (eM.refl _ _) ⟨ef.put (v:= .w (.one (.int .i64 ⟨.const 0,0,0⟩))) h.t o.dst ⟨I.c5 _ _,by simp[I.bg],by simp[I.bg]⟩ rfl,by rw[put_defers];exact h.d,h.b,h.bB⟩ ae
  ·cases bx
  rename_i b bq cu ro len cap b4 aav tF hT hP yj e hv kR he
  rw[hv]at hx
  rw[kR]at hy
  split at bx
  rotate_left
  ·cases bx
  rename_i sh off code eE kind dp aab AN iN zR AG Nr s aQ zZ hs
  cases hc:(cx 2 kind&&dv 0 AG&&I.beq cu off&&I.beq tF AN&&qS sh aab&&aK bq sh.length&&aK aav sh.length&&aK s sh.length&&nT sh)with
  |false=>rw[hc]at bx;cases bx
  |true=>
   rw[hc]at bx
   simp only[cond_true,a7]at bx
   subst bx
   simp only[bo]at hc
   obtain⟨⟨⟨⟨⟨⟨⟨⟨c1,bH⟩,cp⟩,cR⟩,eO⟩,gI⟩,nz⟩,mX⟩,qx⟩:=hc
   have c1:=e8 c1;have bH:0<AG:=e8 bH;have cp:=I.beq_eq cp;have cR:=I.beq_eq cR;have eO:=C6 eO;have gI:=bO gI;have nz:=bO nz;have mX:=bO mX
   subst cp;subst cR;subst eO;subst gI;subst nz;subst mX
   have bZ:c.args=#[x,y]:=by rw[<-kc (xs:=c.args),fv]
   have a2:c.argTypes=#[t,t']:=by rw[<-kc (xs:=c.argTypes),mn]
   have o3:(A.sl b sh.length cu ro len cap).ok n bl.length ρ:=hx.1
   have ahr:(A.sl b4 sh.length tF hT hP yj).ok n bl.length ρ:=hy.1
   obtain⟨ptr,aw,aF,cb⟩:=uj (m:=m) o3
   obtain⟨ayZ,f1,f2,f3⟩:=uj (m:=m) ahr
   have dk:a.eval x=(A.sl b sh.length cu ro len cap).den ρ m:=hx.2
   have w1:a.eval y=(A.sl b4 sh.length tF hT hP yj).den ρ m:=hy.2
   rw[aw]at dk
   rw[f1]at w1
   obtain⟨ai,⟨af,ar,cN,ia⟩,⟨iR,k9,la,lb⟩,⟨lD,k8⟩,gC,iQ⟩:=o3
   obtain⟨an,⟨ak,ay,mH,aa6⟩,⟨aa9,abb,Mj,Iv⟩,⟨Mc,Me⟩,Md,RW⟩:=ahr
   have fu:(A.rows sh cu code eE kind).ok n bl.length ρ:=h.b _ (eD aQ) _ (by simp)
   have arB:(A.rows sh tF iN zR AG).ok n bl.length ρ:=h.b _ (eD zZ) _ (by simp)
   have o0:=aky qx
   have c0:az S L (bind (gh 80 [code,ro,len]) λ_=>bind (gh 22 [iN,hT,hT.add hP]) λ_=>bind (fa 62 [hP,len] 0 9223372036854775807) λq=>bind (fa 22 [iN,hT,hT.add q] 0 bN) λsrc=>bind (fa 63 [code,ro,src] 0 bN) λcode'=>pure (q,code')) n ρ λaa n' p=>(p.1.bD n'/\p.2.bD n')/\(0<=p.2.den aa/\p.2.den aa<=bN)/\(0<=ro.den ρ/\0<=len.den ρ/\ro.den ρ+len.den ρ<=(ah (code.den ρ)).length)/\
    p.1.den aa=min (hP.den ρ) (len.den ρ)/\(0<=hT.den ρ/\hT.den ρ+hP.den ρ<=(ah (iN.den ρ)).length)/\ah (p.2.den aa)=(ah (code.den ρ)).take (ro.den ρ).toNat++((ah (iN.den ρ)).drop (hT.den ρ).toNat).take (min (hP.den ρ) (len.den ρ)).toNat++(ah (code.den ρ)).drop ((ro.den ρ).toNat+(((ah (iN.den ρ)).drop (hT.den ρ).toNat).take (min (hP.den ρ) (len.den ρ)).toNat).length)/\∀r∈ah (iN.den ρ),cw sh r:=by
    refine iM λkP=>iM λoY=>?_
    have kP:0<=ro.den ρ/\0<=len.den ρ/\ro.den ρ+len.den ρ<=(ah (code.den ρ)).length:=kP
    have oY:0<=hT.den ρ/\hT.den ρ<=(hT.add hP).den ρ/\(hT.add hP).den ρ<=(ah (iN.den ρ)).length:=oY
    rw[I.den_add]at oY
    obtain⟨Eu,j8⟩:=aj7 h.bB aQ c1 fu.2.2.2 o0
    have KL:∀r∈ah (iN.den ρ),cw sh r:=by
     rcases kI (zR.den ρ) 0 with ik|ik
     ·have:=(h.bB.rws b4 sh tF iN zR AG Nr zZ (by omega)).1 ik
      rw[this];intro _ h;simp at h
     ·obtain⟨_,_,_,_,_,⟨_,cv⟩,_⟩:=(h.bB.rws b4 sh tF iN zR AG Nr zZ (by omega)).2 ik
      exact cv.1
    have W1:bt 62 ([hP,len].map (·.den ρ))=min (hP.den ρ) (len.den ρ):=rfl
    refine(hI (by rw[W1];omega) (by rw[W1];omega)).bind λaJ aT q gi eK ⟨bb,b0⟩=>?_
    rw[W1]at b0
    have b3:iN.den aJ=iN.den ρ:=I.bX eK arB.1.2.1
    have wA:hT.den aJ=hT.den ρ:=I.bX eK ay
    have hf:bt 22 ([iN,hT,hT.add q].map (·.den aJ))=rc (((ah (iN.den ρ)).drop (hT.den ρ).toNat).take (min (hP.den ρ) (len.den ρ)).toNat):=by
     simp only[cQ,e3,bt,I.den_add,b3,wA,b0]
     congr 2;omega
    have hL:rc (((ah (iN.den ρ)).drop (hT.den ρ).toNat).take (min (hP.den ρ) (len.den ρ)).toNat)<=bN:=rK (by
     simp only[px,nn]
     have:(ah (code.den ρ)).length<=maxLen:=Eu
     omega) λr hr=>(KL r (oN (lf hr))).row qx
    refine(hI (by rw[hf];exact ja _) (by rw[hf];exact hL)).bind λbR eF src eL dz ⟨s1,s2⟩=>?_
    rw[hf]at s2
    have ago:=eK.trans dz gi
    have WG:bt 63 ([code,ro,src].map (·.den bR))=rc ((ah (code.den ρ)).take (ro.den ρ).toNat++((ah (iN.den ρ)).drop (hT.den ρ).toNat).take (min (hP.den ρ) (len.den ρ)).toNat++(ah (code.den ρ)).drop ((ro.den ρ).toNat+(((ah (iN.den ρ)).drop (hT.den ρ).toNat).take (min (hP.den ρ) (len.den ρ)).toNat).length)):=by
     simp only[cQ,e3,bt,I.bX ago fu.1.2.1,I.bX ago ar,s2,jm]
    have rf:∀r∈((ah (iN.den ρ)).drop (hT.den ρ).toNat).take (min (hP.den ρ) (len.den ρ)).toNat,cw sh r:=λr hr=>KL r (oN (lf hr))
    have agv:rc ((ah (code.den ρ)).take (ro.den ρ).toNat++((ah (iN.den ρ)).drop (hT.den ρ).toNat).take (min (hP.den ρ) (len.den ρ)).toNat++(ah (code.den ρ)).drop ((ro.den ρ).toNat+(((ah (iN.den ρ)).drop (hT.den ρ).toNat).take (min (hP.den ρ) (len.den ρ)).toNat).length))<=bN:=rK (by
     rw[YL (by simp only[px,nn];omega)];exact Eu) λr hr=>(Qu j8 rf r hr).row qx
    refine(hI (by rw[WG];exact ja _) (by rw[WG];exact agv)).bind λhj ru code' Ag tl ⟨k1,k2⟩=>az.pure ?_
    rw[WG]at k2
    refine⟨⟨bb.mono (lg eL Ag),k1⟩,by rw[k2];exact⟨ja _,agv⟩,kP,?_,⟨oY.1,oY.2.2⟩,by rw[k2,jm],KL⟩
    rw[I.bX (dz.trans tl eL) bb,b0]
   obtain⟨aa,n',p,hn,ha,⟨⟨g1,lS⟩,g2,g3,g4,g5,g6,KL⟩,ae⟩:=c0 G (λp n=>k n (fw tm o.dst (.w (.one (.int .i64 ⟨p.1,0,9223372036854775807⟩)))) (dE bl b ([.rows sh cu p.2 eE kind],dp))) ae
   have hR:=h.later hn ha
   have d1:code.den aa=code.den ρ:=I.bX ha fu.1.2.1
   have d2:eE.den aa=eE.den ρ:=I.bX ha fu.1.2.2
   rcases kI 0 (len.den ρ)with ati|ati
   rotate_left
   ·have m1:len.den ρ=0:=by omega
    have wW:p.1.den aa=0:=by rw[g4];omega
    have nI:min (hP.den ρ) (len.den ρ)=0:=by omega
    have atv:ah (p.2.den aa)=ah (code.den aa):=by
     rw[g6,nI,d1];simp
    obtain⟨zC,abW,Tq,bT⟩:∃A B C,a.eval x= .slice A B C/\B=0:=⟨_,_,_,dk,by rw[m1];rfl⟩
    obtain⟨bT,rfl⟩:=bT
    obtain⟨SU,abX,ack,hY⟩:∃A B C,a.eval y= .slice A B C:=⟨_,_,_,w1⟩
    have GW:(I3 sh.length 0 (.slice SU abX ack)).run P w= .ok #[] w:=by
     cases SU<;>simp[I3,loadCells,loadCellsFrom]
    have ir:(xY #[t,t'] o.type #[.slice zC 0 Tq,.slice SU abX ack]).run P w= .ok (goInt 0) w:=by
     cases zC<;>simp[xY,eU (h8 he),SI,jn hs,GW,storeCells]
    unfold mQ
    have hex:execOp a.eval o=(do pure (kr (<-xY #[t,t'] o.type #[a.eval x,a.eval y]))):=by
     simp[execOp,ax,resolve,lU,bZ,a2,invoke,builtin]
    simp only[hex,bT,hY,ic,ir,iz,js]
    refine ab n' aa m _ _ G _ _ ⟨hn,ha,by rw[j2];exact bL _,λ_ _=>rfl⟩ (eM.refl _ _) ⟨?_,by rw[put_defers];exact h.d,hR.b.set (λy hy=>by
     simp at hy;subst hy
     exact⟨⟨fu.1.1.mono hn,lS,fu.1.2.2.mono hn⟩,g2,by rw[d2];exact fu.2.2⟩),hR.bB.azM aQ atv⟩ ae
    rw[j2]
    refine ef.put hR.t o.dst ⟨g1,by show(0:Int)<=p.1.den aa;omega,by show p.1.den aa<=9223372036854775807;omega⟩ ?_
    show goInt 0=xS .i64 (p.1.den aa)
    rw[wW];rfl
   have cZ:0<=eE.den ρ:=by
    rcases kI (eE.den ρ) 0 with ik|ik
    ·have:=(h.bB.rws b sh cu code eE kind dp aQ (by omega)).1 ik
     rw[this]at g3;simp at g3;omega
    ·exact ik
   generalize aj:(min (hP.den ρ) (len.den ρ)).toNat=q at*
   have rf:∀r∈((ah (iN.den ρ)).drop (hT.den ρ).toNat).take q,cw sh r:=λr hr=>KL r (oN (lf hr))
   have G6:(((ah (iN.den ρ)).drop (hT.den ρ).toNat).take q).length=q:=by simp only[px,nn];omega
   have hle:(ro.den ρ).toNat+(((ah (iN.den ρ)).drop (hT.den ρ).toNat).take q).length<=(ah (code.den ρ)).length:=by rw[G6];omega
   have rj:∀r∈ah (code.den ρ),cw sh r:=(Q9 h.bB aQ c1 cZ fu.2.2.2 o0).2
   obtain⟨cells,post,fz,cm,cl,c3,e0,fb,gm,m7⟩:=hR.bB.rewrite (code':=p.2) aQ c1 (by rw[d2];exact cZ) (by rw[g6];exact Qu rj rf) (by rw[g6,d1];exact YL hle)
   rw[d1]at e0 fb
   have c3:cu.den ρ=0:=by rw[<-I.bX ha af];exact c3
   have Ki:0<=cap.den ρ:=by
    rcases kI (cap.den ρ) 0 with ik|ik
    ·have:=gC ik;omega
    ·exact ik
   have bT:a.eval x= .slice (some ⟨m b,(ro.den ρ).toNat*sh.length,none⟩) (len.den ρ).toNat (cap.den ρ).toNat:=by
    rw[dk,cb Ki,if_neg (by omega),c3];simp
   have j6:(b2 sh (((ah (iN.den ρ)).drop (hT.den ρ).toNat).take q)).length=q*sh.length:=by rw[oc rf,G6]
   have Wz:=congrArg np fb
   simp only[fc,Br,oc e0]at Wz
   have yA:(ro.den ρ).toNat*sh.length+0+(b2 sh (((ah (iN.den ρ)).drop (hT.den ρ).toNat).take q)).length<=cells.size:=by
    rw[j6]
    have:((ro.den ρ).toNat+q)*sh.length<=(ah (code.den ρ)).length*sh.length:=abM _ (by omega)
    rw[xW]at this
    omega
   have lV:=Ra (P:=P) (m b) ((ro.den ρ).toNat*sh.length) dp.1 fz kind (b2 sh (((ah (iN.den ρ)).drop (hT.den ρ).toNat).take q)) 0 cells w cl cm yA VO
   rw[mM,aiN e0 rf fb hle]at lV
   rw[<-g6]at lV
   have Xb:I1 (hP.den ρ).toNat (len.den ρ).toNat=q:=by show min _ _=q;omega
   have GW:(I3 sh.length q (a.eval y)).run P w= .ok (b2 sh (((ah (iN.den ρ)).drop (hT.den ρ).toNat).take q)).toArray w:=by
    rcases kI (yj.den ρ) 0 with ik|ik
    ·have h0:=Md ik
     have wW:q=0:=by omega
     rw[w1,f2 ik,wW,nt]
     have:=run_firstCells_none (P:=P) w sh.length 0 (hP.den ρ).toNat (if yj.den ρ<0 then 0 else(yj.den ρ).toNat)
     simpa [b2]using this
    ·rw[w1,f3 ik]
     have z6:0<=zR.den ρ∨q=0:=by
      rcases kI (zR.den ρ) 0 with Cr|Cr
      ·have:=(h.bB.rws b4 sh tF iN zR AG Nr zZ (by omega)).1 Cr
       rw[this]at g5;simp at g5;right;omega
      ·exact .inl Cr
     refine SH w sh.length q _ _ _ _ j6 λj v aI=>?_
     rcases z6 with z6|z6
     ·obtain⟨_,aF0,km,aGc,bb,⟨b0,cv⟩,_⟩:=(h.bB.rws b4 sh tF iN zR AG Nr zZ (by omega)).2 z6
      have:=(cv.sub (hT.den ρ).toNat q (by omega)).flat aI
      rw[jG]
      simp only[lH,bb,uD,uv,if_false]
      exact this
     ·rw[z6,nt]at aI;simp[b2]at aI
   obtain⟨avw,aFZ,hY⟩:∃B C,a.eval y= .slice ayZ B C:=⟨_,_,w1⟩
   have KC:avw=(hP.den ρ).toNat:=by rw[w1]at hY;injection hY with _ h2 _;exact h2.symm
   subst KC
   have ir:(xY #[t,t'] o.type #[.slice (some ⟨m b,(ro.den ρ).toNat*sh.length,none⟩) (len.den ρ).toNat (cap.den ρ).toNat,a.eval y]).run P w= .ok (goInt q) (w.setRow (m b) (b2 sh (ah (p.2.den aa))++post).toArray):=by
    rw[hY]at GW⊢
    simp[xY,eU (h8 he),SI,jn hs,Xb,GW,lV]
   unfold mQ
   have hex:execOp a.eval o=(do pure (kr (<-xY #[t,t'] o.type #[a.eval x,a.eval y]))):=by
    simp[execOp,ax,resolve,lU,bZ,a2,invoke,builtin]
   simp only[hex,bT,ic,ir,iz,js]
   refine ab n' aa m _ _ G _ _ ⟨hn,ha,by rw[j2];exact bL _,λ_ _=>rfl⟩ (eM.refl _ _) ⟨?_,by rw[put_defers];exact h.d,hR.b.set (λy hy=>by
    simp at hy;subst hy
    exact⟨⟨fu.1.1.mono hn,lS,fu.1.2.2.mono hn⟩,g2,by rw[d2];exact fu.2.2⟩),m7⟩ ae
   rw[j2]
   refine ef.put hR.t o.dst ⟨g1,by show(0:Int)<=p.1.den aa;rw[g4];omega,by show p.1.den aa<=9223372036854775807;rw[g4];omega⟩ ?_
   show goInt q=xS .i64 (p.1.den aa)
   have oT:((q:Nat):Int)=p.1.den aa:=by rw[g4,<-aj];omega
   rw[<-oT];rfl
 ·cases bx
theorem aBb {tm:List V} {a:Act} {w:aE} {G:ev} {o:Oper} {K:Act->aE->Prop} {Q:Exit->Act->aE->Prop} {k:gR} {pB:T}
 (h:R w0 n ρ m tm bl a w) (bx:aap P o n tm bl k=some pB) (ae:pB.holds S L G ρ) (ab:ku S L w0 k n bl.length ρ m G K):o.wp P a w K Q:=by
 unfold aap at bx
 split at bx
 rotate_left
 ·cases bx
 rename_i c ax
 split at bx
 rotate_left
 ·cases bx
 rename_i lU
 split at bx
 rotate_left
 ·cases bx
 rename_i x y t t' fv mn
 have hx:=cy h.t x
 have hy:=cy h.t y
 split at bx
 rotate_left
 ·cases bx
 rename_i b off len cap b4 AN hP yj e hv kR he
 rw[hv]at hx
 rw[kR]at hy
 split at bx
 rotate_left
 ·cases bx
 rename_i C dp l s aQ hl hs
 cases hc:(aK s 1&&cx (off+l.length) C.length&&b7 C&&b7 (C.take off++l++C.drop (off+l.length)))with
 |false=>rw[hc]at bx;cases bx
 |true=>
  rw[hc]at bx
  simp only[cond_true,a7]at bx
  subst bx
  simp only[bo]at hc
  obtain⟨⟨⟨c1,bH⟩,ri⟩,qF⟩:=hc
  have c1:=bO c1
  have bH:=e8 bH
  subst c1
  have bZ:c.args=#[x,y]:=by rw[<-kc (xs:=c.args),fv]
  have a2:c.argTypes=#[t,t']:=by rw[<-kc (xs:=c.argTypes),mn]
  have bT:a.eval x= .slice (some ⟨m b,off,none⟩) len cap:=hx.2
  have hY:a.eval y= .slice (some ⟨m b4,AN,none⟩) hP yj:=hy.2
  obtain⟨l1,l2,mv⟩:=GQ h.bB h.b hl
  obtain⟨w',lV,Af⟩:=h.bB.storeCells (P:=P) h.b l2 aQ bH ri qF
  have GW:(I3 1 (I1 hP len) (.slice (some ⟨m b4,AN,none⟩) hP yj)).run P w= .ok (l.map (A.den ρ m)).toArray w:=
   SH w 1 _ _ _ _ _ (by rw[l6,l1,zw]) mv
  have ir:(xY #[t,t'] o.type #[.slice (some ⟨m b,off,none⟩) len cap,.slice (some ⟨m b4,AN,none⟩) hP yj]).run P w= .ok (goInt (I1 hP len)) w':=by
   simp[xY,eU (h8 he),SI,jn hs,GW,lV]
  have bV:∀a∈C.take off++l++C.drop (off+l.length),A.ok n bl.length ρ a:=λa ha=>by
   have c0:=h.b _ (eD aQ)
   rcases List.mem_append.1 ha with ha|ha
   ·rcases List.mem_append.1 ha with ha|ha
    ·exact c0 a (lf ha)
    ·exact l2 a ha
   ·exact c0 a (oN ha)
  unfold mQ
  have hex:execOp a.eval o=(do pure (kr (<-xY #[t,t'] o.type #[a.eval x,a.eval y]))):=by
   simp[execOp,ax,resolve,lU,bZ,a2,invoke,builtin]
  simp only[hex,bT,hY,ic,ir,iz,js]
  refine ab n ρ m _ _ G _ w' ⟨bL _,agree.refl _ _,by rw[j2];exact bL _,λ_ _=>rfl⟩ (eM.refl _ _) ⟨?_,by rw[put_defers];exact h.d,h.b.set bV,Af⟩ ae
  rw[j2]
  refine ef.put (v:= .w (.one (.int .i64 (bM.const (I1 hP len:Nat))))) h.t o.dst (bM.n9 _ _ _) ?_
  show goInt (I1 hP len)=_
  simp[W.den,A.den,bM.const,I.bg,goInt]
theorem ajQ {code:I} {kd:IntKind} {lo hi:Int} (hc:code.bD n) (hr:∀r∈ah (code.den ρ),cw [.int kd lo hi] r):∀(c i:Nat) {aT:Nat} {aJ:Env},n<=aT->agree n ρ aJ->az S L (Q2 code kd lo hi c i) aT aJ λaa n' l=>(∀a∈l,A.ok n' bl.length aa a)/\l.length=c/\i+c<=max i (ah (code.den ρ)).length/\l.map (A.den aa m)=b2 [.int kd lo hi] (((ah (code.den ρ)).drop i).take c)
 |0,i,aT,aJ,_,_=>az.pure ⟨λ_ h=>by simp at h,rfl,by omega,by simp[b2]⟩
 |c+1,i,aT,aJ,hn,ha=>by
  unfold Q2
  refine iM λab=>?_
  have aw:code.den aJ=code.den ρ:=I.bX ha hc
  have ab:0<=(I.const i).den aJ/\(I.const i).den aJ<((ah (code.den aJ)).length:Int):=ab
  rw[I.bg,aw]at ab
  have iP:i<(ah (code.den ρ)).length:=by omega
  obtain⟨z,hz,z0,aD⟩:∃z,(ah (code.den ρ))[i]=[z]/\lo<=z/\z<=hi:=by
   have:=hr _ (FD iP)
   match(ah (code.den ρ))[i],this with
   |[z],h=>exact⟨z,rfl,h.1.1,h.1.2⟩
  have hg:(ah (code.den ρ)).getD i []=[z]:=by rw[uA,nq iP,Bk,hz]
  have hf:bt 21 ([code,.const (i:Int),.const 0].map (·.den aJ))=z:=by
   show((ah (code.den aJ)).getD ((I.const (i:Int)).den aJ).toNat []).getD ((I.const 0).den aJ).toNat 0=z
   rw[aw,I.bg,I.bg,nY,hg];rfl
  refine(hI (by rw[hf];exact z0) (by rw[hf];exact aD)).bind λbR eF q eL dz ⟨bb,b0⟩=>?_
  rw[hf]at b0
  refine(ajQ hc hr c (i+1) (lg hn eL) (ha.trans dz hn)).bind λhj ru l Ag tl ⟨l1,l2,mv,tB⟩=>az.pure ?_
  have cv:q.den hj=z:=by rw[I.bX tl bb,b0]
  refine⟨λa h=>?_,by simp[l2],by omega,?_⟩
  ·rcases List.mem_cons.1 h with rfl|h
   ·exact⟨bb.mono Ag,by show lo<=q.den hj;omega,by show q.den hj<=hi;omega⟩
   ·exact l1 a h
  ·rw[List.drop_eq_getElem_cons iP,lI,hz,cQ,tB]
   simp[b2,A.den,cv]
   rfl
theorem aBc {tm:List V} {a:Act} {w:aE} {G:ev} {o:Oper} {K:Act->aE->Prop} {Q:Exit->Act->aE->Prop} {k:gR} {pB:T}
 (h:R w0 n ρ m tm bl a w) (bx:aaq P o n tm bl k=some pB) (ae:pB.holds S L G ρ) (ab:ku S L w0 k n bl.length ρ m G K):o.wp P a w K Q:=by
 unfold aaq at bx
 split at bx
 rotate_left
 ·cases bx
 rename_i t p ax
 have hp:=cy h.t p
 split at bx
 rotate_left
 ·cases bx
 rename_i b KI
 rw[KI]at hp
 split at bx
 rotate_left
 ·cases bx
 rename_i kd lo hi off code cap kind dp s aQ gY hs
 cases hc:(cx 2 kind&&dv 0 s)with
 |false=>rw[hc]at bx;cases bx
 |true=>
  rw[hc]at bx
  simp only[cond_true,a7]at bx
  subst bx
  simp only[bo]at hc
  have c1:=e8 hc.1
  have bH:=r3 hc.2
  have KH:a.eval p= .pointer (some ⟨m b,0,none⟩):=hp.2
  have fu:(A.rows [.int kd lo hi] off code cap kind).ok n bl.length ρ:=h.b _ (eD aQ) _ (by simp)
  have j8:=(aj7 h.bB aQ c1 fu.2.2.2 (by simp)).2
  obtain⟨aa,n',l,hn,ha,⟨l1,l2,mv,tB⟩,ae⟩:=ajQ (S:=S) (L:=L) (m:=m) (bl:=bl) fu.1.2.1 j8 s 0 (bL _) (agree.refl _ _) G (λl n=>k n (fw tm o.dst (.w (.agg l))) bl) ae
  have hle:s<=(ah (code.den ρ)).length:=by omega
  have cZ:0<=cap.den ρ:=by
   rcases kI (cap.den ρ) 0 with ik|ik
   ·have:=(h.bB.rws b _ off code cap kind dp aQ (by omega)).1 ik
    rw[this]at hle;simp at hle;omega
   ·exact ik
  obtain⟨_,cells,km,fz,bb,⟨b0,cv⟩,dK⟩:=(h.bB.rws b _ off code cap kind dp aQ (by omega)).2 cZ
  have as8:off.den ρ=0:=(dK c1).2.1
  rw[as8]at cv
  have hl:=My (P:=P) w ⟨m b,0,none⟩ (l.map (A.den aa m)) λj v aI=>by
   rw[tB]at aI
   have:=(cv.sub 0 s (IP _)).flat aI
   rw[jG]
   simp only[lH,bb,uD,uv,if_false]
   simpa using this
  simp only[l6,l2]at hl
  have hR:=h.later hn ha
  have ir:(nr t (.pointer (some ⟨m b,0,none⟩))).run P w= .ok (.agg (l.map (A.den aa m)).toArray) w:=by
   simp[nr,mO,loadVar,qQ gY,jn hs,hl]
  have hex:execOp a.eval o=(do pure (kr (<-nr t (a.eval p)))):=by
   simp[execOp,ax]
  unfold mQ
  simp only[hex,KH,ic,ir,iz,js]
  refine ab n' aa m _ _ G _ _ ⟨hn,ha,bL _,λ_ _=>rfl⟩ (eM.refl _ _) ⟨?_,by rw[put_defers];exact h.d,hR.b,hR.bB⟩ ae
  exact ef.put (v:= .w (.agg l)) hR.t o.dst l1 rfl
end
end Go.b6
namespace Go.b6
open M
section
variable {S:Nat->List Int->List Int->Prop} {L:V->Env->Prop} {w0:dX} {P:bQ} {gl:eI} {cal:eW} {inl:kt}
theorem cond_holds {c:Bool} {t:T} {G:ev} {ρ:Env} (h:(cond c t .stuck).holds S L G ρ):c=true/\t.holds S L G ρ:=by
 cases c with
 |true=>exact⟨rfl,h⟩
 |false=>exact h.elim
theorem aA6 {n:Nat} {ρ:Env} {m:Nat->Nat} {tm:List V} {bl:List aG} {a:Act} {w:aE} {G:ev} {o:Oper} {K:Act->aE->Prop} {Q:Exit->Act->aE->Prop} {k:gR}
 (cU:hk S P gl w0 cal) (hg:eX gl w0) (ln:oO S L w0 P inl) (h:R w0 n ρ m tm bl a w) (ae:(aam P gl cal inl o n tm bl k).holds S L G ρ) (ab:ku S L w0 k n bl.length ρ m G K):o.wp P a w K Q:=by
 unfold aam at ae
 split at ae
 ·rename_i t ax
  cases hz:nX P t with
  |none=>simp[hz,T.holds]at ae
  |some cs=>
   simp only[hz]at ae
   unfold nX at hz
   cases hi:P.info? t with
   |none=>simp[hi]at hz
   |some i=>
    cases jk:i.zero with
    |none=>simp[hi,jk]at hz
    |some z=>
     simp only[hi,jk]at hz
     have hc:=zT hz n bl.length ρ m
     obtain⟨mm,ae⟩:=cond_holds ae
     have hw:=ab n ρ _ _ _ G _ _ (en.alloc n ρ m bl (cs,(t,false)) w.heap.size) (eM.refl _ _) (h.alloc (t:=t) hc.1 o.dst mm) ae
     unfold mQ
     simp only[execOp,ax,aEN,ic,zeroValue,typeInfo,run_program,iz,hi,jk,js,newVar,newRow,run_newObj]
     have e:(cs.map (A.den ρ m)).toArray=z.cells:=by rw[hc.2]
     rw[e]at hw
     exact hw
 ·rename_i t x ax
  have hx:=cy h.t x
  split at ae
  ·rename_i u hu
   rw[hu]at hx
   have dk:a.eval x=u.den ρ m:=hx.2
   obtain⟨mm,ae⟩:=cond_holds ae
   have hw:=ab n ρ _ _ _ G _ _ (en.alloc n ρ m bl (u.cells,(t,false)) w.heap.size) (eM.refl _ _) (h.alloc (t:=t) (W.Gf hx.1) o.dst mm) ae
   unfold mQ
   simp only[execOp,ax,Instr.box,ic,iz,js,newVar,newRow,run_newObj,dk]
   rw[<-W.Ob u hx.1]at hw
   exact hw
  ·exact ae.elim
 ·rename_i t len parts ax
  split at ae
  ·rename_i cs e ra
   obtain⟨g1,g2⟩:=aog (m:=m) (vals:=parts.map λ(i,x)=>(i,a.eval x)) ra (by
    rw[xV]
    generalize parts.toList=jM
    induction jM with
    |nil=>exact trivial
    |cons p r ih=>exact⟨⟨rfl,cy h.t p.2⟩,ih⟩)
   obtain⟨mm,ae⟩:=cond_holds ae
   have hR:=R.row (t:=e) (cs:=cs) (ex:=[]) (open_:=false) h g1 (λ_=>rfl) mm o.dst (v:= .w (.one (.slc bl.length 0 len len))) (x:= .slice (some ⟨w.heap.size,0,none⟩) len len) (by simp[V.ok,W.ok,A.ok]) (by
    show MA (some ⟨w.heap.size,0,none⟩) _ _=_
    simp[W.den,A.den,nf])
   have hw:=ab n ρ _ _ _ G _ _ (en.alloc n ρ m bl (cs,(e,false)) w.heap.size) (eM.refl _ _) hR ae
   rw[fY]at hw
   unfold mQ
   simp only[execOp,ax,ic,g2,iz,js]
   exact hw
  ·exact ae.elim
 ·rename_i t p x ax
  have hp:=cy h.t p
  have hx:=cy h.t x
  split at ae
  ·rename_i b off u KI Am
   rw[KI]at hp
   rw[Am]at hx
   have KH:a.eval p= .pointer (some ⟨m b,off,none⟩):=hp.2
   have dk:a.eval x=u.den ρ m:=hx.2
   split at ae
   ·rename_i cs dp s aQ hs
    cases hc:(aK u.cells.length s&&cx (off+s) cs.length&&dv 0 s&&b7 cs&&b7 (cs.take off++u.cells++cs.drop (off+s)))with
    |false=>rw[hc]at ae;exact ae.elim
    |true=>
     simp only[hc,cond_true]at ae
     simp only[bo]at hc
     obtain⟨⟨hc,ri⟩,qF⟩:=hc
     have aw:=bO hc.1.1
     have aF:=e8 hc.1.2
     have cb:=r3 hc.2
     subst aw
     obtain⟨w',ir,Af⟩:=h.bB.store h.b (W.Gf hx.1) aQ aF cb ri qF t hs (u.den ρ m) (W.Ob u hx.1)
     have bV:∀a∈cs.take off++u.cells++cs.drop (off+u.cells.length),A.ok n bl.length ρ a:=λa ha=>by
      have c0:=h.b _ (eD aQ)
      rcases List.mem_append.1 ha with ha|ha
      ·rcases List.mem_append.1 ha with ha|ha
       ·exact c0 a (lf ha)
       ·exact W.Gf hx.1 a ha
      ·exact c0 a (oN ha)
     unfold mQ
     simp only[execOp,ax,ic,KH,dk,ir,iz,js]
     refine ab n ρ m _ _ G _ w' ⟨bL _,agree.refl _ _,by rw[j2];exact bL _,λ_ _=>rfl⟩ (eM.refl _ _) ⟨?_,by rw[put_defers];exact h.d,h.b.set bV,Af⟩ ae
     rw[j2]
     exact ef.put h.t o.dst (by intro x hx;simp at hx) rfl
   ·exact ae.elim
  ·exact ae.elim
 ·rename_i c ax
  split at ae
  ·rename_i f hc
   split at ae
   ·exact QX cU hg h ae ab
   ·have qD:∀v∈c.args.toList.map (cd tm),V.ok n bl.length ρ v:=λv hv=>by
     obtain⟨x,_,rfl⟩:=List.mem_map.1 hv
     exact(cy h.t x).1
    have hr:=ln f n _ bl _ G ρ m w _ (λe p8=>match e with
     | .returned v=>K (a.put o.dst v) p8
     | .panicked chain=>Q (.panic chain) a p8
     | .outgrown=>LetsOut Q) h.b h.bB qD (MU (xs:=c.args.toList) h.t) ae (by
     intro n' v bj ee aa m' w' val h1 h2 h3 h4 h5 h6 h7
     exact ab n' aa m' _ bj ee _ w' h1 h2 ⟨ef.put (h.t.ext h1.ha h1.hn h1.hb h1.hm) o.dst h3 h4,by rw[put_defers];exact h.d,h5,h6⟩ h7)
    have ha:(c.args.toList.map a.eval).toArray=c.args.map a.eval:=by rw[<-xV]
    rw[ha]at hr
    unfold mQ
    rw[ZU hc o ax,hr.1]
    refine hr.2.mono λe p8 he=>?_
    cases e<;>exact he
  ·rename_i x hc
   split at ae
   ·exact QX cU hg h ae ab
   split at ae
   ·rename_i f jS aso
    have hx:=cy h.t (.tmp x)
    obtain⟨qH,dk⟩:(∀y∈jS,A.ok n bl.length ρ y)/\a.eval (.tmp x)= .func (.func f) #[] (jS.map (A.den ρ m)).toArray:=aoT aso hx.1 hx.2
    have qD:∀v∈c.args.toList.map (cd tm)++jS.map (λy=>V.w (.one y)),V.ok n bl.length ρ v:=λv hv=>by
     rcases List.mem_append.1 hv with hv|hv
     ·obtain⟨x,_,rfl⟩:=List.mem_map.1 hv
      exact(cy h.t x).1
     ·obtain⟨y,hy,rfl⟩:=List.mem_map.1 hv
      exact qH y hy
    have hrel:eJ ρ m (c.args.toList.map (cd tm)++jS.map λy=>V.w (.one y)) (c.args.toList.map a.eval++jS.map (A.den ρ m)):=by
     generalize c.args.toList=l
     induction l with
     |nil=>
      simp only[e3,e2]
      generalize jS=q
      induction q with
      |nil=>trivial
      |cons y r ih=>exact⟨rfl,ih⟩
     |cons x r ih=>exact⟨(cy h.t x).2,ih⟩
    have hr:=ln f n _ bl _ G ρ m w _ (λe p8=>match e with
     | .returned v=>K (a.put o.dst v) p8
     | .panicked chain=>Q (.panic chain) a p8
     | .outgrown=>LetsOut Q) h.b h.bB qD hrel ae (by
     intro n' v bj ee aa m' w' val h1 h2 h3 h4 h5 h6 h7
     exact ab n' aa m' _ bj ee _ w' h1 h2 ⟨ef.put (h.t.ext h1.ha h1.hn h1.hb h1.hm) o.dst h3 h4,by rw[put_defers];exact h.d,h5,h6⟩ h7)
    have hex:execOp a.eval o=callFunc f (c.args.toList.map a.eval++jS.map (A.den ρ m)).toArray:=by
     have e:(c.args.toList.map a.eval++jS.map (A.den ρ m)).toArray=#[]++c.args.map a.eval++(jS.map (A.den ρ m)).toArray:=by
      apply SG
      simp
     rw[e]
     simp only[execOp,ax,resolve,hc,dk,Deferred.ofValue,pure_bind,invoke]
    unfold mQ
    rw[hex,hr.1]
    refine hr.2.mono λe p8 he=>?_
    cases e<;>exact he
   ·exact ae.elim
  ·rename_i hc
   split at ae
   ·rename_i s x t t' fv mn
    exact anL h ax hc fv mn ae ab
   ·exact ae.elim
  ·exact QX cU hg h ae ab
 ·exact QX cU hg h ae ab
theorem akI {n:Nat} {ρ:Env} {m:Nat->Nat} {tm:List V} {bl:List aG} {a:Act} {w:aE} {G:ev} {o:Oper} {K:Act->aE->Prop} {Q:Exit->Act->aE->Prop} {k:gR}
 (cU:hk S P gl w0 cal) (hg:eX gl w0) (ln:oO S L w0 P inl) (h:R w0 n ρ m tm bl a w) (ae:(Rn P gl cal inl o n tm bl k).holds S L G ρ) (ab:ku S L w0 k n bl.length ρ m G K):o.wp P a w K Q:=by
 unfold Rn at ae
 split at ae
 ·rename_i t aA
  exact aA7 h aA ae ab
 ·split at ae
  ·rename_i t aA
   exact aA9 h aA ae ab
  ·split at ae
   ·rename_i t aA
    exact aBa h aA ae ab
   ·split at ae
    ·rename_i t aA
     exact aBb h aA ae ab
    ·split at ae
     ·rename_i t aA
      exact aBc h aA ae ab
     ·exact aA6 cU hg ln h ae ab
theorem ael {ρ:Env}:∀{b:bw} {v:Bool} {r:I×Option Int×Option Int},b.den ρ=v->u1 b v=some r->(∀c,r.2.1=some c->c<=r.1.den ρ)/\(∀c,r.2.2=some c->r.1.den ρ<=c)
 | .le p q,true,r,hb,h| .le p q,false,r,hb,h| .lt p q,true,r,hb,h| .lt p q,false,r,hb,h=>by
  simp only[bw.den,decide_eq_true_eq,decide_eq_false_iff_not]at hb
  simp only[u1]at h
  split at h
  ·rename_i c h1 h2
   have e:=I.jI h1 (ρ:=ρ)
   simp only[a7]at h
   subst h
   constructor<;>intro eg hc<;>simp only[a7,reduceCtorEq]at hc<;>subst hc<;>simp only<;>omega
  ·rename_i c h1 h2
   have e:=I.jI h2 (ρ:=ρ)
   simp only[a7]at h
   subst h
   constructor<;>intro eg hc<;>simp only[a7,reduceCtorEq]at hc<;>subst hc<;>simp only<;>omega
  ·cases h
 | .not b,v,r,hb,h=>by
  simp only[u1]at h
  refine ael (b:=b) (v:= !v) ?_ h
  simp only[bw.den]at hb
  rw[<-hb,Bool.not_not]
 | .lit _,_,_,_,h=>by simp[u1]at h
 | .eq _ _,_,_,_,h=>by simp[u1]at h
 | .and _ _,_,_,_,h=>by simp[u1]at h
 | .iff _ _,_,_,_,h=>by simp[u1]at h
theorem aoX {n nb:Nat} {ρ:Env} {m:Nat->Nat} {b:bw} {v:Bool} (hb:b.den ρ=v) (u:V) (hu:u.ok n nb ρ):(Oh b v (u1 b v) u).ok n nb ρ/\∀x,u.rel ρ m x->(Oh b v (u1 b v) u).rel ρ m x:=by
 unfold Oh
 split
 ·rename_i e
  cases hc:bw.beq e b with
  |false=>simp only[cond_false];exact⟨hu,λ_ h=>h⟩
  |true=>
   have:=bw.beq_eq hc
   subst this
   simp only[cond_true]
   refine⟨trivial,λx hx=>?_⟩
   simp only[V.rel,W.den,A.den,bw.den]at hx⊢
   rw[hx,hb]
 ·rename_i k y
  cases hr:u1 b v with
  |none=>exact⟨hu,λ_ h=>h⟩
  |some r=>
   obtain⟨l,lo,hi⟩:=r
   simp only
   cases hc:I.beq y.l l with
   |false=>simp only[cond_false];exact⟨hu,λ_ h=>h⟩
   |true=>
    have:=I.beq_eq hc
    have hs:=ael hb hr
    have hy:y.ok n ρ:=hu
    simp only[cond_true]
    have b3:Ht y.lo lo<=y.l.den ρ:=by
     unfold Ht
     cases lo with
     |none=>exact hy.2.1
     |some c=>
      simp only
      have:=hs.1 c rfl
      have:=hy.2.1
      cases decide (y.lo<=c)with
      |true=>simp only[cond_true];rw[‹y.l=l›];assumption
      |false=>simp only[cond_false];assumption
    have b4:y.l.den ρ<=Ld y.hi hi:=by
     unfold Ld
     cases hi with
     |none=>exact hy.2.2
     |some c=>
      simp only
      have:=hs.2 c rfl
      have:=hy.2.2
      cases decide (c<=y.hi)with
      |true=>simp only[cond_true];rw[‹y.l=l›];assumption
      |false=>simp only[cond_false];assumption
    cases hd:decide (Ht y.lo lo=Ld y.hi hi)with
    |true=>
     simp only[cond_true]
     have hd:=of_decide_eq_true hd
     refine⟨bM.n9 _ _ _,λx h=>?_⟩
     have h:x= .int k (y.l.den ρ):=h
     rw[h]
     simp only[V.rel,W.den,A.den,bM.const,I.bg]
     congr 1;omega
    |false=>simp only[cond_false];exact⟨⟨hy.1,b3,b4⟩,λx h=>h⟩
 ·exact⟨hu,λ_ h=>h⟩
theorem Ii {n nb:Nat} {ρ:Env} {m:Nat->Nat} {b:bw} {v:Bool} (hb:b.den ρ=v) {tm:List V} {xs:Array aP} (h:ef n nb ρ m tm xs):ef n nb ρ m (uo b v tm) xs:=by
 refine⟨by simp[uo,h.1],λi u hu=>?_⟩
 simp only[uo,pw,Option.map_eq_some_iff]at hu
 obtain⟨sx,h0,rfl⟩:=hu
 obtain⟨h1,x,h2,h3⟩:=h.2 i sx h0
 have:=aoX (m:=m) hb sx h1
 exact⟨this.1,x,h2,this.2 x h3⟩
theorem J1 {n nb:Nat} {ρ:Env} {m:Nat->Nat} {tm:List V} {a:Act} {G:ev} {ops:Array Oper} {o:Oper} {yes no:List V->T} (aA:ef n nb ρ m tm a.tmps) (h:(D6 ops tm o yes no).holds S L G ρ):
 ∃cr,ef n nb ρ m cr a.tmps/\((zz o (yielded ops a.tmps)=true/\(yes cr).holds S L G ρ)∨(zz o (yielded ops a.tmps)=false/\(no cr).holds S L G ρ)):=by
 unfold D6 at h
 unfold zz
 cases il:o.guard with
 |none=>simp only[il]at h;exact⟨tm,aA,.inl ⟨rfl,h⟩⟩
 |some VY=>
  obtain⟨g,want⟩:=VY
  simp only[il]at h⊢
  unfold yielded
  cases hd:(ops[g]?).bind (·.dst)with
  |none=>simp[hd,T.holds]at h
  |some d=>
   simp only[hd]at h
   simp only[Option.bind_some]
   cases Xj:tm[d]? with
   |none=>simp[Xj,T.holds]at h
   |some v=>
    obtain⟨_,x,hx,hr⟩:=aA.2 d v Xj
    simp only[Xj]at h
    revert hr h
    cases v with
    |any=>intro hr h;exact h.elim
    |p3 _ _ _=>intro hr h;exact h.elim
    |qz _ _=>intro hr h;exact h.elim
    |h9 l=>
     cases l with
     |nil=>
      intro hr h
      have hr:x= .tuple #[]:=hr
      subst hr
      simp only[hx]
      exact⟨tm,aA,.inr ⟨by simp,h⟩⟩
     |cons _ _=>intro hr h;exact h.elim
    |w y=>
     cases y with
     |agg l=>intro hr h;exact h.elim
     |one c=>
      cases c with
      |bool b=>
       intro hr h
       have hr:x= .bool (b.den ρ):=hr
       subst hr
       simp only[hx]
       have key:∀b:bw,(T.r6 b (cond want (yes (uo b true tm)) (no (uo b true tm))) (cond want (no (uo b false tm)) (yes (uo b false tm)))).holds S L G ρ->∃cr,ef n nb ρ m cr a.tmps/\(((some (b.den ρ)==some want)=true/\(yes cr).holds S L G ρ)∨((some (b.den ρ)==some want)=false/\(no cr).holds S L G ρ)):=λb hb=>by
        simp only[T.holds]at hb
        cases aj:b.den ρ with
        |true=>
         have:=hb.1 aj
         cases want with
         |true=>exact⟨_,Ii aj aA,.inl ⟨by simp,this⟩⟩
         |false=>exact⟨_,Ii aj aA,.inr ⟨by simp,this⟩⟩
        |false=>
         have:=hb.2 aj
         cases want with
         |true=>exact⟨_,Ii aj aA,.inr ⟨by simp,this⟩⟩
         |false=>exact⟨_,Ii aj aA,.inl ⟨by simp,this⟩⟩
       cases b with
       |lit v=>
        simp only[bw.den]
        cases hv:(v==want)with
        |true=>simp only[hv,cond_true]at h;exact⟨tm,aA,.inl ⟨by simpa using hv,h⟩⟩
        |false=>simp only[hv,cond_false]at h;exact⟨tm,aA,.inr ⟨by simpa using hv,h⟩⟩
       |eq _ _=>exact key _ h
       |lt _ _=>exact key _ h
       |le _ _=>exact key _ h
       |not _=>exact key _ h
       |and _ _=>exact key _ h
       |iff _ _=>exact key _ h
      |_=>intro hr h;exact h.elim
theorem R.skip {n:Nat} {ρ:Env} {m:Nat->Nat} {tm:List V} {bl:List aG} {a:Act} {w:aE} (h:R w0 n ρ m tm bl a w) (d:Option Tmp):R w0 n ρ m (fw tm d (.h9 [])) bl (a.put d undef) w:=
 ⟨ef.put h.t d (by intro x hx;simp at hx) rfl,by rw[put_defers];exact h.d,h.b,h.bB⟩
theorem QJ {ops:Array Oper} {Q:Exit->Act->aE->Prop} (cU:hk S P gl w0 cal) (hg:eX gl w0) (ln:oO S L w0 P inl):∀(l:List Oper) {n:Nat} {ρ:Env} {m:Nat->Nat} {tm:List V} {bl:List aG} {a:Act} {w:aE} {G:ev} {k:gR},
 R w0 n ρ m tm bl a w->(HF P gl cal inl ops l n tm bl k).holds S L G ρ->ku S L w0 k n bl.length ρ m G (Q .normal)->wpList P ops Q l a w
 |[],n,ρ,m,tm,bl,a,w,G,k,h,ae,ab=>ab n ρ m tm bl G a w (en.refl _ _ _ _) (eM.refl _ _) h ae
 |o::r,n,ρ,m,tm,bl,a,w,G,k,h,ae,ab=>by
  unfold HF at ae
  unfold wpList
  obtain⟨cr,rl,il⟩:=J1 h.t ae
  have h:R w0 n ρ m cr bl a w:=⟨rl,h.d,h.b,h.bB⟩
  rcases il with⟨hw,ae⟩|⟨hw,ae⟩
  ·rw[if_pos hw]
   refine .inl (akI cU hg ln h ae λn' aa m' cr bj ee dr w' h1 h2 h3 h4=>?_)
   exact QJ cU hg ln r h3 h4 (ab.later h1 h2)
  ·rw[if_neg (by simp[hw])]
   exact QJ cU hg ln r (h.skip o.dst) ae ab
theorem allT_holds {g:Nat->T} {L:V->Env->Prop} {G:ev} {ρ:Env}:∀{l:List Nat},(Ux g l).holds S L G ρ->∀i∈l,(g i).holds S L G ρ
 |[],ae,_,hi=>by cases hi
 |[j],ae,i,hi=>by simp at hi;subst hi;exact ae
 |j::XI::r,ae,i,hi=>by
  rcases List.mem_cons.1 hi with rfl|hi
  ·exact ae.1
  ·exact allT_holds (l:=XI::r) ae.2 i hi
theorem OY {ops:Array Oper} {bl:List aG} {m:Nat->Nat} {iH:Nat} {ck:Env} (cU:hk S P gl w0 cal) (hg:eX gl w0) (oX:cM iH bl.length ck bl) (hex:∃w,Mem w0 ck m bl w) {F:Act->Prop} {G:ev}:∀(l:List Oper) {n:Nat} {ρ:Env} {tm:List V} {a:Act} {k:Nat->List V->T},
 iH<=n->agree iH ck ρ->ef n bl.length ρ m tm a.tmps->a.defers=w0.ds->(GR P gl cal ops l n tm bl k).holds S L G ρ->
 (∀n' aa cr dr,n<=n'->agree n ρ aa->ef n' bl.length aa m cr dr.tmps->dr.defers=w0.ds->(k n' cr).holds S L G aa->F dr)->Di P ops (λw=>Mem w0 ck m bl w) F l a
 |[],n,ρ,tm,a,k,hn,ha,aA,hd,ae,ab=>ab n ρ tm a (bL _) (agree.refl _ _) aA hd ae
 |o::r,n,ρ,tm,a,k,hn,ha,aA,hd,ae,ab=>by
  unfold GR at ae
  unfold Di
  obtain⟨zd,vj⟩:=hex
  cases eR:gU o with
  |true=>
   simp only[eR,cond_true]at ae⊢
   exact OY cU hg oX ⟨zd,vj⟩ r hn ha aA hd ae ab
  |false=>
   simp only[eR,cond_false]at ae⊢
   obtain⟨cr,aA,il⟩:=J1 aA ae
   rcases il with⟨hw,ae⟩|⟨hw,ae⟩
   ·have hb:cM n bl.length ρ bl:=oX.ext ha hn (bL _)
    obtain⟨aa,n',v,yD,ll,⟨hv,val,hr,aj⟩,GY⟩:=ZH (L:=L) cU hb hg ⟨zd,vj.p6 oX ha⟩ aA o G _ ae
    refine⟨val,.inl ⟨hw,λw at1=>aj w (at1.p6 oX ha)⟩,?_⟩
    exact OY cU hg oX ⟨zd,vj⟩ r (lg hn yD) (ha.trans ll hn) (ef.put (aA.ext ll yD (bL _) (λ_ _=>rfl)) o.dst hv hr) (by rw[put_defers];exact hd) GY
     λHz wj akS acC h1 h2 h3 h4 h5=>ab Hz wj akS acC (lg yD h1) (ll.trans h2 yD) h3 h4 h5
   ·exact⟨undef,.inr ⟨hw,rfl⟩,OY cU hg oX ⟨zd,vj⟩ r hn ha (ef.put (v:= .h9 []) aA o.dst (by intro x hx;simp at hx) rfl) (by rw[put_defers];exact hd) ae ab⟩
def IH (P:bQ) (ops:Array Oper) (j:Nat):Obj:=
 match ops[j]? with
 |some o=>match o.op with
  | .alloc t=>match P.info? t with
   |some i=>match i.zero with
    |some z=> .cells z.cells t
    |none=>default
   |none=>default
  |_=>default
 |none=>default
theorem aDS {l:List Oper} {h j:Nat} {o:Oper} (hz:Sm P (l.take h)=true) (aI:j<h) (ax:l.toArray[j]?=some o) (eR:gU o=true) (b:Act) (w:aE):
 (execOp b.eval o).run P w= .ok (.value (.pointer (some ⟨w.heap.size,0,none⟩))) (w.alloc (IH P l.toArray j)):=by
 have jj:l[j]?=some o:=by simpa using ax
 have hm:o∈l.take h:=eD (i:=j) (by rw[qY,if_pos aI];exact jj)
 have h1:=List.all_eq_true.1 hz o hm
 simp only[eR,ix,Bool.false_or]at h1
 unfold IH
 simp only[ax]
 cases e6:o.op with
 |alloc t=>
  simp only[e6]at h1
  obtain⟨cs,c0⟩:=Option.isSome_iff_exists.1 h1
  obtain⟨i,z,hi,jk,_⟩:=IG c0
  simp only[execOp,e6,aEN,ic,zeroValue,typeInfo,run_program,iz,hi,jk,js,newVar,newRow,run_newObj]
  rfl
 |_=>simp[e6]at h1
theorem Uy {ops:Array Oper} {h:Nat} {sX b:Act} {gr:Nat->Nat} {bq:Nat} {w:aE} {n:Nat} {ρ:Env} {G:ev} {k:gR} {K:Act->aE->Prop} (z8:Fin ops h sX b gr) (vc:Bx ops h (λ_=>True) (IH P ops) gr bq w) (hsz:w0.b.heap.size<=bq) (ahl:w0.r.heap.size<=bq):
 ∀(l:List Oper) (i:Nat) {m:Nat->Nat} {tm:List V} {bl:List aG} {c:Act},(∀j,j<l.length->ops[i+j]?=l[j]?)->i+l.length=h->R w0 n ρ m tm bl c w->
  (∀(lx:Nat) (p:aG),bl[lx]?=some p->bJ ρ p.1≠0->m lx<bq∨∃j,j<i/\sU ops j=true/\m lx=gr j)->c.tmps.size=sX.tmps.size->
  (∀t:Nat,((∃j o,j<i/\ops[j]?=some o/\gU o=true/\o.dst=some t)->c.tmps[t]?=b.tmps[t]?)/\((∀j o,j<i->ops[j]?=some o->gU o=true->o.dst≠some t)->c.tmps[t]?=sX.tmps[t]?))->
  (Jh P l n tm bl k).holds S L G ρ->ku S L w0 k n bl.length ρ m G K->sX.defers=w0.ds->K b w
 |[],i,m,tm,bl,c,hl,hi,hR,hm,c0,hc,ae,ab,hd=>by
  simp only[n0,mM]at hi
  subst hi
  have lT:c=b:=anv (by rw[hR.d,z8.d,hd]) λt=>by
   by_cases aA:∃j o,j<i/\ops[j]?=some o/\gU o=true/\o.dst=some t
   ·exact(hc t).1 aA
   ·have kz:∀j o,j<i->ops[j]?=some o->gU o=true->o.dst≠some t:=λj o h1 h2 h3 h4=>aA ⟨j,o,h1,h2,h3,h4⟩
    rw[(hc t).2 kz,z8.no t kz]
  subst lT
  exact ab n ρ m tm bl G c w (en.refl _ _ _ _) (eM.refl _ _) hR ae
 |o::r,i,m,tm,bl,c,hl,hi,hR,hm,c0,hc,ae,ab,hd=>by
  have ax:ops[i]?=some o:=by have:=hl 0 (by simp);simpa using this
  have hr:∀j,j<r.length->ops[i+1+j]?=r[j]?:=λj aI=>by
   have:=hl (j+1) (by simp;omega)
   rw[show i+1+j=i+(j+1) by omega,this];simp
  have oi:i+1+r.length=h:=by simp at hi;omega
  unfold Jh at ae
  cases eR:gU o with
  |false=>
   simp only[eR,cond_false]at ae
   refine Uy z8 vc hsz ahl r (i+1) hr oi hR (λlx p om hp=>(hm lx p om hp).imp id λ⟨j,h1,h2⟩=>⟨j,by omega,h2⟩) c0 (λt=>⟨λ⟨j,cu,h1,h2,h3,h4⟩=>?_,λkz=>(hc t).2 λj cu h1=>kz j cu (by omega)⟩) ae ab hd
   by_cases nH:j=i
   ·subst nH
    have:cu=o:=hV (h2.symm.trans ax)
    subst this
    rw[eR]at h3;cases h3
   ·exact(hc t).1 ⟨j,cu,by omega,h2,h3,h4⟩
  |true=>
   simp only[eR,cond_true]at ae
   cases e6:o.op with
   |alloc ty=>
    simp only[e6]at ae
    cases hz:nX P ty with
    |none=>simp[hz,T.holds]at ae
    |some cs=>
     simp only[hz]at ae
     obtain⟨mm,ae⟩:=cond_holds ae
     obtain⟨inf,z,asK,jk,lU⟩:=IG hz
     have WA:=zT lU n bl.length ρ m
     have jV:sU ops i=true:=by simp[sU,ax,eR]
     have WO:i<h:=by simp at hi;omega
     obtain⟨g1,g2⟩:=vc.1 i WO trivial jV
     have aue:IH P ops i= .cells (cs.map (A.den ρ m)).toArray ty (0,0):=by
      unfold IH
      simp only[ax,e6,asK,jk,WA.2]
     rw[aue]at g2
     have cW:∀(lx:Nat) (p:aG),bl[lx]?=some p->bJ ρ p.1≠0->m lx≠gr i:=λlx p om hp e=>by
      rcases hm lx p om hp with h1|⟨j,h1,h2,h3⟩
      ·omega
      ·have:=vc.2 j i (by omega) WO trivial trivial h2 jV (h3.symm.trans e)
       omega
     have mY:=hR.bB.push (x:=(cs,(ty,false))) hR.b WA.1 (λ_=>⟨by omega,.inr (by omega),[],λ_=>rfl,by rw[fY];exact g2⟩) (λsh off code cap kind e=>by simp only at e;subst e;cases mm) λi p hi he=> .inr (.inl (abu λab=>cW i p hi ab he))
     have dB:=en.alloc n ρ m bl (cs,(ty,false)) (gr i)
     have tk:R w0 n ρ (lC m bl.length (gr i)) (fw tm o.dst (.w (.one (.ptr bl.length 0)))) (bl++[(cs,(ty,false))]) (c.put o.dst (.pointer (some ⟨gr i,0,none⟩))) w:=
      ⟨ef.put (hR.t.ext dB.ha dB.hn dB.hb dB.hm) o.dst (by simp[V.ok,W.ok,A.ok]) (by simp[V.rel,W.den,A.den,nf]),by rw[put_defers];exact hR.d,hR.b.alloc WA.1,mY⟩
     refine Uy z8 vc hsz ahl r (i+1) hr oi tk (λlx p om hp=>?_) ((E9 _ _ _).trans c0) (λt=>⟨λ⟨j,cu,h1,h2,h3,h4⟩=>?_,λkz=>?_⟩) ae (ab.later dB (eM.refl _ _)) hd
     ·by_cases mZ:lx<bl.length
      ·rw[mG mZ]
       rw[xQ mZ]at om
       exact(hm lx p om hp).imp id λ⟨j,h1,h2⟩=>⟨j,by omega,h2⟩
      ·have:lx=bl.length:=by have:=(List.getElem?_eq_some_iff.1 om).1;simp at this;omega
       subst this
       rw[nf]
       exact .inr ⟨i,by omega,jV,rfl⟩
     ·by_cases aA:o.dst=some t
      ·rw[aA]
       simp only[Act.put]
       rcases Nat.lt_or_ge t c.tmps.size with h5|h5
       ·have ra:t<b.tmps.size:=by rw[z8.bq,<-c0];exact h5
        rw[z8.al t i o WO ax eR aA ra]
        simp[h5]
       ·rw[SF (by simpa using h5),SF (by rw[z8.bq,<-c0];exact h5)]
      ·rw[yY aA]
       by_cases nH:j=i
       ·subst nH
        have:cu=o:=hV (h2.symm.trans ax)
        subst this
        exact absurd h4 aA
       ·exact(hc t).1 ⟨j,cu,by omega,h2,h3,h4⟩
     ·have aA:o.dst≠some t:=kz i o (by omega) ax eR
      rw[yY aA]
      exact(hc t).2 λj cu h1=>kz j cu (by omega)
   |_=>simp[e6,T.holds]at ae
end
end Go.b6
namespace Go.b6
open M
theorem aoU {a b:aP} (h:Vc a b=true):a=b:=by
 unfold Vc at h
 split at h
 ·rfl
 ·rfl
 ·rename_i f a b qB dr b'
  simp only[bo]at h
  obtain⟨⟨⟨⟨h1,h2⟩,h3⟩,h4⟩,h5⟩:=h
  rw[bO h1,Bq (bO h2),Bq (bO h3),Bq (bO h4),Bq (bO h5)]
 ·cases h
theorem A.beq_eq {a b:A} (h:A.beq a b=true):a=b:=by
 cases a<;>cases b<;>simp only[A.beq]at h<;>(try(cases h;done))
 case int.int k x bA y=>
  simp only[bo,decide_eq_true_eq,beq_iff_eq]at h
  obtain⟨⟨⟨h1,h2⟩,h3⟩,h4⟩:=h
  cases x;cases y
  simp only at h2 h3 h4
  rw[h1,I.beq_eq h2,h3,h4]
 case bool.bool x y=>
  rw[bw.beq_eq h]
 case con.con=>rw[aoU h]
 case ptr.ptr=>simp only[bo]at h;rw[bO h.1,bO h.2]
 case gptr.gptr=>simp only[bo]at h;rw[bO h.1,bO h.2]
 case slc.slc=>
  simp only[bo]at h
  rw[bO h.1.1.1,bO h.1.1.2,bO h.1.2,bO h.2]
 case str.str=>rw[I.beq_eq h]
 case rows.rows=>
  simp only[bo]at h
  rw[C6 h.1.1.1.1,I.beq_eq h.1.1.1.2,I.beq_eq h.1.1.2,I.beq_eq h.1.2,bO h.2]
 case sl.sl=>
  simp only[bo]at h
  rw[bO h.1.1.1.1.1,bO h.1.1.1.1.2,I.beq_eq h.1.1.1.2,I.beq_eq h.1.1.2,I.beq_eq h.1.2,I.beq_eq h.2]
 case ep.ep=>
  simp only[bo]at h
  rw[bO h.1.1.1.1,bO h.1.1.1.2,I.beq_eq h.1.1.2,I.beq_eq h.1.2,bO h.2]
theorem DH:∀{a b:List A},oQ a b=true->a=b
 |[],[],_=>rfl
 |x::r,y::s,h=>by
  simp only[oQ,bo]at h
  rw[A.beq_eq h.1,DH h.2]
 |[],_::_,h=>by simp[oQ]at h
 |_::_,[],h=>by simp[oQ]at h
theorem V.beq_eq {a b:V} (h:V.beq a b=true):a=b:=by
 cases a with
 |any=>cases b<;>simp[V.beq]at h
 |h9 l=>cases l<;>cases b<;>simp[V.beq]at h;rename_i l';cases l'<;>simp[V.beq]at h;rfl
 |w x=>
  cases b with
  |w y=>cases x<;>cases y<;>simp[V.beq]at h;rw[A.beq_eq h];rw[DH h]
  |_=>cases x<;>simp[V.beq]at h
 |p3 _ _ _=>simp[V.beq]at h
 |qz f l=>
  cases b with
  |qz qB l'=>
   simp only[V.beq,bo]at h
   rw[bO h.1,DH h.2]
  |_=>simp[V.beq]at h
theorem Iu:∀(zs:List Int) (n:Nat) (ρ:Env) (j:Nat),j<zs.length->bI ρ n zs (n+j)=zs.getD j 0
 |[],_,_,_,h=>by simp at h
 |z::zs,n,ρ,0,_=>by
  show bI (de ρ n z) (n+1) zs (n+0)=z
  rw[agree.bI zs (n+1) _ (n+0) (by omega)]
  exact kF ρ n z
 |z::zs,n,ρ,j+1,h=>by
  show bI (de ρ n z) (n+1) zs (n+(j+1))=_
  rw[show n+(j+1)=n+1+j by omega,Iu zs (n+1) _ j (by simpa using h)]
  rfl
def Dj (n nb:Nat) (ρ:Env) (m:Nat->Nat):List V->List aP->Prop
 |[],[]=>True
 |v::r,x::s=>v.ok n nb ρ/\v.rel ρ m x/\Dj n nb ρ m r s
 |_,_=>False
theorem acu {n nb:Nat} {ρ:Env} {m:Nat->Nat}:∀{tm:List V} {xs:List aP},ef n nb ρ m tm xs.toArray->Dj n nb ρ m tm xs
 |[],[],_=>trivial
 |v::r,x::s,h=>by
  have h0:=h.2 0 v rfl
  obtain⟨h1,y,h2,h3⟩:=h0
  simp at h2;subst h2
  refine⟨h1,h3,acu (tm:=r) (xs:=s) ⟨by simpa using h.1,λi u hu=>?_⟩⟩
  have:=h.2 (i+1) u (by simpa using hu)
  simpa using this
 |[],_::_,h=>by have:=h.1;simp at this
 |_::_,[],h=>by have:=h.1;simp at this
theorem M4 {n nb:Nat} {ρ:Env} {m:Nat->Nat}:∀{tm:List V} {xs:List aP},Dj n nb ρ m tm xs->ef n nb ρ m tm xs.toArray
 |[],[],_=>⟨rfl,λi v h=>by simp at h⟩
 |v::r,x::s,h=>by
  have ih:=M4 h.2.2
  refine⟨by simpa using ih.1,λi u hu=>?_⟩
  cases i with
  |zero=>simp at hu;subst hu;exact⟨h.1,x,by simp,h.2.1⟩
  |succ i=>have:=ih.2 i u (by simpa using hu);simpa using this
 |[],_::_,h=>h.elim
 |_::_,[],h=>h.elim
theorem nK:∀{b b':List (Int×Int)} {l l':List Int},ag b l->ag b' l'->ag (b++b') (l++l')
 |[],_,[],_,_,h=>h
 |_::_,_,_::_,_,h,a8=>⟨h.1,h.2.1,nK h.2.2 a8⟩
 |[],_,_::_,_,h,_=>h.elim
 |_::_,_,[],_,h,_=>h.elim
theorem agree.symm {n:Nat} {ρ aa:Env} (h:agree n ρ aa):agree n aa ρ:=λi hi=>(h i hi).symm
theorem V.back {n nb:Nat} {ck aa bR:Env} {m0 m':Nat->Nat} {v:V} {x:aP} (h0:v.ok n nb ck) (ha:agree n ck aa) (h2:agree n ck bR) (hm:∀b,b<nb->m' b=m0 b) (hr:v.rel aa m' x):v.ok n nb bR/\v.rel bR m0 x:=by
 have ata:v.ok n nb aa:=h0.ext ha (bL _) (bL _)
 exact⟨h0.ext h2 (bL _) (bL _),hr.ext ata (ha.symm.trans h2 (bL _)) λb hb=>(hm b hb).symm⟩
section
variable {fR:List Nat} {ints:List (Nat×Int×Int)}
theorem G9:∀{tm:List V} {i s:Nat} {t:List V} {l:List I} {b:List (Int×Int)},hs fR ints i s tm=some (t,l,b)->l.length=b.length/\t.length=tm.length
 |[],i,s,t,l,b,h=>by simp[hs]at h;obtain⟨rfl,rfl,rfl⟩:=h;exact⟨rfl,rfl⟩
 |v::r,i,s,t,l,b,h=>by
  unfold hs at h
  cases ab:fR.any (aK i)with
  |true=>
   simp only[ab,cond_true]at h
   cases hr:hs fR ints (i+1) s r with
   |none=>simp[hr]at h
   |some q=>
    obtain⟨t',l',b'⟩:=q
    simp only[hr,a7,ek]at h
    obtain⟨rfl,rfl,rfl⟩:=h
    have:=G9 hr
    simp[this]
  |false=>
   simp only[ab,cond_false]at h
   cases hf:Ci i ints with
   |none=>
    simp only[hf]at h
    cases hr:hs fR ints (i+1) s r with
    |none=>simp[hr]at h
    |some q=>
     obtain⟨t',l',b'⟩:=q
     simp only[hr,a7,ek]at h
     obtain⟨rfl,rfl,rfl⟩:=h
     have:=G9 hr
     simp[this]
   |some q=>
    obtain⟨lo,hi⟩:=q
    simp only[hf]at h
    split at h
    ·rename_i k x
     cases hc:(decide (lo<=x.lo)&&decide (x.hi<=hi))with
     |false=>simp[hc]at h
     |true=>
      simp only[hc,cond_true]at h
      cases hr:hs fR ints (i+1) (s+1) r with
      |none=>simp[hr]at h
      |some q=>
       obtain⟨t',l',b'⟩:=q
       simp only[hr,a7,ek]at h
       obtain⟨rfl,rfl,rfl⟩:=h
       have:=G9 hr
       simp[this]
    ·cases hr:hs fR ints (i+1) (s+1) r with
     |none=>simp[hr]at h
     |some q=>
      obtain⟨t',l',b'⟩:=q
      simp only[hr,a7,ek]at h
      obtain⟨rfl,rfl,rfl⟩:=h
      have:=G9 hr
      simp[this]
    ·cases h
theorem KO {n nb N:Nat} {ck aa bR:Env} {m0 m':Nat->Nat} {n' lz:Nat} (ha:agree n ck aa) (h2:agree n ck bR) (hm:∀b,b<nb->m' b=m0 b) (qE:n<=N):
 ∀{tm cr:List V} {xs:List aP} {i s:Nat} {t t':List V} {l l':List I} {b b':List (Int×Int)},
 (∀v∈tm,V.ok n nb ck v)->Dj n' lz aa m' cr xs->hs fR ints i s tm=some (t,l,b)->hs fR ints i s cr=some (t',l',b')->nE t t'=true->
 (∀j,j<l'.length->bR (s+j)=(l'.getD j (.const 0)).den aa)->s+l'.length<=N->Dj N nb bR m0 t xs/\ag b (l'.map (·.den aa))/\l'.length=l.length
 |[],[],[],i,s,t,t',l,l',b,b',h0,hr,aw,aF,hf,hv,cF=>by
  simp[hs]at aw aF
  obtain⟨rfl,rfl,rfl⟩:=aw
  obtain⟨rfl,rfl,rfl⟩:=aF
  exact⟨trivial,trivial,rfl⟩
 |v::r,v'::r',x::xs,i,s,t,t',l,l',b,b',h0,hr,aw,aF,hf,hv,cF=>by
  obtain⟨bV,hrel,EA⟩:=hr
  have D7:∀v∈r,V.ok n nb ck v:=λu hu=>h0 u (dU _ hu)
  unfold hs at aw aF
  cases ab:fR.any (aK i)with
  |true=>
   simp only[ab,cond_true]at aw aF
   cases fE:hs fR ints (i+1) s r with
   |none=>simp[fE]at aw
   |some bb=>
    obtain⟨t1,l1,b3⟩:=bb
    cases iF:hs fR ints (i+1) s r' with
    |none=>simp[iF]at aF
    |some b0=>
     obtain⟨t2,l2,b4⟩:=b0
     simp only[fE,a7,ek]at aw
     simp only[iF,a7,ek]at aF
     obtain⟨rfl,rfl,rfl⟩:=aw
     obtain⟨rfl,rfl,rfl⟩:=aF
     have oq:=h0 v (by simp)
     have key:nE t1 t2=true/\(v= .any∨v=v'):=by
      unfold nE at hf
      split at hf
      ·rename_i heq _;cases heq
      ·rename_i h1 h2;cases h1;cases h2;exact⟨hf,.inl rfl⟩
      ·rename_i h1 h2;cases h1;cases h2
       simp only[bo]at hf
       exact⟨hf.2,.inr (V.beq_eq hf.1)⟩
      ·cases hf
     obtain⟨cm,cl,c3⟩:=KO ha h2 hm qE D7 EA fE iF key.1 hv cF
     refine⟨⟨?_,?_,cm⟩,cl,c3⟩
     ·exact oq.ext h2 qE (bL _)
     ·rcases key.2 with rfl|rfl
      ·trivial
      ·exact(V.back oq ha h2 hm hrel).2
  |false=>
   simp only[ab,cond_false]at aw aF
   cases kg:Ci i ints with
   |none=>
    simp only[kg]at aw aF
    cases fE:hs fR ints (i+1) s r with
    |none=>simp[fE]at aw
    |some bb=>
     obtain⟨t1,l1,b3⟩:=bb
     cases iF:hs fR ints (i+1) s r' with
     |none=>simp[iF]at aF
     |some b0=>
      obtain⟨t2,l2,b4⟩:=b0
      simp only[fE,a7,ek]at aw
      simp only[iF,a7,ek]at aF
      obtain⟨rfl,rfl,rfl⟩:=aw
      obtain⟨rfl,rfl,rfl⟩:=aF
      obtain⟨cm,cl,c3⟩:=KO ha h2 hm qE D7 EA fE iF (by simpa [nE]using hf) hv cF
      exact⟨⟨trivial,trivial,cm⟩,cl,c3⟩
   |some q=>
    obtain⟨lo,hi⟩:=q
    simp only[kg]at aw aF
    split at aw
    ·rename_i k y
     split at aF
     ·rename_i bA lE
      cases gL:(decide (lo<=y.lo)&&decide (y.hi<=hi))with
      |false=>simp[gL]at aw
      |true=>
       cases hc2:(decide (lo<=lE.lo)&&decide (lE.hi<=hi))with
       |false=>simp[hc2]at aF
       |true=>
        simp only[gL,cond_true]at aw
        simp only[hc2,cond_true]at aF
        cases fE:hs fR ints (i+1) (s+1) r with
        |none=>simp[fE]at aw
        |some bb=>
         obtain⟨t1,l1,b3⟩:=bb
         cases iF:hs fR ints (i+1) (s+1) r' with
         |none=>simp[iF]at aF
         |some b0=>
          obtain⟨t2,l2,b4⟩:=b0
          simp only[fE,a7,ek]at aw
          simp only[iF,a7,ek]at aF
          obtain⟨rfl,rfl,rfl⟩:=aw
          obtain⟨rfl,rfl,rfl⟩:=aF
          simp only[nE,bo]at hf
          have om:=V.beq_eq hf.1
          simp only[V.w.injEq,W.one.injEq,A.int.injEq]at om
          simp only[bo,decide_eq_true_eq]at hc2
          obtain⟨cm,cl,c3⟩:=KO ha h2 hm qE D7 EA fE iF hf.2 (λj aI=>by
           have:=hv (j+1) (by simpa using aI)
           rw[show s+1+j=s+(j+1) by omega];simpa using this) (by simp at cF;omega)
          have oq:=hv 0 (by simp)
          simp only[mM,iU]at oq
          have hb:=bV.2
          simp only[V.rel,W.den,A.den]at hrel
          refine⟨⟨⟨I.fg (by simp at cF;omega),?_,?_⟩,?_,cm⟩,⟨?_,?_,cl⟩,by simp[c3]⟩
          ·simp only[I.cE,oq];omega
          ·simp only[I.cE,oq];omega
          ·simp only[V.rel,W.den,A.den,I.cE,oq,om.1];exact hrel
          ·simp only;omega
          ·simp only;omega
     ·cases fE:hs fR ints (i+1) (s+1) r' with
      |none=>simp[fE]at aF
      |some b0=>
       obtain⟨t2,l2,b4⟩:=b0
       simp only[fE,a7,ek]at aF
       obtain⟨rfl,rfl,rfl⟩:=aF
       cases gL:(decide (lo<=y.lo)&&decide (y.hi<=hi))with
       |false=>simp[gL]at aw
       |true=>
        simp only[gL,cond_true]at aw
        cases iF:hs fR ints (i+1) (s+1) r with
        |none=>simp[iF]at aw
        |some bb=>
         obtain⟨t1,l1,b3⟩:=bb
         simp only[iF,a7,ek]at aw
         obtain⟨rfl,rfl,rfl⟩:=aw
         simp[nE,V.beq,A.beq]at hf
     ·cases aF
    ·rename_i y
     split at aF
     ·rename_i bA lE
      cases fE:hs fR ints (i+1) (s+1) r with
      |none=>simp[fE]at aw
      |some bb=>
       obtain⟨t1,l1,b3⟩:=bb
       simp only[fE,a7,ek]at aw
       obtain⟨rfl,rfl,rfl⟩:=aw
       cases hc2:(decide (lo<=lE.lo)&&decide (lE.hi<=hi))with
       |false=>simp[hc2]at aF
       |true=>
        simp only[hc2,cond_true]at aF
        cases iF:hs fR ints (i+1) (s+1) r' with
        |none=>simp[iF]at aF
        |some b0=>
         obtain⟨t2,l2,b4⟩:=b0
         simp only[iF,a7,ek]at aF
         obtain⟨rfl,rfl,rfl⟩:=aF
         simp[nE,V.beq,A.beq]at hf
     ·rename_i lE
      cases fE:hs fR ints (i+1) (s+1) r with
      |none=>simp[fE]at aw
      |some bb=>
       obtain⟨t1,l1,b3⟩:=bb
       cases iF:hs fR ints (i+1) (s+1) r' with
       |none=>simp[iF]at aF
       |some b0=>
        obtain⟨t2,l2,b4⟩:=b0
        simp only[fE,a7,ek]at aw
        simp only[iF,a7,ek]at aF
        obtain⟨rfl,rfl,rfl⟩:=aw
        obtain⟨rfl,rfl,rfl⟩:=aF
        simp only[nE,bo]at hf
        obtain⟨cm,cl,c3⟩:=KO ha h2 hm qE D7 EA fE iF hf.2 (λj aI=>by
         have:=hv (j+1) (by simpa using aI)
         rw[show s+1+j=s+(j+1) by omega];simpa using this) (by simp at cF;omega)
        have oq:=hv 0 (by simp)
        simp only[mM,iU]at oq
        have hb:0<=lE.den aa/\lE.den aa<=n4:=bV.2
        have hrel:x= .string (dI (bp (lE.den aa))):=hrel
        refine⟨⟨⟨I.fg (by simp at cF;omega),?_⟩,?_,cm⟩,⟨hb.1,hb.2,cl⟩,by simp[c3]⟩
        ·simp only[I.cE,oq];exact hb
        ·simp only[V.rel,W.den,A.den,I.cE,oq];exact hrel
     ·cases aF
    ·cases aw
 |[],_::_,_,i,s,t,t',l,l',b,b',h0,hr,aw,aF,hf,hv,cF=>by
  simp[hs]at aw
  obtain⟨rfl,_,_⟩:=aw
  have:=(G9 aF).2
  cases t' with
  |nil=>simp at this
  |cons _ _=>simp[nE]at hf
 |_::_,[],_,i,s,t,t',l,l',b,b',h0,hr,aw,aF,hf,hv,cF=>by
  simp[hs]at aF
  obtain⟨rfl,_,_⟩:=aF
  have:=(G9 aw).2
  cases t with
  |nil=>simp at this
  |cons y z=>cases y<;>simp[nE]at hf
 |_::_,_::_,[],i,s,t,t',l,l',b,b',h0,hr,aw,aF,hf,hv,cF=>hr.elim
 |[],[],_::_,i,s,t,t',l,l',b,b',h0,hr,aw,aF,hf,hv,cF=>hr.elim
end
def I9 (n nb:Nat) (ρ:Env) (m:Nat->Nat):List A->List aP->Prop
 |[],[]=>True
 |a::r,x::s=>A.ok n nb ρ a/\x=a.den ρ m/\I9 n nb ρ m r s
 |_,_=>False
theorem acq {n nb:Nat} {ρ:Env} {m:Nat->Nat}:∀{l:List A},(∀a∈l,A.ok n nb ρ a)->I9 n nb ρ m l (l.map (A.den ρ m))
 |[],_=>trivial
 |a::r,h=>⟨h a (by simp),rfl,acq λx hx=>h x (dU _ hx)⟩
theorem acr {n nb:Nat} {ρ:Env} {m:Nat->Nat}:∀{l:List A} {xs:List aP},I9 n nb ρ m l xs->(∀a∈l,A.ok n nb ρ a)/\xs=l.map (A.den ρ m)
 |[],[],_=>⟨by simp,rfl⟩
 |a::r,x::s,h=>by
  have ih:=acr h.2.2
  exact⟨λy hy=>by rcases List.mem_cons.1 hy with rfl|hy;exact h.1;exact ih.1 y hy,by rw[h.2.1,ih.2];rfl⟩
 |[],_::_,h=>h.elim
 |_::_,[],h=>h.elim
theorem A.back {n nb:Nat} {ck aa bR:Env} {m0 m':Nat->Nat} {v:A} (h0:v.ok n nb ck) (ha:agree n ck aa) (h2:agree n ck bR) (hm:∀b,b<nb->m' b=m0 b):v.den aa m'=v.den bR m0:=by
 rw[A.lR h0 ha hm,A.lR (m':=m0) h0 h2 (λ_ _=>rfl)]
section
variable {ints:List (Nat×Int×Int)}
theorem GM:∀{cs:List A} {i s:Nat} {t:List A} {l:List I} {b:List (Int×Int)},ha ints i s cs=some (t,l,b)->l.length=b.length/\t.length=cs.length
 |[],i,s,t,l,b,h=>by simp[ha]at h;obtain⟨rfl,rfl,rfl⟩:=h;exact⟨rfl,rfl⟩
 |v::r,i,s,t,l,b,h=>by
  unfold ha at h
  cases hf:Ci i ints with
  |none=>
   simp only[hf]at h
   cases hr:ha ints (i+1) s r with
   |none=>simp[hr]at h
   |some q=>
    obtain⟨t',l',b'⟩:=q
    simp only[hr,a7,ek]at h
    obtain⟨rfl,rfl,rfl⟩:=h
    have:=GM hr
    simp[this]
  |some q=>
   obtain⟨lo,hi⟩:=q
   simp only[hf]at h
   cases hc:kL lo hi s v with
   |none=>simp[hc]at h
   |some p=>
    obtain⟨a,x,fq⟩:=p
    simp only[hc]at h
    cases hr:ha ints (i+1) (s+1) r with
    |none=>simp[hr]at h
    |some q=>
     obtain⟨t',l',b'⟩:=q
     simp only[hr,a7,ek]at h
     obtain⟨rfl,rfl,rfl⟩:=h
     have:=GM hr
     simp[this]
theorem aoK {n nb N:Nat} {ck aa bR:Env} {m0 m':Nat->Nat} {n' lz:Nat} {lo hi:Int} {s:Nat} {v v' a dr:A} {x fx:I} {fq an4:Int×Int} (gY:agree n ck aa) (h2:agree n ck bR) (qE:n<=N)
 (h0:v.ok n nb ck) (a8:v'.ok n' lz aa) (aw:kL lo hi s v=some (a,x,fq)) (aF:kL lo hi s v'=some (dr,fx,an4)) (hf:a=dr) (hv:bR s=fx.den aa) (cF:s<N):
 a.ok N nb bR/\a.den bR m0=v'.den aa m'/\fq.1<=fx.den aa/\fx.den aa<=fq.2:=by
 subst hf
 have rk:(I.var s).den bR=fx.den aa:=by rw[I.cE,hv]
 cases v with
 |int k y=>
  simp only[kL]at aw
  cases gL:(decide (lo<=y.lo)&&decide (y.hi<=hi))with
  |false=>simp[gL]at aw
  |true=>
   simp only[gL,cond_true,a7,ek]at aw
   obtain⟨rfl,rfl,rfl⟩:=aw
   cases v' with
   |int bA lE=>
    simp only[kL]at aF
    cases hc2:(decide (lo<=lE.lo)&&decide (lE.hi<=hi))with
    |false=>simp[hc2]at aF
    |true=>
     simp only[hc2,cond_true,a7,ek,A.int.injEq]at aF
     obtain⟨⟨rfl,_⟩,rfl,rfl⟩:=aF
     simp only[bo,decide_eq_true_eq]at hc2
     have a8:lE.ok n' aa:=a8
     have hb:=a8.2
     refine⟨⟨I.fg cF,by simp only[rk];omega,by simp only[rk];omega⟩,by simp only[A.den,rk],by simp only;omega,by simp only;omega⟩
   |str _=>simp[kL]at aF
   |rows _ _ _ _ _=>simp[kL]at aF
   |_=>simp[kL]at aF
 |str y=>
  simp only[kL,a7,ek]at aw
  obtain⟨rfl,rfl,rfl⟩:=aw
  cases v' with
  |str lE=>
   simp only[kL,a7,ek]at aF
   obtain⟨_,rfl,rfl⟩:=aF
   have hb:0<=lE.den aa/\lE.den aa<=n4:=a8.2
   exact⟨⟨I.fg cF,by rw[rk];exact hb⟩,by simp only[A.den,rk],hb.1,hb.2⟩
  |int bA lE=>
   simp only[kL]at aF
   cases hc2:(decide (lo<=lE.lo)&&decide (lE.hi<=hi))<;>simp[hc2]at aF
  |rows _ _ _ _ _=>simp[kL]at aF
  |_=>simp[kL]at aF
 |rows sh off code cap k=>
  simp only[kL,a7,ek]at aw
  obtain⟨rfl,rfl,rfl⟩:=aw
  cases v' with
  |rows fh jB code' jw bA=>
   simp only[kL,a7,ek,A.rows.injEq]at aF
   obtain⟨_,rfl,rfl⟩:=aF
   obtain⟨⟨s1,s2,bP⟩,_,c7⟩:=h0
   obtain⟨_,b4,_⟩:=a8
   refine⟨⟨⟨s1.mono qE,I.fg cF,bP.mono qE⟩,by rw[rk];exact b4,by rw[I.bX h2 bP];exact c7⟩,by simp only[A.den,rk],b4.1,b4.2⟩
  |int bA lE=>
   simp only[kL]at aF
   cases hc2:(decide (lo<=lE.lo)&&decide (lE.hi<=hi))<;>simp[hc2]at aF
  |str _=>simp[kL]at aF
  |_=>simp[kL]at aF
 |_=>simp[kL]at aw
theorem Wr {n nb N:Nat} {ck aa bR:Env} {m0 m':Nat->Nat} {n' lz:Nat} (gY:agree n ck aa) (h2:agree n ck bR) (hm:∀b,b<nb->m' b=m0 b) (qE:n<=N):
 ∀{cs jT:List A} {xs:List aP} {i s:Nat} {t t':List A} {l l':List I} {b b':List (Int×Int)},
 (∀v∈cs,A.ok n nb ck v)->I9 n' lz aa m' jT xs->ha ints i s cs=some (t,l,b)->ha ints i s jT=some (t',l',b')->oQ t t'=true->
 (∀j,j<l'.length->bR (s+j)=(l'.getD j (.const 0)).den aa)->s+l'.length<=N->I9 N nb bR m0 t xs/\ag b (l'.map (·.den aa))/\l'.length=l.length
 |[],[],[],i,s,t,t',l,l',b,b',h0,hr,aw,aF,hf,hv,cF=>by
  simp[ha]at aw aF
  obtain⟨rfl,rfl,rfl⟩:=aw
  obtain⟨rfl,rfl,rfl⟩:=aF
  exact⟨trivial,trivial,rfl⟩
 |v::r,v'::r',x::xs,i,s,t,t',l,l',b,b',h0,hr,aw,aF,hf,hv,cF=>by
  obtain⟨bV,hrel,EA⟩:=hr
  have D7:∀v∈r,A.ok n nb ck v:=λu hu=>h0 u (dU _ hu)
  unfold ha at aw aF
  cases kg:Ci i ints with
  |none=>
   simp only[kg]at aw aF
   cases fE:ha ints (i+1) s r with
   |none=>simp[fE]at aw
   |some bb=>
    obtain⟨t1,l1,b3⟩:=bb
    cases iF:ha ints (i+1) s r' with
    |none=>simp[iF]at aF
    |some b0=>
     obtain⟨t2,l2,b4⟩:=b0
     simp only[fE,a7,ek]at aw
     simp only[iF,a7,ek]at aF
     obtain⟨rfl,rfl,rfl⟩:=aw
     obtain⟨rfl,rfl,rfl⟩:=aF
     simp only[oQ,bo]at hf
     have atY:=A.beq_eq hf.1
     subst atY
     have oq:=h0 v (by simp)
     obtain⟨cm,cl,c3⟩:=Wr gY h2 hm qE D7 EA fE iF hf.2 hv cF
     exact⟨⟨oq.ext h2 qE (bL _),by rw[hrel,A.back oq gY h2 hm],cm⟩,cl,c3⟩
  |some q=>
   obtain⟨lo,hi⟩:=q
   simp only[kg]at aw aF
   cases gL:kL lo hi s v with
   |none=>simp[gL]at aw
   |some cm=>
    obtain⟨bZ,ai,d1⟩:=cm
    cases hc2:kL lo hi s v' with
    |none=>simp[hc2]at aF
    |some cl=>
     obtain⟨a2,af,d2⟩:=cl
     simp only[gL]at aw
     simp only[hc2]at aF
     cases fE:ha ints (i+1) (s+1) r with
     |none=>simp[fE]at aw
     |some bb=>
      obtain⟨t1,l1,b3⟩:=bb
      cases iF:ha ints (i+1) (s+1) r' with
      |none=>simp[iF]at aF
      |some b0=>
       obtain⟨t2,l2,b4⟩:=b0
       simp only[fE,a7,ek]at aw
       simp only[iF,a7,ek]at aF
       obtain⟨rfl,rfl,rfl⟩:=aw
       obtain⟨rfl,rfl,rfl⟩:=aF
       simp only[oQ,bo]at hf
       obtain⟨cm,cl,c3⟩:=Wr gY h2 hm qE D7 EA fE iF hf.2 (λj aI=>by
        have:=hv (j+1) (by simpa using aI)
        rw[show s+1+j=s+(j+1) by omega];simpa using this) (by simp at cF;omega)
       have oq:=hv 0 (by simp)
       simp only[mM,iU]at oq
       obtain⟨c1,bH,cp,cR⟩:=aoK (m0:=m0) (m':=m') gY h2 qE (h0 v (by simp)) bV gL hc2 (A.beq_eq hf.1) oq (by simp at cF;omega)
       exact⟨⟨c1,by rw[hrel,bH],cm⟩,⟨cp,cR,cl⟩,by simp[c3]⟩
 |[],_::_,_,i,s,t,t',l,l',b,b',h0,hr,aw,aF,hf,hv,cF=>by
  simp[ha]at aw
  obtain⟨rfl,_,_⟩:=aw
  have:=(GM aF).2
  cases t' with
  |nil=>simp at this
  |cons _ _=>simp[oQ]at hf
 |_::_,[],_,i,s,t,t',l,l',b,b',h0,hr,aw,aF,hf,hv,cF=>by
  simp[ha]at aF
  obtain⟨rfl,_,_⟩:=aF
  have:=(GM aw).2
  cases t with
  |nil=>simp at this
  |cons y z=>simp[oQ]at hf
 |_::_,_::_,[],i,s,t,t',l,l',b,b',h0,hr,aw,aF,hf,hv,cF=>hr.elim
 |[],[],_::_,i,s,t,t',l,l',b,b',h0,hr,aw,aF,hf,hv,cF=>hr.elim
end
section
variable {cells:List (Nat×Nat×Int×Int)}
theorem Kf:∀{bl:List aG} {i s:Nat} {t:List aG} {l:List I} {b:List (Int×Int)},hb cells i s bl=some (t,l,b)->l.length=b.length/\t.length=bl.length
 |[],i,s,t,l,b,h=>by simp[hb]at h;obtain⟨rfl,rfl,rfl⟩:=h;exact⟨rfl,rfl⟩
 |(cs,ty)::r,i,s,t,l,b,h=>by
  unfold hb at h
  cases hc:ha (cellsOf i cells) 0 s cs with
  |none=>simp[hc]at h
  |some q=>
   obtain⟨c,l1,b3⟩:=q
   simp only[hc]at h
   cases hr:hb cells (i+1) (s+l1.length) r with
   |none=>simp[hr]at h
   |some q=>
    obtain⟨t',l',b'⟩:=q
    simp only[hr,a7,ek]at h
    obtain⟨rfl,rfl,rfl⟩:=h
    have h1:=GM hc
    have h2:=Kf hr
    simp[h1,h2]
theorem afY {l l':List I} {j:Nat} (h:j<l.length) (d:I):(l++l').getD j d=l.getD j d:=by
 simp[U,xQ h]
theorem afZ {l l':List I} {j:Nat} (d:I):(l++l').getD (l.length+j) d=l'.getD j d:=by
 simp only[U];rw[IS (by omega)];simp
theorem agt {n nb N:Nat} {ck aa bR:Env} {m0 m':Nat->Nat} {n' lz:Nat} (gY:agree n ck aa) (h2:agree n ck bR) (hm:∀b,b<nb->m' b=m0 b) (qE:n<=N):
 ∀{bl bj:List aG} {i s:Nat} {t t':List aG} {l l':List I} {b b':List (Int×Int)},
 cM n nb ck bl->cM n' lz aa bj->hb cells i s bl=some (t,l,b)->hb cells i s bj=some (t',l',b')->nD t t'=true->
 (∀j,j<l'.length->bR (s+j)=(l'.getD j (.const 0)).den aa)->s+l'.length<=N->
 cM N nb bR t/\ag b (l'.map (·.den aa))/\l'.length=l.length/\∀(j:Nat) (c:List A) (ty:bh×Bool),t[j]?=some (c,ty)->∃eg:List A,bj[j]?=some (eg,ty)/\c.map (A.den bR m0)=eg.map (A.den aa m')
 |[],[],i,s,t,t',l,l',b,b',h0,hr,aw,aF,hf,hv,cF=>by
  simp[hb]at aw aF
  obtain⟨rfl,rfl,rfl⟩:=aw
  obtain⟨rfl,rfl,rfl⟩:=aF
  exact⟨λp hp=>by simp at hp,trivial,rfl,λj c ty h=>by simp at h⟩
 |(cs,ty)::r,(jT,aBS)::r',i,s,t,t',l,l',b,b',h0,hr,aw,aF,hf,hv,cF=>by
  unfold hb at aw aF
  cases gL:ha (cellsOf i cells) 0 s cs with
  |none=>simp[gL]at aw
  |some bb=>
   obtain⟨c1,l1,b3⟩:=bb
   cases hc2:ha (cellsOf i cells) 0 s jT with
   |none=>simp[hc2]at aF
   |some b0=>
    obtain⟨bH,l2,b4⟩:=b0
    simp only[gL]at aw
    simp only[hc2]at aF
    cases fE:hb cells (i+1) (s+l1.length) r with
    |none=>simp[fE]at aw
    |some bb=>
     obtain⟨t1,ah2,FY⟩:=bb
     cases iF:hb cells (i+1) (s+l2.length) r' with
     |none=>simp[iF]at aF
     |some b0=>
      obtain⟨t2,ah3,wA⟩:=b0
      simp only[fE,a7,ek]at aw
      simp only[iF,a7,ek]at aF
      obtain⟨rfl,rfl,rfl⟩:=aw
      obtain⟨rfl,rfl,rfl⟩:=aF
      simp only[nD,bo]at hf
      have KQ:ty=aBS:=Mo (bO hf.1.1.2) (by simpa using hf.1.2)
      subst KQ
      have Wi:s+l2.length+ah3.length<=N:=by simp at cF;omega
      obtain⟨cm,cl,c3⟩:=Wr gY h2 hm qE (λv hv=>h0 (cs,ty) (by simp) v hv) (acq (m:=m') λv hv=>hr (jT,ty) (by simp) v hv) gL hc2 hf.1.1.1 (λj aI=>by
       have:=hv j (by simp;omega)
       rwa [afY aI]at this) (by omega)
      rw[<-c3]at fE
      obtain⟨bb,b0,cv,dK⟩:=agt gY h2 hm qE (λp hp=>h0 p (dU _ hp)) (λp hp=>hr p (dU _ hp)) fE iF hf.2 (λj aI=>by
       have:=hv (l2.length+j) (by simp;omega)
       rw[afZ]at this
       rw[<-this];congr 1;omega) Wi
      have hp:=acr cm
      refine⟨λp Xa a agr=>?_,by rw[iy];exact nK cl b0,by simp[c3,cv],λj c aBT aI=>?_⟩
      ·rcases List.mem_cons.1 Xa with rfl|Xa
       ·exact hp.1 a agr
       ·exact bb p Xa a agr
      ·cases j with
       |zero=>simp at aI;obtain⟨rfl,rfl⟩:=aI;exact⟨jT,rfl,hp.2.symm⟩
       |succ j=>simp at aI;obtain⟨eg,h1,h2⟩:=dK j c aBT aI;exact⟨eg,by simpa using h1,h2⟩
 |[],_::_,i,s,t,t',l,l',b,b',h0,hr,aw,aF,hf,hv,cF=>by
  simp[hb]at aw
  obtain⟨rfl,_,_⟩:=aw
  have:=(Kf aF).2
  cases t' with
  |nil=>simp at this
  |cons _ _=>simp[nD]at hf
 |_::_,[],i,s,t,t',l,l',b,b',h0,hr,aw,aF,hf,hv,cF=>by
  simp[hb]at aF
  obtain⟨rfl,_,_⟩:=aF
  have:=(Kf aw).2
  cases t with
  |nil=>simp at this
  |cons y z=>simp[nD]at hf
def Ig (p q:List A):Prop:=∃sh off code code' cap k,p=[.rows sh off code cap k]/\q=[.rows sh off code' cap k]
theorem Ig.refl {p:List A} (h:b7 p=false):Ig p p:=by
 unfold b7 at h
 split at h
 ·exact⟨_,_,_,_,_,_,rfl,rfl⟩
 ·cases h
theorem aoJ {lo hi:Int} {s:Nat} {v a:A} {x:I} {fq:Int×Int} (h:kL lo hi s v=some (a,x,fq)):b7 [a]=b7 [v]/\(b7 [a]=false->Ig [a] [v]):=by
 unfold kL at h
 split at h
 ·rename_i k x
  cases hc:(decide (lo<=x.lo)&&decide (x.hi<=hi))with
  |false=>simp[hc]at h
  |true=>
   simp only[hc,cond_true,a7,ek]at h
   obtain⟨rfl,_,_⟩:=h
   exact⟨rfl,λh=>by cases h⟩
 ·simp only[a7,ek]at h
  obtain⟨rfl,_,_⟩:=h
  exact⟨rfl,λh=>by cases h⟩
 ·simp only[a7,ek]at h
  obtain⟨rfl,_,_⟩:=h
  exact⟨rfl,λ_=>⟨_,_,_,_,_,_,rfl,rfl⟩⟩
 ·cases h
theorem XH (a b:A) (l:List A):b7 (a::b::l)=true:=by cases a<;>rfl
theorem ar1 {ints:List (Nat×Int×Int)} {i s:Nat} {cs:List A} {l:List I} {b:List (Int×Int)} {t:List A} (h:ha ints i s cs=some (t,l,b)):(b7 t=b7 cs)/\(b7 t=false->Ig t cs):=by
 have hl:=(GM h).2
 match cs,t,hl with
 |[],[],_=>exact⟨rfl,λh=>by cases h⟩
 |a::b::r,dr::b'::r',_=>exact⟨by rw[XH,XH],λh=>by rw[XH]at h;cases h⟩
 |[v],[a],_=>
  unfold ha at h
  cases hf:Ci i ints with
  |none=>
   simp[hf,ha]at h
   obtain⟨rfl,_,_⟩:=h
   exact⟨rfl,λh=>Ig.refl h⟩
  |some q=>
   obtain⟨lo,hi⟩:=q
   simp only[hf]at h
   cases hc:kL lo hi s v with
   |none=>simp[hc]at h
   |some p=>
    obtain⟨dr,x,fq⟩:=p
    simp[hc,ha]at h
    obtain⟨rfl,_,_⟩:=h
    exact aoJ hc
theorem Wu:∀{bl:List aG} {i s:Nat} {t:List aG} {l:List I} {b:List (Int×Int)},hb cells i s bl=some (t,l,b)->∀(k:Nat) (p:aG),t[k]?=some p->∃q:aG,bl[k]?=some q/\b7 p.1=b7 q.1/\p.2=q.2/\(b7 p.1=false->Ig p.1 q.1)
 |[],i,s,t,l,b,h=>by simp[hb]at h;obtain⟨rfl,rfl,rfl⟩:=h;intro k p hp;simp at hp
 |(cs,ty)::r,i,s,t,l,b,h=>by
  unfold hb at h
  cases gL:ha (cellsOf i cells) 0 s cs with
  |none=>simp[gL]at h
  |some bb=>
   obtain⟨c1,l1,b3⟩:=bb
   simp only[gL]at h
   cases fE:hb cells (i+1) (s+l1.length) r with
   |none=>simp[fE]at h
   |some bb=>
    obtain⟨t1,ah2,FY⟩:=bb
    simp only[fE,a7,ek]at h
    obtain⟨rfl,rfl,rfl⟩:=h
    intro k p hp
    cases k with
    |zero=>
     simp only[uz,a7]at hp
     subst hp
     have:=ar1 gL
     exact⟨(cs,ty),rfl,this.1,rfl,this.2⟩
    |succ k=>obtain⟨q,h1,h2⟩:=Wu fE k p (by simpa using hp);exact⟨q,by simpa using h1,h2⟩
theorem afw:∀{a b:List aG},nD a b=true->∀(k:Nat) (p:aG),a[k]?=some p->b[k]?=some p
 |[],[],_,k,p,h=>by simp at h
 |(c,t)::r,(eg,t')::s,hf,k,p,h=>by
  simp only[nD,bo]at hf
  have KQ:t=t':=Mo (bO hf.1.1.2) (by simpa using hf.1.2)
  have hc:=DH hf.1.1.1
  subst KQ;subst hc
  cases k with
  |zero=>simpa using h
  |succ k=>have:=afw hf.2 k p (by simpa using h);simpa using this
 |[],_::_,h,_,_,_=>by simp[nD]at h
 |_::_,[],h,_,_,_=>by simp[nD]at h
end
end Go.b6
namespace Go.b6
variable {P:bQ} {rd:Option Nat}
def sM (rd:Option Nat):Fence:={FI with round:=rd}
def rD (Q:Exit->Act->aE->Prop):Exit->Act->aE->Prop
 | .normal,a,w=>Q .normal a w
 |_,_,_=>False
theorem rD.imp {Q:Exit->Act->aE->Prop}:∀(e:Exit) (a:Act) (w:aE),calm (rD Q) e a w->Q e a w:=λe a w h=>by
 cases e<;>first|exact h|exact(h:False).elim
theorem rD.let {Q:Exit->Act->aE->Prop}:¬LetsOut (rD Q):=λ⟨a,w,h⟩=>h
theorem rD.avx {Q:Exit->Act->aE->Prop}:¬LetsOut (calm (rD Q)):=λ⟨a,w,h⟩=>h
def xc (o:Oper):Bool:=match o.op with| .defer _=>false|_=>true
def m6:Code->Bool
 | .region _ ops _=>ops.toList.all xc
 | .seq a b=>m6 a&&m6 b
 | .cond _ a b=>m6 a&&m6 b
 | .block _ c=>m6 c
 | .loop c=>m6 c
 |_=>true
theorem awi {o:Oper} (h:xc o=true):∀c,o.op≠ .defer c:=λc e=>by simp[xc,e]at h
theorem aov {n:Nat} {f:dn} {args:Array aP} {w:aE} {R:Ending->aE->Prop} (h:lG P f args w R):CallsIn (sM rd) n P f args w R:=callsIn_wide.2 h
theorem azZ {n:Nat} {row:String} {args:Array aP} {w:aE} {R:aP->aE->Prop} (h:Rows P row args w R):RowsIn (sM rd) n P row args w R:=
 λc cs _=>let⟨v,w',r,s⟩:=h c cs;⟨v,w',r,stepsIn_wide.2 s⟩
theorem ajs {o:Oper} {a:Act} {w:aE} {K:Act->aE->Prop} {Q:Exit->Act->aE->Prop} (hd:rd=none∨xc o=true) (h:o.wp P a w K Q):o.wpIn (sM rd) 0 P a w K Q:=by
 refine⟨λ_ _=>trivial,?_⟩
 have e:o.semAt (sM rd).round a.eval=execOp a.eval o:=by
  rcases hd with h|h
  ·subst h;rfl
  ·exact o.semAt_eq _ _ (awi h)
 rw[e]
 unfold mQ at h
 generalize (execOp a.eval o).run P w=r at*
 cases r with
 |ok n w'=>
  cases n<;>simp only[Oper.upon,aEX]at h⊢
  case value u=>exact h
  case skip=>exact h
  case defer d=>exact h
  case enter f args=>exact⟨λhs=>by simp[sM,FI]at hs,aov h⟩
  case row row args=>exact⟨λhs=>by simp[sM,FI]at hs,azZ h⟩
 |halt x w'=>
  cases x<;>simp only[Oper.upon,aEX]at h⊢
  case panic u=>exact h
variable {ops:Array Oper} {Q:Exit->Act->aE->Prop}
theorem aaU (dB:¬LetsOut Q):∀{l:List Oper} {a:Act} {w:aE},(rd=none∨l.all xc=true)->wpList P ops Q l a w->wpListIn (sM rd) 0 P ops Q l a w
 |[],_,_,_,h=>h
 |o::r,a,w,hd,h=>by
  have h1:rd=none∨xc o=true:=hd.imp id λh=>by simp only[ame,bo]at h;exact h.1
  have h2:rd=none∨r.all xc=true:=hd.imp id λh=>by simp only[ame,bo]at h;exact h.2
  unfold wpList at h
  unfold wpListIn
  split
  ·rename_i hw
   rw[if_pos hw]at h
   rcases h with h|h
   ·exact aEY (λa w h=>aaU dB h2 h) (ajs h1 h)
   ·exact absurd h.2 dB
  ·rename_i hw
   rw[if_neg hw]at h
   exact⟨λ_ _=>trivial,aaU dB h2 h⟩
theorem RU {md:Region.Mode} (hd:rd=none∨ops.toList.all xc=true) (dB:¬LetsOut Q):∀{f:Nat} {listed:Array Bool} {a:Act} {w:aE},wpAny P md ops Q f listed a w->wpAnyIn (sM rd) 0 P md ops Q f listed a w
 |0,_,_,_,h=>h
 |f+1,listed,a,w,h=>by
  refine⟨h.1,λi hi=>?_⟩
  have h2:=h.2 i hi
  unfold wpOp at h2
  unfold wpOpIn
  cases ax:ops[i]? with
  |none=>simp only[ax]at h2⊢;exact RU hd dB h2
  |some o=>
   simp only[ax]at h2⊢
   have h1:rd=none∨xc o=true:=hd.imp id λh=>List.all_eq_true.1 h o (by simpa using Array.mem_of_getElem? ax)
   split
   ·rename_i hw
    rw[if_pos hw]at h2
    rcases h2 with h2|h2
    ·exact aEY (λa w h=>RU hd dB h) (ajs h1 h2)
    ·exact absurd h2.2 dB
   ·rename_i hw
    rw[if_neg hw]at h2
    exact⟨λ_ _=>trivial,RU hd dB h2⟩
theorem azO {id:Nat} {a:Act} {w:aE} (hd:rd=none∨ops.toList.all xc=true) (h:wpList P ops (rD Q) ops.toList a w):(aEZ id ops false).wpIn (sM rd) 0 P Q a w:=
 wpIn_mono (wpIn_region_list (aaU rD.let hd h)) λe a w h=>rD.imp e a w (by cases e<;>first|exact h|exact(h:False).elim)
theorem ajR {id:Nat} {a:Act} {w:aE} (hm:P.follows .mixedOrders=true) (hd:rd=none∨ops.toList.all xc=true)
 (h:wpAny P .any ops (calm (rD Q)) ops.size (zx ops.size false) a {w with drawn:=w.drawn+1}):(aEZ id ops true).wpIn (sM rd) 0 P Q a w:=
 wpIn_mono (wpIn_region_any hm (RU hd rD.avx h)) rD.imp
end Go.b6
namespace Go.b6
open M
section
variable {S:Nat->List Int->List Int->Prop} {L:V->Env->Prop} {w0:dX} {P:bQ} {gl:eI} {cal:eW} {rd:Option Nat}
def FN (S:Nat->List Int->List Int->Prop) (L:V->Env->Prop) (w0:dX) (k:uF) (n nb:Nat) (ρ:Env) (m:Nat->Nat) (G:ev) (Q:Exit->Act->aE->Prop):Prop:=
 ∀x n' aa m' cr bj ee dr w',en n nb ρ m n' (np bj) aa m'->eM n G ee->R w0 n' aa m' cr bj dr w'->(k x n' cr bj).holds S L ee aa->Q x.to dr w'
theorem FN.later {k:uF} {n nb aT CK:Nat} {ρ aJ:Env} {m gB:Nat->Nat} {G G1:ev} {Q:Exit->Act->aE->Prop} (h:FN S L w0 k n nb ρ m G Q) (hl:en n nb ρ m aT CK aJ gB) (aM:eM n G G1):FN S L w0 k aT CK aJ gB G1 Q:=
 λx n' aa m' cr bj ee dr w' h1 h2 h3 h4=>h x n' aa m' cr bj ee dr w' (hl.trans h1) (aM.trans h2 hl.hn) h3 h4
def Tp (rd:Option Nat) (S:Nat->List Int->List Int->Prop) (L:V->Env->Prop) (w0:dX) (P:bQ) (c:Code) (e:Nat->List V->List aG->uF->T):Prop:=(rd=none∨m6 c=true)->
 ∀n tm bl k G ρ m a w Q,R w0 n ρ m tm bl a w->(e n tm bl k).holds S L G ρ->FN S L w0 k n bl.length ρ m G Q->c.wpIn (sM rd) 0 P Q a w
theorem aj0 {c:Code} {e:Nat->List V->List aG->uF->T} (hd:rd=none∨m6 c=true) (he:Tp rd S L w0 P c e) {Q:Exit->Act->aE->Prop}:∀(r:Nat) {n:Nat} {ρ:Env} {m:Nat->Nat} {tm:List V} {bl:List aG} {a:Act} {w:aE} {G:ev} {k:uF},
 R w0 n ρ m tm bl a w->(ZN e r n tm bl k).holds S L G ρ->FN S L w0 k n bl.length ρ m G Q->Code.roundsIn (sM rd) 0 P c Q r a w
 |0,_,_,_,_,_,_,_,_,_,_,ae,_=>ae.elim
 |r+1,n,ρ,m,tm,bl,a,w,G,k,h,ae,ab=>by
  rw[roundsIn_succ]
  refine he hd n tm bl _ G ρ m a w _ h ae λx n' aa m' cr bj ee dr w' h1 h2 h3 h4=>?_
  cases x with
  |normal=>exact aj0 hd he r h3 h4 (ab.later h1 h2)
  |exit id=>exact ab (.exit id) n' aa m' cr bj ee dr w' h1 h2 h3 h4
  |ret=>exact ab .ret n' aa m' cr bj ee dr w' h1 h2 h3 h4
theorem am7 {n nb:Nat} {ρ:Env} {m:Nat->Nat} {tm:List V} {xs:Array aP} (h:ef n nb ρ m tm xs):Dj n nb ρ m tm xs.toList:=acu (by simpa using h)
theorem agJ {li:fH} {n:Nat} {ck aa:Env} {m0 m':Nat->Nat} {tm cr mF A8:List V} {bl bj eN pR:List aG} {l1 l2 v1 v2 ext:List I} {b3 b4 FY wA:List (Int×Int)} {n':Nat} {a:Act} {w:aE}
 (hlen:bl.length<=bj.length)
 (ha:agree n ck aa) (hm:∀b,b<bl.length->m' b=m0 b) (aA:∀v∈tm,V.ok n bl.length ck v) (oX:cM n bl.length ck bl)
 (h:R w0 n' aa m' cr bj a w) (aw:hs li.fR li.ints 0 (n+1) tm=some (mF,l1,b3)) (aF:hb li.cells 0 (n+1+l1.length) bl=some (eN,l2,b4))
 (cb:hs li.fR li.ints 0 (n+1) cr=some (A8,v1,FY)) (gX:hb li.cells 0 (n+1+v1.length) (bj.take bl.length)=some (pR,v2,wA))
 (f1:nE mF A8=true) (f2:nD eN pR=true):
 v1.length+v2.length=l1.length+l2.length/\ag (b3++b4) ((v1++v2).map (·.den aa))/\R w0 (n+1+l1.length+l2.length+ext.length) (bI ck (n+1) ((v1++v2++ext).map (·.den aa))) m0 mF eN a w/\eN.length=bl.length/\∀(i:Nat) (p:aG),eN[i]?=some p->i<bl.length/\∃dc:aG,bj[i]?=some dc/\bJ (bI ck (n+1) ((v1++v2++ext).map (·.den aa))) p.1=bJ aa dc.1:=by
 have Ws:agree n ck (bI ck (n+1) ((v1++v2++ext).map (·.den aa))):=(agree.bI _ (n+1) ck).mono (by omega)
 have GX:∀j,j<(v1++v2).length->bI ck (n+1) ((v1++v2++ext).map (·.den aa)) (n+1+j)=((v1++v2).getD j (.const 0)).den aa:=λj aI=>by
  rw[Iu _ _ _ j (by simp at aI⊢;omega)]
  have vb:j<(v1++v2++ext).length:=by simp at aI⊢;omega
  have e:(v1++v2++ext)[j]=(v1++v2)[j]:=List.getElem_append_left aI
  simp only[U,pw,nq aI,nq vb,xP,Bk,e]
 have aIy:v1.length+v2.length=(v1++v2).length:=by simp
 obtain⟨cm,cl,c3⟩:=KO (N:=n+1+v1.length+v2.length+ext.length) ha Ws hm (by omega) aA (am7 h.t) aw cb f1 (λj aI=>by
  rw[GX j (by simp;omega),afY aI]) (by omega)
 rw[<-c3]at aF
 have asb:cM n' bj.length aa (bj.take bl.length):=λp hp=>h.b p (lf hp)
 obtain⟨bb,b0,cv,dK⟩:=agt (N:=n+1+v1.length+v2.length+ext.length) ha Ws hm (by omega) oX asb aF gX f2 (λj aI=>by
  rw[show n+1+v1.length+j=n+1+(v1.length+j) by omega,GX (v1.length+j) (by simp;omega),afZ]) (by omega)
 have aQ:eN.length=bl.length:=(Kf aF).2
 refine⟨by omega,by rw[iy];exact nK cl b0,?_⟩
 rw[<-c3,<-cv]
 have Ed:∀(i:Nat) (p:aG),eN[i]?=some p->i<bl.length/\∃dc:aG,bj[i]?=some dc/\b7 p.1=b7 dc.1/\p.2=dc.2/\(b7 p.1=false->∃sh off code code' cap k,p.1=[.rows sh off code cap k]/\dc.1=[.rows sh off code' cap k]/\off.bD n/\cap.bD n):=λi p hi=>by
  have jV:i<bl.length:=by rw[<-aQ];exact(List.getElem?_eq_some_iff.1 hi).1
  obtain⟨dc,h1,h2,D8,h3⟩:=Wu gX i p (afw f2 i p hi)
  rw[qY,if_pos jV]at h1
  obtain⟨p0,g1,_,_,g3⟩:=Wu aF i p hi
  refine⟨jV,dc,h1,h2,D8,λax=>?_⟩
  obtain⟨sh,off,code,code',cap,k,s1,s2⟩:=h3 ax
  obtain⟨fh,jB,c1,bH,jw,bA,bP,c4⟩:=g3 ax
  rw[s1]at bP
  cases bP
  have bV:A.ok n bl.length ck (.rows sh off bH cap k):=oX _ (eD g1) _ (by rw[c4];simp)
  exact⟨sh,off,code,code',cap,k,s1,s2,bV.1.1,bV.1.2.2⟩
 have Wt:agree n aa (bI ck (n+1) ((v1++v2++ext).map (·.den aa))):=ha.sym.trans Ws (bL _)
 have oY:∀(p dc:aG),b7 p.1=b7 dc.1->(b7 p.1=false->∃sh off code code' cap k,p.1=[.rows sh off code cap k]/\dc.1=[.rows sh off code' cap k]/\off.bD n/\cap.bD n)->bJ (bI ck (n+1) ((v1++v2++ext).map (·.den aa))) p.1=bJ aa dc.1:=λp dc h1 h2=>by
  cases ax:b7 p.1 with
  |true=>rw[lv ax,lv (h1▸ax)]
  |false=>
   obtain⟨sh,off,code,code',cap,k,s1,s2,bP,c4⟩:=h2 ax
   rw[s1,s2]
   simp only[bJ]
   rw[I.bX Wt c4]
 refine⟨?_,aQ,λi p hi=>by
  obtain⟨g1,dc,g2,g3,_,g4⟩:=Ed i p hi
  exact⟨g1,dc,g2,oY p dc g3 g4⟩⟩
 refine⟨?_,h.d,by rw[aQ];exact bb,⟨h.bB.ext,h.bB.iZ,h.bB.kA,h.bB.j7,h.bB.gj,h.bB.iO,λi cs t hi ax=>?_,λi sh off code cap kind t hi=>?_,λi j p q hi aI he=>?_⟩⟩
 ·rw[aQ]
  have:=M4 cm
  simpa using this
 ·obtain⟨eg,h1,h2⟩:=dK i cs t hi
  obtain⟨jV,dc,k1,k2,_⟩:=Ed i _ hi
  rw[qY,if_pos jV,k1]at h1
  have h1:=hV h1
  subst h1
  obtain⟨g1,lS,r,hr,g2⟩:=h.bB.fe i eg t k1 (k2▸ax)
  rw[<-hm i jV]
  exact⟨g1,lS,r,hr,by rw[h2];exact g2⟩
 ·obtain⟨jV,dc,k1,_,k2,k3⟩:=Ed i _ hi
  obtain⟨fh,jB,c1,bH,jw,bA,s1,s2,bP,c4⟩:=k3 rfl
  cases s1
  obtain⟨C,t'⟩:=dc
  simp only at s2 k2
  subst s2;subst k2
  obtain⟨eg,h1,h2⟩:=dK i _ t hi
  rw[qY,if_pos jV,k1]at h1
  cases h1
  simp only[cQ,e3,A.den,nZ,aLf,and_true,true_and]at h2
  rw[<-hm i jV]
  have hR:=h.bB.rws i sh off bH cap kind t k1
  unfold sN at hR⊢
  rw[I.bX Wt bP,I.bX Wt c4,h2]
  exact hR
 ·obtain⟨jV,dc,k1,k2,_,k3⟩:=Ed i p hi
  obtain⟨Es,eA,l1,l2,_,mv⟩:=Ed j q aI
  rw[oY p dc k2 k3,oY q eA l2 mv]
  rw[<-hm i jV,<-hm j Es]at he
  exact h.bB.inj i j dc eA k1 l1 he
theorem ef.set {n nb:Nat} {ρ:Env} {m:Nat->Nat} {tm:List V} {xs:Array aP} {s:Nat} {v:V} (h:ef n nb ρ m tm xs) (hv:v.ok n nb ρ) (hr:∀x,xs[s]?=some x->v.rel ρ m x):ef n nb ρ m (ui tm s v) xs:=by
 rw[Z9]
 refine⟨by simp[h.1],λi u hu=>?_⟩
 rw[sI]at hu
 split at hu
 ·rename_i atA
  subst atA
  split at hu
  ·rename_i hlt
   cases hu
   rw[h.1]at hlt
   exact⟨hv,_,Mw hlt,hr _ (Mw hlt)⟩
  ·cases hu
 ·exact h.2 i u hu
def FM (tmps:Array aP):List Nat->List Int->Prop
 |[],[]=>True
 |s::r,z::zs=>(0<=z/\z<=1)/\(∀x,tmps[s]?=some x->x= .bool (decide (z=1)))/\FM tmps r zs
 |_,_=>False
def Dg (w0:dX) (w:aE) (tmps:Array aP) (F:Nat->Prop):List (Nat×List aL×bh)->List Int->Prop
 |[],[]=>True
 |(s,sh,e)::r,code::len::cap::zs=>∃g:Nat,(∀x,tmps[s]?=some x->x=if cap<0 then .slice none 0 0 else .slice (some ⟨g,0,none⟩) len.toNat cap.toNat)/\Fs 0 0 len cap/\(0<=code/\code<=bN)/\(cap<0->ah code=[])/\
    (0<=cap->∃cells:Array aP,w.heap[g]?=some (.cells cells e (0,0))/\mU cells 0 sh (ah code)/\cells.size=cap.toNat*sh.length/\w0.b.heap.size<=g/\(w0.ex g∨w0.r.heap.size<=g))/\
    (0<=cap->F g)/\Dg w0 w tmps (λlk=>F lk/\(0<=cap->lk≠g)) r zs
 |_,_=>False
theorem UW {nb:Nat} {tm:List V} {m:Nat->Nat} {tmps:Array aP}:∀{l:List Nat} {n:Nat} {ρ:Env},ef n nb ρ m tm tmps->az S L (Jp tm l) n ρ λaa n' ls=>(∀x∈ls,I.bD n' x)/\ls.length=l.length/\FM tmps l (ls.map (·.den aa))
 |[],n,ρ,aA=>az.pure ⟨λ_ h=>by simp at h,rfl,trivial⟩
 |s::r,n,ρ,aA=>by
  unfold Jp
  split
  ·rename_i e hs
   obtain⟨h1,x,h2,h3⟩:=aA.2 s _ hs
   have h3:x= .bool (e.den ρ):=h3
   have key:az S L (match e with| .lit v=>pure (I.const (cond v 1 0))|e=>EH e) n ρ λaa n' l=>l.bD n'/\(0<=l.den aa/\l.den aa<=1)/\e.den ρ=decide (l.den aa=1):=by
    cases e with
    |lit v=>cases v<;>exact az.pure ⟨I.c5 _ _,by simp only[I.bg];decide,by simp only[I.bg,bw.den];rfl⟩
    |_=>exact Pu
   refine key.bind λaJ aT l hn ha ⟨g1,g2,g3⟩=>(UW (l:=r) (aA.ext ha hn (bL _) (λ_ _=>rfl))).bind λbR eF ls eL dz ⟨k1,k2,k3⟩=>az.pure ⟨λy hy=>?_,by simp[k2],?_⟩
   ·rcases List.mem_cons.1 hy with rfl|hy
    ·exact g1.mono eL
    ·exact k1 y hy
   ·have aw:=I.bX dz g1
    simp only[cQ,FM,aw]
    refine⟨g2,λy hy=>?_,k3⟩
    rw[h2]at hy
    cases hy
    rw[h3,g3]
  ·exact az.fail
theorem JW {nb:Nat} {m:Nat->Nat} {tmps:Array aP}:∀{l:List (Nat×Int×Int)} {tm:List V} {n:Nat} {ρ:Env},ef n nb ρ m tm tmps->az S L (D0 l tm) n ρ λaa n' cr=>ef n' nb aa m cr tmps
 |[],tm,n,ρ,aA=>az.pure aA
 |(s,lo,hi)::r,tm,n,ρ,aA=>by
  unfold D0
  split
  ·rename_i k x hs
   cases hc:(decide (lo<=x.lo)&&decide (x.hi<=hi))with
   |true=>simp only[cond_true];exact JW aA
   |false=>
    simp only[cond_false]
    refine iM λab=>?_
    simp only[cQ,e3,au,I.bg]at ab
    obtain⟨h1,y,h2,h3⟩:=aA.2 s _ hs
    have h1:x.ok n ρ:=h1
    exact JW (aA.set (v:= .w (.one (.int k ⟨x.l,lo,hi⟩))) ⟨h1.1,ab.1,ab.2⟩ λz hz=>by
     rw[h2]at hz;cases hz;exact h3)
  ·exact JW aA
theorem M6 {n lo:Nat} {ρ:Env} {m:Nat->Nat} {tm:List V} {bl:List aG} {a:Act} {w:aE} (h:R w0 n ρ m tm bl a w):∀{l:List (Nat×List aL×bh)} {used:List Nat} {ls:List I} {u:List Nat},ya lo l tm bl used=some (ls,u)->
 (∀x∈ls,I.bD n x)/\ls.length=(Dw l).length/\(∀b∈used,b∈u)/\(∀b∈u,b∈used∨lo<=b)/\∀F:Nat->Prop,(∀(b:Nat) (p:aG),b∈u->b∉used->bl[b]?=some p->bJ ρ p.1=2->b7 p.1=false->F (m b))->Dg w0 w a.tmps F l (ls.map (·.den ρ))
 |[],used,ls,u,he=>by
  simp only[ya,a7,ek]at he
  obtain⟨rfl,rfl⟩:=he
  exact⟨λ_ h=>by simp at h,rfl,λ_ h=>h,λ_ h=> .inl h,λ_ _=>trivial⟩
 |(s,sh,e)::r,used,ls,u,he=>by
  unfold ya at he
  split at he
  ·rename_i hs
   split at he
   ·rename_i l1 nU hr
    simp only[a7,ek]at he
    obtain⟨rfl,rfl⟩:=he
    obtain⟨g1,g2,g3,g4,g5⟩:=M6 h hr
    refine⟨λx hx=>?_,by simp[Dw]at g2⊢;omega,g3,g4,λF hF=>⟨0,λx hx=>?_,?_,?_,?_,?_,?_,?_⟩⟩
    ·simp only[mL]at hx
     rcases hx with rfl|rfl|rfl|hx
     ·exact I.c5 _ _
     ·exact I.c5 _ _
     ·exact I.c5 _ _
     ·exact g1 x hx
    ·obtain⟨_,y,h2,h3⟩:=h.t.2 s _ hs
     rw[h2]at hx;cases hx
     have oT:(I.const (-1)).den ρ<0:=by rw[I.bg];decide
     simp only[oT,if_true]
     exact h3
    ·simp only[I.bg];exact⟨⟨by omega,by omega,by omega,by omega⟩,⟨by omega,by omega⟩,λ_=>rfl,λh=>by omega⟩
    ·simp only[I.bg];exact⟨cL _,Bl (ja []) (rK (l:=[]) (by simp) (by simp))⟩
    ·intro _;simp only[I.bg];exact k6
    ·simp only[I.bg];intro h;omega
    ·simp only[I.bg];intro h;omega
    ·refine g5 _ λb p hb hu aQ ab ax=>⟨hF b p hb hu aQ ab ax,?_⟩
     simp only[I.bg];intro h;omega
   ·cases he
  ·rename_i b bq o ro len cap hs
   split at he
   ·rename_i fh off code eE kind t aQ
    cases hc:(qS sh fh&&aK kind 2&&I.beq o (.const 0)&&I.beq off (.const 0)&&I.beq ro (.const 0)&&I.beq cap eE&&aK t.1 e&&aK bq sh.length&&cx lo b&& !(used.any (aK b)))with
    |false=>rw[hc]at he;cases he
    |true=>
     rw[hc]at he
     simp only[cond_true]at he
     split at he
     ·rename_i l1 nU hr
      simp only[a7,ek]at he
      obtain⟨rfl,rfl⟩:=he
      simp only[bo]at hc
      obtain⟨⟨⟨⟨⟨⟨⟨⟨⟨c1,bH⟩,cp⟩,cR⟩,eO⟩,gI⟩,nz⟩,mX⟩,qx⟩,r8⟩:=hc
      have c1:=C6 c1;have bH:=bO bH;have cp:=I.beq_eq cp;have cR:=I.beq_eq cR;have eO:=I.beq_eq eO;have gI:=I.beq_eq gI
      have nz:=bO nz;have mX:=bO mX;have qx:=e8 qx
      have as6:b∉used:=λhb=>by
       have:used.any (aK b)=true:=List.any_eq_true.2 ⟨b,hb,FB b⟩
       rw[this]at r8;cases r8
      subst c1;subst bH;subst cp;subst cR;subst eO;subst gI;subst nz;subst mX
      obtain⟨g1,g2,g3,g4,g5⟩:=M6 h hr
      obtain⟨bV,y,h2,h3⟩:=h.t.2 s _ hs
      have bV:(A.sl b sh.length (.const 0) (.const 0) len cap).ok n bl.length ρ:=bV
      obtain⟨ai,⟨af,ar,cN,ia⟩,iR⟩:=bV
      simp only[I.bg]at iR
      have fu:(A.rows sh (.const 0) code cap 2).ok n bl.length ρ:=h.b _ (eD aQ) _ (by simp)
      obtain⟨⟨r1,r2,gn⟩,k5,aC⟩:=fu
      have m3:=h.bB.rws b sh (.const 0) code cap 2 t aQ (by decide)
      refine⟨λx hx=>?_,by simp[Dw]at g2⊢;omega,λb' mj=>g3 b' (dU _ mj),λb' mj=>?_,λF hF=>⟨m b,λx hx=>?_,iR,k5,m3.1,λh0=>?_,λh0=>?_,?_⟩⟩
      ·simp only[mL]at hx
       rcases hx with rfl|rfl|rfl|hx
       ·exact r2
       ·exact cN
       ·exact ia
       ·exact g1 x hx
      ·rcases g4 b' mj with h5|h5
       ·rcases List.mem_cons.1 h5 with rfl|h5
        ·exact .inr qx
        ·exact .inl h5
       ·exact .inr h5
      ·have Xt:y=x:=hV (h2.symm.trans hx)
       subst Xt
       have h3:y=(A.sl b sh.length (.const 0) (.const 0) len cap).den ρ m:=h3
       rw[h3]
       simp only[A.den,I.bg]
       split<;>simp
      ·obtain⟨_,cells,km,fz,k1,⟨k2,k3⟩,k4⟩:=m3.2 h0
       obtain⟨CE,sc,w4,PL,au7,au8⟩:=k4 (by decide)
       subst CE
       have w4:=w4.two
       subst w4
       rw[I.bg]at k3
       exact⟨cells,k1,k3,PL,au7,au8⟩
      ·exact hF b _ (g3 b (by simp)) as6 aQ (tA (by decide) h0) rfl
      ·refine g5 _ λb' p mj hu agx ab ax=>⟨hF b' p mj (λh=>hu (dU _ h)) agx ab ax,λh0=>?_⟩
       have mZ:bJ ρ [A.rows sh (.const 0) code cap 2]=2:=tA (by decide) h0
       exact h.bB.ne agx aQ (by rw[ab];exact bL 2) (by simp only[mZ];decide) λe=>hu (by simp[e])
     ·cases he
   ·cases he
  ·cases he
theorem QL {c:List A} (h:b7 c=false):∃sh off code cap k,c=[.rows sh off code cap k]:=by
 unfold b7 at h
 split at h
 ·exact⟨_,_,_,_,_,rfl⟩
 ·cases h
theorem X8 {n:Nat} {ρ:Env} {m:Nat->Nat} {tm:List V} {a:Act} {w:aE}:∀{us:List Nat} {bl:List aG},R w0 n ρ m tm bl a w->R w0 n ρ m tm (nN us bl) a w/\(nN us bl).length=bl.length/\∀(i:Nat) (p:aG),(nN us bl)[i]?=some p->(bl[i]?=some p/\(i∈us->b7 p.1=true∨bJ ρ p.1=0))∨bJ ρ p.1=0
 |[],bl,h=>⟨h,rfl,λi p hp=> .inl ⟨hp,λh=>by simp at h⟩⟩
 |b::r,bl,h=>by
  unfold nN
  split
  ·rename_i sh off code cap k t aQ
   obtain⟨g1,g2,g3⟩:=X8 (us:=r) (h.kill aQ)
   refine⟨g1,by rw[g2,j2],λi p hp=>?_⟩
   rcases g3 i p hp with⟨g4,g5⟩|g4
   ·by_cases jV:i=b
    ·subst jV
     rw[kE,alX (List.getElem?_eq_some_iff.1 aQ).1]at g4
     cases g4
     exact .inr (by simp[bJ])
    ·rw[kE,abv (λe=>jV e.symm)]at g4
     exact .inl ⟨g4,λhi=>g5 (by simpa [jV]using hi)⟩
   ·exact .inr g4
  ·rename_i kz
   obtain⟨g1,g2,g3⟩:=X8 (us:=r) h
   refine⟨g1,g2,λi p hp=>?_⟩
   rcases g3 i p hp with⟨g4,g5⟩|g4
   ·refine .inl ⟨g4,λhi=>?_⟩
    rcases List.mem_cons.1 hi with rfl|hi
    ·cases ax:b7 p.1 with
     |true=>exact .inl rfl
     |false=>
      exfalso
      obtain⟨c,t⟩:=p
      obtain⟨sh,off,code,cap,k,rfl⟩:=QL ax
      exact kz _ _ _ _ _ _ g4
    ·exact g5 hi
   ·exact .inr g4
theorem agH {N:Nat} {bR:Env} {m:Nat->Nat} {bl:List aG} {a:Act} {w:aE}:∀{l:List Nat} {zs:List Int} {v:Nat} {tm:List V},R w0 N bR m tm bl a w->FM a.tmps l zs->(∀j,j<zs.length->bR (v+j)=zs.getD j 0)->v+zs.length<=N->R w0 N bR m (wT l v tm) bl a w
 |[],[],v,tm,h,_,_,_=>h
 |s::r,z::zs,v,tm,h,hb,hv,cF=>by
  unfold wT
  have h0:=hv 0 (by simp)
  simp only[mM,iU]at h0
  simp only[jd]at cF
  refine agH (l:=r) (zs:=zs) ⟨ef.set h.t ?_ λx hx=>?_,h.d,h.b,h.bB⟩ hb.2.2 (λj aI=>by
   have:=hv (j+1) (by simpa using aI)
   rw[show v+1+j=v+(j+1) by omega];simpa using this) (by omega)
  ·exact⟨I.fg (by omega),I.c5 _ _⟩
  ·rw[hb.2.1 x hx]
   simp[V.rel,W.den,A.den,bw.den,I.cE,I.bg,h0]
 |[],_::_,_,_,_,h,_,_=>h.elim
 |_::_,[],_,_,_,h,_,_=>h.elim
theorem agG {N:Nat} {bR:Env} {a:Act} {w:aE}:∀{l:List (Nat×List aL×bh)} {zs:List Int} {v:Nat} {tm:List V} {bl:List aG} {m:Nat->Nat} {F:Nat->Prop},R w0 N bR m tm bl a w->Dg w0 w a.tmps F l zs->(∀g,F g->∀(i:Nat) (p:aG),bl[i]?=some p->m i=g->bJ bR p.1=0)->
 (∀j,j<zs.length->bR (v+j)=zs.getD j 0)->v+zs.length<=N->∃eQ,(∀b,b<bl.length->eQ b=m b)/\bl.length<=(tp l v tm bl).2.length/\R w0 N bR eQ (tp l v tm bl).1 (tp l v tm bl).2 a w
 |[],[],v,tm,bl,m,F,h,_,_,_,_=>⟨m,λ_ _=>rfl,bL _,h⟩
 |(s,sh,e)::r,code::len::cap::zs,v,tm,bl,m,F,h,hf,hF,hv,cF=>by
  obtain⟨g,f1,f2,f3,f4,f5,f6,f7⟩:=hf
  have v0:=hv 0 (by simp)
  have v1:=hv 1 (by simp)
  have v2:=hv 2 (by simp)
  simp only[iU,j4,mM]at v0 v1 v2
  simp only[jd]at cF
  have hc:(-1:Int)<=cap/\cap<=9223372036854775807:=⟨f2.2.1.1,by have:=f2.2.1.2;omega⟩
  have aM:(A.rows sh (.const 0) (.var v) (.var (v+2)) 2).ok N bl.length bR:=⟨⟨I.c5 _ _,I.fg (by omega),I.fg (by omega)⟩,by rw[I.cE,v0];exact f3,by rw[I.cE,v2];exact hc⟩
  have mY:=h.bB.push (x:=([.rows sh (.const 0) (.var v) (.var (v+2)) 2],(e,false))) (g:=g) h.b (λy hy=>by simp at hy;subst hy;exact aM) (λax=>by cases ax) (λfh jB code' jw p1 he=>by
   cases he
   intro _
   simp only[I.cE,v0,v2,I.bg]
   refine⟨f4,λh0=>?_⟩
   obtain⟨cells,k1,k2,k3,k4,sc⟩:=f5 h0
   exact⟨sc.elim .inl λh=> .inr (.inr h),cells,e,(0,0),k1,⟨cL _,k2⟩,λ_=>⟨rfl,by trivial,.Le,k3,k4,sc⟩⟩) (λi p hi he=>by
   rcases kI cap 0 with h0|h0
   ·refine .inr (.inr ?_)
    simp only[bJ,I.cE,v2]
    rw[if_pos h0]
   ·exact .inr (.inl (hF g (f6 h0) i p hi he)))
  have dB:=en.alloc N bR m bl ([A.rows sh (.const 0) (.var v) (.var (v+2)) 2],(e,false)) g
  have hR:R w0 N bR (lC m bl.length g) (ui tm s (.w (.one (.sl bl.length sh.length (.const 0) (.const 0) (.var (v+1)) (.var (v+2)))))) (bl++[([.rows sh (.const 0) (.var v) (.var (v+2)) 2],(e,false))]) a w:=by
   refine⟨ef.set (h.t.ext dB.ha dB.hn dB.hb dB.hm) ?_ λx hx=>?_,h.d,h.b.alloc (λy hy=>by simp at hy;subst hy;exact aM),mY⟩
   ·refine⟨by simp,⟨I.c5 _ _,I.c5 _ _,I.fg (by omega),I.fg (by omega)⟩,?_⟩
    simp only[I.bg,I.cE,v1,v2];exact f2
   ·rw[f1 x hx]
    simp only[V.rel,W.den,A.den,I.bg,I.cE,v1,v2,nf]
    split<;>simp
  obtain⟨eQ,bb,b0,cv⟩:=agG (l:=r) (zs:=zs) (v:=v+3) hR f7 (λlk yB i p hi he=>by
   rw[Mx]at hi
   split at hi
   ·rename_i iP
    rw[mG iP]at he
    exact hF lk yB.1 i p hi he
   ·have iP:=(List.getElem?_eq_some_iff.1 hi).1
    have:i=bl.length:=by simp at iP;omega
    subst this
    simp only[Nat.sub_self,uz,a7]at hi
    subst hi
    rw[nf]at he
    rcases kI cap 0 with h0|h0
    ·simp only[bJ,I.cE,v2]
     rw[if_pos h0]
    ·exact absurd he.symm (yB.2 h0)) (λj aI=>by
   have:=hv (j+3) (by simp only[jd];omega)
   rw[show v+3+j=v+(j+3) by omega];simpa using this) (by omega)
  simp only[fc,jd,n0]at bb b0
  exact⟨eQ,λb hb=>by rw[bb b (by omega)];exact mG hb,by unfold tp;omega,by unfold tp;exact cv⟩
 |[],_::_,_,_,_,_,_,_,h,_,_,_=>h.elim
 |_::_,[],_,_,_,_,_,_,h,_,_,_=>h.elim
 |_::_,[_],_,_,_,_,_,_,h,_,_,_=>h.elim
 |_::_,[_,_],_,_,_,_,_,_,h,_,_,_=>h.elim
theorem ahG {tmps:Array aP}:∀{l:List Nat} {zs:List Int},FM tmps l zs->ag (Np l) zs
 |[],[],_=>trivial
 |s::r,z::zs,h=>⟨h.1.1,h.1.2,ahG h.2.2⟩
 |[],_::_,h=>h.elim
 |_::_,[],h=>h.elim
theorem ahF {w:aE} {tmps:Array aP}:∀{l:List (Nat×List aL×bh)} {zs:List Int} {F:Nat->Prop},Dg w0 w tmps F l zs->ag (Dw l) zs
 |[],[],_,_=>trivial
 |(s,sh,e)::r,code::len::cap::zs,F,⟨g,f1,f2,f3,f4,f5,f6,f7⟩=>⟨f3.1,f3.2,f2.1.2.2.1,f2.1.2.2.2,f2.2.1.1,by have:=f2.2.1.2;omega,ahF f7⟩
 |[],_::_,_,h=>h.elim
 |_::_,[],_,h=>h.elim
 |_::_,[_],_,h=>h.elim
 |_::_,[_,_],_,h=>h.elim
theorem Mem.ZS {n:Nat} {ρ:Env} {m:Nat->Nat} {bl:List aG} {w:aE} {b c:Nat} {C:List A} {sh:List aL} {code:I} {t:bh×Bool} (h:Mem w0 ρ m bl w) (aQ:bl[b]?=some (C,t)) (ax:b7 C=true) (aA:t.2=false)
 (j8:∀row∈ah (code.den ρ),cw sh row) (j6:b2 sh (ah (code.den ρ))=C.map (A.den ρ m)) (hlen:C.length=c*sh.length):Mem w0 ρ m (dE bl b ([.rows sh (.const 0) code (.const c) 2],t)) w:=by
 have q8:b<bl.length:=(List.getElem?_eq_some_iff.1 aQ).1
 obtain⟨bb,b0,r,hr,cv⟩:=h.fe b C t aQ ax
 have hr:=hr aA
 subst hr
 rw[fY]at cv
 have dN:∀(i:Nat) (p:aG),(dE bl b ([.rows sh (.const 0) code (.const c) 2],t))[i]?=some p->(i=b/\p=([.rows sh (.const 0) code (.const c) 2],t))∨(i≠b/\bl[i]?=some p):=λi p hi=>by
  rw[kE,sI]at hi
  split at hi
  ·rename_i gZ
   subst gZ
   simp only[q8,if_true,a7]at hi
   exact .inl ⟨rfl,hi.symm⟩
  ·rename_i gZ;exact .inr ⟨λe=>gZ e.symm,hi⟩
 have oY:bJ ρ [.rows sh (.const 0) code (.const c) 2]=2:=tA (by decide) (by rw[I.bg];omega)
 refine⟨h.ext,h.iZ,h.kA,h.j7,h.gj,h.iO,λi jT t' hi jj=>?_,λi fh jB code' jw p1 t' hi=>?_,λi j p q hi aI he=>?_⟩
 ·rcases dN i _ hi with⟨rfl,dJ⟩|⟨cW,hi⟩
  ·cases dJ;cases jj
  ·exact h.fe i jT t' hi jj
 ·rcases dN i _ hi with⟨rfl,dJ⟩|⟨cW,hi⟩
  ·cases dJ
   intro _
   simp only[I.bg]
   refine⟨λh0=>by omega,λ_=>⟨b0.elim .inl λh=> .inr (.inr h),_,_,_,cv,⟨cL _,j8,[],[],by simp[j6],rfl⟩,λ_=>⟨rfl,by trivial,.Le,by simp[hlen],bb,b0⟩⟩⟩
  ·exact h.rws i fh jB _ jw p1 t' hi
 ·have ab:∀(i:Nat) (p:aG),(dE bl b ([.rows sh (.const 0) code (.const c) 2],t))[i]?=some p->∃dc,bl[i]?=some dc/\bJ ρ dc.1=bJ ρ p.1:=λi p hi=>by
   rcases dN i _ hi with⟨rfl,dJ⟩|⟨cW,hi⟩
   ·exact⟨_,aQ,by rw[dJ];simp only[oY,lv ax]⟩
   ·exact⟨p,hi,rfl⟩
  obtain⟨dc,hp,ep⟩:=ab i p hi
  obtain⟨eA,aj,eq⟩:=ab j q aI
  rw[<-ep,<-eq]
  exact h.inj i j dc eA hp aj he
theorem ZT {m:Nat->Nat} {tm:List V} {a:Act} {w:aE}:∀{l:List (Nat×List aL×Nat)} {bl:List aG} {n:Nat} {ρ:Env},R w0 n ρ m tm bl a w->az S L (L0 l bl) n ρ λaa n' bj=>R w0 n' aa m tm bj a w/\bj.length=bl.length
 |[],bl,n,ρ,h=>az.pure ⟨h,rfl⟩
 |(b,sh,c)::r,bl,n,ρ,h=>by
  unfold L0
  split
  ·rename_i C t aQ
   cases ax:b7 C with
   |false=>simp only[cond_false];exact ZT h
   |true=>
    simp only[cond_true]
    refine dY λhc=>?_
    simp only[bo]at hc
    obtain⟨⟨⟨c1,bH⟩,cp⟩,cR⟩:=hc
    have c1:t.2=false:=by simpa using c1
    have bH:=bO bH
    have cR:=e8 cR
    have bV:∀x∈C,A.ok n bl.length ρ x:=h.b _ (eD aQ)
    have ml:=Jx (w:=sh.length) (k:=c) bH
    have e5:ah ((I.const 0).den ρ)=[]:=by rw[I.bg];exact k6
    have hz:(0:Int)<=bN:=Bl (ja []) (rK (l:=[]) (by simp) (by simp))
    refine(Ji (nb:=bl.length) (m:=m) cp (rs:=oS sh.length c C) (c:= .const 0) (λrow hr x hx=>bV x (Jy row hr x hx)) (I.c5 _ _) (by rw[I.bg];exact⟨cL _,hz⟩) (by rw[e5];intro _ h;simp at h) (by rw[e5,ml.1];simp;omega)).bind λaJ aT code gi eK ⟨cm,cl,dT,c3,e0,fb,gm⟩=>?_
    rw[e5,e2]at c3
    have h1:=h.later gi eK
    have W0:C.map (A.den aJ m)=C.map (A.den ρ m):=vp bV eK (λ_ _=>rfl)
    have mY:=h1.bB.ZS (n:=aT) (c:=c) (sh:=sh) (code:=code) aQ ax c1 (by rw[c3];exact fb) (by rw[c3,gm,ml.2,W0]) bH
    have nF:cM aT (dE bl b ([.rows sh (.const 0) code (.const c) 2],t)).length aJ (dE bl b ([.rows sh (.const 0) code (.const c) 2],t)):=h1.b.set (λy hy=>by
     have hy:y= .rows sh (.const 0) code (.const c) 2:=by simpa using hy
     subst hy
     exact⟨⟨I.c5 _ _,cm,I.c5 _ _⟩,cl,by rw[I.bg];omega⟩)
    have hR:R w0 aT aJ m tm (dE bl b ([.rows sh (.const 0) code (.const c) 2],t)) a w:=⟨by rw[j2];exact h1.t,h1.d,nF,mY⟩
    exact(ZT (l:=r) hR).mono λbR eF pQ _ _ ⟨g1,g2⟩=>⟨g1,by rw[g2,j2]⟩
  ·exact az.fail
theorem natsM_holds {G:ev} {FJ:Unit->Nat->T}:∀{k n:Nat} {ρ:Env} {offs:List Int},(Qz k n FJ).holds S L G ρ->offs.length=k->(∀z∈offs,0<=z)->(FJ () (n+k)).holds S L G (bI ρ n offs)
 |0,n,ρ,[],h,_,_=>h
 |k+1,n,ρ,z::zs,h,hl,h0=>by
  have h1:(Qz k (n+1) FJ).holds S L G (de ρ n z):=h z (h0 z (by simp))
  have:=natsM_holds (offs:=zs) h1 (by simpa using hl) λy hy=>h0 y (dU _ hy)
  rw[show n+(k+1)=n+1+k by omega];exact this
 |0,_,_,_::_,_,hl,_=>by simp at hl
 |_+1,_,_,[],_,hl,_=>by simp at hl
def sO (w0:dX) (w:aE) (tmps:Array aP) (F:Nat->Prop):List (Nat×List aL)->List Nat->List Int->List Int->Prop
 |[],[],[],[]=>True
 |(s,sh)::r,g::gs,o::os,code::len::cap::zs=>(∀x,tmps[s]?=some x->x=if cap<0 then .slice none 0 0 else .slice (some ⟨g,o.toNat,none⟩) len.toNat cap.toNat)/\Fs o 0 len cap/\(0<=code/\code<=bN)/\(cap<0->ah code=[])/\
    (0<=cap->(w0.ex g∨w0.ro g∨w0.r.heap.size<=g)/\∃(cells:Array aP) (t:bh) (fz:Nat×Nat),w.heap[g]?=some (.cells cells t fz)/\mU cells o.toNat sh (ah code))/\
    (0<=cap->F g)/\sO w0 w tmps F r gs os zs
 |_,_,_,_=>False
theorem sO.len {w:aE} {tmps:Array aP} {F:Nat->Prop}:∀{l:List (Nat×List aL)} {gs:List Nat} {os zs:List Int},sO w0 w tmps F l gs os zs->os.length=l.length/\∀z∈os,0<=z
 |[],[],[],[],_=>⟨rfl,λ_ h=>by simp at h⟩
 |(s,sh)::r,g::gs,o::os,code::len::cap::zs,h=>by
  obtain⟨_,h2,_,_,_,_,h7⟩:=h
  obtain⟨i1,i2⟩:=sO.len h7
  exact⟨by simp[i1],λz hz=>by
   rcases List.mem_cons.1 hz with rfl|hz
   ·exact h2.1.1
   ·exact i2 z hz⟩
 |_::_,[],_,_,h=>h.elim
 |_::_,_::_,[],_,h=>h.elim
 |_::_,_::_,_::_,[],h=>h.elim
 |_::_,_::_,_::_,[_],h=>h.elim
 |_::_,_::_,_::_,[_,_],h=>h.elim
 |[],_::_,_,_,h=>h.elim
 |[],[],_::_,_,h=>h.elim
 |[],[],[],_::_,h=>h.elim
theorem ahH {w:aE} {tmps:Array aP} {F:Nat->Prop}:∀{l:List (Nat×List aL)} {gs:List Nat} {os zs:List Int},sO w0 w tmps F l gs os zs->ag (Fe l) zs
 |[],[],[],[],_=>trivial
 |(s,sh)::r,g::gs,o::os,code::len::cap::zs,⟨f1,f2,f3,f4,f5,f6,f7⟩=>⟨f3.1,f3.2,f2.1.2.2.1,f2.1.2.2.2,f2.2.1.1,by have:=f2.2.1.2;omega,ahH f7⟩
 |_::_,[],_,_,h=>h.elim
 |_::_,_::_,[],_,h=>h.elim
 |_::_,_::_,_::_,[],h=>h.elim
 |_::_,_::_,_::_,[_],h=>h.elim
 |_::_,_::_,_::_,[_,_],h=>h.elim
 |[],_::_,_,_,h=>h.elim
 |[],[],_::_,_,h=>h.elim
 |[],[],[],_::_,h=>h.elim
theorem Q0 {n:Nat} {ρ:Env} {m:Nat->Nat} {tm:List V} {bl:List aG} {a:Act} {w:aE} (h:R w0 n ρ m tm bl a w):∀{l:List (Nat×List aL)} {ls:List I},Ff l tm bl=some ls->
 (∀x∈ls,I.bD n x)/\ls.length=(Fe l).length/\∃gs os,sO w0 w a.tmps (λg=>∃(i:Nat) (p:aG),bl[i]?=some p/\m i=g/\bJ ρ p.1=1) l gs os (ls.map (·.den ρ))
 |[],ls,he=>by
  simp only[Ff,a7]at he
  subst he
  exact⟨λ_ h=>by simp at h,rfl,[],[],trivial⟩
 |(s,sh)::r,ls,he=>by
  unfold Ff at he
  split at he
  ·rename_i hs
   split at he
   ·rename_i l1 hr
    simp only[a7]at he
    subst he
    obtain⟨g1,g2,gs,os,g3⟩:=Q0 h hr
    refine⟨λx hx=>?_,by simp[Fe]at g2⊢;omega,0::gs,0::os,λx hx=>?_,?_,?_,?_,?_,?_,g3⟩
    ·simp only[mL]at hx
     rcases hx with rfl|rfl|rfl|hx
     ·exact I.c5 _ _
     ·exact I.c5 _ _
     ·exact I.c5 _ _
     ·exact g1 x hx
    ·obtain⟨_,y,h2,h3⟩:=h.t.2 s _ hs
     rw[h2]at hx;cases hx
     have oT:(I.const (-1)).den ρ<0:=by rw[I.bg];decide
     simp only[oT,if_true]
     exact h3
    ·simp only[I.bg];exact⟨⟨by omega,by omega,by omega,by omega⟩,⟨by omega,by omega⟩,λ_=>rfl,λh=>by omega⟩
    ·simp only[I.bg];exact⟨cL _,Bl (ja []) (rK (l:=[]) (by simp) (by simp))⟩
    ·intro _;simp only[I.bg];exact k6
    ·simp only[I.bg];intro h;omega
    ·simp only[I.bg];intro h;omega
   ·cases he
  ·rename_i b bq o ro len cap hs
   split at he
   ·rename_i fh off code eE kind t aQ
    cases hc:(qS sh fh&&aK kind 1&&I.beq o off&&I.beq ro (.const 0)&&I.beq cap eE&&aK bq sh.length)with
    |false=>rw[hc]at he;cases he
    |true=>
     rw[hc]at he
     simp only[cond_true]at he
     split at he
     ·rename_i l1 hr
      simp only[a7]at he
      subst he
      simp only[bo]at hc
      obtain⟨⟨⟨⟨⟨c1,bH⟩,cp⟩,cR⟩,eO⟩,gI⟩:=hc
      have c1:=C6 c1;have bH:=bO bH;have cp:=I.beq_eq cp;have cR:=I.beq_eq cR;have eO:=I.beq_eq eO;have gI:=bO gI
      subst c1;subst bH;subst cp;subst cR;subst eO;subst gI
      obtain⟨g1,g2,gs,os,g3⟩:=Q0 h hr
      obtain⟨bV,y,h2,h3⟩:=h.t.2 s _ hs
      have bV:(A.sl b sh.length o (.const 0) len cap).ok n bl.length ρ:=bV
      obtain⟨ai,⟨af,ar,cN,ia⟩,iR⟩:=bV
      simp only[I.bg]at iR
      have fu:(A.rows sh o code cap 1).ok n bl.length ρ:=h.b _ (eD aQ) _ (by simp)
      obtain⟨⟨r1,r2,gn⟩,k5,aC⟩:=fu
      have m3:=h.bB.rws b sh o code cap 1 t aQ (by decide)
      refine⟨λx hx=>?_,by simp[Fe]at g2⊢;omega,m b::gs,o.den ρ::os,λx hx=>?_,iR,k5,m3.1,λh0=>?_,λh0=>?_,g3⟩
      ·simp only[mL]at hx
       rcases hx with rfl|rfl|rfl|hx
       ·exact r2
       ·exact cN
       ·exact ia
       ·exact g1 x hx
      ·have Xt:y=x:=hV (h2.symm.trans hx)
       subst Xt
       have h3:y=(A.sl b sh.length o (.const 0) len cap).den ρ m:=h3
       rw[h3]
       simp only[A.den,I.bg]
       split<;>simp
      ·obtain⟨eB,cells,km,fz,k1,⟨k2,k3⟩,k4⟩:=m3.2 h0
       exact⟨eB,cells,km,fz,k1,k3⟩
      ·exact⟨b,_,aQ,rfl,tA (by decide) h0⟩
     ·cases he
   ·cases he
  ·cases he
theorem sO.mono {w:aE} {tmps:Array aP} {F Bv:Nat->Prop} (hF:∀g,F g->Bv g):∀{l:List (Nat×List aL)} {gs:List Nat} {os zs:List Int},sO w0 w tmps F l gs os zs->sO w0 w tmps Bv l gs os zs
 |[],[],[],[],_=>trivial
 |(s,sh)::r,g::gs,o::os,code::len::cap::zs,⟨f1,f2,f3,f4,f5,f6,f7⟩=>⟨f1,f2,f3,f4,f5,λh=>hF g (f6 h),sO.mono hF f7⟩
 |_::_,[],_,_,h=>h.elim
 |_::_,_::_,[],_,h=>h.elim
 |_::_,_::_,_::_,[],h=>h.elim
 |_::_,_::_,_::_,[_],h=>h.elim
 |_::_,_::_,_::_,[_,_],h=>h.elim
 |[],_::_,_,_,h=>h.elim
 |[],[],_::_,_,h=>h.elim
 |[],[],[],_::_,h=>h.elim
theorem Uo {lo:Nat} {tm:List V} {bl:List aG}:∀{l:List (Nat×List aL×bh)} {used:List Nat} {ls:List I} {u:List Nat},ya lo l tm bl used=some (ls,u)->∀b∈u,b∈used∨∃sh off code cap t,bl[b]?=some ([.rows sh off code cap 2],t)
 |[],used,ls,u,he=>by
  simp only[ya,a7,ek]at he
  obtain⟨rfl,rfl⟩:=he
  exactλb hb=> .inl hb
 |(s,sh,e)::r,used,ls,u,he=>by
  unfold ya at he
  split at he
  ·split at he
   ·rename_i l1 nU hr
    simp only[a7,ek]at he
    obtain⟨rfl,rfl⟩:=he
    exact Uo hr
   ·cases he
  ·rename_i b bq o ro len cap hs
   split at he
   ·rename_i fh off code eE kind t aQ
    cases hc:(qS sh fh&&aK kind 2&&I.beq o (.const 0)&&I.beq off (.const 0)&&I.beq ro (.const 0)&&I.beq cap eE&&aK t.1 e&&aK bq sh.length&&cx lo b&& !(used.any (aK b)))with
    |false=>rw[hc]at he;cases he
    |true=>
     rw[hc]at he
     simp only[cond_true]at he
     split at he
     ·rename_i l1 nU hr
      simp only[a7,ek]at he
      obtain⟨rfl,rfl⟩:=he
      simp only[bo]at hc
      obtain⟨⟨⟨⟨⟨⟨⟨⟨⟨c1,bH⟩,cp⟩,cR⟩,eO⟩,gI⟩,nz⟩,mX⟩,qx⟩,r8⟩:=hc
      have bH:=bO bH
      subst bH
      intro b' mj
      rcases Uo hr b' mj with h5|h5
      ·rcases List.mem_cons.1 h5 with rfl|h5
       ·exact .inr ⟨_,_,_,_,_,aQ⟩
       ·exact .inl h5
      ·exact .inr h5
     ·cases he
   ·cases he
  ·cases he
theorem X7 {i:Nat} {p:aG}:∀{us:List Nat} {bl:List aG},bl[i]?=some p->i∉us->(nN us bl)[i]?=some p
 |[],bl,h,_=>h
 |b::r,bl,h,hi=>by
  unfold nN
  split
  ·refine X7 ?_ λh=>hi (dU _ h)
   rw[kE,abv (λe=>hi (by simp[e]))];exact h
  ·exact X7 h λh=>hi (dU _ h)
theorem agI {N:Nat} {bR:Env} {a:Act} {w:aE} {F:Nat->Prop}:∀{l:List (Nat×List aL)} {gs:List Nat} {os zs:List Int} {v u:Nat} {tm:List V} {bl:List aG} {m:Nat->Nat},R w0 N bR m tm bl a w->sO w0 w a.tmps F l gs os zs->(∀g,F g->∀(i:Nat) (p:aG),bl[i]?=some p->m i=g->bJ bR p.1<=1)->
 (∀j,j<zs.length->bR (v+j)=zs.getD j 0)->(∀j,j<os.length->bR (u+j)=os.getD j 0)->v+zs.length<=N->u+os.length<=N->
 ∃eQ,(∀b,b<bl.length->eQ b=m b)/\bl.length<=(headD l v u tm bl).2.length/\R w0 N bR eQ (headD l v u tm bl).1 (headD l v u tm bl).2 a w/\∀(i:Nat) (p:aG),(headD l v u tm bl).2[i]?=some p->(i<bl.length/\bl[i]?=some p)∨(bJ bR p.1≠0->F (eQ i))
 |[],[],[],[],v,u,tm,bl,m,h,_,_,_,_,_,_=>⟨m,λ_ _=>rfl,bL _,h,λi p hp=> .inl ⟨(List.getElem?_eq_some_iff.1 hp).1,hp⟩⟩
 |(s,sh)::r,g::gs,o::os,code::len::cap::zs,v,u,tm,bl,m,h,hf,hF,hv,hu,cF,Wi=>by
  obtain⟨f1,f2,f3,f4,f5,f6,f7⟩:=hf
  have v0:=hv 0 (by simp)
  have v1:=hv 1 (by simp)
  have v2:=hv 2 (by simp)
  have sx:=hu 0 (by simp)
  simp only[iU,j4,mM]at v0 v1 v2 sx
  simp only[jd]at cF Wi
  have hc:(-1:Int)<=cap/\cap<=9223372036854775807:=⟨f2.2.1.1,by have:=f2.2.1.2;omega⟩
  have aM:(A.rows sh (.var u) (.var v) (.var (v+2)) 1).ok N bl.length bR:=⟨⟨I.fg (by omega),I.fg (by omega),I.fg (by omega)⟩,by rw[I.cE,v0];exact f3,by rw[I.cE,v2];exact hc⟩
  have ag0:bJ bR [A.rows sh (.var u) (.var v) (.var (v+2)) 1]<=1:=by
   simp only[bJ]
   split<;>omega
  have mY:=h.bB.push (x:=([.rows sh (.var u) (.var v) (.var (v+2)) 1],(0,false))) (g:=g) h.b (λy hy=>by simp at hy;subst hy;exact aM) (λax=>by cases ax) (λfh jB code' jw p1 he=>by
   cases he
   intro _
   simp only[I.cE,v0,v2,sx]
   refine⟨f4,λh0=>?_⟩
   obtain⟨CE,cells,t,fz,k1,k2⟩:=f5 h0
   exact⟨CE,cells,t,fz,k1,⟨f2.1.1,k2⟩,λc9=>by omega⟩) (λi p hi he=>by
   rcases kI cap 0 with h0|h0
   ·refine .inr (.inr ?_)
    simp only[bJ,I.cE,v2]
    rw[if_pos h0]
   ·exact .inl ⟨hF g (f6 h0) i p hi he,ag0⟩)
  have dB:=en.alloc N bR m bl ([A.rows sh (.var u) (.var v) (.var (v+2)) 1],(0,false)) g
  have hR:R w0 N bR (lC m bl.length g) (ui tm s (.w (.one (.sl bl.length sh.length (.var u) (.const 0) (.var (v+1)) (.var (v+2)))))) (bl++[([.rows sh (.var u) (.var v) (.var (v+2)) 1],(0,false))]) a w:=by
   refine⟨ef.set (h.t.ext dB.ha dB.hn dB.hb dB.hm) ?_ λx hx=>?_,h.d,h.b.alloc (λy hy=>by simp at hy;subst hy;exact aM),mY⟩
   ·refine⟨by simp,⟨I.fg (by omega),I.c5 _ _,I.fg (by omega),I.fg (by omega)⟩,?_⟩
    simp only[I.bg,I.cE,v1,v2,sx];exact f2
   ·rw[f1 x hx]
    simp only[V.rel,W.den,A.den,I.bg,I.cE,v1,v2,sx,nf]
    split<;>simp
  obtain⟨eQ,bb,b0,cv,dK⟩:=agI (F:=F) (l:=r) (gs:=gs) (os:=os) (zs:=zs) (v:=v+3) (u:=u+1) hR f7 (λlk yB i p hi he=>by
   rw[Mx]at hi
   split at hi
   ·rename_i iP
    rw[mG iP]at he
    exact hF lk yB i p hi he
   ·have iP:=(List.getElem?_eq_some_iff.1 hi).1
    have:i=bl.length:=by simp at iP;omega
    subst this
    simp only[Nat.sub_self,uz,a7]at hi
    subst hi
    exact ag0) (λj aI=>by
   have:=hv (j+3) (by simp only[jd];omega)
   rw[show v+3+j=v+(j+3) by omega];simpa using this) (λj aI=>by
   have:=hu (j+1) (by simp only[jd];omega)
   rw[show u+1+j=u+(j+1) by omega];simpa using this) (by omega) (by omega)
  simp only[fc,jd,n0]at bb b0
  refine⟨eQ,λb hb=>by rw[bb b (by omega)];exact mG hb,by unfold headD;omega,by unfold headD;exact cv,λi p hp=>?_⟩
  unfold headD at hp
  rcases dK i p hp with⟨jC,lX⟩|jC
  ·simp only[fc,jd,n0]at jC
   rw[Mx]at lX
   split at lX
   ·rename_i iP;exact .inl ⟨iP,lX⟩
   ·rename_i iP
    have hi:i=bl.length:=by omega
    subst hi
    simp only[Nat.sub_self,uz,a7]at lX
    subst lX
    refine .inr λh0=>?_
    rw[bb bl.length (by omega),nf]
    refine f6 ?_
    rcases kI cap 0 with h1|h1
    ·refine absurd ?_ h0
     simp only[bJ,I.cE,v2]
     rw[if_pos h1]
    ·exact h1
  ·exact .inr jC
 |_::_,[],_,_,_,_,_,_,_,_,h,_,_,_,_,_=>h.elim
 |_::_,_::_,[],_,_,_,_,_,_,_,h,_,_,_,_,_=>h.elim
 |_::_,_::_,_::_,[],_,_,_,_,_,_,h,_,_,_,_,_=>h.elim
 |_::_,_::_,_::_,[_],_,_,_,_,_,_,h,_,_,_,_,_=>h.elim
 |_::_,_::_,_::_,[_,_],_,_,_,_,_,_,h,_,_,_,_,_=>h.elim
 |[],_::_,_,_,_,_,_,_,_,_,h,_,_,_,_,_=>h.elim
 |[],[],_::_,_,_,_,_,_,_,_,h,_,_,_,_,_=>h.elim
 |[],[],[],_::_,_,_,_,_,_,_,h,_,_,_,_,_=>h.elim
theorem agK {li:fH} {n:Nat} {ck aa:Env} {m0 m':Nat->Nat} {tm cr mF A8:List V} {bl bj eN pR:List aG} {l1 l2 v1 v2 eZ fS gA:List I} {b3 b4 FY wA:List (Int×Int)} {n':Nat} {a:Act} {w:aE} {NA ND NN:Nat} {gs:List Nat} {os:List Int}
 (hlen:bl.length<=bj.length)
 (ha:agree n ck aa) (hm:∀b,b<bl.length->m' b=m0 b) (aA:∀v∈tm,V.ok n bl.length ck v) (oX:cM n bl.length ck bl)
 (h:R w0 n' aa m' cr bj a w) (aw:hs li.fR li.ints 0 (n+1) tm=some (mF,l1,b3)) (aF:hb li.cells 0 (n+1+l1.length) bl=some (eN,l2,b4))
 (cb:hs li.fR li.ints 0 (n+1) cr=some (A8,v1,FY)) (gX:hb li.cells 0 (n+1+v1.length) (bj.take bl.length)=some (pR,v2,wA))
 (f1:nE mF A8=true) (f2:nD eN pR=true) (agw:FM a.tmps li.r5 (eZ.map (·.den aa))) (OV:Dg w0 w a.tmps (λg=>(∀(i:Nat) (p:aG),i<bl.length->bj[i]?=some p->m' i=g->bJ aa p.1=0)/\¬∃(i:Nat) (p:aG),bj[i]?=some p/\m' i=g/\bJ aa p.1=1) li.q2 (fS.map (·.den aa)))
 (G8:sO w0 w a.tmps (λg=>∃(i:Nat) (p:aG),bj[i]?=some p/\m' i=g/\bJ aa p.1=1) li.nc gs os (gA.map (·.den aa)))
 (agc:NA=n+1+l1.length+l2.length+eZ.length) (agd:ND=n+1+l1.length+l2.length+(eZ++fS).length) (age:NN=n+1+l1.length+l2.length+(eZ++fS++gA).length):
 ag (b3++b4++(Np li.r5++Dw li.q2++Fe li.nc)) ((v1++v2++(eZ++fS++gA)).map (·.den aa))/\∃eQ,(∀b,b<bl.length->eQ b=m0 b)/\bl.length<=(tp li.q2 NA (headD li.nc ND NN (wT li.r5 (n+1+l1.length+l2.length) mF) eN).1 (headD li.nc ND NN (wT li.r5 (n+1+l1.length+l2.length) mF) eN).2).2.length/\
  R w0 (NN+li.nc.length) (bI (bI ck (n+1) ((v1++v2++(eZ++fS++gA)).map (·.den aa))) NN os) eQ (tp li.q2 NA (headD li.nc ND NN (wT li.r5 (n+1+l1.length+l2.length) mF) eN).1 (headD li.nc ND NN (wT li.r5 (n+1+l1.length+l2.length) mF) eN).2).1 (tp li.q2 NA (headD li.nc ND NN (wT li.r5 (n+1+l1.length+l2.length) mF) eN).1 (headD li.nc ND NN (wT li.r5 (n+1+l1.length+l2.length) mF) eN).2).2 a w:=by
 obtain⟨atW,i1,i2,i3,i4⟩:=agJ (ext:=eZ++fS++gA) hlen ha hm aA oX h aw aF cb gX f1 f2
 obtain⟨atd,aIA⟩:=G8.len
 subst agc;subst agd;subst age
 have GX:∀j,j<(eZ++fS++gA).length->bI ck (n+1) ((v1++v2++(eZ++fS++gA)).map (·.den aa)) (n+1+l1.length+l2.length+j)=((eZ++fS++gA).map (·.den aa)).getD j 0:=λj aI=>by
  rw[show n+1+l1.length+l2.length+j=n+1+(v1.length+v2.length+j) by omega,Iu _ _ _ _ (by simp at aI⊢;omega)]
  rw[iy (l₁:=v1++v2),uA,IS (by simp),uA]
  congr 2
  simp
 generalize aht:bI ck (n+1) ((v1++v2++(eZ++fS++gA)).map (·.den aa))=bR at*
 have tl:agree (n+1+l1.length+l2.length+(eZ++fS++gA).length) bR (bI bR (n+1+l1.length+l2.length+(eZ++fS++gA).length) os):=agree.bI os _ bR
 have auq:=i2.later (IT _ li.nc.length) tl
 have WJ:∀j,j<(eZ++fS++gA).length->bI bR (n+1+l1.length+l2.length+(eZ++fS++gA).length) os (n+1+l1.length+l2.length+j)=((eZ++fS++gA).map (·.den aa)).getD j 0:=λj aI=>by
  rw[<-GX j aI]
  exact(tl _ (by omega))
 have O3:∀(i:Nat) (p:aG),eN[i]?=some p->bJ (bI bR (n+1+l1.length+l2.length+(eZ++fS++gA).length) os) p.1=bJ bR p.1:=λi p hi=>vm (i2.b p (eD hi)) tl
 generalize auf:bI bR (n+1+l1.length+l2.length+(eZ++fS++gA).length) os=hj at*
 have cY:=agH (v:=n+1+l1.length+l2.length) auq agw (λj aI=>by
  simp only[l6]at aI
  rw[WJ j (by simp;omega),kq,iy,uA,xQ (by simpa using aI),uA]) (by simp;omega)
 obtain⟨gB,cm,cl,c3,e0⟩:=agI (v:=n+1+l1.length+l2.length+(eZ++fS).length) (u:=n+1+l1.length+l2.length+(eZ++fS++gA).length) cY G8 (λg hg i p hi he=>by
  obtain⟨g1,dc,g2,g3⟩:=i4 i p hi
  rw[O3 i p hi,g3]
  obtain⟨j,q,bb,b0,cv⟩:=hg
  rcases h.bB.inj i j dc q g2 bb (by rw[b0,<-he,hm i g1])with c9|c9|c9|c9
  ·subst c9
   rw[g2]at bb;cases bb
   omega
  ·exact c9.1
  ·omega
  ·omega) (λj aI=>by
  simp only[l6]at aI
  rw[show n+1+l1.length+l2.length+(eZ++fS).length+j=n+1+l1.length+l2.length+((eZ++fS).length+j) by omega,WJ _ (by simp at aI⊢;omega),iy (l₁:=eZ++fS),uA,IS (by simp),uA]
  congr 2
  simp) (λj aI=>by rw[<-auf,Iu _ _ _ _ aI]) (by simp only[l6,fc];omega) (by rw[atd];exact bL _)
 obtain⟨eQ,bb,b0,cv⟩:=agG (v:=n+1+l1.length+l2.length+eZ.length) c3 OV (λg hg i p hi he=>by
  rcases e0 i p hi with⟨g0,g1⟩|g1
  ·obtain⟨lS,dc,g2,g3⟩:=i4 i p g1
   rw[O3 i p g1,g3]
   exact hg.1 i dc lS g2 (by rw[hm i lS,<-cm i g0];exact he)
  ·by_cases h0:bJ hj p.1=0
   ·exact h0
   ·have:=g1 h0
    rw[he]at this
    exact absurd this hg.2) (λj aI=>by
  simp only[l6]at aI
  rw[show n+1+l1.length+l2.length+eZ.length+j=n+1+l1.length+l2.length+(eZ.length+j) by omega,WJ _ (by simp;omega),kq,iy,uA,IS (by simp),iy,xQ (by simp;omega),uA]
  congr 2
  simp) (by simp;omega)
 refine⟨?_,eQ,λb hb=>by rw[bb b (by rw[i3]at cl;omega),cm b (by rw[i3];exact hb)],by rw[i3]at cl;omega,cv⟩
 rw[iy,iy (l₁:=eZ++fS),iy (l₁:=eZ)]
 exact nK i1 (nK (nK (ahG agw) (ahF OV)) (ahH G8))
theorem UU {a b c:Nat} (h:a=c) (a8:b=c):b=a:=a8.trans h.symm
theorem avJ {li:fH} {c:Code} {e:Nat->List V->List aG->uF->T} (hd:rd=none∨m6 c=true) (he:Tp rd S L w0 P c e) {Q:Exit->Act->aE->Prop} {n:Nat} {ρ:Env} {m:Nat->Nat} {tm:List V} {bl:List aG} {a:Act} {w:aE} {G:ev} {k:uF}
 (h:R w0 n ρ m tm bl a w) (ae:(YG li e n tm bl k).holds S L G ρ) (ab:FN S L w0 k n bl.length ρ m G Q):(Code.loop c).wpIn (sM rd) 0 P Q a w:=by
 unfold YG at ae
 obtain⟨amB,EX,aek,Ew,ags,⟨hz1,Hb⟩,ae⟩:=ZT (S:=S) (L:=L) h G _ ae
 have ab:=ab.later (⟨Ew,ags,by rw[Hb];exact bL _,λ_ _=>rfl⟩:en n bl.length ρ m EX aek.length amB m) (eM.refl _ G)
 clear h
 have h:=hz1
 clear hz1 Hb Ew ags
 revert h ab ae
 generalize EX=n
 generalize amB=ρ
 generalize aek=bl
 intro ae ab h
 obtain⟨ck,iH,tm,rh,zY,Xg,ae⟩:=JW (S:=S) (L:=L) h.t G _ ae
 have J4:=h.later rh zY
 have h:R w0 iH ck m tm bl a w:=⟨Xg,J4.d,J4.b,J4.bB⟩
 have ab:=ab.later (⟨rh,zY,bL _,λ_ _=>rfl⟩:en n bl.length ρ m iH bl.length ck m) (eM.refl _ G)
 obtain⟨aJ,aT,eZ,gi,eK,⟨s1,s2,bP⟩,ae⟩:=UW (S:=S) (L:=L) h.t G _ ae
 have h1:=h.later gi eK
 have ab:=ab.later (⟨gi,eK,bL _,λ_ _=>rfl⟩:en iH bl.length ck m aT bl.length aJ m) (eM.refl _ G)
 split at ae
 rotate_left
 ·exact ae.elim
 rename_i mF l1 b3 fS us gA aw Ou apm
 obtain⟨bZ,a2,_,_,a5⟩:=M6 h1 Ou
 obtain⟨k1,k2,k3⟩:=X8 (us:=us) h1
 obtain⟨r1,r2,gs,os,gn⟩:=Q0 h1 apm
 cases aF:hb li.cells 0 (aT+1+l1.length) (nN us bl)with
 |none=>rw[aF]at ae;exact ae.elim
 |some b0=>
  obtain⟨eN,l2,b4⟩:=b0
  rw[aF]at ae
  simp only at ae
  cases hf:(nE mF mF&&nD eN eN)with
  |false=>rw[hf]at ae;exact ae.elim
  |true=>
   rw[hf]at ae
   simp only[ix,cond_false,T.holds]at ae
   simp only[bo]at hf
   obtain⟨ks,mR,Wc,cY⟩:=ae
   have Po:∀v∈tm,V.ok aT (nN us bl).length aJ v:=λv hv=>by
    obtain⟨i,hi⟩:=List.getElem?_of_mem hv
    exact(k1.t.2 i v hi).1
   have Vl:hb li.cells 0 (aT+1+l1.length) ((nN us bl).take (nN us bl).length)=some (eN,l2,b4):=by rw[abw];exact aF
   have ar3:Dg w0 w a.tmps (λg=>(∀(i:Nat) (p:aG),i<(nN us bl).length->(nN us bl)[i]?=some p->m i=g->bJ aJ p.1=0)/\¬∃(i:Nat) (p:aG),(nN us bl)[i]?=some p/\m i=g/\bJ aJ p.1=1) li.q2 (fS.map (·.den aJ)):=by
    refine a5 _ λb p hb _ aQ mZ mm=>?_
    have key:∀(i:Nat) (q:aG),(nN us bl)[i]?=some q->m i=m b->bJ aJ q.1=0:=λi q hi he=>by
     rcases k3 i q hi with⟨g1,g2⟩|g1
     ·by_cases jV:i=b
      ·subst jV
       rw[aQ]at g1;cases g1
       rcases g2 hb with g2|g2
       ·rw[mm]at g2;cases g2
       ·exact g2
      ·rcases h1.bB.inj i b q p g1 aQ he with g3|g3|g3|g3
       ·exact absurd g3 jV
       ·omega
       ·exact g3
       ·omega
     ·exact g1
    exact⟨λi q _ hi he=>key i q hi he,λ⟨i,q,hi,he,ab⟩=>by have:=key i q hi he;omega⟩
   have G8:sO w0 w a.tmps (λg=>∃(i:Nat) (p:aG),(nN us bl)[i]?=some p/\m i=g/\bJ aJ p.1=1) li.nc gs os (gA.map (·.den aJ)):=by
    refine gn.mono λg ⟨i,p,hi,he,ab⟩=>⟨i,p,X7 hi λhu=>?_,he,ab⟩
    rcases Uo Ou i hu with c9|⟨sh,off,code,cap,t,c9⟩
    ·simp at c9
    ·rw[hi]at c9
     cases c9
     simp only[bJ]at ab
     split at ab<;>omega
   obtain⟨i1,eQ,i2,i3,i4⟩:=agK (bL _) (agree.refl aT aJ) (λ_ _=>rfl) Po k1.b k1 aw aF aw Vl hf.1 hf.2 bP ar3 G8 rfl rfl rfl
   generalize age:aT+1+l1.length+l2.length+(eZ++fS++gA).length=NN at*
   generalize agd:aT+1+l1.length+l2.length+(eZ++fS).length=ND at*
   generalize agc:aT+1+l1.length+l2.length+eZ.length=NA at*
   generalize asp:headD li.nc ND NN (wT li.r5 (aT+1+l1.length+l2.length) mF) eN=d at*
   refine wpIn_loop_ghost (λN dr w'=>∃zs os eQ,ag (b3++b4++(Np li.r5++Dw li.q2++Fe li.nc)) zs/\ks zs/\mR zs=N/\(os.length=li.nc.length/\∀z∈os,0<=z)/\(∀b,b<(nN us bl).length->eQ b=m b)/\
    R w0 (NN+li.nc.length) (bI (bI aJ (aT+1) zs) NN os) eQ (tp li.q2 NA d.1 d.2).1 (tp li.q2 NA d.1 d.2).2 dr w') (mR ((l1++l2++(eZ++fS++gA)).map (·.den aJ))) ⟨_,os,eQ,i1,Wc,rfl,G8.len,i2,i4⟩ ?_
   rintro N bZ dZ ⟨zs,Zd,eQ,hz1,Hb,rfl,⟨aua,aub⟩,at6,at7⟩
   have z1:=natsM_holds (lL cY hz1 Hb) aua aub
   refine he hd _ _ _ _ _ _ _ bZ dZ _ at7 z1 λx n' aa m' cr bj ee dr w' h1 h2 h3 h4=>?_
   have Ei:agree aT aJ (bI aJ (aT+1) zs):=(agree.bI _ (aT+1) aJ).mono (by omega)
   have ar5:agree aT aJ (bI (bI aJ (aT+1) zs) NN Zd):=Ei.trans (agree.bI Zd NN _) (by omega)
   have We:en aT bl.length aJ m (NN+li.nc.length) (tp li.q2 NA d.1 d.2).2.length (bI (bI aJ (aT+1) zs) NN Zd) eQ:=⟨by omega,ar5,by rw[k2]at i3;exact i3,λb hb=>at6 b (by rw[k2];exact hb)⟩
   have Co:eM aT G (G.set aT λvs=>ks vs/\mR vs<mR zs):=λl hl=>by
    unfold ev.set
    cases hb:aK l aT with
    |true=>have:=bO hb;omega
    |false=>rfl
   have dB:=We.trans h1
   have Wb:ee aT=λvs=>ks vs/\mR vs<mR zs:=by
    rw[h2 aT (by omega)]
    unfold ev.set
    have:aK aT aT=true:=FB aT
    rw[this];rfl
   cases x with
   |exit id=>exact ab (.exit id) n' aa m' cr bj ee dr w' dB (Co.trans h2 (by omega)) h3 h4
   |ret=>exact ab .ret n' aa m' cr bj ee dr w' dB (Co.trans h2 (by omega)) h3 h4
   |normal=>
    simp only at h4
    obtain⟨abS,YU,cr,ag6,agp,Xi,h4⟩:=JW (S:=S) (L:=L) h3.t ee _ h4
    have wM:=h3.later ag6 agp
    have h3:R w0 YU abS m' cr bj dr w':=⟨Xi,wM.d,wM.b,wM.bB⟩
    have dB:=dB.trans (⟨ag6,agp,bL _,λ_ _=>rfl⟩:en n' bj.length aa m' YU bj.length abS m')
    obtain⟨wj,Hz,aif,eL,dz,⟨t1,t2,t3⟩,h4⟩:=UW (S:=S) (L:=L) h3.t ee _ h4
    have h3:=h3.later eL dz
    split at h4
    rotate_left
    ·exact h4.elim
    rename_i A8 v1 FY Yw ng aip cb apl apn
    obtain⟨c1,bH,_,cR,eO⟩:=M6 h3 apl
    obtain⟨d1,d2,aHU,ajt,d3⟩:=Q0 h3 apn
    cases gX:hb li.cells 0 (aT+1+v1.length) (bj.take bl.length)with
    |none=>rw[gX]at h4;exact h4.elim
    |some dK=>
     obtain⟨pR,v2,wA⟩:=dK
     rw[gX]at h4
     simp only at h4
     cases kg:(nE mF A8&&nD eN pR)with
     |false=>rw[kg]at h4;exact h4.elim
     |true=>
      rw[kg]at h4
      simp only[cond_true,T.holds,Wb]at h4
      simp only[bo]at kg
      have Wf:=dB.trans (⟨eL,dz,bL _,λ_ _=>rfl⟩:en YU bj.length abS m' Hz bj.length wj m')
      have ar4:Dg w0 w' dr.tmps (λg=>(∀(i:Nat) (p:aG),i<(nN us bl).length->bj[i]?=some p->m' i=g->bJ wj p.1=0)/\¬∃(i:Nat) (p:aG),bj[i]?=some p/\m' i=g/\bJ wj p.1=1) li.q2 (Yw.map (·.den wj)):=by
       refine eO _ λb p hb _ aQ mZ mm=>⟨λi q iP hi he=>?_,λ⟨i,q,hi,he,ab⟩=>?_⟩
       ·have Kh:bl.length<=b:=by
         rcases cR b hb with h|h
         ·simp at h
         ·exact h
        rw[k2]at iP
        rcases h3.bB.inj i b q p hi aQ he with g3|g3|g3|g3
        ·omega
        ·omega
        ·exact g3
        ·omega
       ·rcases h3.bB.inj i b q p hi aQ he with g3|g3|g3|g3
        ·subst g3
         rw[hi]at aQ;cases aQ
         omega
        ·omega
        ·omega
        ·omega
      obtain⟨hZ,ET,nL,o5,qK⟩:=agK (NA:=NA) (ND:=ND) (NN:=NN) (by rw[k2];exact Wf.hb) Wf.ha (λb hb=>Wf.hm b (by rw[k2]at hb;exact hb)) Po k1.b h3 aw aF cb (by rw[k2];exact gX) kg.1 kg.2 t3 ar4 d3 (by have:=t2;have:=UU s2 t2;omega) (by have:=UU s2 t2;simp only[fc]at*;omega) (by have:=UU s2 t2;simp only[fc]at*;omega)
      rw[asp]at qK
      exact⟨_,h4.2,_,ajt,ET,hZ,h4.1,rfl,d3.len,nL,qK⟩
theorem toL {ops:Array Oper}:ops.toList.toArray=ops:=kc
theorem VS (N:Nat):∀(i:Nat) (bl:List aG),(iY N i bl).length=bl.length
 |_,[]=>rfl
 |i,_::r=>by simp[iY,VS N (i+1) r]
theorem GC (N:Nat):∀(i:Nat) (bl:List aG) (k:Nat) (p:aG),(iY N i bl)[k]?=some p->p=ft∨(i+k<N/\(b7 p.1||yJ p.1)=true/\bl[k]?=some p)
 |_,[],k,p,h=>by simp[iY]at h
 |i,q::r,0,p,h=>by
  simp only[iY,uz,a7]at h
  cases hc:(dv i N&&(b7 q.1||yJ q.1))with
  |false=>rw[hc]at h;exact .inl h.symm
  |true=>
   rw[hc]at h
   simp only[cond_true]at h
   subst h
   simp only[bo]at hc
   exact .inr ⟨by simpa using r3 hc.1,hc.2,rfl⟩
 |i,q::r,k+1,p,h=>by
  rcases GC N (i+1) r k p (by simpa [iY]using h)with h1|⟨h1,h2,h3⟩
  ·exact .inl h1
  ·exact .inr ⟨by omega,h2,by simpa using h3⟩
theorem ajG:∀{a b:List aG},preB a b=true->∀(k:Nat) (p:aG),a[k]?=some p->b[k]?=some p
 |[],_,_,_,_,h=>by simp at h
 |(c,t)::r,(eg,t')::s,hf,k,p,h=>by
  simp only[preB,bo]at hf
  obtain⟨⟨⟨h1,h2⟩,h3⟩,h4⟩:=hf
  cases k with
  |zero=>
   have aw:=DH h1;have aF:=bO h2;have cb:t.2=t'.2:=by simpa using h3
   have:t=t':=Mo aF cb
   subst aw;subst this
   simpa using h
  |succ k=>have:=ajG h4 k p (by simpa using h);simpa using this
 |_::_,[],h,_,_,_=>by simp[preB]at h
theorem auR {c:List A} (h:yJ c=true):∃sh off code cap,c=[.rows sh off code cap 1]:=by
 unfold yJ at h
 split at h
 ·rename_i sh off code cap k
  have:=bO h
  subst this
  exact⟨sh,off,code,cap,rfl⟩
 ·cases h
def Q8 (ρ bR:Env) (c:List A):Prop:=∀sh off code cap k,c=[.rows sh off code cap k]->off.den bR=off.den ρ/\code.den bR=code.den ρ/\cap.den bR=cap.den ρ
theorem ah1 {ρ bR:Env} {c:List A} (h:(b7 c||yJ c)=true) (hr:Q8 ρ bR c):bJ bR c=bJ ρ c:=by
 rcases Bm _ _▸h with h|h
 ·rw[lv h,lv h]
 ·obtain⟨sh,off,code,cap,rfl⟩:=auR h
  simp only[bJ,(hr sh off code cap 1 rfl).2.2]
theorem Mem.sub {ρ bR:Env} {m eQ:Nat->Nat} {bl pQ:List aG} {w:aE} (h:Mem w0 ρ m bl w) (hs:∀(i:Nat) (p:aG),pQ[i]?=some p->p=ft∨(bl[i]?=some p/\(b7 p.1||yJ p.1)=true/\eQ i=m i/\p.1.map (A.den bR eQ)=p.1.map (A.den ρ m)/\Q8 ρ bR p.1)):Mem w0 bR eQ pQ w:=by
 have kO:bJ bR ft.1=0:=by simp[ft,bJ]
 refine⟨h.ext,h.iZ,h.kA,h.j7,h.gj,h.iO,λi cs t hi ax=>?_,λi sh off code cap kind t hi=>?_,λi j p q hi aI he=>?_⟩
 ·rcases hs i _ hi with h1|⟨h1,_,h3,h4,_⟩
  ·cases h1;simp[b7]at ax
  ·rw[h3,h4];exact h.fe i cs t h1 ax
 ·rcases hs i _ hi with h1|⟨h1,h2,h3,_,h5⟩
  ·cases h1;intro ab;exact absurd rfl ab
  ·obtain⟨aw,aF,cb⟩:=h5 sh off code cap kind rfl
   have:=h.rws i sh off code cap kind t h1
   unfold sN at this⊢
   rw[aw,aF,cb,h3];exact this
 ·rcases hs i _ hi with h1|⟨h1,h2,h3,_,h5⟩
  ·subst h1;exact .inr (.inr (.inl kO))
  ·rcases hs j _ aI with g1|⟨g1,g2,g3,_,g5⟩
   ·subst g1;exact .inr (.inr (.inr kO))
   ·rw[ah1 h2 h5,ah1 g2 g5]
    exact h.inj i j p q h1 g1 (by rw[<-h3,<-g3];exact he)
theorem cM.iY {n nb:Nat} {ρ:Env} {bl:List aG} (h:cM n nb ρ bl) (N:Nat):cM n nb ρ (Go.b6.iY N 0 bl):=λp hp=>by
 obtain⟨i,hi⟩:=List.mem_iff_getElem?.1 hp
 rcases GC N 0 bl i p hi with h1|⟨_,_,h3⟩
 ·subst h1
  intro a ha
  simp only[ft,List.mem_singleton]at ha
  subst ha
  exact⟨⟨I.c5 _ _,I.c5 _ _,I.c5 _ _⟩,⟨by simp[I.bg],by rw[I.bg];exact Bl (ja []) (rK (by simp) (λ_ h=>by cases h))⟩,by simp[I.bg]⟩
 ·exact h p (eD h3)
theorem aj6 {n nb:Nat} {ρ aa:Env} {c:List A} (bV:∀a∈c,A.ok n nb ρ a) (ha:agree n ρ aa) (back:Bool):cond back (Q8 aa ρ c) (Q8 ρ aa c):=by
 have key:∀sh off code cap k,c=[.rows sh off code cap k]->off.den aa=off.den ρ/\code.den aa=code.den ρ/\cap.den aa=cap.den ρ:=λsh off code cap k hc=>by
  have:=bV _ (by rw[hc];exact List.mem_singleton.2 rfl)
  obtain⟨⟨h1,h2,h3⟩,_⟩:=this
  exact⟨I.bX ha h1,I.bX ha h2,I.bX ha h3⟩
 cases back with
 |true=>exactλsh off code cap k hc=>by obtain⟨h1,h2,h3⟩:=key sh off code cap k hc;exact⟨h1.symm,h2.symm,h3.symm⟩
 |false=>exact key
theorem asv {N:Nat} {tm:List V} {bl:List aG} {o:Oper} {a:Act} {w:aE} {v:aP} (ax:O0 N tm bl o=true) (h:Dk P o a w v):(execOp a.eval o).run P w= .ok (.value v) w:=by
 rcases h with h|⟨f,args,h,_⟩
 ·exact h
 ·exfalso
  have key:∀s:Sem aP,(do pure (kr (<-s)):Sem Next).run P w= .ok (.enter f args) w->False:=λs hs=>by
   simp only[ic]at hs
   cases hx:s.run P w with
   |ok u w'=>rw[hx]at hs;simp at hs
   |halt x w'=>rw[hx]at hs;simp at hs
  unfold O0 at ax
  split at ax
  ·rename_i op t x y u e6;exact key (eqGuard op t x y (a.eval x) (a.eval y) >>= λ_=>binOp op t (a.eval x) (a.eval y)) (by simpa [execOp,e6]using h)
  ·rename_i t x i e6;exact key (Instr.indexAt t (a.eval x) (a.eval i)) (by simpa [execOp,e6]using h)
  ·rename_i t x lo hi eS e6;exact key (rH t (a.eval x) (lo.map a.eval) (hi.map a.eval) (eS.map a.eval)) (by simpa [execOp,e6]using h)
  ·rename_i t p e6;exact key (nr t (a.eval p)) (by simpa [execOp,e6]using h)
  ·cases ax
theorem asu {tm:List V} {o:Oper} {a:Act} {w:aE} {v:aP} (ax:Kq tm o=true) (h:Dk P o a w v):(execOp a.eval o).run P w= .ok (.value v) w:=by
 rcases h with h|⟨f,args,h,_⟩
 ·exact h
 ·exfalso
  have key:∀s:Sem aP,(do pure (kr (<-s)):Sem Next).run P w= .ok (.enter f args) w->False:=λs hs=>by
   simp only[ic]at hs
   cases hx:s.run P w with
   |ok u w'=>rw[hx]at hs;simp at hs
   |halt x w'=>rw[hx]at hs;simp at hs
  unfold Kq at ax
  split at ax
  ·rename_i t x lo hi eS e6;exact key (rH t (a.eval x) (lo.map a.eval) (hi.map a.eval) (eS.map a.eval)) (by simpa [execOp,e6]using h)
  ·cases ax
theorem asw {ops:Array Oper} {N:Nat} {tm:List V} {bl:List aG} {o:Oper} {a:Act} {w:aE} {v:aP} (ax:OZ N tm bl o=true) (h:Dk P o a w v):(execOp a.eval o).run P w= .ok (.value v) w:=by
 rcases h with h|⟨f,args,h,_⟩
 ·exact h
 ·exfalso
  have key:∀s:Sem aP,(do pure (kr (<-s)):Sem Next).run P w= .ok (.enter f args) w->False:=λs hs=>by
   simp only[ic]at hs
   cases hx:s.run P w with
   |ok u w'=>rw[hx]at hs;simp at hs
   |halt x w'=>rw[hx]at hs;simp at hs
  unfold OZ at ax
  split at ax
  ·rename_i x e6;simp[execOp,e6]at h
  ·rename_i x e6;simp[execOp,e6]at h
  ·rename_i x i e6;exact key (Instr.extract (a.eval x) i) (by simpa [execOp,e6]using h)
  ·rename_i s x i e6;exact key (Instr.fieldAt s (a.eval x) i) (by simpa [execOp,e6]using h)
  ·rename_i t p e6;exact key (nr t (a.eval p)) (by simpa [execOp,e6]using h)
  ·rename_i t x lo hi eS e6;exact key (rH t (a.eval x) (lo.map a.eval) (hi.map a.eval) (eS.map a.eval)) (by simpa [execOp,e6]using h)
  ·cases ax
theorem anK {ops:Array Oper} {Q:Exit->Act->aE->Prop} {inl:kt} (cU:hk S P gl w0 cal) (hg:eX gl w0) (ln:oO S L w0 P inl) (tj:∀c a w,¬Q (.panic c) a w)
 {N iH:Nat} {ny:List aG} {ck:Env} {m0:Nat->Nat} (cF:N<=ny.length) (oX:cM iH ny.length ck ny):∀(f:Nat) {listed:Array Bool} {n:Nat} {ρ:Env} {m:Nat->Nat} {tm:List V} {bl:List aG} {a:Act} {w:aE} {G:ev} {k:gR},
 R w0 n ρ m tm bl a w->en iH ny.length ck m0 n bl.length ρ m->(∀(k:Nat) (p:aG),(iY N 0 ny)[k]?=some p->(iY N 0 bl)[k]?=some p)->(zK P gl cal inl ops N (iY N 0 ny) f listed n tm bl k).holds S L G ρ->ku S L w0 k n bl.length ρ m G (Q .normal)->wpAnyH P .any ops Q (λw=>Mem w0 ck m0 (iY N 0 ny) w) f listed a w:=by
 have down:∀{n:Nat} {ρ:Env} {m:Nat->Nat} {bl:List aG} {w:aE},en iH ny.length ck m0 n bl.length ρ m->(∀(k:Nat) (p:aG),(iY N 0 ny)[k]?=some p->(iY N 0 bl)[k]?=some p)->Mem w0 ρ m bl w->Mem w0 ck m0 (iY N 0 ny) w:=λhl hp hm=>by
  refine hm.sub λi p hi=>?_
  rcases GC N 0 ny i p hi with h1|⟨h1,h2,h3⟩
  ·exact .inl h1
  ·refine .inr ?_
   rcases GC N 0 _ i p (hp i p hi)with g1|⟨_,_,g3⟩
   ·subst g1;simp[ft,b7,yJ]at h2
   ·exact⟨g3,h2,(hl.hm i (by omega)).symm,(vp (oX p (eD h3)) hl.ha hl.hm).symm,aj6 (oX p (eD h3)) hl.ha true⟩
 have up:∀{n:Nat} {ρ:Env} {m:Nat->Nat} {bl:List aG} {w:aE},en iH ny.length ck m0 n bl.length ρ m->(∀(k:Nat) (p:aG),(iY N 0 ny)[k]?=some p->(iY N 0 bl)[k]?=some p)->Mem w0 ck m0 (iY N 0 ny) w->Mem w0 ρ m (iY N 0 bl) w:=λ{n ρ m bl w} hl hp hm=>by
  refine hm.sub λi p hi=>?_
  rcases GC N 0 bl i p hi with h1|⟨h1,h2,h3⟩
  ·exact .inl h1
  ·refine .inr ?_
   have hlt:i<(iY N 0 ny).length:=by rw[VS];omega
   have aj:=hp i _ (nq hlt)
   rw[hi]at aj
   have aj:p=(iY N 0 ny)[i]:=hV aj
   have h0:(iY N 0 ny)[i]?=some p:=by rw[nq hlt,aj]
   rcases GC N 0 ny i p h0 with g1|⟨_,_,g3⟩
   ·subst g1;simp[ft,b7,yJ]at h2
   ·exact⟨h0,h2,hl.hm i (by omega),vp (oX p (eD g3)) hl.ha hl.hm,aj6 (oX p (eD g3)) hl.ha false⟩
 intro f
 induction f with
 |zero=>
  intro listed n ρ m tm bl a w G k h hl hp ae ab
  unfold zK at ae
  unfold wpAnyH
  split at ae
  ·rename_i hr
   exact⟨hr,ab n ρ m tm bl G a w (en.refl _ _ _ _) (eM.refl _ _) h ae⟩
  ·exact ae.elim
 |succ f ih=>
  intro listed n ρ m tm bl a w G k h hl hp ae ab
  unfold zK at ae
  split at ae
  ·rename_i hr
   exact⟨λ_=>ab n ρ m tm bl G a w (en.refl _ _ _ _) (eM.refl _ _) h ae,λi hi=>by rw[hr]at hi;cases hi⟩
  ·rename_i l m1
   split at ae
   ·rename_i i hi
    unfold agL at hi
    cases vd:Ss ops with
    |false=>rw[vd]at hi;cases hi
    |true=>
    rw[vd,cond_true]at hi
    have dJ:=St hi
    have Ad:=FC hi
    simp only[bo]at dJ
    cases ax:ops[i]? with
    |none=>simp only[ax]at ae;exact ae.elim
    |some o=>
     simp only[ax]at ae
     have j6:OZ N tm bl o=true∨O0 N tm bl o=true∨Kq tm o=true:=by
      have:=dJ.1;simp only[ax,Bm,bo]at this
      rcases this with(h|h)|h
      ·exact .inl h
      ·exact .inr h.2
      ·exact .inr (.inr h.2)
     obtain⟨cr,rl,il⟩:=J1 h.t ae
     have h:R w0 n ρ m cr bl a w:=⟨rl,h.d,h.b,h.bB⟩
     have gK:=down hl hp h.bB
     rcases il with⟨hw,ae⟩|⟨hw,ae⟩
     ·have hlen:(iY N 0 bl).length=bl.length:=VS N 0 bl
      obtain⟨aa,n',v,yD,ll,⟨hv,val,hr,aj⟩,GY⟩:=ZH (L:=L) (bl:=iY N 0 bl) cU (by rw[hlen];exact h.b.iY N) hg ⟨w,up hl hp gK⟩ (by rw[hlen];exact rl) o G _ ae
      rw[hlen]at hv
      have hy:YieldsIf P ops (λw=>Mem w0 ck m0 (iY N 0 ny) w) o val a:= .inl ⟨hw,λw' vi=>j6.elim (λhf=>asw (ops:=ops) hf (aj w' (up hl hp vi))) (λhf=>hf.elim (λhf=>asv hf (aj w' (up hl hp vi))) (λhf=>asu hf (aj w' (up hl hp vi))))⟩
      refine wpAnyH_take ax vd dJ.2 (by simpa using Ad) (λc a w hp=>absurd hp (tj _ _ _)) hy gK ?_
      have hlt:en n bl.length ρ m n' bl.length aa m:=⟨yD,ll,bL _,λ_ _=>rfl⟩
      exact ih ⟨ef.put (rl.ext ll yD (bL _) (λ_ _=>rfl)) o.dst hv hr,by rw[put_defers];exact h.d,h.b.ext ll yD (bL _),h.bB.p6 h.b ll⟩ (hl.trans hlt) hp GY (ab.later hlt (eM.refl _ _))
     ·refine wpAnyH_take ax vd dJ.2 (by simpa using Ad) (λc a w hp=>absurd hp (tj _ _ _)) (.inr ⟨hw,rfl⟩) gK ?_
      exact ih (h.skip o.dst) hl hp ae ab
   split at ae
   ·rename_i i hi
    unfold ajl at hi
    cases vd:Ss ops with
    |false=>rw[vd]at hi;cases hi
    |true=>
    rw[vd,cond_true]at hi
    have dJ:=St hi
    have Ad:=FC hi
    simp only[bo]at dJ
    cases ax:ops[i]? with
    |none=>simp only[ax]at ae;exact ae.elim
    |some o=>
     simp only[ax]at ae
     obtain⟨cr,rl,il⟩:=J1 h.t ae
     have h:R w0 n ρ m cr bl a w:=⟨rl,h.d,h.b,h.bB⟩
     have gK:=down hl hp h.bB
     rcases il with⟨_,ae⟩|⟨hw,ae⟩
     ·exact ae.elim
     ·refine wpAnyH_take ax vd dJ.2 (by simpa using Ad) (λc a w hp=>absurd hp (tj _ _ _)) (.inr ⟨hw,rfl⟩) gK ?_
      exact ih (h.skip o.dst) hl hp ae ab
   unfold wpAnyH
   refine⟨λhr=>absurd hr m1,λi hi=>?_⟩
   have dJ:=allT_holds ae i hi
   unfold wpOp
   cases ax:ops[i]? with
   |none=>simp only[ax]at dJ;exact dJ.elim
   |some o=>
    simp only[ax]at dJ⊢
    obtain⟨cr,rl,il⟩:=J1 h.t dJ
    have h:R w0 n ρ m cr bl a w:=⟨rl,h.d,h.b,h.bB⟩
    rcases il with⟨hw,Kx⟩|⟨hw,Kx⟩
    ·rw[if_pos hw]
     refine .inl (akI cU hg ln h Kx λn' aa m' cr bj ee dr w' h1 h2 h3 h4=>?_)
     cases hf:preB (iY N 0 ny) (iY N 0 bj)with
     |false=>rw[hf]at h4;exact h4.elim
     |true=>
      rw[hf,cond_true]at h4
      have Cv:=hl.trans h1
      have hf:=ajG hf
      exact⟨down Cv hf h3.bB,ih h3 Cv hf h4 (ab.later h1 h2)⟩
    ·rw[if_neg (by simp[hw])]
     exact⟨down hl hp h.bB,ih (h.skip o.dst) hl hp Kx ab⟩
theorem Gg {inl:kt} {li:Nat->Option fH} {rounds:Nat} (hm:P.follows .mixedOrders=true) (cU:hk S P gl w0 cal) (hg:eX gl w0) (ln:oO S L w0 P inl):∀(c:Code),Tp rd S L w0 P c (nB P gl cal inl li rounds c):=by
 intro c
 induction c with
 |skip=>intro hd n tm bl k G ρ m a w Q h ae ab;exact wpIn_skip (ab .normal n ρ m tm bl G a w (en.refl _ _ _ _) (eM.refl _ _) h ae)
 |exit id=>intro hd n tm bl k G ρ m a w Q h ae ab;exact wpIn_exit (ab (.exit id) n ρ m tm bl G a w (en.refl _ _ _ _) (eM.refl _ _) h ae)
 |ret=>intro hd n tm bl k G ρ m a w Q h ae ab;exact wpIn_ret (ab .ret n ρ m tm bl G a w (en.refl _ _ _ _) (eM.refl _ _) h ae)
 |region id ops draw=>
  intro hd n tm bl k G ρ m a w Q h ae ab
  have Wk:ku S L w0 (k .normal) n bl.length ρ m G (rD Q .normal):=λn' aa m' cr bj ee dr w' h1 h2 h3 h4=>ab .normal n' aa m' cr bj ee dr w' h1 h2 h3 h4
  cases draw with
  |false=>
   simp only[nB,cond_false]at ae
   refine azO hd ?_
   exact QJ cU hg ln ops.toList h ae Wk
  |true=>
   simp only[nB,cond_true]at ae
   cases aA:(Ij ops (Ko P cal ops)&&Sm P (ops.toList.take (Ko P cal ops)))with
   |false=>
    simp only[aA,cond_false]at ae
    cases hsz:cx (ops.toList.filter λo=> !YH o).length 12 with
    |false=>simp only[hsz,cond_false]at ae;exact ae.elim
    |true=>
     simp only[hsz,cond_true]at ae
     have tn:R w0 n ρ m tm bl a w.drew:=⟨h.t,h.d,h.b,h.bB.grow (Su (qc w))⟩
     refine ajR hm hd (wpAny_of_held (S:=λw=>Mem w0 ρ m (iY (Kp ops tm bl) 0 bl) w) _ _ _ _ ?_)
     exact anK cU hg ln (λc a w h=>h) (N:=Kp ops tm bl) (by unfold Kp;cases YJ ops<;>cases ops.toList.any Pw<;>simp<;>exact Nat.min_le_left _ _) h.b ops.size tn (en.refl _ _ _ _) (λ_ _ h=>h) ae Wk
   |true=>
    simp only[aA,cond_true]at ae
    simp only[bo]at aA
    have hle:Ko P cal ops<=ops.toList.length:=by
     have h1:=aA.1
     simp only[Ij,bo]at h1
     simpa using e8 h1.1.1.2
    generalize Ko P cal ops=m1 at*
    have tn:R w0 n ρ m tm bl a w.drew:=⟨h.t,h.d,h.b,h.bB.grow (Su (qc w))⟩
    have key:=aDc (P:=P) (Q:=rD Q) (a:=a) (w:=w) (l:=ops.toList) (C:=λw'=>Mem w0 ρ m bl w') m1 (IH P ops) hm (by rw[toL];exact aA.1) (λw' vi=>tn.bB.grow vi) (λj o aI ax eR b w'=>by
     have:=aDS (l:=ops.toList) (P:=P) aA.2 aI ax eR b w'
     rw[toL]at this;exact this) (by
     rw[toL]
     refine OY cU hg h.b ⟨_,h.bB⟩ _ (bL _) (agree.refl _ _) h.t h.d ae λn' aa cr sX h1 h2 h3 h4 h5 gr b w' z8 u7 KE=>?_
     have hl:en n bl.length ρ m n' bl.length aa m:=⟨h1,h2,bL _,λ_ _=>rfl⟩
     have arH:=(tn.bB.grow u7).p6 h.b h2
     refine Uy (S:=S) (L:=L) (w0:=w0) (P:=P) (K:=λb w'=>wpList P ops (calm (rD Q)) (ops.toList.drop m1) b w') z8 KE tn.bB.ext.size tn.bB.gj (ops.toList.take m1) 0 (λj aI=>?_) (by simp;exact Dc (by simpa using hle)) ⟨h3,h4,h.b.ext h2 h1 (bL _),arH⟩ (λlx p om hp=> .inl ?_) rfl (λt=>⟨λ⟨j,o,aI,_⟩=>by omega,λ_=>rfl⟩) h5 (λHz wj aI8 akS aFS Tu acC p8 k1 k2 k3 k4=>QJ cU hg ln _ k3 k4 ((Wk.later hl (eM.refl _ _)).later k1 k2)) h4
     ·have asM:j<m1:=by simp at aI;omega
      rw[qY,if_pos asM];simp
     ·rw[vm (h.b _ (eD om)) h2]at hp
      exact tn.bB.lt om hp)
    rw[toL]at key
    exact ajR hm hd key
 |seq x y auI Ps=>
  intro hd n tm bl k G ρ m a w Q h ae ab
  have yy:rd=none∨m6 x=true:=hd.imp id λh=>by simp only[m6,bo]at h;exact h.1
  have wP:rd=none∨m6 y=true:=hd.imp id λh=>by simp only[m6,bo]at h;exact h.2
  refine wpIn_seq (auI yy n tm bl _ G ρ m a w _ h ae λx n' aa m' cr bj ee dr w' h1 h2 h3 h4=>?_)
  cases x with
  |normal=>exact Ps wP n' cr bj k ee aa m' dr w' Q h3 h4 (ab.later h1 h2)
  |exit id=>exact ab (.exit id) n' aa m' cr bj ee dr w' h1 h2 h3 h4
  |ret=>exact ab .ret n' aa m' cr bj ee dr w' h1 h2 h3 h4
 |cond x y z Ps ahE=>
  intro hd n tm bl k G ρ m a w Q h ae ab
  simp only[nB]at ae
  have hx:=cy h.t x
  split at ae
  ·rename_i b hb
   rw[hb]at hx
   have dk:a.eval x= .bool (b.den ρ):=hx.2
   have yy:rd=none∨m6 y=true:=hd.imp id λh=>by simp only[m6,bo]at h;exact h.1
   have wP:rd=none∨m6 z=true:=hd.imp id λh=>by simp only[m6,bo]at h;exact h.2
   refine wpIn_cond dk ?_
   split at ae
   ·rename_i v
    cases v with
    |true=>simp only[cond_true]at ae;exact Ps yy n tm bl k G ρ m a w Q h ae ab
    |false=>simp only[cond_false]at ae;exact ahE wP n tm bl k G ρ m a w Q h ae ab
   ·simp only[T.holds]at ae
    cases hd:bw.den ρ b with
    |true=>exact Ps yy n _ bl k G ρ m a w Q ⟨Ii hd h.t,h.d,h.b,h.bB⟩ (ae.1 (by simpa using hd)) ab
    |false=>exact ahE wP n _ bl k G ρ m a w Q ⟨Ii hd h.t,h.d,h.b,h.bB⟩ (ae.2 (by simpa using hd)) ab
  ·exact ae.elim
 |block id x ih=>
  intro hd n tm bl k G ρ m a w Q h ae ab
  refine wpIn_block (ih hd n tm bl _ G ρ m a w _ h ae λx n' aa m' cr bj ee dr w' h1 h2 h3 h4=>?_)
  cases x with
  |normal=>exact ab .normal n' aa m' cr bj ee dr w' h1 h2 h3 h4
  |ret=>exact ab .ret n' aa m' cr bj ee dr w' h1 h2 h3 h4
  |exit CC=>
   simp only at h4
   simp only[X.to,Exit.inBlock]
   cases hb:aK CC id with
   |true=>
    simp only[hb,cond_true]at h4
    rw[if_pos (bO hb)]
    exact ab .normal n' aa m' cr bj ee dr w' h1 h2 h3 h4
   |false=>
    simp only[hb,cond_false]at h4
    rw[if_neg (λe=>by subst e;rw[show aK CC CC=true from FB CC]at hb;cases hb)]
    exact ab (.exit CC) n' aa m' cr bj ee dr w' h1 h2 h3 h4
 |loop x ih=>
  intro hd n tm bl k G ρ m a w Q h ae ab
  simp only[nB]at ae
  split at ae
  ·exact avJ (c:=x) hd ih h ae ab
  ·exact wpIn_loop_rounds rounds (aj0 (c:=x) hd ih rounds h ae ab)
 |_=>intro hd n tm bl k G ρ m a w Q h ae ab;exact ae.elim
def Fh (a:Act):ResultVar->Sem aP
 | .tmp t=>Sv (a.tmps.getD t undef)
 | .cell x t=>do loadVar t (<-asAddr (a.tmps.getD x undef))
theorem azV {n:Nat} {ρ:Env} {m:Nat->Nat} {bl:List aG} {tm:List V} {a:Act} {w:aE} {r:ResultVar} {u:W} (hg:eX gl w0) (h:R w0 n ρ m tm bl a w) (hr:LX P gl bl tm r=some u):
 u.ok n bl.length ρ/\(Fh a r).run P w= .ok (u.den ρ m) w:=by
 cases r with
 |tmp t=>
  simp only[LX]at hr
  cases aA:tm[t]? with
  |none=>simp[aA]at hr
  |some v=>
   obtain⟨h1,x,h2,h3⟩:=h.t.2 t v aA
   simp only[aA]at hr
   cases v with
   |w aBV=>
    simp only[a7]at hr
    subst hr
    refine⟨h1,?_⟩
    have:a.tmps.getD t undef=aBV.den ρ m:=by simp[h2];exact h3
    simp only[Fh,this];rfl
   |_=>simp at hr
 |cell x t=>
  simp only[LX]at hr
  cases aA:tm[x]? with
  |none=>simp[aA]at hr
  |some v=>
   obtain⟨h1,y,h2,h3⟩:=h.t.2 x v aA
   simp only[aA]at hr
   cases v with
   |h9 l=>simp at hr
   |any=>simp at hr
   |p3 _ _ _=>simp at hr
   |qz _ _=>simp at hr
   |w q=>
    cases q with
    |agg l=>simp at hr
    |one p=>
     simp only at hr
     have hy:a.tmps.getD x undef=p.den ρ m:=by simp[h2];exact h3
     cases hc:Ge bl gl p with
     |none=>simp[hc]at hr
     |some cs=>
      obtain⟨g,o,hp,bV,hcell⟩:=U9 h.bB h.b hg hc
      simp only[Fh,hy,hp]
      cases oW:jL P t with
      |none=>simp[hc,oW]at hr
      |some b=>
       cases b with
       |true=>
        cases hs:e7 P t with
        |none=>simp[hc,oW,hs]at hr
        |some k=>
         simp only[hc,oW,hs]at hr
         cases ab:cx k cs.length with
         |false=>simp[ab]at hr
         |true=>
          simp only[ab,cond_true,a7]at hr
          subst hr
          have ab:=e8 ab
          refine⟨λa h=>bV a (lf h),?_⟩
          have hl:=My (P:=P) w ⟨g,o,none⟩ ((cs.take k).map (A.den ρ m)) λj v aI=>by
           rw[jG]
           rw[pw]at aI
           cases aj:(cs.take k)[j]? with
           |none=>simp[aj]at aI
           |some a=>
            simp only[aj,xP,a7]at aI
            subst aI
            refine hcell j a ?_
            rw[qY]at aj
            split at aj
            ·exact aj
            ·cases aj
          simp only[l6,px,Dc ab]at hl
          simp[asAddr,loadVar,qQ oW,jn hs,hl,W.den]
       |false=>
        cases cs with
        |nil=>simp[hc,oW]at hr
        |cons z r=>
         simp only[hc,oW,a7]at hr
         subst hr
         refine⟨bV z (by simp),?_⟩
         have:=hcell 0 z rfl
         simp only[mM]at this
         simp[asAddr,loadVar,qQ oW,this,W.den]
theorem ajV {n:Nat} {ρ:Env} {m:Nat->Nat} {bl:List aG} {tm:List V} {a:Act} {w:aE} (hg:eX gl w0) (h:R w0 n ρ m tm bl a w):∀{rs:List ResultVar} {l:List W},Fi P gl bl tm rs=some l->
 (∀u∈l,W.ok n bl.length ρ u)/\(rs.mapM (m:=Sem) (Fh a)).run P w= .ok (l.map (W.den ρ m)) w
 |[],l,hr=>by simp[Fi]at hr;subst hr;exact⟨by simp,by simp⟩
 |r::s,l,hr=>by
  simp only[Fi]at hr
  cases h1:LX P gl bl tm r with
  |none=>simp[h1]at hr
  |some u=>
   cases h2:Fi P gl bl tm s with
   |none=>simp[h1,h2]at hr
   |some l'=>
    simp only[h1,h2,a7]at hr
    subst hr
    have aw:=azV hg h h1
    have aF:=ajV hg h h2
    refine⟨λx hx=>by rcases List.mem_cons.1 hx with rfl|hx;exact aw.1;exact aF.1 x hx,?_⟩
    rw[List.mapM_cons,ic]
    simp only[aw.2,aF.2,iz,ic,js,cQ]
theorem ZL {fn:Func} {n:Nat} {ρ:Env} {m:Nat->Nat} {bl:List aG} {tm:List V} {a:Act} {w:aE} {k:RK} {G:ev} (hg:eX gl w0) (h:R w0 n ρ m tm bl a w) (ae:(LV P gl fn n tm bl k).holds S L G ρ):
 ∃v val,V.ok n bl.length ρ v/\v.rel ρ m val/\(results fn a.tmps).run P w= .ok val w/\(k n v bl).holds S L G ρ:=by
 unfold LV at ae
 cases hr:Fi P gl bl tm fn.results.toList with
 |none=>
  simp only[hr]at ae
  cases ax:Y8 tm fn.results.toList with
  |none=>simp[ax,T.holds]at ae
  |some v=>
   simp only[ax]at ae
   obtain⟨t,e,hv⟩:∃t,fn.results.toList=[.tmp t]/\tm[t]?=some v:=by
    unfold Y8 at ax
    split at ax
    ·rename_i t he
     refine⟨t,he,?_⟩
     split at ax<;>first|(cases ax;assumption)|cases ax
    ·cases ax
   obtain⟨h1,x,h2,h3⟩:=h.t.2 t v hv
   refine⟨v,x,h1,h3,?_,ae⟩
   have oa:fn.results=#[.tmp t]:=by rw[<-kc (xs:=fn.results),e]
   have ex:a.tmps.getD t undef=x:=by simp[h2]
   have e:results fn a.tmps=(do let vs<-fn.results.mapM (Fh a);Sv (if h:vs.size=1 then vs[0]else .tuple vs)):=by
    unfold results
    congr 1
   rw[e,oa,aD8]
   simp[ic,Sem.run_map,iz,Fh,h2]
 |some l=>
  obtain⟨h1,h2⟩:=ajV hg h hr
  have ir:(results fn a.tmps).run P w= .ok (if h:(l.map (W.den ρ m)).toArray.size=1 then(l.map (W.den ρ m)).toArray[0]else .tuple (l.map (W.den ρ m)).toArray) w:=by
   have e:results fn a.tmps=(do let vs<-fn.results.mapM (Fh a);Sv (if h:vs.size=1 then vs[0]else .tuple vs)):=by
    unfold results
    congr 1
   rw[e,aD8]
   simp only[ic,Sem.run_map,iz,h2,js]
  simp only[hr]at ae
  split at ae
  ·rename_i u heq
   have heq:=hV heq
   subst heq
   exact⟨.w u,_,h1 u (by simp),rfl,by rw[ir];simp,ae⟩
  ·rename_i l' cW heq
   have heq:=hV heq
   subst heq
   refine⟨.h9 l,_,h1,rfl,?_,ae⟩
   rw[ir,dif_neg]
   intro hs
   simp at hs
   match l,hs,cW with
   |[u],_,cW=>exact cW u rfl
  ·rename_i heq;cases heq
theorem TP {ρ:Env} {m:Nat->Nat}:∀{vs:List V} {xs:List aP},eJ ρ m vs xs->vs.length=xs.length
 |[],[],_=>rfl
 |_::_,_::_,h=>by simp[TP h.2]
 |[],_::_,h=>h.elim
 |_::_,[],h=>h.elim
theorem TN {n nb:Nat} {ρ:Env} {m:Nat->Nat} (k:Nat):∀{vs:List V} {xs:List aP},(∀v∈vs,V.ok n nb ρ v)->eJ ρ m vs xs->Dj n nb ρ m (vs++H3 k) (xs++eH k undef)
 |[],[],_,_=>by
  simp only[e2]
  induction k with
  |zero=>trivial
  |succ k ih=>exact⟨by intro x hx;simp at hx,rfl,ih⟩
 |v::r,x::s,h,hr=>⟨h v (by simp),hr.1,TN k (λu hu=>h u (dU _ hu)) hr.2⟩
 |[],_::_,_,h=>h.elim
 |_::_,[],_,h=>h.elim
theorem aem (pU:w0.ds=[]) {li:dn->Nat->Option fH} {rounds:Nat} {inl:kt} (hm:P.follows .mixedOrders=true) (cU:hk S P gl w0 cal) (hg:eX gl w0) (ih:oO S L w0 P inl):oO S L w0 P (Nn P gl cal inl li rounds):=by
 intro f n vs bl k G ρ m w xs R' hb kQ jW hrel ae ab
 unfold Nn at ae
 cases hf:P.funcs[f]? with
 |none=>simp[hf,T.holds]at ae
 |some fn=>
  cases z1:fn.body with
  |none=>simp[hf,z1,T.holds]at ae
  |some c=>
   simp only[hf,z1]at ae
   cases hc:(!(fn.name== "runtime.NumGoroutine")&&cx vs.length fn.ntmps)with
   |false=>simp[hc,T.holds]at ae
   |true=>
    simp only[hc,cond_true]at ae
    simp only[bo,Bool.not_eq_true']at hc
    have hlen:=TP hrel
    refine⟨?_,calls_of_wp hf z1 ?_⟩
    ·have h1:¬fn.name= "runtime.NumGoroutine" :=by have:=hc.1;simpa using this
     simp[callFunc,hf,z1,h1]
    ·have hR:R w0 n ρ m (vs++H3 (fn.ntmps-vs.length)) bl {tmps:=xs.toArray++zx (fn.ntmps-xs.toArray.size) undef,defers:=[]} w:=by
      refine⟨?_,pU.symm,hb,kQ⟩
      have:=M4 (TN (fn.ntmps-vs.length) jW hrel)
      have e:(xs++eH (fn.ntmps-vs.length) undef).toArray=xs.toArray++zx (fn.ntmps-xs.toArray.size) undef:=by
       simp[hlen]
      rw[e]at this
      exact this
     refine wpIn_wide.1 (Gg (rd:=none) hm cU hg ih c (.inl rfl) n _ bl _ G ρ m _ w _ hR ae λx n' aa m' cr bj ee dr w' h1 h2 h3 h4=>?_)
     cases x with
     |exit id=>exact h4.elim
     |normal=>
      obtain⟨v,val,cm,cl,c3,e0⟩:=ZL hg h3 h4
      exact⟨h3.d.trans pU,val,c3,ab n' v bj ee aa m' w' val h1 h2 cm cl h3.b h3.bB e0⟩
     |ret=>
      obtain⟨v,val,cm,cl,c3,e0⟩:=ZL hg h3 h4
      exact⟨h3.d.trans pU,val,c3,ab n' v bj ee aa m' w' val h1 h2 cm cl h3.b h3.bB e0⟩
theorem U3 (pU:w0.ds=[]) {li:dn->Nat->Option fH} {rounds:Nat} (hm:P.follows .mixedOrders=true) (cU:hk S P gl w0 cal) (hg:eX gl w0):∀d,oO S L w0 P (Jv P gl cal li rounds d)
 |0=>λf n vs bl k G ρ m w xs R' _ _ _ _ ae _=>ae.elim
 |d+1=>aem pU hm cU hg (U3 pU hm cU hg d)
def uE (S:Nat->List Int->List Int->Prop) (L:V->Env->Prop) (w0:dX) (P:bQ) (bc:n1):Prop:=
 ∀f g,bc f=some g->∀n vs bl k G ρ m w xs R',cM n (np bl) ρ bl->Mem w0 ρ m bl w->(∀v∈vs,V.ok n bl.length ρ v)->eJ ρ m vs xs->(g n vs bl k).holds S L G ρ->Dn S L w0 k n bl.length ρ m G R'->
  (callFunc f xs.toArray).run P w= .ok (.enter f xs.toArray) w/\lG P f xs.toArray w R'
theorem axu {bc:n1} {inl:kt} (lT:uE S L w0 P bc) (h:oO S L w0 P inl):oO S L w0 P (Za bc inl):=by
 intro f n vs bl k G ρ m w xs R' h1 h2 h3 h4 h5 h6
 unfold Za at h5
 cases hf:bc f with
 |none=>rw[hf]at h5;exact h f n vs bl k G ρ m w xs R' h1 h2 h3 h4 h5 h6
 |some g=>rw[hf]at h5;exact lT f g hf n vs bl k G ρ m w xs R' h1 h2 h3 h4 h5 h6
theorem N7 (pU:w0.ds=[]) {bc:n1} {li:dn->Nat->Option fH} {rounds:Nat} (hm:P.follows .mixedOrders=true) (cU:hk S P gl w0 cal) (hg:eX gl w0) (lT:uE S L w0 P bc):∀d,oO S L w0 P (Gd bc P gl cal li rounds d)
 |0=>λf n vs bl k G ρ m w xs R' _ _ _ _ ae _=>ae.elim
 |d+1=>aem pU hm cU hg (axu lT (N7 pU hm cU hg lT d))
theorem Mem.extends {b w w':aE} {ρ:Env} {m:Nat->Nat} {bl:List aG} (h:Mem ⟨b,w,λ_=>False,λ_=>False,[]⟩ ρ m bl w'):w.Extends w':=by
 have q9:∀i:Nat,i<w.heap.size->w'.heap[i]?=w.heap[i]?:=λi hi=>h.iO i hi id
 exact⟨h.iZ,h.kA,h.j7,h.gj,λa ha=>by simp only[lH,q9 a.block ha],λa ha=>by simp only[Bn,q9 a.block ha],q9⟩
theorem aow {b w:aE} {li:dn->Nat->Option fH} {rounds d:Nat} (hm:P.follows .mixedOrders=true) (cU:hk S P gl ⟨b,w,λ_=>False,λ_=>False,[]⟩ cal) (hg:eX gl ⟨b,w,λ_=>False,λ_=>False,[]⟩) (f:dn) (n:Nat) (vs:List V) (ρ:Env) (xs:List aP) (he:b.Extends w)
 (jW:∀v∈vs,V.ok n 0 ρ v) (hrel:eJ ρ (λ_=>0) vs xs) (ae:(Jv P gl cal li rounds d f n vs [] λn' v _=> .leaf v).holds S (λv aa=>L v aa) (λ_ _=>False) ρ):
 lG P f xs.toArray w λe w'=>∃v aa m val nb,e= .returned val/\v.rel aa m val/\(∃n',V.ok n' nb aa v)/\L v aa/\w.Extends w':=by
 have kQ:Mem ⟨b,w,λ_=>False,λ_=>False,[]⟩ ρ (λ_=>0) [] w:=⟨he,rfl,rfl,rfl,bL _,λ_ _ _=>rfl,λi cs t h=>by simp at h,λi sh off code cap kind t h=>by simp at h,λi j p q h=>by simp at h⟩
 refine(U3 rfl (L:=L) (li:=li) (rounds:=rounds) hm cU hg d f n vs [] (λn' v _=> .leaf v) (λ_ _=>False) ρ (λ_=>0) w xs _ (λp hp=>by simp at hp) kQ jW hrel ae ?_).2
 intro n' v bj ee aa m' w' val h1 h2 h3 h4 h5 h6 h7
 exact⟨v,aa,m',val,_,rfl,h4,⟨n',h3⟩,h7,h6.extends⟩
end
end Go.b6
