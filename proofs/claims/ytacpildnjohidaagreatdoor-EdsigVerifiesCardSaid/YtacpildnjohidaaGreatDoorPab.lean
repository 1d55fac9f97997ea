/- The evaluator's soundness: operations and regions. -/
import Derived.Test.YtacpildnjohidaaGreatDoorPaa
import Derived.Laws.Append
import Derived.Deep.AppendSrc
import Derived.Deep.Upon
import Derived.Laws.MakeOwn
import Derived.Lib.MakeNoZero
import Derived.Laws.Externs
import Derived.KernelRfl
import Derived.Lib.ConvBytes
import Derived.ArgAppend
import Derived.OrdersIn
import Derived.TacticsIn
import Derived.LoopNIn
import Derived.Sort.LoopGhostIn
open Array renaming toArray_toList->m6,replicate->Cu,toList_map->Ed,eq_empty_of_size_eq_zero->Ef,length_toList->Gi,getElem?_eq_getElem->Qp,getElem?_toList->QB,getElem?_eq_none->Wh,ext'->Wi,toList_range->asu,mapM_eq_mapM_toList->aOG,range->aPg,size_append->aPk,getElem?_modify->aPo,getElem?_push_lt->aPq
open Bool renaming and_eq_true->bA,not_true->cL,false_eq_true->zz,or_eq_true->Ea
open Classical renaming byContradiction->afU
open Eq renaming trans->gX
open Function renaming comp->V5
open Go renaming World->aC,Value->a6,TypeId->bw,Program->bU,FuncId->dD,IntKind->dZ,run_underlying->hV,Calls->oq,Operand->rF,run_loadCells_list->Qr,setRow_other->QC,setRow_heap->QD,run_firstCells_some->Wj
open Go.Builtin renaming zeroCells->xU,copy_->A3,append_->LV,firstCells->LW,lenOf->Wk,nextslicecap->ast
open Go.Code renaming region->aPz
open Go.Extern renaming findNext->afZ,find->af0
open Go.Extern.BytealgMakeNoZero renaming digits->CA,makeNoZero->agd
open Go.Fence renaming wide->I4
open Go.Instr renaming sureAddr->px,loadAt->p5,sliceAt->xT,storeAt->af7,buildSlice->asv,alloc->aPl
open Go.Next renaming value->m7
open Go.Oper renaming wp->qR,uponIn->aPx,wpIn_mono->aPy
open Go.Question renaming cut->aPh
open Go.Region renaming wanted->Cy,noSelect->V6
open Go.Result renaming andThen_ok->kg
open Go.Sem renaming run_bind->jV,run_pure->lH
open Go.Value renaming int->A0,slice->Qt
open Go.Value.int renaming injEq->aTf
open Go.World renaming cell?->pw,frozen?->Gd,alloc->QG,freeze->agc,alloc_eq->age,drew->asy,drew_eq->aPs
open Go.World.Extends renaming refl->sA,drew->V8
open Int renaming le_refl->cF,toNat_natCast->kf,lt_or_le->m5,le_trans->Ct
open List renaming getD->I,map_cons->dk,nil_append->eM,mem_cons_of_mem->eS,replicate->fD,mem_of_getElem?->fZ,length_append->gx,getD_cons_zero->gP,map_nil->gZ,getD_cons_succ->h9,append_nil->iq,append_assoc->iI,map_append->jd,cons_append->jJ,length_cons->kJ,map_congr_left->kK,take_succ_cons->mG,getElem?_eq_getElem->nI,mem_of_mem_take->nJ,take_of_length_le->oo,take_append_drop->oQ,getD_eq_getElem?_getD->oR,mem_cons->pt,length_drop->p4,length_take->p6,length->qP,length_map->qQ,take_zero->qS,getElem?_map->rC,length_nil->rD,mem_of_mem_drop->rG,getElem?_take->vm,getElem?_set->wv,zipWith->wx,flatMap_cons->wy,getElem?_cons_zero->xZ,eq_nil_of_length_eq_zero->zw,getElem?_append_left->zx,drop_drop->Cs,size_toArray->Cx,drop_left->Ge,getElem_mem->Gh,replicate_succ->Gj,mem_of_find?_eq_some->IY,getElem?_append_right->LM,getElem?_append->Qq,take_append_of_le_length->Qs,mem_or_eq_of_mem_set->QE,getElem?_eq_none->QF,find?_some->V7,zipWith_cons_cons->Wa,getElem?_set_ne->afX,take_length->afY,getElem?_range->af6,ext_getElem?->af8,getElem?_set_self->asc,all_cons->asw,drop_append_of_le_length->aPf
open List.cons renaming injEq->mh
open Nat renaming beq->aR,le_refl->bS,eq_of_beq_eq_true->bV,ble->cJ,blt->ea,le_of_ble_eq_true->gY,le_trans->nK,add_zero->pv,le_succ->uq,lt_succ_self->A1,zero_add->A2,succ_mul->Cv,add_mul->Cz,mul_one->D6,min_eq_left->Eb,zero_le->IV,lt_of_lt_of_le->IW,beq_refl->IX,le_add_right->LN,min->LU,mod_lt->Qm,mul_le_mul->asb,mul_le_mul_right->asx,le_of_mul_le_mul_right->aPp
open Option renaming isSome_none->zy,map_some->AY,getD_some->D9
open Option.some renaming injEq->bp,inj->iH
open Prod renaming ext->Qk
open Prod.mk renaming injEq->eZ
open Pure renaming pure->V9
set_option linter.unusedVariables false
set_option linter.unusedSimpArgs false
namespace Go.bX
open M
structure fj (n nb:Nat) (ρ:Env) (m:Nat->Nat) (n' n8:Nat) (ad:Env) (m':Nat->Nat):Prop where
 hn:n<=n'
 ha:agree n ρ ad
 hb:nb<=n8
 hm:∀b,b<nb->m' b=m b
theorem fj.refl (n nb:Nat) (ρ:Env) (m:Nat->Nat):fj n nb ρ m n nb ρ m:=⟨bS _,agree.refl _ _,bS _,λ_ _=>rfl⟩
theorem fj.trans {n nb bk Fy gF aoq:Nat} {ρ bg b0:Env} {m hZ e5:Nat->Nat} (h:fj n nb ρ m bk Fy bg hZ) (aP:fj bk Fy bg hZ gF aoq b0 e5):fj n nb ρ m gF aoq b0 e5:=
 ⟨nK h.hn aP.hn,h.ha.trans aP.ha h.hn,nK h.hb aP.hb,λb hb=>(aP.hm b (IW hb h.hb)).trans (h.hm b hb)⟩
def gQ (n:Nat) (G e7:ft):Prop:=∀l,l<n->e7 l=G l
theorem gQ.refl (n:Nat) (G:ft):gQ n G G:=λ_ _=>rfl
theorem gQ.trans {n n':Nat} {G e7 Xt:ft} (h:gQ n G e7) (aP:gQ n' e7 Xt) (hn:n<=n'):gQ n G Xt:=λl hl=>(aP l (by omega)).trans (h l hl)
structure R (w0:eV) (n:Nat) (ρ:Env) (m:Nat->Nat) (tm:List V) (bl:List aH) (a:Act) (w:aC):Prop where
 t:fl n bl.length ρ m tm a.tmps
 d:a.defers=w0.ds
 b:dg n bl.length ρ bl
 bL:Mem w0 ρ m bl w
section
variable (S:Nat->List Int->List Int->Prop) (L:V->Env->Prop) (w0:eV)
def m9 (k:iP) (n nb:Nat) (ρ:Env) (m:Nat->Nat) (G:ft) (K:Act->aC->Prop):Prop:=
 ∀n' ad m' cE bx e7 dW w',fj n nb ρ m n' (qP bx) ad m'->gQ n G e7->R w0 n' ad m' cE bx dW w'->(k n' cE bx).holds S L e7 ad->K dW w'
def Gs (k:RK) (n nb:Nat) (ρ:Env) (m:Nat->Nat) (G:ft) (R':Ending->aC->Prop):Prop:=
 ∀n' v bx e7 ad m' w' val,fj n nb ρ m n' (qP bx) ad m'->gQ n G e7->V.ok n' bx.length ad v->v.rel ad m' val->dg n' bx.length ad bx->Mem w0 ad m' bx w'->(k n' v bx).holds S L e7 ad->R' (.returned val) w'
def rI (P:bU) (inl:mH):Prop:=
 ∀f n vs bl k G ρ m w xs R',dg n (qP bl) ρ bl->Mem w0 ρ m bl w->(∀v∈vs,V.ok n bl.length ρ v)->gb ρ m vs xs->(inl f n vs bl k).holds S L G ρ->Gs S L w0 k n bl.length ρ m G R'->
  (callFunc f xs.toArray).run P w= .ok (.enter f xs.toArray) w/\oq P f xs.toArray w R'
end
section
variable {S:Nat->List Int->List Int->Prop} {L:V->Env->Prop} {w0:eV} {P:bU} {gl:fO} {cal:gy} {inl:mH}
theorem m9.later {k:iP} {n nb bk Fy:Nat} {ρ bg:Env} {m hZ:Nat->Nat} {G G1:ft} {K:Act->aC->Prop} (h:m9 S L w0 k n nb ρ m G K) (hl:fj n nb ρ m bk Fy bg hZ) (aQ:gQ n G G1):m9 S L w0 k bk Fy bg hZ G1 K:=
 λn' ad m' cE bx e7 dW w' h1 h2 h3 h4=>h n' ad m' cE bx e7 dW w' (hl.trans h1) (aQ.trans h2 hl.hn) h3 h4
def od (m:Nat->Nat) (nb g:Nat):Nat->Nat:=λb=>if b=nb then g else m b
theorem pk {m:Nat->Nat} {nb g b:Nat} (h:b<nb):od m nb g b=m b:=by simp[od];omega
theorem pY (m:Nat->Nat) (nb g:Nat):od m nb g nb=g:=by simp[od]
theorem Mem.push {n:Nat} {ρ:Env} {m:Nat->Nat} {bl:List aH} {w:aC} {x:aH} {g:Nat} (h:Mem w0 ρ m bl w) (hb:dg n bl.length ρ bl) (hx:∀a∈x.1,A.ok n bl.length ρ a)
 (h1:cd x.1=true->w0.b.heap.size<=g/\(w0.ex g∨w0.r.heap.size<=g)/\∃r:List a6,(x.2.2=false->r=[])/\w.heap[g]?=some (.cells (x.1.map (A.den ρ m)++r).toArray x.2.1 (0,0)))
 (h2:∀sh off code cap kind,x.1=[.rows sh off code cap kind]->wA w0 ρ g sh off code cap kind x.2.1 w)
 (h3:∀(i:Nat) (p:aH),bl[i]?=some p->m i=g->(bP ρ p.1<=1/\bP ρ x.1<=1)∨bP ρ p.1=0∨bP ρ x.1=0):
 Mem w0 ρ (od m bl.length g) (bl++[x]) w:=by
 have hold:∀(i:Nat) (p:aH),(bl++[x])[i]?=some p->(i<bl.length/\bl[i]?=some p)∨(i=bl.length/\p=x):=λi p hi=>by
  rw[Qq]at hi;split at hi
  ·rename_i j3;exact .inl ⟨j3,hi⟩
  ·have:i=bl.length:=by
    have:=(List.getElem?_eq_some_iff.1 hi).1;simp at this;omega
   subst this;simp only[Nat.sub_self,xZ,bp]at hi;exact .inr ⟨rfl,hi.symm⟩
 refine⟨h.ext,h.km,h.mU,h.l8,h.iW,h.j1,λi lM t' hi aw=>?_,λi sh off code cap kind t' hi=>?_,λi j p q hi aO he=>?_⟩
 ·rcases hold i _ hi with⟨j3,hi⟩|⟨rfl,eN⟩
  ·obtain⟨g1,pJ,r,hr,g2⟩:=h.hI i lM t' hi aw;rw[pk j3];refine⟨g1,pJ,r,hr,?_⟩;rw[yG (hb _ (fZ hi)) (agree.refl n ρ) (λb hb=>pk hb)];exact g2
  ·subst eN;rw[pY];obtain⟨g1,pJ,r,hr,g2⟩:=h1 aw;refine⟨g1,pJ,r,hr,?_⟩;rw[yG hx (agree.refl n ρ) (λb hb=>pk hb)];exact g2
 ·rcases hold i _ hi with⟨j3,hi⟩|⟨rfl,eN⟩
  ·rw[pk j3];exact h.rws i sh off code cap kind t' hi
  ·subst eN;rw[pY];exact h2 sh off code cap kind rfl
 ·rcases hold i p hi with⟨j3,C7⟩|⟨rfl,eN⟩<;>rcases hold j q aO with⟨alU,Nt⟩|⟨rfl,yq⟩
  ·rw[pk j3,pk alU]at he;exact h.inj i j p q C7 Nt he
  ·rw[pk j3,pY]at he;subst yq;exact .inr (h3 i p C7 he)
  ·rw[pk alU,pY]at he;subst eN;rcases h3 j q Nt he.symm with h|h|h
   ·exact .inr (.inl ⟨h.2,h.1⟩)
   ·exact .inr (.inr (.inr h))
   ·exact .inr (.inr (.inl h))
  ·exact .inl rfl
theorem Mem.alloc {n:Nat} {ρ:Env} {m:Nat->Nat} {bl:List aH} {w:aC} {cs:List A} {t:bw} {ex:List a6} {open_:Bool} (h:Mem w0 ρ m bl w) (hb:dg n bl.length ρ bl) (hc:∀a∈cs,A.ok n bl.length ρ a) (hj:open_=false->ex=[]) (o5:cd cs=true):
 Mem w0 ρ (od m bl.length w.heap.size) (bl++[(cs,(t,open_))]) (w.alloc (.cells (cs.map (A.den ρ m)++ex).toArray t)):=by
 refine(h.grow ((sA w).alloc _)).push hb hc (λ_=>⟨h.ext.size,.inr h.iW,ex,hj,heap_alloc_new w _⟩) (λsh off code cap kind e=>?_) λi p hi he=>?_
 ·simp only at e;subst e;cases o5
 ·by_cases af:bP ρ p.1=0
  ·exact .inr (.inl af)
  ·have:=h.lt hi af;omega
theorem Mem.put {kd:Nat} {ρ:Env} {m:Nat->Nat} {bl:List aH} {w:aC} {b:Nat} {sh:List aV} {off code cap code':U} {t:bw×Bool} {cells row:Array a6} {fz:Nat×Nat} (h:Mem w0 ρ m bl w) (jC:2<=kd) (ba:bl[b]?=some ([.rows sh off code cap kd],t)) (e2:0<=cap.den ρ)
 (hr:wA w0 ρ (m b) sh off code' cap kd t.1 (w.setRow (m b) row)):Mem w0 ρ m (eD bl b ([.rows sh off code' cap kd],t)) (w.setRow (m b) row):=by
 have uM:b<bl.length:=(List.getElem?_eq_some_iff.1 ba).1;have pL:∀c,bP ρ [.rows sh off c cap kd]=kd:=λc=>vO (by omega) e2;obtain⟨_,hl⟩:=h.rws b sh off code cap kd t ba (by omega);obtain⟨_,cells,mg,fz,_,_,h5⟩:=hl e2;obtain⟨_,_,_,_,h1,E4⟩:=h5 jC;have eO:∀(i:Nat) (p:aH),(eD bl b ([.rows sh off code' cap kd],t))[i]?=some p->(i=b/\p=([.rows sh off code' cap kd],t))∨(i≠b/\bl[i]?=some p):=λi p hi=>by
  rw[m3,wv]at hi;split at hi
  ·rename_i iV;subst iV;simp only[uM,if_true,bp]at hi;exact .inl ⟨rfl,hi.symm⟩
  ·rename_i iV;exact .inr ⟨λe=>iV e.symm,hi⟩
 refine⟨h.ext.setRow (m b) _ h1,h.km,h.mU,h.l8,by simp;exact h.iW,λi hi hx=>?_,λi lM t' hi aw=>?_,λi gW k5 code' mN ta t' hi=>?_,λi j p q hi aO he=>?_⟩
 ·rw[QC w (m b) i _ (λe=>by
   subst e;rcases E4 with h3|h3
   ·exact hx h3
   ·omega)]
  exact h.j1 i hi hx
 ·rcases eO i _ hi with⟨rfl,eN⟩|⟨dz,hi⟩
  ·cases eN;cases aw
  ·obtain⟨g1,pJ,g2⟩:=h.hI i lM t' hi aw;exact⟨g1,pJ,by rw[QC w (m b) (m i) _ (λe=>h.ne ba hi (by rw[pL];exact jC) (by rw[n6 aw];decide) (λe=>dz e.symm) (by first|exact e|exact e.symm))];exact g2⟩
 ·rcases eO i _ hi with⟨rfl,eN⟩|⟨dz,hi⟩
  ·cases eN;exact hr
  ·exact(h.rws i gW k5 _ mN ta t' hi).grow λaf hc=>QC w (m b) (m i) _ (λe=>h.ne ba hi (by rw[pL];exact jC) (by simp only[vO af hc];exact af) (λe=>dz e.symm) (by first|exact e|exact e.symm))
 ·have af:∀(i:Nat) (p:aH),(eD bl b ([.rows sh off code' cap kd],t))[i]?=some p->∃dO,bl[i]?=some dO/\bP ρ dO.1=bP ρ p.1:=λi p hi=>by
   rcases eO i _ hi with⟨rfl,eN⟩|⟨dz,hi⟩
   ·exact⟨_,ba,by rw[eN];simp only[pL]⟩
   ·exact⟨p,hi,rfl⟩
  obtain⟨dO,hp,ep⟩:=af i p hi;obtain⟨fM,ai,eq⟩:=af j q aO;rw[<-ep,<-eq];exact h.inj i j dO fM hp ai he
theorem Mem.kill {ρ:Env} {m:Nat->Nat} {bl:List aH} {w:aC} {b k:Nat} {sh:List aV} {off code cap:U} {t:bw×Bool} (h:Mem w0 ρ m bl w) (ba:bl[b]?=some ([.rows sh off code cap k],t)):Mem w0 ρ m (eD bl b ([.rows sh off code cap 0],t)) w:=by
 have uM:b<bl.length:=(List.getElem?_eq_some_iff.1 ba).1;have eO:∀(i:Nat) (p:aH),(eD bl b ([.rows sh off code cap 0],t))[i]?=some p->(i=b/\p=([.rows sh off code cap 0],t))∨(i≠b/\bl[i]?=some p):=λi p hi=>by
  rw[m3,wv]at hi;split at hi
  ·rename_i iV;subst iV;simp only[uM,if_true,bp]at hi;exact .inl ⟨rfl,hi.symm⟩
  ·rename_i iV;exact .inr ⟨λe=>iV e.symm,hi⟩
 have o4:bP ρ [.rows sh off code cap 0]=0:=by simp[bP]
 refine⟨h.ext,h.km,h.mU,h.l8,h.iW,h.j1,λi lM t' hi aw=>?_,λi gW k5 code' mN ta t' hi=>?_,λi j p q hi aO he=>?_⟩
 ·rcases eO i _ hi with⟨rfl,eN⟩|⟨dz,hi⟩
  ·cases eN;cases aw
  ·exact h.hI i lM t' hi aw
 ·rcases eO i _ hi with⟨rfl,eN⟩|⟨dz,hi⟩
  ·cases eN;exactλaf=>absurd rfl af
  ·exact h.rws i gW k5 _ mN ta t' hi
 ·rcases eO i _ hi with⟨rfl,eN⟩|⟨dz,hi⟩
  ·exact .inr (.inr (.inl (by rw[eN];exact o4)))
  ·rcases eO j _ aO with⟨rfl,yq⟩|⟨dz,aO⟩
   ·exact .inr (.inr (.inr (by rw[yq];exact o4)))
   ·exact h.inj i j p q hi aO he
theorem fj.alloc (n:Nat) (ρ:Env) (m:Nat->Nat) (bl:List aH) (x:aH) (g:Nat):fj n bl.length ρ m n (bl++[x]).length ρ (od m bl.length g):=
 ⟨bS _,agree.refl _ _,by simp,λb hb=>pk hb⟩
theorem dg.alloc {n:Nat} {ρ:Env} {bl:List aH} {cs:List A} {t:bw×Bool} (hb:dg n bl.length ρ bl) (hc:∀a∈cs,A.ok n bl.length ρ a):dg n (bl++[(cs,t)]).length ρ (bl++[(cs,t)]):=by
 intro p hp a ha;rcases List.mem_append.1 hp with hp|hp
 ·exact(hb p hp a ha).ext (agree.refl n ρ) (bS _) (by simp)
 ·simp at hp;subst hp;exact(hc a ha).ext (agree.refl n ρ) (bS _) (by simp)
theorem R.alloc {n:Nat} {ρ:Env} {m:Nat->Nat} {tm:List V} {bl:List aH} {a:Act} {w:aC} {cs:List A} {t:bw} (h:R w0 n ρ m tm bl a w) (hc:∀x∈cs,A.ok n bl.length ρ x) (dst:Option Tmp) (o5:cd cs=true):
 R w0 n ρ (od m bl.length w.heap.size) (ie tm dst (.w (.one (.ptr bl.length 0)))) (bl++[(cs,(t,false))]) (a.put dst (.pointer (some ⟨w.heap.size,0,none⟩))) (w.alloc (.cells (cs.map (A.den ρ m)).toArray t)):=by
 have hl:=fj.alloc n ρ m bl (cs,(t,false)) w.heap.size;have qx:=h.bL.alloc (t:=t) (ex:=[]) (open_:=false) h.b hc (λ_=>rfl) o5;rw[iq]at qx;exact⟨fl.put (h.t.ext hl.ha hl.hn hl.hb hl.hm) dst (by simp[V.ok,W.ok,A.ok]) (by simp[V.rel,W.den,A.den,pY]),by rw[put_defers];exact h.d,h.b.alloc hc,qx⟩
theorem R.row {n:Nat} {ρ:Env} {m:Nat->Nat} {tm:List V} {bl:List aH} {a:Act} {w:aC} {cs:List A} {t:bw} {ex:List a6} {open_:Bool} (h:R w0 n ρ m tm bl a w) (hc:∀x∈cs,A.ok n bl.length ρ x) (hj:open_=false->ex=[]) (o5:cd cs=true) (dst:Option Tmp) {v:V} {x:a6}
 (hv:v.ok n (bl.length+1) ρ) (hx:v.rel ρ (od m bl.length w.heap.size) x):
 R w0 n ρ (od m bl.length w.heap.size) (ie tm dst v) (bl++[(cs,(t,open_))]) (a.put dst x) (w.alloc (.cells (cs.map (A.den ρ m)++ex).toArray t)):=by
 have hl:=fj.alloc n ρ m bl (cs,(t,open_)) w.heap.size;exact⟨fl.put (h.t.ext hl.ha hl.hn hl.hb hl.hm) dst (by simpa using hv) hx,by rw[put_defers];exact h.d,h.b.alloc hc,h.bL.alloc h.b hc hj o5⟩
theorem Mem.storeCells {n:Nat} {ρ:Env} {m:Nat->Nat} {bl:List aH} {w:aC} {b off:Nat} {cs l:List A} {eH:bw×Bool} (h:Mem w0 ρ m bl w) (hb:dg n bl.length ρ bl) (hl:∀a∈l,A.ok n bl.length ρ a)
 (ba:bl[b]?=some (cs,eH)) (Ff:off+l.length<=cs.length) (uQ:cd cs=true) (tM:cd (cs.take off++l++cs.drop (off+l.length))=true):
 ∃w',(Go.storeCells ⟨m b,off,none⟩ (l.map (A.den ρ m))).run P w= .ok () w'/\Mem w0 ρ m (eD bl b (cs.take off++l++cs.drop (off+l.length),eH)) w':=by
 obtain⟨h1,E4,r,hr,h2⟩:=h.hI b cs eH ba uQ;have s3:=run_storeCells_at P (m b) off eH.1 (l.map (A.den ρ m)) 0 (cs.map (A.den ρ m)++r).toArray w h2 (by simp;omega) (λx hx=>by
  obtain⟨a,ha,rfl⟩:=List.mem_map.1 hx;exact A.T5 (hl a ha))
 have Sy:∀k,k<=cs.length->(cs.map (A.den ρ m)++r).take k=(cs.take k).map (A.den ρ m)/\(cs.map (A.den ρ m)++r).drop k=(cs.drop k).map (A.den ρ m)++r:=λk af=>by
  refine⟨?_,?_⟩
  ·rw[Qs (by simpa using af),List.map_take]
  ·rw[aPf (by simpa using af),List.map_drop]
 refine⟨w.setRow (m b) ((cs.take off++l++cs.drop (off+l.length)).map (A.den ρ m)++r).toArray,?_,?_⟩
 ·simp only[pv,qQ]at s3;rw[s3]
  congr 3
  simp only[jd,iI];rw[(Sy off (by omega)).1,(Sy (off+l.length) (by omega)).2]
 ·have uM:b<bl.length:=(List.getElem?_eq_some_iff.1 ba).1;have eO:∀(i:Nat) (p:aH),(eD bl b (cs.take off++l++cs.drop (off+l.length),eH))[i]?=some p->(i=b/\p=(cs.take off++l++cs.drop (off+l.length),eH))∨(i≠b/\bl[i]?=some p):=λi p hi=>by
   rw[m3,wv]at hi;split at hi
   ·rename_i iV;subst iV;simp only[uM,if_true,bp]at hi;exact .inl ⟨rfl,hi.symm⟩
   ·rename_i iV;exact .inr ⟨λe=>iV e.symm,hi⟩
  have pL:bP ρ cs=2:=n6 uQ;refine⟨h.ext.setRow (m b) _ h1,h.km,h.mU,h.l8,by simp;exact h.iW,λi hi hx=>?_,λi lM t' hi aw=>?_,λi sh k5 code cap kind t' hi=>?_,λi j p q hi aO he=>?_⟩
  ·rw[QC w (m b) i _ (λe=>by
    subst e;rcases E4 with h3|h3
    ·exact hx h3
    ·omega)]
   exact h.j1 i hi hx
  ·rcases eO i _ hi with⟨rfl,eN⟩|⟨dz,hi⟩
   ·cases eN;exact⟨h1,E4,r,hr,QD w (m i) _ _ _ _ h2⟩
   ·obtain⟨g1,pJ,g2⟩:=h.hI i lM t' hi aw;exact⟨g1,pJ,by rw[QC w (m b) (m i) _ (λe=>h.ne ba hi (by rw[pL];exact bS 2) (by rw[n6 aw];decide) (λe=>dz e.symm) (by first|exact e|exact e.symm))];exact g2⟩
  ·rcases eO i _ hi with⟨rfl,eN⟩|⟨dz,hi⟩
   ·have hi:=(Prod.mk.inj eN).1;rw[<-hi]at tM;cases tM
   ·exact(h.rws i sh k5 code cap kind t' hi).grow λaf hc=>QC w (m b) (m i) _ (λe=>h.ne ba hi (by rw[pL];exact bS 2) (by simp only[vO af hc];exact af) (λe=>dz e.symm) (by first|exact e|exact e.symm))
  ·have af:∀(i:Nat) (p:aH),(eD bl b (cs.take off++l++cs.drop (off+l.length),eH))[i]?=some p->∃dO,bl[i]?=some dO/\bP ρ dO.1=bP ρ p.1:=λi p hi=>by
    rcases eO i _ hi with⟨rfl,eN⟩|⟨dz,hi⟩
    ·exact⟨_,ba,by rw[eN];exact pL.trans (n6 tM).symm⟩
    ·exact⟨p,hi,rfl⟩
   obtain⟨dO,hp,ep⟩:=af i p hi;obtain⟨fM,ai,eq⟩:=af j q aO;rw[<-ep,<-eq];exact h.inj i j dO fM hp ai he
theorem Mem.store {n:Nat} {ρ:Env} {m:Nat->Nat} {bl:List aH} {w:aC} {b off:Nat} {cs l:List A} {eH:bw×Bool} (h:Mem w0 ρ m bl w) (hb:dg n bl.length ρ bl) (hl:∀a∈l,A.ok n bl.length ρ a)
 (ba:bl[b]?=some (cs,eH)) (Ff:off+l.length<=cs.length) (uR:0<l.length) (uQ:cd cs=true) (tM:cd (cs.take off++l++cs.drop (off+l.length))=true) (ty:bw) (hs:hq P ty=some l.length) (v:a6) (hv:v.cells=(l.map (A.den ρ m)).toArray):
 ∃w',(af7 ty (.pointer (some ⟨m b,off,none⟩)) v).run P w= .ok () w'/\Mem w0 ρ m (eD bl b (cs.take off++l++cs.drop (off+l.length),eH)) w':=by
 obtain⟨w',kZ,C9⟩:=h.storeCells (P:=P) hb hl ba Ff uQ tM;refine⟨w',?_,C9⟩;simp only[af7,px,jV,lH,kg,storeVar,kH hs,hv];simp only[Cx,qQ,ne_eq,not_true_eq_false,if_false,lH,kg];simp only[lH,kg,kZ]
theorem mA (bl:List aH) (b:Nat) (x:aH):(eD bl b x).length=bl.length:=by rw[m3];simp
theorem dg.set {n:Nat} {ρ:Env} {bl:List aH} {b:Nat} {cs:List A} {t:bw×Bool} (hb:dg n bl.length ρ bl) (hc:∀a∈cs,A.ok n bl.length ρ a):dg n (eD bl b (cs,t)).length ρ (eD bl b (cs,t)):=by
 intro p hp a ha;rw[mA];rw[m3]at hp;rcases QE hp with h|h
 ·exact hb p h a ha
 ·subst h;exact hc a ha
theorem Qh {t:bw} {cs:List A} (h:rA P t=some cs):∃i z,P.info? t=some i/\i.zero=some z/\CT z.cells.toList=some cs:=by
 unfold rA at h;cases hi:P.info? t with
 |none=>simp[hi]at h
 |some i=>
  cases hz:i.zero with
  |none=>simp[hi,hz]at h
  |some z=>simp only[hi,hz]at h;exact⟨i,z,rfl,hz,h⟩
theorem akN {Z:Array a6} {i:Nat} (h:i<Z.size):Z[i]! =Z[i]:=by simp[h]
theorem aJn {z:List A} {Z:Array a6} {n nb:Nat} {ρ:Env} {m:Nat->Nat} (hz:z.map (A.den ρ m)=Z.toList) (b2:∀a∈z,A.ok n nb ρ a) (h0:0<z.length) (len:Nat):
 (∀a∈PM z len,A.ok n nb ρ a)/\((PM z len).map (A.den ρ m)).toArray=(aPg (len*Z.size)).map λi=>Z[i% Z.size]! :=by
 have hl:Z.size=z.length:=by have:=congrArg qP hz;simpa using this.symm
 have hi:∀i,i% z.length<z.length:=λi=>Qm _ h0;refine⟨λa ha=>?_,?_⟩
 ·obtain⟨i,_,rfl⟩:=List.mem_map.1 ha;rw[nI (hi i)];exact b2 _ (Gh _)
 ·apply Wi;rw[Ed,asu];simp only[PM,List.map_map,hl];refine kK λi _=>?_;simp only[V5];have h1:i% z.length<Z.size:=by rw[hl];exact hi i
  rw[akN h1,nI (hi i)];simp only[D9];have h2:=congrArg (λl=>l[i% z.length]?) hz;simp only[rC,nI (hi i),AY]at h2;rw[QB,Qp h1]at h2;simpa using h2
theorem au0 {t:bw} {len n:Nat} {ρ:Env} {m:Nat->Nat} {bl:List aH} {parts:List (Nat×V)} {vals:Array (Nat×a6)} {cs:List A} {e:bw} (h:YR P t len parts=some (cs,e)) (hr:QR n bl.length ρ m parts vals.toList):
 (∀a∈cs,A.ok n bl.length ρ a)/\∀w,(asv t len vals).run P w= .ok (.slice (some ⟨w.heap.size,0,none⟩) len len) (w.alloc (.cells (cs.map (A.den ρ m)).toArray e)):=by
 unfold YR at h;cases h1:lB P t with
 |none=>simp[h1]at h
 |some cQ=>
  simp only[h1]at h;cases h2:hq P cQ with
  |none=>simp[h2]at h
  |some s=>
   cases h3:rA P cQ with
   |none=>simp[h2,h3]at h
   |some z=>
    simp only[h2,h3]at h;cases hc:(aR z.length s&&ea 0 s&&cJ (len*s) 16777216)with
    |false=>simp[hc]at h
    |true=>
     simp only[hc,cond_true]at h;simp only[bA]at hc;have c1:=bV hc.1.1;have bN:=vu hc.1.2;have cA:=gY hc.2;cases h4:Bs (λi=>some (i*s,s)) (PM z len) parts with
     |none=>simp[h4]at h
     |some l=>
      simp only[h4,bp,eZ]at h;obtain⟨rfl,rfl⟩:=h;obtain⟨inf,vn,hi,lr,nX⟩:=Qh h3;have w7:=EF nX n bl.length ρ m;have al9:=aJn (Z:=vn.cells) w7.2 w7.1 (by omega) len;have Hf:vn.cells.size=s:=by have:=congrArg qP w7.2;simp at this;omega
      obtain⟨g1,g2⟩:=RQ (m:=m) h4 al9.1 hr;refine⟨g1,λw=>?_⟩;rw[al9.2,Hf]at g2;have hn:¬(16777216<len*s):=by omega
      by_cases tJ:len=0
      ·subst tJ;have g3:Instr.fill (λi=>some (i*s,s)) ((aPg (0*s)).map λi=>(#[]:Array a6)[i% (#[]:Array a6).size]!) vals.toList=some (l.map (A.den ρ m)).toArray:=by
        rw[<-g2];congr 1;simp
       simp[asv,hV (jT h1),kH h2]at g3⊢;simp[g3,newRow]
      ·have dz:¬(len*s=0):=by
        intro h0;rcases Nat.mul_eq_zero.1 h0 with h0|h0<;>omega
       have So:¬(s=0):=by omega
       simp[asv,hV (jT h1),kH h2,hn,dz,tJ,So,zeroValue,typeInfo,hi,lr,Hf,g2,newRow]
theorem aOr {Z:Array a6} {k:Nat} (h:0<Z.size):∃r:List a6,xU Z (k+1)=(Z.toList++r).toArray:=by
 refine⟨(xU Z (k+1)).toList.drop Z.size,?_⟩;apply Wi;have:(xU Z (k+1)).toList.take Z.size=Z.toList:=by
  apply af8;intro i;rw[vm];by_cases hi:i<Z.size
  ·have h1:i<(k+1)*Z.size:=IW hi (by rw[Cv];omega);rw[if_pos hi];simp only[xU,Ed,asu,rC,af6 h1,AY,Nat.mod_eq_of_lt hi];rw[akN hi,QB,Qp hi]
  ·rw[if_neg hi,QF (by simpa using hi)]
 conv=>lhs;rw[<-oQ Z.size (xU Z (k+1)).toList,this]
theorem JX {w:aC} {n:Nat} {ρ:Env} {m:Nat->Nat} {bl:List aH} {b off k:Nat} {cs:List A} (hm:Mem w0 ρ m bl w) (hb:dg n bl.length ρ bl) (h:yp bl b off k=some cs):
 cs.length=k/\(∀a∈cs,A.ok n bl.length ρ a)/\∀j v,(cs.map (A.den ρ m))[j]?=some v->w.cell? ((⟨m b,off,none⟩:Addr).add j)=some v:=by
 unfold yp at h;cases ba:bl[b]? with
 |none=>simp[ba]at h
 |some q=>
  obtain⟨C,t⟩:=q;simp only[ba]at h;cases hc:(cJ (off+k) C.length&&cd C)with
  |false=>simp[hc]at h
  |true=>
   simp only[hc,cond_true,bp]at h;simp only[bA]at hc;have hle:=gY hc.1;subst h;obtain⟨_,_,r,_,h2⟩:=hm.hI b C t ba hc.2;refine⟨by simp;omega,λa ha=>hb _ (fZ ba) a (rG (nJ ha)),λj v aO=>?_⟩;rw[lb];rw[rC,vm]at aO;split at aO
   ·rename_i aRa;rw[List.getElem?_drop]at aO;cases ai:C[off+j]? with
    |none=>simp[ai]at aO
    |some y=>
     simp only[ai,AY,bp]at aO;have hlt:off+j<C.length:=(List.getElem?_eq_some_iff.1 ai).1;simp only[pw,h2,zy,zz,if_false,List.getElem?_toArray];rw[zx (by simpa using hlt),rC,ai];simp[aO]
   ·simp at aO
theorem akU {n:Nat} {ρ:Env} {m:Nat->Nat} {tm:List V} {bl:List aH} {a:Act} {w:aC} {G:ft} {K:Act->aC->Prop} {k:iP} {i:TypeInfo} {e:bw} {z:List A} {d:Option Tmp} {iA uh len:Nat} {olds news:List A} {Z:Array a6}
 (h:R w0 n ρ m tm bl a w) (aw:∀a∈olds,A.ok n bl.length ρ a) (hn:∀a∈news,A.ok n bl.length ρ a) (hz:∀a∈z,A.ok n bl.length ρ a) (Hf:z.map (A.den ρ m)=Z.toList) (ae:(RX i e z d iA uh len olds news n tm bl k).holds S L G ρ) (af:m9 S L w0 k n bl.length ρ m G K):
 (iA+len<=1000000/\ast (iA+len) uh*i.bytes<=281474976710656/\uh<iA+len/\0<len)/\
 K (a.put d (.slice (some ⟨w.heap.size,0,none⟩) (iA+len) (grownCap w (iA+len) uh e))) (w.drew.alloc (.cells ((olds.map (A.den ρ m)).toArray++(news.map (A.den ρ m)).toArray++xU Z (grownCap w (iA+len) uh e-(iA+len))) e)):=by
 unfold RX at ae;cases hc:(cJ (iA+len) 1000000&&cJ (ast (iA+len) uh*i.bytes) 281474976710656&&ea uh (iA+len)&&ea 0 len&&aR z.length i.size&&ea 0 i.size&&cd (olds++news)&&cd (olds++news++z))with
 |false=>rw[hc]at ae;exact ae.elim
 |true=>
  simp only[hc,cond_true,T.holds]at ae;simp only[bA]at hc;obtain⟨⟨hc,uQ⟩,tM⟩:=hc;have c1:=gY hc.1.1.1.1.1;have bN:=gY hc.1.1.1.1.2;have cA:=vu hc.1.1.1.2;have dr:=vu hc.1.1.2;have fY:=bV hc.1.2;have hK:=vu hc.2;refine⟨⟨c1,bN,cA,dr⟩,?_⟩;have hsz:Z.size=z.length:=by have:=congrArg qP Hf;simpa using this.symm
  have sZ:iA+len<=grownCap w (iA+len) uh e:=by unfold grownCap aPh;exact LN _ _
  generalize grownCap w (iA+len) uh e=c at sZ⊢;have w9:R w0 n ρ m tm bl a w.drew:=⟨h.t,h.d,h.b,h.bL.grow (V8 (sA w))⟩;by_cases Sb:c=iA+len
  ·subst Sb;have aby:xU Z (iA+len-(iA+len))=#[]:=by simp[xU]
   rw[aby];have hR:=R.row (t:=e) (cs:=olds++news) (ex:=[]) (open_:=false) w9 (λx hx=>(List.mem_append.1 hx).elim (aw x) (hn x)) (λ_=>rfl) uQ d (v:= .w (.one (.slc bl.length 0 (iA+len) (iA+len)))) (x:= .slice (some ⟨w.heap.size,0,none⟩) (iA+len) (iA+len)) (by simp[V.ok,W.ok,A.ok]) (by
    show Qt (some ⟨w.heap.size,0,none⟩) _ _=_;simp[W.den,A.den,pY])
   have:=af n ρ _ _ _ G _ _ (fj.alloc n ρ m bl (olds++news,(e,false)) w.heap.size) (gQ.refl _ _) hR ae.1;simpa [jd]using this
  ·obtain⟨q,ai⟩:∃q,c-(iA+len)=q+1:=⟨c-(iA+len)-1,by omega⟩;rw[ai];obtain⟨r,hr⟩:=aOr (Z:=Z) (k:=q) (by omega);rw[hr,<-Hf];have hR:=R.row (t:=e) (cs:=olds++news++z) (ex:=r) (open_:=true) w9 (λx hx=>(List.mem_append.1 hx).elim (λhx=>(List.mem_append.1 hx).elim (aw x) (hn x)) (hz x)) (λh=>by cases h) tM d (v:= .td bl.length (iA+len) (iA+len+1)) (x:= .slice (some ⟨w.heap.size,0,none⟩) (iA+len) c) (by simp[V.ok]) ⟨c,by omega,by
    rw[pY];rfl⟩
   have:=af n ρ _ _ _ G _ _ (fj.alloc n ρ m bl (olds++news++z,(e,true)) w.heap.size) (gQ.refl _ _) hR ae.2;simpa [jd]using this
theorem aur {n:Nat} {ρ:Env} {m:Nat->Nat} {tm:List V} {bl:List aH} {a:Act} {w:aC} {G:ft} {o:Oper} {K:Act->aC->Prop} {Q:Exit->Act->aC->Prop} {k:iP} {c:Call} {s x:rF} {t t':bw}
 (h:R w0 n ρ m tm bl a w) (hj:o.op= .call c) (nX:c.callee= .builtin .append) (jD:c.args.toList=[s,x]) (qz:c.argTypes.toList=[t,t'])
 (ae:(Yt P o.dst t t' (cu tm s) (cu tm x) n tm bl k).holds S L G ρ) (af:m9 S L w0 k n bl.length ρ m G K):o.wp P a w K Q:=by
 have bG:c.args=#[s,x]:=by rw[<-m6 (xs:=c.args),jD]
 have a2:c.argTypes=#[t,t']:=by rw[<-m6 (xs:=c.argTypes),qz]
 have hex:execOp a.eval o=(do pure (m7 (<-LV #[t,t'] o.type #[a.eval s,a.eval x]))):=by
  simp[execOp,hj,resolve,nX,bG,a2,invoke,builtin]
 have Dd:∀v w',(LV #[t,t'] o.type #[a.eval s,a.eval x]).run P w= .ok v w'->K (a.put o.dst v) w'->o.wp P a w K Q:=λv w' h1 h2=>by
  unfold qR;simp only[hex,jV,h1,kg,lH];exact h2
 have hs:=db h.t s;have hx:=db h.t x;unfold Yt at ae;split at ae
 ·rename_i b' k5 rj mN e Hy Dc;rw[Hy]at hx;have eB:a.eval x= .slice (some ⟨m b',k5,none⟩) rj mN:=hx.2;split at ae
  ·rename_i i z hi hz;split at ae
   ·rename_i news az3;obtain⟨bk,gF,tZ⟩:=JX h.bL h.b az3;cases SC:aR t t' with
    |false=>simp[SC,T.holds]at ae
    |true=>
     have SC:=bV SC;subst SC;simp only[IX,cL,cond_false]at ae;obtain⟨inf,vn,q4,lr,w7⟩:=Qh hz;rw[hi]at q4;simp only[bp]at q4;subst q4;have w7:=EF w7 n bl.length ρ m;cases tL:abI (cu tm s)with
     |true=>
      simp only[tL,cond_true]at ae;have vH:a.eval s= .slice none 0 0:=by
       unfold abI at tL;split at tL
       ·rename_i hv;rw[hv]at hs;exact hs.2
       ·cases tL
      obtain⟨⟨c1,bN,cA,dr⟩,fY⟩:=akU (Z:=vn.cells) h (λ_ h=>by simp at h) gF w7.1 w7.2 ae af;simp only[A2]at c1 bN cA dr fY;refine Dd _ _ ?_ fY;rw[vH,eB,run_append_nil w t _ e i vn (jT Dc) hi lr ⟨m b',k5,none⟩ rj mN (news.map (A.den ρ m)) (by simpa using bk) tZ dr (by omega) (by rw[nextslicecap_zero dr]at bN;exact bN)];simp
     |false=>
      simp only[tL,cond_false]at ae;split at ae
      ·rename_i b off len cap uS;rw[uS]at hs;have vH:a.eval s= .slice (some ⟨m b,off,none⟩) len cap:=hs.2;split at ae
       ·rename_i olds hold;obtain⟨o1,oI,yI⟩:=JX h.bL h.b hold;obtain⟨⟨c1,bN,cA,dr⟩,fY⟩:=akU (Z:=vn.cells) h oI gF w7.1 w7.2 ae af;refine Dd _ _ ?_ fY;rw[vH,eB,run_append_grow w t _ e i vn (jT Dc) hi lr ⟨m b,off,none⟩ len cap (olds.map (A.den ρ m)) (by simpa using o1) yI ⟨m b',k5,none⟩ rj mN (news.map (A.den ρ m)) (by simpa using bk) tZ cA (by omega) bN]
       ·exact ae.elim
      ·rename_i b len lo uS;rw[uS]at hs;obtain⟨oz,Fb,vH⟩:=hs.2;split at ae
       ·rename_i cs ty ba;cases hc:(cJ (len+rj) lo&&cJ ((len+rj)*i.size) cs.length&&ea 0 (rj*i.size)&&cd cs&&cd (cs.take (len*i.size)++news++cs.drop (len*i.size+news.length)))with
        |false=>rw[hc]at ae;exact ae.elim
        |true=>
         simp only[hc,cond_true]at ae;simp only[bA]at hc;obtain⟨⟨hc,uQ⟩,tM⟩:=hc;have c1:=gY hc.1.1;have bN:=gY hc.1.2;have cA:=vu hc.2;obtain⟨w',kZ,C9⟩:=h.bL.storeCells (P:=P) (off:=len*i.size) (l:=news) h.b gF ba (by rw[bk,<-Cz];exact bN) uQ tM;have b2:∀a∈cs.take (len*i.size)++news++cs.drop (len*i.size+news.length),A.ok n bl.length ρ a:=λa ha=>by
          have dR:=h.b _ (fZ ba);rcases List.mem_append.1 ha with ha|ha
          ·rcases List.mem_append.1 ha with ha|ha
           ·exact dR a (nJ ha)
           ·exact gF a ha
          ·exact dR a (rG ha)
         have M8:b<bl.length:=(List.getElem?_eq_some_iff.1 ba).1;refine Dd (.slice (some ⟨m b,0,none⟩) (len+rj) oz) w' ?_ (af n ρ m _ _ G _ w' ⟨bS _,agree.refl _ _,by rw[mA];exact bS _,λ_ _=>rfl⟩ (gQ.refl _ _) ⟨?_,by rw[put_defers];exact h.d,h.b.set b2,C9⟩ ae)
         ·have Fg:=Wj (P:=P) w i.size rj ⟨m b',k5,none⟩ rj mN (news.map (A.den ρ m)) (by simpa using bk) tZ;have hle:len+rj<=oz:=by omega
          rw[vH,eB];simp[LV,hV (jT Dc),sizeOf,typeInfo,hi,Wk,hle,Fg,lb,kZ]
         ·rw[mA];exact fl.put h.t o.dst M8 ⟨oz,by omega,rfl⟩
       ·exact ae.elim
      ·exact ae.elim
   ·exact ae.elim
  ·exact ae.elim
 ·exact ae.elim
theorem Un {n:Nat} {ρ:Env} {m:Nat->Nat} {tm:List V} {bl:List aH} {a:Act} {w:aC} {G:ft} {o:Oper} {K:Act->aC->Prop} {Q:Exit->Act->aC->Prop} {k:iP}
 (c8:iD S P gl w0 cal) (hg:gJ gl w0) (h:R w0 n ρ m tm bl a w) (ae:(DG P cal gl bl tm o n λv n'=>k n' (ie tm o.dst v) bl).holds S L G ρ) (af:m9 S L w0 k n bl.length ρ m G K):o.wp P a w K Q:=by
 obtain⟨ad,n',v,hn,ha,⟨hv,val,hr,ai⟩,J4⟩:=adV (L:=L) c8 h.b hg ⟨w,h.bL⟩ h.t o G _ ae;have hl:fj n bl.length ρ m n' bl.length ad m:=⟨hn,ha,bS _,λ_ _=>rfl⟩;have hR:∀w',w.Extends w'->R w0 n' ad m (ie tm o.dst v) bl (a.put o.dst val) w':=λw' he=>
  ⟨fl.put (h.t.ext ha hn (bS _) (λ_ _=>rfl)) o.dst hv hr,by rw[put_defers];exact h.d,h.b.ext ha hn (bS _),(h.bL.grow he).tj h.b ha⟩
 unfold qR;rcases ai w h.bL with ai|⟨f,args,ai,hc⟩
 ·rw[ai];exact af n' ad m _ bl G _ w hl (gQ.refl _ _) (hR w (sA w)) J4
 ·rw[ai];refine hc.mono λe tn ⟨he,hx⟩=>?_;subst he;exact af n' ad m _ bl G _ tn hl (gQ.refl _ _) (hR tn hx) J4
theorem avG {n nb:Nat} {ρ:Env} {m:Nat->Nat} {v:V} {f:Nat} {lL:List A} {x:a6} (h:Za v=some (f,lL)) (hv:v.ok n nb ρ) (hr:v.rel ρ m x):
 (∀y∈lL,A.ok n nb ρ y)/\x= .func (.func f) #[] (lL.map (A.den ρ m)).toArray:=by
 unfold Za at h;split at h
 ·simp only[bp,eZ]at h;obtain⟨rfl,rfl⟩:=h;exact⟨hv,hr⟩
 ·rename_i qo a b;cases hc:(aR a.size 0&&aR b.size 0)with
  |false=>simp[hc]at h
  |true=>
   simp only[hc,cond_true,bp,eZ]at h;obtain⟨rfl,rfl⟩:=h;simp only[bA]at hc;have ar:=Ef (bV hc.1);have aG:=Ef (bV hc.2);subst ar;subst aG;have hr:x= .func (.func qo) #[] #[]:=hr;exact⟨λy hy=>by simp at hy,by rw[hr];rfl⟩
 ·cases h
end
end Go.bX
namespace Go.bX
open M
theorem cP.row {sh:List aV} {row:List Int} (hs:ss sh=true) (h:cP sh row):ad7 row:=by
 unfold ss at hs;simp only[bA]at hs;obtain⟨⟨h0,MS⟩,h2⟩:=hs;refine⟨by rw[h.len];exact gY h0,?_⟩;have hp:=ahe;clear h0 MS;induction sh generalizing row with
 |nil=>
  cases row with
  |nil=>intro z hz;simp at hz
  |cons _ _=>exact h.elim
 |cons c sh ih=>
  cases row with
  |nil=>exact h.elim
  |cons x r=>
   simp only[asw,bA]at h2;intro z hz;rcases List.mem_cons.1 hz with rfl|hz
   ·have h3:=h.1;cases c with
    |int k lo hi=>
     have h4:=h2.1;simp only[bA,decide_eq_true_eq]at h4;simp only[aV.ia]at h3;omega
    |str=>simp only[aV.ia]at h3;omega
    |bool=>simp only[aV.ia]at h3;omega
   ·exact ih h.2 h2.2 z hz
theorem Gq {sh:List aV} {rows:List (List Int)} (hs:ss sh=true) (hl:rows.length<=1073741824) (h:∀row∈rows,cP sh row):rc rows<=dN:=
 x3 (by unfold maxLen;omega) λrow hr=>(h row hr).row hs
theorem aV.val_one (c:aV) (z:Int):(c.val z).oneCell'=true:=by cases c<;>rfl
theorem apm:∀{sh:List aV} {row:List Int},∀u∈eu sh row,u.oneCell'=true
 |[],_,u,h=>by simp[eu]at h
 |_::_,[],u,h=>by simp[eu]at h
 |c::sh,z::r,u,h=>by
  simp only[eu,pt]at h;rcases h with rfl|h
  ·exact aV.val_one c z
  ·exact apm u h
theorem aku {sh:List aV} {rows:List (List Int)}:∀u∈cc sh rows,u.oneCell'=true:=λu h=>by
 obtain⟨row,_,h⟩:=List.mem_flatMap.1 h;exact apm u h
theorem pA.flat {cells:Array a6} {off:Nat} {sh:List aV} {rows:List (List Int)} (h:pA cells off sh rows) {j:Nat} {v:a6} (aO:(cc sh rows)[j]?=some v):cells[off+j]?=some v:=by
 obtain⟨h1,pre,post,h2,h3⟩:=h;have hlt:=(List.getElem?_eq_some_iff.1 aO).1;rw[<-QB,h2,iI,LM (by omega),zx (by omega)];rw[show off+j-pre.length=j by omega];exact aO
theorem pA.sub {cells:Array a6} {off:Nat} {sh:List aV} {rows:List (List Int)} (h:pA cells off sh rows) (a k:Nat) (ha:a<=rows.length):pA cells (off+a*sh.length) sh ((rows.drop a).take k):=by
 obtain⟨h1,pre,post,h2,h3⟩:=h;refine⟨λrow hr=>h1 row (rG (nJ hr)),pre++cc sh (rows.take a),cc sh ((rows.drop a).drop k)++post,?_,?_⟩
 ·rw[h2];have:rows=rows.take a++((rows.drop a).take k++(rows.drop a).drop k):=by rw[oQ,oQ]
  conv=>lhs;rw[this]
  simp only[zX,iI]
 ·rw[gx,h3,sX λrow hr=>h1 row (nJ hr),p6,Eb ha]
section
variable {S:Nat->List Int->List Int->Prop} {L:V->Env->Prop} {n:Nat} {ρ:Env} {m:Nat->Nat} {bl:List aH} {gl:fO} {w0:eV} {P:bU}
theorem SL {e:bH}:aB S L (HD e) n ρ λad n' l=>l.bM n'/\(0<=l.den ad/\l.den ad<=1)/\e.den ρ=decide (l.den ad=1):=by
 intro A k af;cases h:e.den ρ with
 |true=>exact⟨_,n+1,_,uq _,agree.dQ _ _ _,⟨U.hQ (A1 n),by simp[U.c6,m4],by simp[U.c6,m4]⟩,af 1 (by decide) (by decide) (by simp[h])⟩
 |false=>exact⟨_,n+1,_,uq _,agree.dQ _ _ _,⟨U.hQ (A1 n),by simp[U.c6,m4],by simp[U.c6,m4]⟩,af 0 (by decide) (by decide) (by simp[h])⟩
theorem avy {nb:Nat} {c:aV} {a:A} (ha:a.ok n nb ρ):aB S L (Y1 c a) n ρ λad n' l=>l.bM n'/\(c.ia.1<=l.den ad/\l.den ad<=c.ia.2)/\c.val (l.den ad)=a.den ρ m:=by
 unfold Y1;split
 ·refine eX λhc=>aB.pure ?_;simp only[bA,decide_eq_true_eq]at hc;obtain⟨⟨h1,h2⟩,h3⟩:=hc;have h4:=ha.2;refine⟨ha.1,⟨?_,?_⟩,?_⟩
  ·simp only[aV.ia];omega
  ·simp only[aV.ia];omega
  ·simp only[aV.val,A.den,h1]
 ·exact aB.pure ⟨ha.1,ha.2,rfl⟩
 ·split
  ·rename_i v;refine aB.pure ⟨U.dK _ _,?_,?_⟩
   ·simp only[aV.ia,U.bz];cases v<;>decide
   ·simp only[aV.val,A.den,bH.den,U.bz];cases v<;>rfl
  ·rename_i e _;exact SL.mono λad n' l _ _ ⟨h1,h2,h3⟩=>⟨h1,h2,by simp only[aV.val,A.den,h3]⟩
 ·exact aB.fail
theorem PR {nb:Nat}:∀{sh:List aV} {l:List A} {n:Nat} {ρ:Env},(∀a∈l,A.ok n nb ρ a)->aB S L (Im sh l) n ρ λad n' ls=>(∀x∈ls,U.bM n' x)/\cP sh (ls.map (·.den ad))/\eu sh (ls.map (·.den ad))=l.map (A.den ρ m)
 |[],[],n,ρ,_=>aB.pure ⟨λ_ h=>by simp at h,trivial,rfl⟩
 |c::sh,a::r,n,ρ,h=>by
  have h0:=h a (by simp);refine(avy (m:=m) h0).bind λbg bk x hn ha ⟨g1,g2,g3⟩=>(PR (nb:=nb) (sh:=sh) (l:=r) λb hb=>(h b (eS _ hb)).ext ha hn (bS _)).bind λb0 gF ls gU eJ ⟨k1,k2,k3⟩=>aB.pure ⟨λy hy=>?_,?_,?_⟩
  ·rcases List.mem_cons.1 hy with rfl|hy
   ·exact g1.mono gU
   ·exact k1 y hy
  ·simp only[dk];exact⟨by rw[U.ch eJ g1];exact g2,k2⟩
  ·simp only[dk,eu,U.ch eJ g1,g3,k3];rw[yG (λb hb=>h b (eS _ hb)) ha (λ_ _=>rfl)]
 |[],_::_,_,_,_=>aB.fail
 |_::_,[],_,_,_=>aB.fail
theorem Mq {w:Nat}:∀{k:Nat} {l:List A},l.length=k*w->(rR w k l).length=k/\(rR w k l).flatten=l
 |0,l,h=>by
  have:l=[]:=zw (by omega);subst this;exact⟨rfl,rfl⟩
 |k+1,l,h=>by
  rw[Cv]at h;have ih:=Mq (w:=w) (k:=k) (l:=l.drop w) (by simp;omega);exact⟨by simp[rR,ih.1],by simp[rR,ih.2]⟩
theorem Mr {w:Nat}:∀{k:Nat} {l:List A},∀row∈rR w k l,∀a∈row,a∈l
 |0,l,row,h,a,ha=>by simp[rR]at h
 |k+1,l,row,h,a,ha=>by
  simp only[rR,pt]at h;rcases h with rfl|h
  ·exact nJ ha
  ·exact rG (Mr row h a ha)
theorem Md {nb:Nat} {sh:List aV} (ny:ss sh=true):∀{rs:List (List A)} {n:Nat} {ρ:Env} {c:U},(∀row∈rs,∀a∈row,A.ok n nb ρ a)->c.bM n->(0<=c.den ρ/\c.den ρ<=dN)->(∀row∈aj (c.den ρ),cP sh row)->(aj (c.den ρ)).length+rs.length<=1073741824->
 aB S L (Eu sh rs c) n ρ λad n' eW=>eW.bM n'/\(0<=eW.den ad/\eW.den ad<=dN)/\∃eQ,aj (eW.den ad)=aj (c.den ρ)++eQ/\eQ.length=rs.length/\(∀row∈eQ,cP sh row)/\cc sh eQ=rs.flatten.map (A.den ρ m)
 |[],n,ρ,c,_,h1,h2,_,_=>aB.pure ⟨h1,h2,[],by simp,rfl,λ_ h=>by simp at h,rfl⟩
 |row::rs,n,ρ,c,h0,h1,h2,h3,h4=>by
  refine(PR (nb:=nb) (m:=m) (sh:=sh) (l:=row) (h0 row (by simp))).bind λbg bk ls hn ha ⟨g1,g2,g3⟩=>?_;have ar:c.den bg=c.den ρ:=U.ch ha h1;have hf:cR 23 ((c::ls).map (·.den bg))=rc (aj (c.den ρ)++[ls.map (·.den bg)]):=by
   simp only[dk,cR,ar]
  simp only[kJ]at h4;have xc:∀r∈aj (c.den ρ)++[ls.map (·.den bg)],cP sh r:=λr hr=>by
   rcases List.mem_append.1 hr with hr|hr
   ·exact h3 r hr
   ·simp at hr;subst hr;exact g2
  have hb:rc (aj (c.den ρ)++[ls.map (·.den bg)])<=dN:=Gq ny (by simp;omega) xc;refine(mQ (by rw[hf];exact k7 _) (by rw[hf];exact hb)).bind λb0 gF eW gU eJ ⟨k1,k2⟩=>?_;rw[hf]at k2;have aG:aj (eW.den b0)=aj (c.den ρ)++[ls.map (·.den bg)]:=by rw[k2,kp]
  have aQ:=ha.trans eJ hn;refine(Md (nb:=nb) (rs:=rs) (c:=eW) ny (λr hr a Hi=>(h0 r (eS _ hr) a Hi).ext aQ (nK hn gU) (bS _)) k1 (by rw[k2];exact⟨k7 _,hb⟩) (by rw[aG];exact xc) (by rw[aG];simp;omega)).mono λje tZ cA Da w5 ⟨b1,bY,eQ,dH,h8,il,ix⟩=>⟨b1,bY,ls.map (·.den bg)::eQ,?_,by simp[h8],λr hr=>?_,?_⟩
  ·rw[dH,aG];simp
  ·rcases List.mem_cons.1 hr with rfl|hr
   ·exact g2
   ·exact il r hr
  ·show eu sh (ls.map (·.den bg))++cc sh eQ=_;rw[ix,g3,List.flatten_cons,jd]
   congr 1
   refine kK λa R8=>A.oA (n:=n) (nb:=nb) ?_ aQ (λ_ _=>rfl);obtain⟨r,hr,Hi⟩:=List.mem_flatten.1 R8;exact h0 r (eS _ hr) a Hi
def atY (P:bU) (uj:bw) (sh:List aV) (X:a6) (w:aC) (old:List (List Int)) (ad:Env) (n':Nat) (p:U×U):Prop:=
 p.1.bM n'/\p.2.bM n'/\(0<=p.1.den ad/\p.1.den ad<=dN)/\∃eQ,aj (p.1.den ad)=old++eQ/\p.2.den ad=eQ.length/\(∀row∈eQ,cP sh row)/\old.length+eQ.length<=1073741824/\Src P sh.length uj X eQ.length (cc sh eQ) w
theorem aqa {sh:List aV} (ny:ss sh=true) {w:aC} (hb:dg n bl.length ρ bl) (hw:Mem w0 ρ m bl w) {uj:bw} {x:V} {X:a6} (hx:x.ok n bl.length ρ) (bZ:x.rel ρ m X) {base:U} (w6:base.bM n)
 (aln:0<=base.den ρ/\base.den ρ<=dN) (z7:∀row∈aj (base.den ρ),cP sh row):aB S L (UW P uj sh bl x base) n ρ (atY P uj sh X w (aj (base.den ρ))):=by
 unfold UW;split
 ·rename_i b off len cap;split
  ·rename_i cs cQ dR Ke;obtain⟨c1,bN,cA⟩:=JX hw hb dR;refine ln λaf=>?_;simp only[dk,gZ,az,U.bz]at af;have o2:=Mq (w:=sh.length) (k:=len) c1;refine(Md (nb:=bl.length) (m:=m) ny (rs:=rR sh.length len cs) (c:=base) (λrow hr a ha=>bN a (Mr row hr a ha)) w6 aln z7 (by rw[o2.1];omega)).bind λbg bk eW hn ha ⟨b1,bY,eQ,dH,h8,il,ix⟩=>aB.pure ⟨b1,U.dK _ _,bY,eQ,dH,?_,il,by rw[h8,o2.1];omega,?_⟩
   ·rw[U.bz,h8,o2.1]
   ·have bZ:X= .slice (some ⟨m b,off,none⟩) len cap:=bZ;rw[o2.2]at ix;rw[bZ,ix,h8,o2.1];exact Src.ofSlice w (jT Ke) _ _ _ _ (by simpa using c1) cA (λu hu=>by
     obtain⟨a,ha,rfl⟩:=List.mem_map.1 hu;exact A.T5 (bN a ha))
  ·exact aB.fail
 ·rename_i b bE o ro len cap;split
  ·rename_i gW off code gD kind eH cQ ba Ke;refine eX λhc=>ln λs0=>ln λrY=>?_;simp only[bA]at hc;obtain⟨⟨⟨c1,bN⟩,cA⟩,dr⟩:=hc;have c1:0<kind:=gY c1;have bN:=DP bN;have cA:=U.beq_eq cA;have dr:=bV dr;subst bN;subst cA;subst dr;simp only[dk,gZ,az,U.den_add]at s0 rY;have uU:(A.sl b sh.length o ro len cap).ok n bl.length ρ:=hx;obtain⟨ptr,ar,aG,cm⟩:=AP (m:=m) uU;have bZ:X=(A.sl b sh.length o ro len cap).den ρ m:=bZ;rw[ar]at bZ;obtain⟨ah,⟨ag,ao,dB,kb⟩,⟨kq,oe,po,pq⟩,⟨p2,pn⟩,jH,k8⟩:=uU;have pN:=hw.rws b sh o code gD kind eH ba (by omega);have mT:∀row∈aj (code.den ρ),cP sh row:=λrow hr=>by
    rcases m5 (gD.den ρ) 0 with h|h
    ·rw[pN.1 h]at hr;simp at hr
    ·obtain⟨_,cells,mg,fz,_,⟨_,g3⟩,_⟩:=pN.2 h;exact g3.1 row hr
   have NQ:∀row∈(((aj (code.den ρ)).drop (ro.den ρ).toNat).take (len.den ρ).toNat),cP sh row:=λrow hr=>mT row (rG (nJ hr));have hlen:(((aj (code.den ρ)).drop (ro.den ρ).toNat).take (len.den ρ).toNat).length=(len.den ρ).toNat:=by simp;omega
   have uO:cR 22 ([code,ro,ro.add len].map (·.den ρ))=rc (((aj (code.den ρ)).drop (ro.den ρ).toNat).take (len.den ρ).toNat):=by
    simp only[dk,gZ,cR,U.den_add];have:(ro.den ρ+len.den ρ).toNat-(ro.den ρ).toNat=(len.den ρ).toNat:=by omega
    rw[this]
   have JS:Src P sh.length uj X (((aj (code.den ρ)).drop (ro.den ρ).toNat).take (len.den ρ).toNat).length (cc sh (((aj (code.den ρ)).drop (ro.den ρ).toNat).take (len.den ρ).toNat)) w:=by
    rw[bZ];by_cases e2:cap.den ρ<0
    ·have h0:=jH e2;rw[aG e2,if_pos e2,h0];simp only[Int.toNat_zero,qS];exact Src.ofNil w (jT Ke) 0
    ·rw[cm (by omega),if_neg e2,hlen];refine Src.ofSlice w (jT Ke) _ _ _ _ (by rw[sX NQ,hlen]) (λj u hu=>?_) aku;rw[lb];rcases m5 (gD.den ρ) 0 with h|h
     ·rw[pN.1 h]at hu;simp[cc]at hu
     ·obtain⟨_,cells,mg,fz,g1,⟨_,g3⟩,_⟩:=pN.2 h;have:=(g3.sub (ro.den ρ).toNat (len.den ρ).toNat (by omega)).flat hu;simp only[pw,g1,zy,zz,if_false];exact this
   generalize Ad:(((aj (code.den ρ)).drop (ro.den ρ).toNat).take (len.den ρ).toNat)=mid at NQ hlen uO JS;have qu:rc mid<=dN:=Gq ny (by omega) NQ;refine(mQ (by rw[uO];exact k7 _) (by rw[uO];exact qu)).bind λbg bk s iM hD ⟨g1,g2⟩=>?_;rw[uO]at g2;have EW:base.den bg=base.den ρ:=U.ch hD w6;have mw:cR 24 ([base,s].map (·.den bg))=rc (aj (base.den ρ)++mid):=by
    simp only[dk,gZ,cR,EW,g2,kp]
   have jR:∀row∈aj (base.den ρ)++mid,cP sh row:=λrow hr=>(List.mem_append.1 hr).elim (z7 row) (NQ row);have q3:rc (aj (base.den ρ)++mid)<=dN:=Gq ny (by simp;omega) jR;refine(mQ (by rw[mw];exact k7 _) (by rw[mw];exact q3)).bind λb0 gF c gU eJ ⟨k1,k2⟩=>aB.pure ⟨k1,dB.mono (nK iM gU),?_,mid,?_,?_,NQ,by omega,JS⟩
   ·rw[k2,mw];exact⟨k7 _,q3⟩
   ·rw[k2,mw,kp]
   ·rw[U.ch (hD.trans eJ iM) dB,hlen];omega
  ·exact aB.fail
 ·rename_i l;split
  ·rename_i hu;refine eX λJV=>?_;have aAA:∃lo hi,sh=[.int .u8 lo hi]/\lo=0/\hi=255:=by
    unfold ajg at JV;split at JV
    ·simp only[bA,decide_eq_true_eq]at JV;exact⟨_,_,rfl,JV.1,JV.2⟩
    ·cases JV
   obtain⟨lo,hi,rfl,rfl,rfl⟩:=aAA;have hl:(A.str l).ok n bl.length ρ:=hx;have bZ:X= .string (iu (cN (l.den ρ))):=bZ;have azU:=atC hl.2.2;unfold tY at azU;refine(mQ (op:=0) (args:=[l]) (Int.natCast_nonneg _) (by show((cN (l.den ρ)).length:Int)<=_;omega)).bind λbg bk len iM hD ⟨g1,g2⟩=>ln λaf=>?_;have g2:len.den bg=(cN (l.den ρ)).length:=g2;have EW:base.den bg=base.den ρ:=U.ch hD w6;have el:l.den bg=l.den ρ:=U.ch hD hl.1;simp only[dk,gZ,az,EW,g2]at af;have uO:cR 27 ([l].map (·.den bg))=rc ((cN (l.den ρ)).map λb=>[(b.toNat:Int)]):=by
    simp only[dk,gZ,cR,el]
   have Ad:∀row∈((cN (l.den ρ)).map λb=>[(b.toNat:Int)]),cP [.int .u8 0 255] row:=λrow hr=>by
    obtain⟨b,_,rfl⟩:=List.mem_map.1 hr;have:=b.toNat_lt;refine⟨⟨?_,?_⟩,trivial⟩
    ·simp only[aV.ia];omega
    ·simp only[aV.ia];omega
   have J9:((cN (l.den ρ)).map λb=>[(b.toNat:Int)]).length=(cN (l.den ρ)).length:=by simp
   have mR:cc [.int .u8 0 255] ((cN (l.den ρ)).map λb=>[(b.toNat:Int)])=byteCells (iu (cN (l.den ρ))):=by
    unfold byteCells cc iu;simp only[List.flatMap_map];generalize cN (l.den ρ)=q;induction q with
    |nil=>rfl
    |cons y r ih=>rw[wy,dk,ih];rfl
   have JS:=Src.ofString (P:=P) w hu (iu (cN (l.den ρ)));rw[<-mR,auF,<-bZ]at JS;generalize qx:((cN (l.den ρ)).map λb=>[(b.toNat:Int)])=mid at Ad J9 uO JS;have qu:rc mid<=dN:=Gq ny (by omega) Ad;refine(mQ (by rw[uO];exact k7 _) (by rw[uO];exact qu)).bind λb0 gF s gU eJ ⟨h1,h2⟩=>?_;rw[uO]at h2;have awy:base.den b0=base.den ρ:=(U.ch eJ (w6.mono iM)).trans EW;have mw:cR 24 ([base,s].map (·.den b0))=rc (aj (base.den ρ)++mid):=by
    simp only[dk,gZ,cR,awy,h2,kp]
   have jR:∀row∈aj (base.den ρ)++mid,cP [.int .u8 0 255] row:=λrow hr=>(List.mem_append.1 hr).elim (z7 row) (Ad row);have q3:rc (aj (base.den ρ)++mid)<=dN:=Gq ny (by simp;omega) jR;refine(mQ (by rw[mw];exact k7 _) (by rw[mw];exact q3)).bind λje tZ c Da w5 ⟨k1,k2⟩=>aB.pure ⟨k1,g1.mono (nK gU Da),?_,mid,?_,?_,Ad,by omega,?_⟩
   ·rw[k2,mw];exact⟨k7 _,q3⟩
   ·rw[k2,mw,kp]
   ·rw[U.ch (eJ.trans w5 gU) g1,g2,J9]
   ·rw[J9];exact JS
  ·exact aB.fail
 ·split
  ·rename_i cQ Ke;refine ln λaf=>aB.pure ⟨w6,U.dK _ _,aln,[],by simp,by simp[U.bz],λ_ h=>by simp at h,?_,?_⟩
   ·simp only[dk,gZ,az,U.bz]at af;simp only[rD];omega
   ·have bZ:X= .slice none 0 0:=bZ;rw[bZ];exact Src.ofNil w (jT Ke) 0
  ·exact aB.fail
 ·exact aB.fail
theorem aJ0 (w:aC) (t uj ty e:bw) (i:TypeInfo) (aA:P.underlying t=some (.slice e)) (hi:P.info? e=some i) (g iA uh:Nat) (cur:Array a6) (EY:bw) (hg:w.heap[g]?=some (.cells cur EY (0,0))) (x:a6) (k:Nat) (news:List a6) (hs:Src P i.size uj x k news w)
 (NO:iA+k<=uh) (Ff:iA*i.size+news.length<=cur.size):
 (LV #[t,uj] ty #[.slice (some ⟨g,0,none⟩) iA uh,x]).run P w= .ok (.slice (some ⟨g,0,none⟩) (iA+k) uh) (w.setRow g (cur.toList.take (iA*i.size)++news++cur.toList.drop (iA*i.size+news.length)).toArray):=by
 have s3:=run_storeCells_at P g (iA*i.size) EY news 0 cur w hg (by simpa using Ff) hs.one;simp only[pv]at s3;rcases hs.kind with⟨cQ,af⟩|af<;>simp[LV,hV aA,hV af,sizeOf,typeInfo,hi,hs.len,NO,hs.cells,Addr.add_lit,s3]
theorem ar1 (Z:Array a6) (k:Nat):(xU Z k).size=k*Z.size:=by simp[xU]
theorem akW (w:aC) (KP old:Nat) (e:bw) (h:KP<=1073741824):KP<=grownCap w KP old e/\grownCap w KP old e<=9223372036854775807:=by
 have hlt:=Qm (w.tape w.drawn (.appendCap KP old e)) (show 0<2^63-KP by omega);simp only[grownCap,aPh];omega
theorem ao0 {kd:Nat} {tm:List V} {a:Act} {w:aC} {G:ft} {K:Act->aC->Prop} {k:iP} {e:bw} {d:Option Tmp} {sh:List aV} {code len:U} {c:Int} {g:Nat}
 (jC:2<=kd) (h:R w0 n ρ m tm bl a w) (dR:code.bM n) (Fi:len.bM n) (iL:0<=code.den ρ/\code.den ρ<=dN) (hc:-1<=c/\c<=9223372036854775807) (yx:Ix 0 0 (len.den ρ) c)
 (tL:c<0->aj (code.den ρ)=[])
 (Ny:0<=c->∃(cells:Array a6) (fz:Nat×Nat),(w.heap[g]?=some (.cells cells e fz)/\CC kd fz cells.size)/\pA cells 0 sh (aj (code.den ρ))/\cells.size=c.toNat*sh.length/\w0.b.heap.size<=g/\(w0.ex g∨w0.r.heap.size<=g))
 (BC:∀(i:Nat) (p:aH),bl[i]?=some p->m i=g->bP ρ p.1=0∨c<0)
 (ae:(k (n+1) (ie tm d (.w (.one (.sl bl.length sh.length (.const 0) (.const 0) len (.var n))))) (bl++[([.rows sh (.const 0) code (.var n) kd],(e,false))])).holds S L G (dQ ρ n c)) (af:m9 S L w0 k n bl.length ρ m G K):
 K (a.put d (if c<0 then .slice none 0 0 else .slice (some ⟨g,0,none⟩) (len.den ρ).toNat c.toNat)) w:=by
 have ha:agree n ρ (dQ ρ n c):=agree.dQ _ _ _;have qu:dg (n+1) bl.length (dQ ρ n c) bl:=h.b.ext ha (uq _) (bS _);have Sq:Mem w0 (dQ ρ n c) m bl w:=h.bL.tj h.b ha;have ar:code.den (dQ ρ n c)=code.den ρ:=U.ch ha dR;have aG:len.den (dQ ρ n c)=len.den ρ:=U.ch ha Fi;have cm:(U.var n).den (dQ ρ n c)=c:=by simp[U.c6,m4]
 have aQ:(A.rows sh (.const 0) code (.var n) kd).ok (n+1) bl.length (dQ ρ n c):=⟨⟨U.dK _ _,dR.mono (uq _),U.hQ (A1 n)⟩,by rw[ar];exact iL,by rw[cm];omega⟩;have nU:=Sq.push (x:=([.rows sh (.const 0) code (.var n) kd],(e,false))) (g:=g) qu (λy hy=>by simp at hy;subst hy;exact aQ) (λaw=>by cases aw) (λgW k5 code' mN ta he=>by
  cases he;intro _;refine⟨λh=>by rw[cm]at h;rw[ar];exact tL h,λh=>?_⟩;rw[cm]at h;obtain⟨cells,fz,⟨g1,pJ⟩,g2,g3,g4,g5⟩:=Ny h;exact⟨g5.elim .inl λh=> .inr (.inr h),cells,e,fz,g1,⟨by rw[U.bz];exact cF _,by rw[ar,U.bz];exact g2⟩,λ_=>⟨rfl,U.bz _ _,pJ,by rw[cm];exact g3,g4,g5⟩⟩) (λi p hi he=>by
  rcases BC i p hi he with dd|dd
  ·exact .inr (.inl (by rw[yD (h.b _ (fZ hi)) ha];exact dd))
  ·refine .inr (.inr ?_);simp only[bP,cm];rw[if_pos dd])
 have ej:fj n bl.length ρ m (n+1) (bl++[([A.rows sh (.const 0) code (.var n) kd],(e,false))]).length (dQ ρ n c) (od m bl.length g):=⟨uq _,ha,by simp,λb hb=>pk hb⟩;refine af _ _ _ _ _ G _ _ ej (gQ.refl _ _) ⟨fl.put (h.t.ext ej.ha ej.hn ej.hb ej.hm) d ?_ ?_,by rw[put_defers];exact h.d,qu.alloc (λy hy=>by simp at hy;subst hy;exact aQ),nU⟩ ae
 ·refine⟨by simp,⟨U.dK _ _,U.dK _ _,Fi.mono (uq _),U.hQ (A1 n)⟩,?_⟩;rw[U.bz,aG,cm];exact yx
 ·simp only[V.rel,W.den,A.den,aG,cm,U.bz,pY];split<;>simp
theorem ao1 {kd:Nat} {tm:List V} {a:Act} {w:aC} {G:ft} {K:Act->aC->Prop} {k:iP} {e:bw} {d:Option Tmp} {sh:List aV} {code len:U} {c:Int} {g:Nat}
 (jC:2<=kd) (h:R w0 n ρ m tm bl a w) (dR:code.bM n) (Fi:len.bM n) (iL:0<=code.den ρ/\code.den ρ<=dN) (hc:-1<=c/\c<=9223372036854775807) (yx:Ix 0 0 (len.den ρ) c)
 (tL:c<0->aj (code.den ρ)=[])
 (Ny:0<=c->∃(cells:Array a6) (fz:Nat×Nat),(w.heap[g]?=some (.cells cells e fz)/\CC kd fz cells.size)/\pA cells 0 sh (aj (code.den ρ))/\cells.size=c.toNat*sh.length/\w0.b.heap.size<=g/\(w0.ex g∨w0.r.heap.size<=g))
 (BC:∀(i:Nat) (p:aH),bl[i]?=some p->m i=g->bP ρ p.1=0∨c<0)
 (ae:(ZZ kd e d sh code len n tm bl k).holds S L G ρ) (af:m9 S L w0 k n bl.length ρ m G K):
 K (a.put d (if c<0 then .slice none 0 0 else .slice (some ⟨g,0,none⟩) (len.den ρ).toNat c.toNat)) w:=by
 unfold ZZ at ae;exact ao0 jC h dR Fi iL hc yx tL Ny BC (ae c (by omega) (by omega)) af
theorem adF {tm:List V} {a:Act} {w:aC} {G:ft} {K:Act->aC->Prop} {k:iP} {e:bw} {d:Option Tmp} {sh:List aV} {code len:U} {c:Int} {g:Nat}
 (h:R w0 n ρ m tm bl a w) (dR:code.bM n) (Fi:len.bM n) (iL:0<=code.den ρ/\code.den ρ<=dN) (hc:-1<=c/\c<=9223372036854775807) (yx:Ix 0 0 (len.den ρ) c)
 (tL:c<0->aj (code.den ρ)=[])
 (Ny:0<=c->∃cells:Array a6,w.heap[g]?=some (.cells cells e (0,0))/\pA cells 0 sh (aj (code.den ρ))/\cells.size=c.toNat*sh.length/\w0.b.heap.size<=g/\(w0.ex g∨w0.r.heap.size<=g))
 (BC:∀(i:Nat) (p:aH),bl[i]?=some p->m i=g->bP ρ p.1=0∨c<0)
 (ae:(JP e d sh code len n tm bl k).holds S L G ρ) (af:m9 S L w0 k n bl.length ρ m G K):
 K (a.put d (if c<0 then .slice none 0 0 else .slice (some ⟨g,0,none⟩) (len.den ρ).toNat c.toNat)) w:=
 ao1 (kd:=2) (bS 2) h dR Fi iL hc yx tL (λh0=>by
  obtain⟨cells,g1,g2⟩:=Ny h0;exact⟨cells,(0,0),⟨g1,.OL⟩,g2⟩) BC ae af
theorem akV {tm:List V} {a:Act} {w:aC} {G:ft} {K:Act->aC->Prop} {k:iP} {e:bw} {d:Option Tmp} {sh:List aV} {code len:U} {rows:List (List Int)} {c:Nat} {cells:Array a6}
 (h:R w0 n ρ m tm bl a w) (dR:code.bM n) (Fi:len.bM n) (iL:0<=code.den ρ/\code.den ρ<=dN) (xc:aj (code.den ρ)=rows) (b2:∀row∈rows,cP sh row) (hlen:len.den ρ=rows.length)
 (e2:rows.length<=c) (aQ4:c<=9223372036854775807) (aaE:cells.size=c*sh.length) (azA:∃post,cells.toList=cc sh rows++post)
 (ae:(JP e d sh code len n tm bl k).holds S L G ρ) (af:m9 S L w0 k n bl.length ρ m G K):
 K (a.put d (.slice (some ⟨w.heap.size,0,none⟩) rows.length c)) (w.drew.alloc (.cells cells e)):=by
 have w9:R w0 n ρ m tm bl a w.drew:=⟨h.t,h.d,h.b,h.bL.grow (V8 (sA w))⟩;have hR:R w0 n ρ m tm bl a (w.drew.alloc (.cells cells e)):=⟨h.t,h.d,h.b,w9.bL.grow ((sA w.drew).alloc _)⟩;have key:=adF (c:=(c:Int)) (g:=w.heap.size) hR dR Fi iL ⟨by omega,by omega⟩ (by rw[hlen];exact⟨⟨by omega,by omega,by omega,by omega⟩,⟨by omega,by omega⟩,λh=>by omega,λ_=>by omega⟩) (λh=>by omega)
  (λ_=>⟨cells,heap_alloc_new w.drew _,by
    obtain⟨post,hp⟩:=azA;rw[xc];exact⟨b2,[],post,by simpa using hp,rfl⟩,by simpa using aaE,h.bL.ext.size,.inr h.bL.iW⟩) (λi p hi he=>by
    by_cases o4:bP ρ p.1=0
    ·exact .inl o4
    ·have:=w9.bL.lt hi o4;have dd:w.drew.heap.size=w.heap.size:=rfl;omega) ae af
 rw[if_neg (by omega),hlen]at key;simpa using key
theorem aOo {nb:Nat} {v:V} {X:a6} (h:afN v=true) (hv:v.ok n nb ρ) (hr:v.rel ρ m X):∃base,X= .slice base 0 0:=by
 unfold afN at h;split at h
 ·rename_i b bE o ro len cap;split at h
  ·rename_i l c hl hc;simp only[bA,decide_eq_true_eq]at h;have ar:=U.lp hl (ρ:=ρ);have aG:=U.lp hc (ρ:=ρ);have hr:X=(A.sl b bE o ro len cap).den ρ m:=hr;simp only[A.den,ar,aG,h.1,h.2]at hr;exact⟨_,hr⟩
  ·cases h
 ·rename_i b off len cap;simp only[bA]at h;have ar:=bV h.1;have aG:=bV h.2;subst ar;subst aG;exact⟨_,hr⟩
 ·exact⟨none,hr⟩
 ·cases h
theorem aki (w:aC) (size:Nat) (base:Option Addr) (c:Nat):(LW size 0 (.slice base 0 c)).run P w= .ok #[] w:=by
 cases base with
 |none=>exact run_firstCells_none w size 0 0 c
 |some b=>exact Wj w size 0 b 0 c [] (by simp) (λj v h=>by simp at h)
theorem R.later {n':Nat} {ad:Env} {tm:List V} {a:Act} {w:aC} (h:R w0 n ρ m tm bl a w) (hn:n<=n') (ha:agree n ρ ad):R w0 n' ad m tm bl a w:=
 ⟨h.t.ext ha hn (bS _) (λ_ _=>rfl),h.d,h.b.ext ha hn (bS _),h.bL.tj h.b ha⟩
theorem m2:aj 0=[]:=kp []
theorem R.kill {tm:List V} {a:Act} {w:aC} {b k:Nat} {sh:List aV} {off code cap:U} {t:bw×Bool} (h:R w0 n ρ m tm bl a w) (ba:bl[b]?=some ([.rows sh off code cap k],t)):R w0 n ρ m tm (eD bl b ([.rows sh off code cap 0],t)) a w:=
 ⟨by rw[mA];exact h.t,h.d,h.b.set (λy hy=>by
  simp at hy;subst hy;exact h.b _ (fZ ba) (.rows sh off code cap k) (by simp)),h.bL.kill ba⟩
theorem aus {tm:List V} {a:Act} {w:aC} {G:ft} {o:Oper} {K:Act->aC->Prop} {Q:Exit->Act->aC->Prop} {k:iP} {c:Call} {s x:rF} {t t':bw} {sE:T}
 (h:R w0 n ρ m tm bl a w) (hj:o.op= .call c) (nX:c.callee= .builtin .append) (jD:c.args.toList=[s,x]) (qz:c.argTypes.toList=[t,t'])
 (bI:Yu P o.dst t t' (cu tm s) (cu tm x) n tm bl k=some sE) (ae:sE.holds S L G ρ) (af:m9 S L w0 k n bl.length ρ m G K):o.wp P a w K Q:=by
 have bG:c.args=#[s,x]:=by rw[<-m6 (xs:=c.args),jD]
 have a2:c.argTypes=#[t,t']:=by rw[<-m6 (xs:=c.argTypes),qz]
 have hex:execOp a.eval o=(do pure (m7 (<-LV #[t,t'] o.type #[a.eval s,a.eval x]))):=by
  simp[execOp,hj,resolve,nX,bG,a2,invoke,builtin]
 have Dd:∀v w',(LV #[t,t'] o.type #[a.eval s,a.eval x]).run P w= .ok v w'->K (a.put o.dst v) w'->o.wp P a w K Q:=λv w' h1 h2=>by
  unfold qR;simp only[hex,jV,h1,kg,lH];exact h2
 have hs:=db h.t s;have hx:=db h.t x;unfold Yu at bI;split at bI
 ·cases bI
 rename_i e Dc;split at bI
 rotate_left
 ·cases bI
 rename_i i z hi hz;obtain⟨inf,vn,q4,lr,w7⟩:=Qh hz;rw[hi]at q4;simp only[bp]at q4;subst q4;have xh:vn.cells.size=z.length:=by
  have:=(EF w7 n bl.length ρ m).2;have:=congrArg qP this;simpa using this.symm
 split at bI
 ·
  rename_i aby
  obtain⟨base,vH⟩:=aOo aby hs.1 hs.2;split at bI
  rotate_left
  ·cases bI
  rename_i sh _;cases jB:JN sh i z with
  |false=>simp[jB]at bI
  |true=>
  simp only[jB,cond_true,bp]at bI;subst bI;unfold JN at jB;simp only[bA]at jB;obtain⟨⟨⟨d1,d2⟩,d3⟩,d4⟩:=jB;have d2:=bV d2;have d3:=bV d3;have d4:=gY d4;unfold akC at ae;have cw:(U.const 0).den ρ=0:=U.bz _ _;obtain⟨ad,n',p,hn,ha,⟨a1,bB,cp,eQ,eC,lz,oa,oJ,pd⟩,ae⟩:=(aqa (P:=P) d1 h.b h.bL hx.1 hx.2 (U.dK _ _) (by rw[cw];exact⟨cF _,by have:=x3 (l:=[]) (by simp) (by simp);exact Ct (k7 []) this⟩) (by rw[cw,m2];simp)) G _ ae;rw[cw,m2,eM]at eC;rw[cw,m2]at oJ;simp only[rD,A2]at oJ;have w3:=h.later hn ha;have o3:=af.later (G1:=G) (⟨hn,ha,bS _,λ_ _=>rfl⟩:fj n bl.length ρ m n' bl.length ad m) (gQ.refl _ _);rw[<-d2]at pd;have al3:eQ.length=0->(k n' (ie tm o.dst (cu tm s)) bl).holds S L G ad->o.wp P a w K Q:=λh0 Sg=>by
   have j4:eQ=[]:=zw h0;subst j4;refine Dd _ _ (by rw[vH];exact run_append_nothing w t t' o.type e i (jT Dc) hi base 0 0 (bS _) _ pd) ?_;refine o3 n' ad m _ bl G _ w (fj.refl _ _ _ _) (gQ.refl _ _) ⟨fl.put w3.t o.dst (db w3.t s).1 ?_,by rw[put_defers];exact h.d,w3.b,w3.bL⟩ Sg;rw[<-vH];exact(db w3.t s).2
  have alN:0<eQ.length->(JP e o.dst sh p.1 p.2 n' tm bl k).holds S L G ad->o.wp P a w K Q:=λh0 Sg=>by
   have Na:=akW w (0+eQ.length) 0 e (by omega);refine Dd _ _ (by rw[vH];exact run_append_grow_src w t t' o.type e i vn (jT Dc) hi lr base 0 0 [] (aki _ _ _ _) _ _ _ pd (by omega) (by omega) (growslice_fits (by omega) (by
    have:=asb (show 0+eQ.length<=1073741824 by omega) d4;omega))) ?_
   have key:=akV (c:=grownCap w (0+eQ.length) 0 e) (cells:=([]++cc sh eQ).toArray++xU vn.cells (grownCap w (0+eQ.length) 0 e-(0+eQ.length))) w3 a1 bB cp eC oa lz (by omega) Na.2 (by
    have:=pd.newsLen;rw[aPk,ar1,xh,d3,Cx,eM,this,d2,<-Cz]
    congr 1;omega) ⟨(xU vn.cells (grownCap w (0+eQ.length) 0 e-(0+eQ.length))).toList,by simp⟩ Sg o3
   simpa using key
  split at ae
  ·rename_i hc0;have:=U.lp hc0 (ρ:=ad);exact al3 (by omega) ae
  ·rename_i Rt hc0 dz;have:=U.lp dz (ρ:=ad);exact alN (by
    have:Rt≠0:=λe=>hc0 e;omega) ae
  ·simp only[T.holds,bH.den,U.bz,decide_eq_true_eq,decide_eq_false_iff_not]at ae;by_cases h0:eQ.length=0
   ·exact al3 h0 (ae.1 (by omega))
   ·exact alN (by omega) (ae.2 (by omega))
 ·split at bI
  rotate_left
  ·cases bI
  rename_i b bE off ro len cap uS;split at bI
  rotate_left
  ·cases bI
  rename_i sh k5 code gD kind eH ba;cases jB:(JN sh i z&&aR kind 2&&U.beq off (.const 0)&&U.beq k5 (.const 0)&&U.beq ro (.const 0)&&U.beq cap gD&&aR eH.1 e)with
  |false=>rw[jB]at bI;cases bI
  |true=>
  rw[jB]at bI;simp only[cond_true,bp]at bI;subst bI;simp only[bA]at jB;obtain⟨⟨⟨⟨⟨⟨jB,k2⟩,bQ⟩,b9⟩,dh⟩,mI⟩,mJ⟩:=jB;have mJ:=bV mJ;have k2:=bV k2;have bQ:=U.beq_eq bQ;have b9:=U.beq_eq b9;have dh:=U.beq_eq dh;have mI:=U.beq_eq mI;subst k2;subst bQ;subst b9;subst dh;subst mI;unfold JN at jB;simp only[bA]at jB;obtain⟨⟨⟨d1,d2⟩,d3⟩,d4⟩:=jB;have d2:=bV d2;have d3:=bV d3;have d4:=gY d4;obtain⟨Sj,ae⟩:=ae;simp only[dk,gZ,az]at Sj;rw[uS]at hs;have Hw:(A.sl b bE (.const 0) (.const 0) len cap).ok n bl.length ρ:=hs.1;obtain⟨ptr,ar,aG,cm⟩:=AP (m:=m) Hw;have vH:a.eval s=(A.sl b bE (.const 0) (.const 0) len cap).den ρ m:=hs.2;rw[ar]at vH;obtain⟨ah,⟨ag,ao,dB,kb⟩,⟨kq,oe,po,pq⟩,⟨p2,pn⟩,jH,k8⟩:=Hw;rw[U.bz]at pn;have pN:=h.bL.rws b sh (.const 0) code cap 2 eH ba (by decide);have iT:(A.rows sh (.const 0) code cap 2).ok n bl.length ρ:=h.b _ (fZ ba) _ (by simp);obtain⟨⟨r1,r2,ig⟩,aZ,aE⟩:=iT;have mT:∀row∈aj (code.den ρ),cP sh row:=λrow hr=>by
   rcases m5 (cap.den ρ) 0 with h|h
   ·rw[pN.1 h]at hr;simp at hr
   ·obtain⟨_,cells,mg,fz,_,⟨_,g3⟩,_⟩:=pN.2 h;exact g3.1 row hr
  obtain⟨ad,n',p,hn,ha,⟨a1,bB,cp,eQ,eC,lz,oa,oJ,pd⟩,ae⟩:=(aqa (P:=P) d1 h.b h.bL hx.1 hx.2 r2 aZ mT) G _ ae;rw[<-d2]at pd;generalize xc:aj (code.den ρ)=rows at*;have azR:=h.kill ba;have w3:=azR.later hn ha;have qu:=mA bl b ([.rows sh (.const 0) code cap 0],eH);have o3:m9 S L w0 k n' (eD bl b ([.rows sh (.const 0) code cap 0],eH)).length ad m G K:=by
   rw[qu];exact af.later (⟨hn,ha,bS _,λ_ _=>rfl⟩:fj n bl.length ρ m n' bl.length ad m) (gQ.refl _ _)
  have Sp:(len.add p.2).den ad=(rows++eQ).length:=by
   rw[U.den_add,U.ch ha dB,lz,Sj];simp
  have jR:∀row∈rows++eQ,cP sh row:=λrow hr=>(List.mem_append.1 hr).elim (mT row) (oa row);have al2:=pd.newsLen;have Nz:(len.den ρ).toNat=rows.length:=by omega
  have lq:cap.den ad=cap.den ρ:=U.ch ha kb;have aa1:(len.add p.2).bM n':=U.y0 (dB.mono hn) bB;have Sm:(rows++eQ).length=rows.length+eQ.length:=gx;have mR:(cc sh rows).length=rows.length*i.size:=by rw[sX mT,d2]
  by_cases NO:((rows.length+eQ.length:Nat):Int)<=cap.den ρ∨(cap.den ρ<0/\eQ.length=0)
  ·by_cases hc0:cap.den ρ<0
   ·
    have j4:eQ.length=0:=by rcases NO with h|h<;>omega
    have j4:eQ=[]:=zw j4;subst j4;have abd:rows=[]:=pN.1 hc0;subst abd;have tJ:=jH hc0;refine Dd _ _ (by rw[vH,aG hc0,if_pos hc0,tJ];exact run_append_nothing w t t' o.type e i (jT Dc) hi none 0 0 (bS _) _ pd) ?_;have key:=adF (c:=-1) (g:=w.heap.size) w3 a1 aa1 cp ⟨by omega,by omega⟩ (by rw[Sp];exact⟨⟨by omega,by omega,by omega,by omega⟩,⟨by omega,by omega⟩,λh=>by simp,λh=>by omega⟩) (λ_=>by rw[eC];rfl) (λh=>by omega) (λ_ _ _ _=> .inr (by omega)) ae o3;rw[if_pos (by omega)]at key;exact key
   ·
    obtain⟨_,cells,mg,fz,g1,⟨g2,g3⟩,g4⟩:=pN.2 (by omega);obtain⟨g0,g5,g6,g7,g8,g9⟩:=g4 (by decide);subst g0;have g6:=g6.two;subst g6;rw[U.bz]at g3;obtain⟨_,pre,post,g10,g11⟩:=g3;have rZ:pre=[]:=zw (by simpa using g11);subst rZ;simp only[eM]at g10;have hsz:cells.size=(cc sh rows).length+post.length:=by rw[<-Gi,g10,gx]
    have ama:rows.length+eQ.length<=(cap.den ρ).toNat:=by rcases NO with h|h<;>omega
    have Ff:rows.length*i.size+(cc sh eQ).length<=cells.size:=by
     rw[al2,g7,<-Cz,d2];exact asx _ ama
    have kZ:=aJ0 w t t' o.type e i (jT Dc) hi (m b) rows.length (cap.den ρ).toNat cells eH.1 g1 _ _ _ pd ama Ff;have aAC:a.eval s= .slice (some ⟨m b,0,none⟩) rows.length (cap.den ρ).toNat:=by
     rw[vH,cm (by omega),if_neg hc0,Nz,U.bz];simp
    refine Dd _ _ (by rw[aAC];exact kZ) ?_;have ys:(cells.toList.take (rows.length*i.size)++cc sh eQ++cells.toList.drop (rows.length*i.size+(cc sh eQ).length))=cc sh (rows++eQ)++cells.toList.drop (rows.length*i.size+(cc sh eQ).length):=by
     rw[zX,g10,Qs (by omega),<-mR,afY]
    rw[ys];have Sr:=h.bL.put (kd:=2) (cells:=cells) (fz:=(0,0)) (code':=code) (by decide) ba (by omega) (row:=(cc sh (rows++eQ)++cells.toList.drop (rows.length*i.size+(cc sh eQ).length)).toArray) (λ_=>⟨λh=>by omega,λ_=>⟨g9.elim .inl λh=> .inr (.inr h),_,_,(0,0),QD w (m b) _ _ _ _ g1,⟨g2,by
     rw[xc,U.bz];exact⟨mT,[],cc sh eQ++cells.toList.drop (rows.length*i.size+(cc sh eQ).length),by simp[zX],rfl⟩⟩,λ_=>⟨rfl,g5,.OL,by
     rw[<-g7];simp only[Cx,gx,p4,Gi,zX];omega,g8,g9⟩⟩⟩)
    have aAy:eD bl b ([.rows sh (.const 0) code cap 2],eH)=bl:=by
     rw[m3];exact af8 λj=>by
      rw[wv];split
      ·rename_i aO;subst aO
       first|exact ba.symm|(rw[if_pos (List.getElem?_eq_some_iff.1 ba).1];exact ba.symm)
      ·rfl
    rw[aAy]at Sr;have M1:R w0 n ρ m tm bl a (w.setRow (m b) (cc sh (rows++eQ)++cells.toList.drop (rows.length*i.size+(cc sh eQ).length)).toArray):=⟨h.t,h.d,h.b,Sr⟩;have aye:=(M1.kill ba).later hn ha;have key:=adF (e:=e) (d:=o.dst) (c:=cap.den ρ) (g:=m b) aye a1 aa1 cp ⟨by omega,by omega⟩ (by rw[Sp,Sm];exact⟨⟨by omega,by omega,by omega,by omega⟩,⟨by omega,by omega⟩,λh=>by omega,λh=>by omega⟩) (λh=>by omega)
     (λ_=>⟨_,by rw[<-mJ];exact QD w (m b) _ _ _ _ g1,by
       rw[eC];exact⟨jR,[],cells.toList.drop (rows.length*i.size+(cc sh eQ).length),by simp,rfl⟩,by
       rw[<-g7];simp only[Cx,gx,p4,Gi,zX];omega,g8,g9⟩) (λj q aO he=>by
       by_cases Hp:j=b
       ·subst Hp;rw[m3,asc (List.getElem?_eq_some_iff.1 ba).1]at aO;simp only[bp]at aO;subst aO;exact .inl (by simp[bP])
       ·rw[m3,afX (λe=>Hp e.symm)]at aO;have pL:bP ρ [A.rows sh (.const 0) code cap 2]=2:=vO (by decide) (by omega);have azS:bP ρ q.1=0:=by
         rcases h.bL.inj j b q _ aO ba he with dd|dd|dd|dd
         ·exact absurd dd Hp
         ·have:=dd.2;simp only[pL]at this;omega
         ·exact dd
         ·simp only[pL]at dd;omega
        exact .inl (by rw[yD (h.b _ (fZ aO)) ha];exact azS)) ae o3
    rw[if_neg hc0,Sp,Sm,kf]at key;exact key
  ·
   have alO:(if cap.den ρ<0 then 0 else(cap.den ρ).toNat)<rows.length+eQ.length:=by
    split
    ·rename_i hc;have:¬eQ.length=0:=λe=>NO (.inr ⟨hc,e⟩);omega
    ·omega
   have hold:(LW i.size rows.length (.slice ptr rows.length (if cap.den ρ<0 then 0 else(cap.den ρ).toNat))).run P w.drew= .ok (cc sh rows).toArray w.drew:=by
    by_cases hc:cap.den ρ<0
    ·have abd:rows=[]:=pN.1 hc;subst abd;exact aki _ _ _ _
    ·obtain⟨_,cells,mg,fz,g1,⟨g2,g3⟩,g4⟩:=pN.2 (by omega);rw[cm (by omega)];refine Wj w.drew i.size rows.length _ rows.length _ (cc sh rows) mR λj v hv=>?_;rw[lb,U.bz];have:=g3.flat hv;rw[U.bz]at this;have pJ:w.drew.heap[m b]?=some (.cells cells mg fz):=g1;simp only[pw,pJ,zy,zz,if_false];simpa using this
   have Na:=akW w (rows.length+eQ.length) (if cap.den ρ<0 then 0 else(cap.den ρ).toNat) e oJ;refine Dd _ _ (by rw[vH,Nz];exact run_append_grow_src w t t' o.type e i vn (jT Dc) hi lr ptr rows.length _ (cc sh rows) hold _ _ _ pd alO (by omega) (growslice_fits alO (by
    have:=asb oJ d4;omega))) ?_
   have key:=akV (e:=e) (d:=o.dst) (c:=grownCap w (rows.length+eQ.length) (if cap.den ρ<0 then 0 else(cap.den ρ).toNat) e) (cells:=(cc sh rows++cc sh eQ).toArray++xU vn.cells (grownCap w (rows.length+eQ.length) (if cap.den ρ<0 then 0 else(cap.den ρ).toNat) e-(rows.length+eQ.length))) w3 a1 aa1 cp eC jR Sp (by rw[Sm];exact Na.1) Na.2 (by
    rw[aPk,ar1,xh,d3,Cx,gx,mR,al2,<-Cz,d2,<-Cz]
    congr 1;omega) ⟨(xU vn.cells (grownCap w (rows.length+eQ.length) (if cap.den ρ<0 then 0 else(cap.den ρ).toNat) e-(rows.length+eQ.length))).toList,by rw[zX];simp⟩ ae o3
   rw[Sm]at key;exact key
theorem aK3 {tm:List V} {a:Act} {w:aC} {G:ft} {o:Oper} {K:Act->aC->Prop} {Q:Exit->Act->aC->Prop} {k:iP} {sE:T}
 (h:R w0 n ρ m tm bl a w) (bI:aeM P o n tm bl k=some sE) (ae:sE.holds S L G ρ) (af:m9 S L w0 k n bl.length ρ m G K):o.wp P a w K Q:=by
 unfold aeM at bI;split at bI
 ·rename_i c aw;split at bI
  ·rename_i hc;split at bI
   ·rename_i s x t t' jD qz;exact aus h aw hc jD qz bI ae af
   ·cases bI
  ·cases bI
 ·cases bI
end
end Go.bX
namespace Go.bX
open M
theorem PS:∀{s1 s2:List aV} {l1 l2:List Int},l1.length=s1.length->eu (s1++s2) (l1++l2)=eu s1 l1++eu s2 l2
 |[],_,[],_,_=>rfl
 |c::s1,s2,z::l1,l2,h=>by
  simp only[jJ,eu,PS (s1:=s1) (s2:=s2) (l1:=l1) (l2:=l2) (by simpa using h)]
 |[],_,_::_,_,h=>by simp at h
 |_::_,_,[],_,h=>by simp at h
theorem L6:∀{s1 s2:List aV} {l1 l2:List Int},l1.length=s1.length->(cP (s1++s2) (l1++l2)↔cP s1 l1/\cP s2 l2)
 |[],_,[],_,_=>by simp[cP]
 |c::s1,s2,z::l1,l2,h=>by
  simp only[jJ,cP,L6 (s1:=s1) (s2:=s2) (l1:=l1) (l2:=l2) (by simpa using h),and_assoc]
 |[],_,_::_,_,h=>by simp at h
 |_::_,_,[],_,h=>by simp at h
theorem apq {sh:List aV} {row ls:List Int} {j s:Nat} (h:cP sh row) (hl:cP ((sh.drop j).take s) ls) (aO:j+s<=sh.length):
 cP sh (row.take j++ls++row.drop (j+ls.length))/\eu sh (row.take j++ls++row.drop (j+ls.length))=(eu sh row).take j++eu ((sh.drop j).take s) ls++(eu sh row).drop (j+s):=by
 have hlen:=h.len;have aa0:ls.length=s:=by rw[hl.len];simp;omega
 have e:sh=sh.take j++((sh.drop j).take s++sh.drop (j+s)):=by
  rw[<-Cs,oQ,oQ]
 have pI:row=row.take j++((row.drop j).take s++row.drop (j+s)):=by
  rw[<-Cs,oQ,oQ]
 have l1:(row.take j).length=(sh.take j).length:=by simp[hlen]
 have l2:((row.drop j).take s).length=((sh.drop j).take s).length:=by simp[hlen]
 have oG:ls.length=((sh.drop j).take s).length:=hl.len;have h0:cP (sh.take j++((sh.drop j).take s++sh.drop (j+s))) (row.take j++((row.drop j).take s++row.drop (j+s))):=by rw[<-e,<-pI];exact h
 rw[L6 l1,L6 l2]at h0;have hv:eu sh row=eu (sh.take j) (row.take j)++(eu ((sh.drop j).take s) ((row.drop j).take s)++eu (sh.drop (j+s)) (row.drop (j+s))):=by
  conv=>lhs;rw[e,pI]
  rw[PS l1,PS l2]
 have k1:(eu (sh.take j) (row.take j)).length=j:=by rw[Io h0.1];simp;omega
 have k2:(eu ((sh.drop j).take s) ((row.drop j).take s)).length=s:=by rw[Io h0.2.1];simp;omega
 rw[aa0];refine⟨?_,?_⟩
 ·rw[iI]
  conv=>lhs;rw[e]
  rw[L6 l1,L6 oG];exact⟨h0.1,hl,h0.2.2⟩
 ·rw[iI]
  conv=>lhs;rw[e]
  have aA:(eu sh row).take j=eu (sh.take j) (row.take j):=by rw[hv];exact List.take_left' k1
  have hd:(eu sh row).drop (j+s)=eu (sh.drop (j+s)) (row.drop (j+s)):=by
   rw[hv,<-iI];exact List.drop_left' (by rw[gx,k1,k2])
  rw[PS l1,PS oG,aA,hd,iI]
theorem ZR {sh:List aV}:∀{rows:List (List Int)} {i:Nat} {row:List Int},rows[i]?=some row->cc sh rows=cc sh (rows.take i)++(eu sh row++cc sh (rows.drop (i+1)))
 |r::rs,0,row,h=>by simp at h;subst h;simp[cc]
 |r::rs,i+1,row,h=>by
  have ih:=ZR (sh:=sh) (rows:=rs) (i:=i) (by simpa using h);simp only[cc,wy,mG,List.drop_succ_cons]at ih⊢;rw[ih,iI]
 |[],_,_,h=>by simp at h
theorem awW {sh:List aV} {rows:List (List Int)} {i:Nat} {row Il:List Int} (h:rows[i]?=some row):cc sh (rows.set i Il)=cc sh (rows.take i)++(eu sh Il++cc sh (rows.drop (i+1))):=by
 have hlt:=(List.getElem?_eq_some_iff.1 h).1;have:=ZR (sh:=sh) (rows:=rows.set i Il) (i:=i) (row:=Il) (by simp[hlt]);rw[this,List.take_set,List.drop_set_of_lt (by omega)]
 congr 1
 congr 1
 rw[List.set_eq_of_length_le (by simp;omega)]
theorem aei {P:bU} (g o:Nat) (t:bw) (fz:Nat×Nat) (kd:Nat):∀(vs:List a6) (i:Nat) (cur:Array a6) (w:aC),CC kd fz cur.size->w.heap[g]?=some (.cells cur t fz)->o+i+vs.length<=cur.size->(∀v∈vs,v.oneCell'=true)->
 (storeCells ⟨g,o,none⟩ vs i).run P w= .ok () (w.setRow g (cur.toList.take (o+i)++vs++cur.toList.drop (o+i+vs.length)).toArray)
 |[],i,cur,w,_,hg,_,_=>by
  simp only[storeCells,iq,rD,pv,oQ,m6];rw[setRow_self w g cur t fz hg];rfl
 |v::rest,i,cur,w,aaL,hg,hl,h1=>by
  have hi:o+i<cur.size:=by simp at hl;omega
  have hcell:w.cell? ⟨g,o+i,none⟩=some cur[o+i]:=by simp[pw,hg,hi]
  have azC:w.frozen? ⟨g,o+i,none⟩=false:=by
   rcases aaL with⟨_,rfl⟩|⟨_,rfl⟩
   ·simp[Gd,hg]
   ·simp[Gd,hg];omega
  have s3:(store ((⟨g,o,none⟩:Addr).add i) v).run P w= .ok () (w.setRow g (cur.setIfInBounds (o+i) v)):=by
   rw[lb,run_store P w _ v _ (h1 v (by simp)),hcell];simp[azC,setCell_eq_setRow w g (o+i) cur t fz v hg]
  have ih:=aei (P:=P) g o t fz kd rest (i+1) (cur.setIfInBounds (o+i) v) (w.setRow g (cur.setIfInBounds (o+i) v)) (by simpa using aaL) (QD w g cur _ t _ hg) (by simp at hl⊢;omega) (λx hx=>h1 x (by simp[hx]));simp only[storeCells,jV,s3,kg,ih,setRow_setRow]
  congr 3
  have e:=list_seg_step cur.toList (o+i) v rest (by simp at hl⊢;omega);simpa [Array.toList_setIfInBounds,Nat.add_assoc]using e
section
variable {S:Nat->List Int->List Int->Prop} {L:V->Env->Prop} {n:Nat} {ρ:Env} {m:Nat->Nat} {bl:List aH} {gl:fO} {w0:eV} {P:bU}
theorem amH {tm:List V} {a:Act} (h:fl n bl.length ρ m tm a.tmps) {x:rF} {l:U} (hl:yA (cu tm x)=some l):∃k,a.eval x= .int k (l.den ρ)/\l.bM n:=by
 have hx:=db h x;unfold yA at hl;split at hl
 ·rename_i k ma hv;simp only[bp]at hl;subst hl;rw[hv]at hx;exact⟨k,hx.2,hx.1.1⟩
 ·cases hl
theorem Mem.mark {w0:eV} {P:bU} {ρ:Env} {m:Nat->Nat} {bl:List aH} {w:aC} {b c:Nat} {C:List A} {code:U} {t:bw×Bool} {s e:bw} (h:Mem w0 ρ m bl w) (ba:bl[b]?=some (C,t)) (aw:cd C=true) (aA:t.2=false) (hlen:C.length=c)
 (hs:P.underlying s=some (.slice e)) (he:P.underlying e=some (.int .u8))
 (mT:∀row∈aj (code.den ρ),cP lK row) (mR:cc lK (aj (code.den ρ))=C.map (A.den ρ m)):
 ∃w',(convert s s (.slice (some ⟨m b,0,none⟩) c c)).run P w= .ok (.slice (some ⟨m b,0,none⟩) c c) w'/\Mem w0 ρ m (eD bl b ([.rows lK (.const 0) code (.const c) 3],t)) w':=by
 have uM:b<bl.length:=(List.getElem?_eq_some_iff.1 ba).1;obtain⟨a1,bB,r,hr,cp⟩:=h.hI b C t ba aw;have hr:=hr aA;subst hr;rw[iq]at cp;have hsz:(C.map (A.den ρ m)).toArray.size=c:=by simp[hlen]
 have ny:w.shape? (m b)=some (t.1,c):=by
  unfold World.shape?;rw[cp];simp[hlen]
 have J1:∀i:Nat,i≠m b->(w.freeze ⟨m b,c,none⟩ 1).heap[i]?=w.heap[i]?:=λi hi=>by
  unfold agc;rw[if_neg (by decide)];simp only[aPo];rw[if_neg (λe=>hi e.symm)]
 have uO:(w.freeze ⟨m b,c,none⟩ 1).heap[m b]?=some (.cells (C.map (A.den ρ m)).toArray t.1 (c,c+1)):=by
  unfold agc;rw[if_neg (by decide)];simp only[aPo,if_true,cp,AY];rfl
 have alL:(w.freeze ⟨m b,c,none⟩ 1).heap.size=w.heap.size:=by
  unfold agc;rw[if_neg (by decide)];simp
 refine⟨w.freeze ⟨m b,c,none⟩ 1,?_,?_⟩
 ·simp[convert,hV hs,hV he,markStringish,ny]
 generalize w4:w.freeze ⟨m b,c,none⟩ 1=w' at*;have km:w'.os=w.os/\w'.tape=w.tape/\w'.output=w.output:=by
  subst w4;unfold agc;rw[if_neg (by decide)];exact⟨rfl,rfl,rfl⟩
 have eO:∀(i:Nat) (p:aH),(eD bl b ([.rows lK (.const 0) code (.const c) 3],t))[i]?=some p->(i=b/\p=([.rows lK (.const 0) code (.const c) 3],t))∨(i≠b/\bl[i]?=some p):=λi p hi=>by
  rw[m3,wv]at hi;split at hi
  ·rename_i iV;subst iV;simp only[uM,if_true,bp]at hi;exact .inl ⟨rfl,hi.symm⟩
  ·rename_i iV;exact .inr ⟨λe=>iV e.symm,hi⟩
 have pL:bP ρ C=2:=n6 aw;have Sh:bP ρ [.rows lK (.const 0) code (.const c) 3]=3:=vO (by decide) (by rw[U.bz];omega);have aa6:∀i:Nat,i<w0.b.heap.size->w'.heap[i]?=w.heap[i]?:=λi hi=>J1 i (by omega);have Nj:w0.b.Extends w':=⟨km.1.trans h.ext.os,km.2.1.trans h.ext.tape,km.2.2.trans h.ext.output,by rw[alL];exact h.ext.size,
  λy hy=>gX (by simp only[pw,aa6 y.block hy]) (h.ext.cell y hy),λy hy=>gX (by simp only[Gd,aa6 y.block hy]) (h.ext.frozen y hy),λi hi=>(aa6 i hi).trans (h.ext.block i hi)⟩
 refine⟨Nj,km.1.trans h.km,km.2.1.trans h.mU,km.2.2.trans h.l8,by rw[alL];exact h.iW,λi hi hx=>?_,λi lM t' hi kE=>?_,λi gW k5 code' mN ta t' hi=>?_,λi j p q hi aO he=>?_⟩
 ·rw[J1 i (λe=>by
   subst e;rcases bB with h3|h3
   ·exact hx h3
   ·omega)]
  exact h.j1 i hi hx
 ·rcases eO i _ hi with⟨rfl,eN⟩|⟨dz,hi⟩
  ·cases eN;cases kE
  ·obtain⟨g1,pJ,g2⟩:=h.hI i lM t' hi kE;exact⟨g1,pJ,by rw[J1 (m i) (λe=>h.ne ba hi (by rw[pL];exact bS 2) (by rw[n6 kE];decide) (λe=>dz e.symm) (by first|exact e|exact e.symm))];exact g2⟩
 ·rcases eO i _ hi with⟨rfl,eN⟩|⟨dz,hi⟩
  ·cases eN;intro _;simp only[U.bz];refine⟨λh0=>by omega,λ_=>⟨bB.elim .inl λh=> .inr (.inr h),_,_,_,uO,⟨cF _,mT,[],[],by simp[mR],rfl⟩,λ_=>⟨rfl,by trivial,.inr ⟨by decide,by rw[hsz]⟩,by simp[hlen,lK],a1,bB⟩⟩⟩
  ·exact(h.rws i gW k5 _ mN ta t' hi).grow λaf hc=>J1 (m i) (λe=>h.ne ba hi (by rw[pL];exact bS 2) (by simp only[vO af hc];exact af) (λe=>dz e.symm) (by first|exact e|exact e.symm))
 ·have af:∀(i:Nat) (p:aH),(eD bl b ([.rows lK (.const 0) code (.const c) 3],t))[i]?=some p->∃dO,bl[i]?=some dO/\(bP ρ dO.1=bP ρ p.1∨(bP ρ dO.1=2/\bP ρ p.1=3)):=λi p hi=>by
   rcases eO i _ hi with⟨rfl,eN⟩|⟨dz,hi⟩
   ·exact⟨_,ba,.inr ⟨pL,by rw[eN];exact Sh⟩⟩
   ·exact⟨p,hi,.inl rfl⟩
  obtain⟨dO,hp,ep⟩:=af i p hi;obtain⟨fM,ai,eq⟩:=af j q aO;have:=h.inj i j dO fM hp ai he;omega
theorem ajY:∀(n t:Nat) (acc:Array a6),∃l:List (List Int),l.length=n/\(∀r∈l,cP lK r)/\(CA n t acc).toList=acc.toList++cc lK l
 |0,_,_=>⟨[],rfl,by simp,by simp[CA,cc]⟩
 |n+1,t,acc=>by
  obtain⟨l,h1,h2,h3⟩:=ajY n (t/256) (acc.push (.int .u8 (Int.ofNat (t% 256))));refine⟨[((t% 256:Nat):Int)]::l,by simp[h1],λr hr=>?_,?_⟩
  ·rcases List.mem_cons.1 hr with rfl|hr
   ·exact⟨⟨by simp only[aV.ia];omega,by simp only[aV.ia];omega⟩,trivial⟩
   ·exact h2 r hr
  ·rw[CA,h3];simp[cc,lK,eu,aV.val]
theorem aJ2 {P:bU} (w:aC) (ly:Array bw) (t e:bw) (aA:P.underlying t=some (.slice e)) (n:Nat) (hn:n<=281474976710656):
 ∃(c d:Nat),(agd ly #[t] #[.int .i64 n]).run P w= .ok (.slice (some ⟨w.heap.size,0,none⟩) n c) (w.drew.drew.alloc (.cells (CA c d #[]) e))/\n<=c/\(n<=maxLen->c<=maxLen):=by
 have Nf:agd ly #[t] #[.int .i64 n]=
  (do
    let .slice elem<-underlying t|stuck "bytealg.MakeNoZero: slice type expected"
    if(n:Int)<0||(n:Int)>2^48 then runtimePanic (.error "makeslice: len out of range")
    let cap<-choose (.appendCap (n:Int).toNat 0 elem)
    askRoom cap
    let bytes<-choose (.extern "internal/bytealg.MakeNoZero.bytes" 0);let a<-newRow elem (CA cap bytes #[])
    pure (.slice (some a) (n:Int).toNat cap)):=rfl
 have h1:¬(n:Int)<0:=by omega
 have h2:¬(281474976710656:Int)<(n:Int):=by omega
 exact⟨grownCap w n 0 e,_,by
  rw[Nf];simp[hV aA,h1,h2,Question.forced,newRow,grownCap];rfl,by simpa using grownCap_ge w n 0 e,λhm=>by simpa using grownCap_le_maxLen w n 0 e hm⟩
theorem awP {fn:Func} (h:SN fn=true):fn.body.isNone=true/\(fn.name== "runtime.NumGoroutine")=false/\afZ fn=none/\af0 fn=some (agd fn.params fn.resultTypes):=by
 unfold SN at h;simp only[bA,beq_iff_eq]at h;obtain⟨⟨h1,h2⟩,h3⟩:=h;have g1:Extern.allNextRows.lookup "internal/bytealg.MakeNoZero" =none:=by kernel_rfl
 have g2:Extern.allNextRows.lookup "" =none:=by kernel_rfl
 have g3:Extern.allGenericRows.lookup "internal/bytealg.MakeNoZero" =none:=by kernel_rfl
 have g4:Extern.allTypedRows.lookup "internal/bytealg.MakeNoZero" =some agd:=by kernel_rfl
 refine⟨h2,by rw[h1];decide,?_,?_⟩
 ·unfold afZ;simp only[h1,h3,g1,g2];rfl
 ·unfold af0;simp only[h1,g3,g4];rfl
theorem aK5 {tm:List V} {a:Act} {w:aC} {G:ft} {o:Oper} {K:Act->aC->Prop} {Q:Exit->Act->aC->Prop} {k:iP} {sE:T}
 (h:R w0 n ρ m tm bl a w) (bI:DS P o n tm bl k=some sE) (ae:sE.holds S L G ρ) (af:m9 S L w0 k n bl.length ρ m G K):o.wp P a w K Q:=by
 unfold DS at bI;split at bI
 ·rename_i t p x aw;have hp:=db h.t p;have hx:=db h.t x;split at bI
  ·rename_i b bE c4 i j u NI Hy;rw[NI]at hp;rw[Hy]at hx;split at bI
   ·rename_i sh off code cap kind eH s ba hs;cases hc:(cJ 2 kind&&aR bE sh.length&&U.beq c4 off&&aR u.cells.length s&&ea 0 s&&cJ (j+s) sh.length&&ss sh)with
    |false=>rw[hc]at bI;cases bI
    |true=>
     rw[hc]at bI;simp only[cond_true,bp]at bI;subst bI;simp only[bA]at hc;obtain⟨⟨⟨⟨⟨⟨c1,bN⟩,cA⟩,dr⟩,fY⟩,hK⟩,nr⟩:=hc;have c1:=gY c1;have bN:=bV bN;have cA:=U.beq_eq cA;have dr:=bV dr;have fY:=vu fY;have hK:=gY hK
     subst bN;subst cA;subst dr;have NH:a.eval p= .pointer (some ⟨m b,(c4.den ρ).toNat+(i.den ρ).toNat*sh.length+j,none⟩):=hp.2;have eB:a.eval x=u.den ρ m:=hx.2;have aAj:(A.ep b sh.length c4 i j).ok n bl.length ρ:=hp.1;have iT:(A.rows sh c4 code cap kind).ok n bl.length ρ:=h.b _ (fZ ba) _ (by simp);have dR:aB S L (bind (js 21 [code,i]) λ_=>bind (Jk 67 [code,i,.const sh.length]) λ_=>bind (Im ((sh.drop j).take u.cells.length) u.cells) λls=>bind (kC 42 (code::i:: .const j::ls) 0 dN) λcode'=>pure code') n ρ λad n' code'=>code'.bM n'/\(0<=code'.den ad/\code'.den ad<=dN)/\(0<=i.den ρ/\i.den ρ<(aj (code.den ρ)).length)/\
      ∃ls:List Int,cP ((sh.drop j).take u.cells.length) ls/\eu ((sh.drop j).take u.cells.length) ls=u.cells.map (A.den ρ m)/\
       aj (code'.den ad)=(aj (code.den ρ)).set (i.den ρ).toNat (((aj (code.den ρ)).getD (i.den ρ).toNat []).take j++ls++((aj (code.den ρ)).getD (i.den ρ).toNat []).drop (j+ls.length)):=by
      refine ln λs0=>?_;have s0:0<=i.den ρ/\i.den ρ<(aj (code.den ρ)).length:=s0;have hlt:(i.den ρ).toNat<(aj (code.den ρ)).length:=by omega
      have e2:0<=cap.den ρ:=by
       rcases m5 (cap.den ρ) 0 with l7|l7
       ·have:=(h.bL.rws b sh c4 code cap kind eH ba (by omega)).1 l7;rw[this]at hlt;simp at hlt
       ·exact l7
      obtain⟨_,cells,mg,fz,a1,⟨bB,cp⟩,eC⟩:=(h.bL.rws b sh c4 code cap kind eH ba (by omega)).2 e2;have J3:(aj (code.den ρ)).getD (i.den ρ).toNat []=(aj (code.den ρ))[(i.den ρ).toNat]:=by simp[I,hlt]
      have l9:cP sh ((aj (code.den ρ)).getD (i.den ρ).toNat []):=by rw[J3];exact cp.1 _ (Gh hlt)
      refine(Q7 (op:=67) (ls:=[code,i,.const sh.length]) (by simp only[dk,gZ,az,U.bz,kf];exact l9.len)).bind λcx gE _ _ _ ⟨HA,uP⟩=>?_;have HA:=HA.symm;have uP:=uP.symm
      subst HA;subst uP;refine(PR (nb:=bl.length) (m:=m) (λy hy=>W.Jt hx.1 y hy)).bind λbg bk ls iM hD ⟨g1,g2,g3⟩=>?_;have hf:cR 42 ((code::i::U.const j::ls).map (·.den bg))=rc ((aj (code.den ρ)).set (i.den ρ).toNat (((aj (code.den ρ)).getD (i.den ρ).toNat []).take j++ls.map (·.den bg)++((aj (code.den ρ)).getD (i.den ρ).toNat []).drop (j+(ls.map (·.den bg)).length))):=by
       simp only[dk,cR,U.bz,kf,U.ch hD iT.1.2.1,U.ch hD aAj.2.1.2]
      have aAm:=apq l9 g2 hK;have xc:∀r∈(aj (code.den ρ)).set (i.den ρ).toNat (((aj (code.den ρ)).getD (i.den ρ).toNat []).take j++ls.map (·.den bg)++((aj (code.den ρ)).getD (i.den ρ).toNat []).drop (j+(ls.map (·.den bg)).length)),cP sh r:=λr hr=>by
       rcases QE hr with hr|hr
       ·exact cp.1 r hr
       ·subst hr;exact aAm.1
      have uR:0<sh.length:=by omega
      have hlen:(aj (code.den ρ)).length<=maxLen:=by
       have KZ:=cp;obtain⟨_,pre,post,b1,bY⟩:=KZ;have h4:=congrArg qP b1;simp only[gx,sX cp.1,Gi]at h4;obtain⟨_,_,_,h5,_⟩:=eC c1;rw[h5]at h4;have h6:(aj (code.den ρ)).length*sh.length<=(cap.den ρ).toNat*sh.length:=by omega
       have h7:=aPp h6 uR;have:=iT.2.2.2;unfold maxLen;omega
      have iG:=x3 (l:=(aj (code.den ρ)).set (i.den ρ).toNat (((aj (code.den ρ)).getD (i.den ρ).toNat []).take j++ls.map (·.den bg)++((aj (code.den ρ)).getD (i.den ρ).toNat []).drop (j+(ls.map (·.den bg)).length))) (by simpa using hlen) λr hr=>(xc r hr).row nr;refine(mQ (by rw[hf];exact k7 _) (by rw[hf];exact iG)).bind λb0 gF code' gU eJ ⟨k1,k2⟩=>aB.pure ?_;rw[hf]at k2;exact⟨k1,by rw[k2];exact⟨k7 _,iG⟩,s0,ls.map (·.den bg),g2,g3,by rw[k2,kp]⟩
     obtain⟨ad,n',code',hn,ha,⟨g1,g2,g3,ls,g4,g5,g6⟩,ae⟩:=dR G _ ae;have hR:=h.later hn ha;have hlt:(i.den ρ).toNat<(aj (code.den ρ)).length:=by omega
     have e2:0<=cap.den ρ:=by
      rcases m5 (cap.den ρ) 0 with l7|l7
      ·have:=(h.bL.rws b sh c4 code cap kind eH ba (by omega)).1 l7;rw[this]at hlt;simp at hlt
      ·exact l7
     obtain⟨er,cells,mg,fz,a1,⟨bB,cp⟩,eC⟩:=(h.bL.rws b sh c4 code cap kind eH ba (by omega)).2 e2;obtain⟨r0,r1,r2,ig,aZ,aE⟩:=eC c1;subst r0;obtain⟨B1,pre,post,K0,O8⟩:=cp;have Sx:(aj (code.den ρ))[(i.den ρ).toNat]?=some ((aj (code.den ρ)).getD (i.den ρ).toNat []):=by simp[I,hlt]
     generalize aRl:(aj (code.den ρ)).getD (i.den ρ).toNat []=row at g6 Sx;have NM:=B1 row (fZ Sx);obtain⟨b1,bY⟩:=apq NM g4 hK;have aAZ:u.cells.length=(u.cells.map (A.den ρ m)).length:=by simp
     have alv:cells.toList=(pre++cc sh ((aj (code.den ρ)).take (i.den ρ).toNat))++(eu sh row++(cc sh ((aj (code.den ρ)).drop ((i.den ρ).toNat+1))++post)):=by
      rw[K0,ZR Sx];simp only[iI]
     have aQ:(pre++cc sh ((aj (code.den ρ)).take (i.den ρ).toNat)).length=(c4.den ρ).toNat+(i.den ρ).toNat*sh.length:=by
      rw[gx,O8,sX λr hr=>B1 r (nJ hr),p6,Eb (by omega)]
     have dm:=Io NM;have azy:(c4.den ρ).toNat+(i.den ρ).toNat*sh.length+j+0+(u.cells.map (A.den ρ m)).length<=cells.size:=by
      have:=congrArg qP alv;simp only[gx,Gi,dm]at this aQ;simp;omega
     have s3:=aei (P:=P) (m b) ((c4.den ρ).toNat+(i.den ρ).toNat*sh.length+j) _ fz kind (u.cells.map (A.den ρ m)) 0 cells w r2 a1 azy (λv hv=>by
      obtain⟨y,hy,rfl⟩:=List.mem_map.1 hv;exact A.T5 (W.Jt hx.1 y hy))
     simp only[pv]at s3;have ys:cells.toList.take ((c4.den ρ).toNat+(i.den ρ).toNat*sh.length+j)++u.cells.map (A.den ρ m)++cells.toList.drop ((c4.den ρ).toNat+(i.den ρ).toNat*sh.length+j+(u.cells.map (A.den ρ m)).length)=pre++cc sh (aj (code'.den ad))++post:=by
      rw[g6,awW Sx,alv,<-aQ,bY,g5];rw[List.take_append,oo (by omega),Nat.add_sub_cancel_left,Qs (by omega)];rw[List.drop_append,List.drop_of_length_le (by omega),eM];rw[show(pre++cc sh ((aj (code.den ρ)).take (i.den ρ).toNat)).length+j+(u.cells.map (A.den ρ m)).length-(pre++cc sh ((aj (code.den ρ)).take (i.den ρ).toNat)).length=j+u.cells.length by simp;omega];rw[aPf (by omega)];simp only[iI]
     rw[ys]at s3;have amb:∀r∈aj (code'.den ad),cP sh r:=λr hr=>by
      rw[g6]at hr;rcases QE hr with hr|hr
      ·exact B1 r hr
      ·subst hr;exact b1
     have Fh:(aj (code'.den ad)).length=(aj (code.den ρ)).length:=by rw[g6];simp
     have hsz:(pre++cc sh (aj (code'.den ad))++post).length=cells.size:=by
      have ar:=congrArg qP K0;simp only[gx,sX amb,sX B1,Gi,Fh]at ar⊢;omega
     have d1:cap.den ad=cap.den ρ:=U.ch ha iT.1.2.2;have d2:c4.den ad=c4.den ρ:=U.ch ha iT.1.1;have Sr:=hR.bL.put (kd:=kind) (cells:=cells) (fz:=fz) (code':=code') c1 ba (by rw[d1];exact e2) (row:=(pre++cc sh (aj (code'.den ad))++post).toArray) (λ_=>⟨λdd=>by rw[d1]at dd;omega,λ_=>⟨er,_,_,fz,QD w (m b) _ _ _ _ a1,⟨by rw[d2];exact bB,by
      rw[d2];exact⟨amb,pre,post,rfl,O8⟩⟩,λ_=>⟨rfl,by rw[d2];exact r1,by simp only[Cx,hsz];exact r2,by rw[d1];simp only[Cx,hsz];exact ig,aZ,aE⟩⟩⟩)
     unfold qR;have kZ:(af7 t (.pointer (some ⟨m b,(c4.den ρ).toNat+(i.den ρ).toNat*sh.length+j,none⟩)) (u.den ρ m)).run P w= .ok () (w.setRow (m b) (pre++cc sh (aj (code'.den ad))++post).toArray):=by
      simp only[af7,px,jV,lH,kg,storeVar,kH hs,W.Rw (m:=m) u hx.1];simp only[Cx,qQ,ne_eq,not_true_eq_false,if_false,lH,kg];simp only[lH,kg,s3]
     simp only[execOp,aw,jV,NH,eB,kZ,kg,lH];refine af n' ad m _ _ G _ _ ⟨hn,ha,by rw[mA];exact bS _,λ_ _=>rfl⟩ (gQ.refl _ _) ⟨?_,by rw[put_defers];exact h.d,hR.b.set (λy hy=>by
      simp at hy;subst hy;exact⟨⟨iT.1.1.mono hn,g1,iT.1.2.2.mono hn⟩,g2,by rw[d1];exact iT.2.2⟩),Sr⟩ ae
     rw[mA];exact fl.put hR.t o.dst (by intro x hx;simp at hx) rfl
   ·cases bI
  ·cases bI
 ·rename_i s d x aw;have hx:=db h.t x;split at bI
  ·rename_i b len cap Hy;rw[Hy]at hx;split at bI
   ·rename_i C t e ba hd;split at bI
    ·rename_i he;cases hc:(aR s d&&cd C&& !t.2&&aR C.length len&&aR cap len&&cJ len 1000000)with
     |false=>rw[hc]at bI;cases bI
     |true=>
      rw[hc]at bI;simp only[cond_true,bp]at bI;subst bI;simp only[bA]at hc;obtain⟨⟨⟨⟨⟨da,c1⟩,bN⟩,cA⟩,dr⟩,fY⟩:=hc;have da:=bV da;have bN:t.2=false:=by simpa using bN
      have cA:=bV cA;have dr:=bV dr;have fY:=gY fY;subst da;subst dr;have b2:∀x∈C,A.ok n bl.length ρ x:=h.b _ (fZ ba);have o2:=Mq (w:=1) (k:=cap) (l:=C) (by omega);have cw:aj ((U.const 0).den ρ)=[]:=by rw[U.bz];exact m2
      have hz:(0:Int)<=dN:=Ct (k7 []) (x3 (l:=[]) (by simp) (by simp));obtain⟨ad,n',code,hn,ha,⟨b1,bY,eQ,dH,h8,il,ix⟩,ae⟩:=Md (S:=S) (L:=L) (nb:=bl.length) (m:=m) (sh:=lK) (by decide) (rs:=rR 1 cap C) (c:= .const 0) (n:=n) (ρ:=ρ) (λrow hr x hx=>b2 x (Mr row hr x hx)) (U.dK _ _) (by rw[U.bz];exact⟨cF _,hz⟩) (by rw[cw];intro _ h;simp at h) (by rw[cw,o2.1];simp;omega) G _ ae;rw[cw,eM]at dH;have hR:=h.later hn ha;have aa2:C.map (A.den ad m)=C.map (A.den ρ m):=yG b2 ha (λ_ _=>rfl);obtain⟨w',kZ,nU⟩:=hR.bL.mark (P:=P) (s:=s) (e:=e) (code:=code) ba c1 bN cA (jT hd) he (by rw[dH];exact il) (by rw[dH,ix,o2.2,aa2]);unfold qR;have aA7:a.eval x= .slice (some ⟨m b,0,none⟩) cap cap:=hx.2;simp only[execOp,aw,jV,aA7,kZ,kg,lH];have M9:b<bl.length:=(List.getElem?_eq_some_iff.1 ba).1;refine af n' ad m _ _ G _ _ ⟨hn,ha,by rw[mA];exact bS _,λ_ _=>rfl⟩ (gQ.refl _ _) ⟨?_,by rw[put_defers];exact h.d,hR.b.set (λy hy=>by
       have hy:y= .rows lK (.const 0) code (.const cap) 3:=by simpa using hy
       subst hy;exact⟨⟨U.dK _ _,b1,U.dK _ _⟩,bY,by rw[U.bz];omega⟩),nU⟩ ae
      rw[mA];exact fl.put hR.t o.dst ⟨M9,⟨U.dK _ _,U.dK _ _,U.dK _ _,U.dK _ _⟩,by simp only[U.bz,Ix];omega⟩ (by
       show _=_;simp[W.den,A.den,U.bz])
    ·cases bI
   ·cases bI
  ·cases bI
 ·rename_i t x y aw;split at bI
  ·rename_i e rk qC hd azY azZ;cases hi:P.info? e with
   |none=>simp[hi]at bI
   |some i=>
    simp only[hi]at bI;split at bI
    ·rename_i z hz;cases hc:(aR i.size 1&&cJ i.bytes 1024&&decide (z=0))with
     |false=>rw[hc]at bI;cases bI
     |true=>
      rw[hc]at bI;simp only[cond_true,bp]at bI;subst bI;simp only[bA,decide_eq_true_eq]at hc;have c1:=bV hc.1.1;have bN:=gY hc.1.2;have cA:=hc.2;subst cA;obtain⟨aCi,hx,jD⟩:=amH h.t azY;obtain⟨aCj,hy,Hz⟩:=amH h.t azZ;obtain⟨aaW,ae⟩:=ae;have aaW:0<=rk.den ρ/\rk.den ρ<=qC.den ρ/\qC.den ρ<=1073741824:=aaW;obtain⟨a1,bB,cp⟩:=aaW;have er:0<=qC.den ρ:=by omega
      have l9:∀r∈fD (rk.den ρ).toNat [(0:Int)],cP lK r:=λr hr=>by
       rw[List.eq_of_mem_replicate hr];exact⟨⟨by simp[aV.ia],by simp[aV.ia]⟩,trivial⟩
      have iG:rc (fD (rk.den ρ).toNat [(0:Int)])<=dN:=Gq (sh:=lK) (by decide) (by simp;omega) l9;have hf:cR 26 ([rk,U.const 0].map (·.den ρ))=rc (fD (rk.den ρ).toNat [(0:Int)]):=by
       simp only[dk,gZ,cR,U.bz]
      obtain⟨ad,n',code,hn,ha,⟨g1,g2⟩,ae⟩:=mQ (S:=S) (L:=L) (n:=n) (op:=26) (args:=[rk,.const 0]) (lo:=0) (hi:=dN) (by rw[hf];exact k7 _) (by rw[hf];exact iG) G _ ae;rw[hf]at g2;have hR:=h.later hn ha;have d1:rk.den ad=rk.den ρ:=U.ch ha jD;have kZ:=run_make (P:=P) w t e i (.int .u8 0) (jT hd) hi hz aCi aCj (rk.den ρ) (qC.den ρ) a1 bB (by
       have h0:(i.bytes:Int)<=1024:=by omega
       have h2:(i.bytes:Int)*qC.den ρ<=1024*1073741824:=Int.mul_le_mul h0 cp er (by decide);omega) (by omega)
      have al0:(madeCells (A0 .u8 0).cells ((qC.den ρ).toNat*i.size)).toList=fD (qC.den ρ).toNat (.int .u8 0):=by
       rw[c1,D6];refine af8 λj=>?_;simp only[madeCells,Value.cells,Ed,asu];rw[rC,List.getElem?_replicate];by_cases aO:j<(qC.den ρ).toNat
       ·rw[if_pos aO,af6 aO];simp[Nat.mod_one]
       ·rw[if_neg aO,QF (by simp;omega)];rfl
      have hsz:(madeCells (A0 .u8 0).cells ((qC.den ρ).toNat*i.size)).size=(qC.den ρ).toNat:=by
       have:=congrArg qP al0;simpa using this
      have Ho:(w.alloc (.cells (madeCells (A0 .u8 0).cells ((qC.den ρ).toNat*i.size)) e)).heap[w.heap.size]?=some (.cells (madeCells (A0 .u8 0).cells ((qC.den ρ).toNat*i.size)) e (0,0)):=by simp[QG,-age]
      have Nj:w.Extends (w.alloc (.cells (madeCells (A0 .u8 0).cells ((qC.den ρ).toNat*i.size)) e)):=by
       have hb:∀j:Nat,j<w.heap.size->(w.alloc (.cells (madeCells (A0 .u8 0).cells ((qC.den ρ).toNat*i.size)) e)).heap[j]?=w.heap[j]?:=λj aO=>by
        simp only[QG];rw[aPq aO,Qp aO]
       exact⟨rfl,rfl,rfl,by simp[QG,-age],λy hy=>by simp only[pw,hb y.block hy],λy hy=>by simp only[Gd,hb y.block hy],hb⟩
      generalize w4:w.alloc (.cells (madeCells (A0 .u8 0).cells ((qC.den ρ).toNat*i.size)) e)=W at*;have M1:R w0 n' ad m tm bl a W:=⟨hR.t,hR.d,hR.b,hR.bL.grow Nj⟩;unfold qR;simp only[execOp,aw,jV,hx,hy,kZ,kg,lH];have o3:m9 S L w0 k n' bl.length ad m G K:=af.later ⟨hn,ha,bS _,λ_ _=>rfl⟩ (gQ.refl _ _);have key:=ao1 (kd:=2) (c:=qC.den ρ) (g:=w.heap.size) (bS _) M1 g1 (jD.mono hn) (by rw[g2];exact⟨k7 _,iG⟩) ⟨by omega,by omega⟩ (by rw[d1];exact⟨⟨by omega,by omega,by omega,by omega⟩,⟨by omega,by omega⟩,λh=>by omega,λ_=>by omega⟩) (λh=>by omega)
       (λ_=>⟨_,_,⟨Ho,.inl ⟨rfl,rfl⟩⟩,by
         rw[g2,kp];refine⟨l9,[],fD ((qC.den ρ).toNat-(rk.den ρ).toNat) (.int .u8 0),?_,rfl⟩;rw[al0,eM];have ar:cc lK (fD (rk.den ρ).toNat [(0:Int)])=fD (rk.den ρ).toNat (.int .u8 0):=by
          generalize (rk.den ρ).toNat=q;induction q with
          |zero=>rfl
          |succ q ih=>
           rw[Gj,Gj];simp only[cc,wy]at ih⊢;rw[ih];rfl
         rw[ar,List.replicate_append_replicate]
         congr 1;omega,by rw[hsz];simp[lK],h.bL.ext.size,.inr h.bL.iW⟩) (λj p aO he=>by
         by_cases o4:bP ad p.1=0
         ·exact .inl o4
         ·have:=hR.bL.lt aO o4;omega) ae o3
      rw[if_neg (by omega),d1]at key;have key:K (a.put o.dst (.slice (some ⟨w.heap.size,0,none⟩) (rk.den ρ).toNat (qC.den ρ).toNat)) W:=key;exact key
    ·cases bI
  ·cases bI
 ·rename_i c aw;split at bI
  ·rename_i f hc;split at bI
   ·rename_i fn x hf tI;split at bI
    ·rename_i y t hx pM;split at bI
     ·rename_i e hd;split at bI
      ·rename_i he;cases hm:SN fn with
       |false=>rw[hm]at bI;cases bI
       |true=>
        rw[hm]at bI;simp only[cond_true,bp]at bI;subst bI;obtain⟨hZ,e5,Ay,BO⟩:=awP hm;have jD:=db h.t x;rw[hx]at jD;have Hz:y.l.bM n:=jD.1.1;obtain⟨aaV,ae⟩:=ae;have aaV:0<=y.l.den ρ/\y.l.den ρ<=1073741824:=aaV;obtain⟨a1,bB⟩:=aaV;obtain⟨N,cB⟩:∃N:Nat,y.l.den ρ=N:=⟨(y.l.den ρ).toNat,by omega⟩;have eB:a.eval x= .int .i64 (N:Int):=by rw[<-cB];exact jD.2
        have aAr:fn.resultTypes=#[t]:=Wi (by rw[pM]);obtain⟨oz,GS,kZ,hle,Ka⟩:=aJ2 (P:=P) w fn.params t e (jT hd) N (by omega);have Ka:=Ka (by unfold maxLen;omega);unfold maxLen at Ka;obtain⟨l,l1,l2,oG⟩:=ajY oz GS #[];have aaD:(execOp a.eval o).run P w= .ok (.value (.slice (some ⟨w.heap.size,0,none⟩) N oz)) (w.drew.drew.alloc (.cells (CA oz GS #[]) e)):=by
         rw[aeh hc o aw,run_callFunc_extern hf e5 hZ Ay BO];have:c.args.map a.eval=#[.int .i64 (N:Int)]:=Wi (by rw[Ed,tI];simp[eB]);rw[this,aAr,kZ];rfl
        have abz:∀r∈l.take N,cP lK r:=λr hr=>l2 r (nJ hr);have xh:(l.take N).length=N:=by rw[p6,l1];omega
        have amo:rc (l.take N)<=dN:=Gq (sh:=lK) (by decide) (by rw[xh];omega) abz;have ae:=ae (rc (l.take N)) (k7 _) amo;have hD:agree n ρ (dQ ρ n (rc (l.take N))):=agree.dQ _ _ _;have bf:y.l.den (dQ ρ n (rc (l.take N)))=N:=by rw[U.ch hD Hz,cB]
        have Zg:(U.var n).den (dQ ρ n (rc (l.take N)))=rc (l.take N):=by simp[U.c6,m4]
        have ae:=ae (by
         show y.l.den (dQ ρ n (rc (l.take N)))=((aj ((U.var n).den (dQ ρ n (rc (l.take N))))).length:Int);rw[bf,Zg,kp,xh])
        have ae:=ae (oz:Int) (by omega) (by omega);have ae:=ae (by
         have eJ:agree (n+1) (dQ ρ n (rc (l.take N))) (dQ (dQ ρ n (rc (l.take N))) (n+1) (oz:Int)):=agree.dQ _ _ _;show y.l.den (dQ (dQ ρ n (rc (l.take N))) (n+1) (oz:Int))<=(U.var (n+1)).den (dQ (dQ ρ n (rc (l.take N))) (n+1) (oz:Int));rw[U.ch eJ (Hz.mono (uq _)),bf];simp only[U.c6,m4];omega)
        have hR:=h.later (uq n) hD;have Ho:(w.drew.drew.alloc (.cells (CA oz GS #[]) e)).heap[w.heap.size]?=some (.cells (CA oz GS #[]) e (0,0)):=by simp[QG,asy,-age,-aPs]
        have Nj:w.Extends (w.drew.drew.alloc (.cells (CA oz GS #[]) e)):=by
         have hb:∀j:Nat,j<w.heap.size->(w.drew.drew.alloc (.cells (CA oz GS #[]) e)).heap[j]?=w.heap[j]?:=λj aO=>by
          simp only[QG,asy];rw[aPq aO,Qp aO]
         exact⟨rfl,rfl,rfl,by simp[QG,asy,-age,-aPs],λy hy=>by simp only[pw,hb y.block hy],λy hy=>by simp only[Gd,hb y.block hy],hb⟩
        generalize w4:w.drew.drew.alloc (.cells (CA oz GS #[]) e)=W at*;have M1:R w0 (n+1) (dQ ρ n (rc (l.take N))) m tm bl a W:=⟨hR.t,hR.d,hR.b,hR.bL.grow Nj⟩;unfold qR;simp only[aaD];have o3:m9 S L w0 k (n+1) bl.length (dQ ρ n (rc (l.take N))) m G K:=af.later ⟨uq n,hD,bS _,λ_ _=>rfl⟩ (gQ.refl _ _);have key:=ao0 (kd:=2) (c:=(oz:Int)) (g:=w.heap.size) (code:= .var n) (len:=y.l) (e:=e) (d:=o.dst) (sh:=lK) (bS _) M1 (U.hQ (A1 n)) (Hz.mono (uq _)) (by rw[Zg];exact⟨k7 _,amo⟩) ⟨by omega,by omega⟩ (by rw[bf];exact⟨⟨by omega,by omega,by omega,by omega⟩,⟨by omega,by omega⟩,λh=>by omega,λ_=>by omega⟩) (λh=>by omega)
         (λ_=>⟨_,_,⟨Ho,.inl ⟨rfl,rfl⟩⟩,by
           rw[Zg,kp];refine⟨abz,[],cc lK (l.drop N),?_,rfl⟩;rw[oG];show cc lK l=cc lK (l.take N)++cc lK (l.drop N);rw[<-zX,oQ],by
           have ar:=congrArg qP oG;simp only[gx,sX l2,l1]at ar;simpa [lK]using ar,h.bL.ext.size,.inr h.bL.iW⟩) (λj p aO he=>by
           by_cases o4:bP (dQ ρ n (rc (l.take N))) p.1=0
           ·exact .inl o4
           ·have:=hR.bL.lt aO o4;omega) ae o3
        rw[if_neg (by omega),bf]at key;have key:K (a.put o.dst (.slice (some ⟨w.heap.size,0,none⟩) N oz)) W:=by simpa using key
        exact key
      ·cases bI
     ·cases bI
    ·cases bI
   ·cases bI
  ·cases bI
 ·cases bI
end
end Go.bX
namespace Go.bX
open M
section
variable {S:Nat->List Int->List Int->Prop} {L:V->Env->Prop} {n:Nat} {ρ:Env} {m:Nat->Nat} {bl:List aH} {gl:fO} {w0:eV} {P:bU}
theorem Mem.rewrite {w:aC} {b:Nat} {sh:List aV} {off code cap code':U} {kind:Nat} {eH:bw×Bool} (h:Mem w0 ρ m bl w) (ba:bl[b]?=some ([.rows sh off code cap kind],eH)) (af:2<=kind) (e2:0<=cap.den ρ)
 (xc:∀r∈aj (code'.den ρ),cP sh r) (hlen:(aj (code'.den ρ)).length=(aj (code.den ρ)).length):
 ∃(cells:Array a6) (post:List a6) (fz:Nat×Nat),w.heap[m b]?=some (.cells cells eH.1 fz)/\CC kind fz cells.size/\off.den ρ=0/\(∀r∈aj (code.den ρ),cP sh r)/\cells.toList=cc sh (aj (code.den ρ))++post/\cells.size=(cap.den ρ).toNat*sh.length/\
  Mem w0 ρ m (eD bl b ([.rows sh off code' cap kind],eH)) (w.setRow (m b) (cc sh (aj (code'.den ρ))++post).toArray):=by
 obtain⟨er,cells,mg,fz,a1,⟨bB,cp⟩,eC⟩:=(h.rws b sh off code cap kind eH ba (by omega)).2 e2;obtain⟨r0,r1,r2,ig,aZ,aE⟩:=eC af;subst r0;obtain⟨B1,pre,post,K0,O8⟩:=cp;rw[r1]at O8;have rZ:pre=[]:=zw (by simpa using O8);subst rZ;rw[eM]at K0;have hsz:(cc sh (aj (code'.den ρ))++post).length=cells.size:=by
  have ar:=congrArg qP K0;simp only[gx,sX xc,sX B1,Gi,hlen]at ar⊢;omega
 refine⟨cells,post,fz,a1,r2,r1,B1,K0,ig,?_⟩;exact h.put (kd:=kind) (cells:=cells) (fz:=fz) (code':=code') af ba e2 (row:=(cc sh (aj (code'.den ρ))++post).toArray) (λ_=>⟨λdd=>by omega,λ_=>⟨er,_,_,fz,QD w (m b) _ _ _ _ a1,⟨by rw[r1];exact cF _,by
  rw[r1];exact⟨xc,[],post,by simp,rfl⟩⟩,λ_=>⟨rfl,r1,by simp only[Cx,hsz];exact r2,by simp only[Cx,hsz];exact ig,aZ,aE⟩⟩⟩)
theorem aC6 {sh:List aV} {rows mid:List (List Int)} {post:List a6} {cells:List a6} {a:Nat} (hr:∀r∈rows,cP sh r) (hm:∀r∈mid,cP sh r) (hc:cells=cc sh rows++post) (ha:a+mid.length<=rows.length):
 cells.take (a*sh.length)++cc sh mid++cells.drop (a*sh.length+(cc sh mid).length)=cc sh (rows.take a++mid++rows.drop (a+mid.length))++post:=by
 have h1:cc sh rows=cc sh (rows.take a)++cc sh (rows.drop a):=by rw[<-zX,oQ]
 have h2:cc sh rows=cc sh (rows.take (a+mid.length))++cc sh (rows.drop (a+mid.length)):=by rw[<-zX,oQ]
 have l1:(cc sh (rows.take a)).length=a*sh.length:=by rw[sX λr h=>hr r (nJ h),p6,Eb (by omega)]
 have l2:(cc sh (rows.take (a+mid.length))).length=a*sh.length+(cc sh mid).length:=by rw[sX λr h=>hr r (nJ h),sX hm,p6,Eb (by omega),Cz]
 have ar:cells.take (a*sh.length)=cc sh (rows.take a):=by
  rw[hc,h1,iI,Qs (by omega),oo (by omega)]
 have aG:cells.drop (a*sh.length+(cc sh mid).length)=cc sh (rows.drop (a+mid.length))++post:=by
  rw[hc,h2,iI,<-l2,Ge]
 rw[ar,aG,zX,zX];simp only[iI]
theorem an9 {sh:List aV} {rows mid:List (List Int)} {a k:Nat} (hr:∀r∈rows,cP sh r) (hm:∀r∈mid,cP sh r):∀r∈rows.take a++mid++rows.drop k,cP sh r:=λr h=>by
 rcases List.mem_append.1 h with h|h
 ·rcases List.mem_append.1 h with h|h
  ·exact hr r (nJ h)
  ·exact hm r h
 ·exact hr r (rG h)
theorem an8 {rows mid:List (List Int)} {a:Nat} (ha:a+mid.length<=rows.length):(rows.take a++mid++rows.drop (a+mid.length)).length=rows.length:=by
 simp only[gx,p6,p4];omega
theorem apt {w:aC} {b:Nat} {sh:List aV} {off code cap:U} {kind:Nat} {eH:bw×Bool} (h:Mem w0 ρ m bl w) (ba:bl[b]?=some ([.rows sh off code cap kind],eH)) (af:2<=kind) (e2:0<=cap.den ρ) (Fa:cap.den ρ<=9223372036854775807) (uR:0<sh.length):(aj (code.den ρ)).length<=maxLen/\∀r∈aj (code.den ρ),cP sh r:=by
 obtain⟨er,cells,mg,fz,a1,⟨bB,cp⟩,eC⟩:=(h.rws b sh off code cap kind eH ba (by omega)).2 e2;obtain⟨_,_,_,h5,_⟩:=eC af;obtain⟨B1,pre,post,b1,bY⟩:=cp;refine⟨?_,B1⟩;have h4:=congrArg qP b1;simp only[gx,sX B1,Gi]at h4;rw[h5]at h4;have h6:(aj (code.den ρ)).length*sh.length<=(cap.den ρ).toNat*sh.length:=by omega
 have h7:=aPp h6 uR;unfold maxLen;omega
theorem aKD {sh:List aV} (h:ss sh=true):0<sh.length:=by
 unfold ss at h;simp only[bA]at h;exact vu h.1.2
theorem apu {w:aC} {b:Nat} {sh:List aV} {off code cap:U} {kind:Nat} {eH:bw×Bool} (h:Mem w0 ρ m bl w) (ba:bl[b]?=some ([.rows sh off code cap kind],eH)) (af:2<=kind) (Fa:cap.den ρ<=9223372036854775807) (uR:0<sh.length):(aj (code.den ρ)).length<=maxLen/\∀r∈aj (code.den ρ),cP sh r:=by
 rcases m5 (cap.den ρ) 0 with hc|hc
 ·rw[(h.rws b sh off code cap kind eH ba (by omega)).1 hc];exact⟨IV _,λr hr=>by simp at hr⟩
 ·exact apt h ba af hc Fa uR
theorem Mem.aJk {w:aC} {b:Nat} {sh:List aV} {off code cap code':U} {kind:Nat} {eH:bw×Bool} (h:Mem w0 ρ m bl w) (ba:bl[b]?=some ([.rows sh off code cap kind],eH)) (he:aj (code'.den ρ)=aj (code.den ρ)):Mem w0 ρ m (eD bl b ([.rows sh off code' cap kind],eH)) w:=by
 rw[m3];have hlt:=(List.getElem?_eq_some_iff.1 ba).1;have hg:∀(i:Nat) (p:aH),(bl.set b ([.rows sh off code' cap kind],eH))[i]?=some p->(i=b/\p=([.rows sh off code' cap kind],eH))∨(i≠b/\bl[i]?=some p):=λi p hi=>by
  rw[wv]at hi;by_cases lN:b=i
  ·subst lN;rw[if_pos rfl,if_pos hlt]at hi;exact .inl ⟨rfl,(iH hi).symm⟩
  ·rw[if_neg lN]at hi;exact .inr ⟨λe=>lN e.symm,hi⟩
 have jC:∀(i:Nat) (p:aH),(bl.set b ([.rows sh off code' cap kind],eH))[i]?=some p->∃q:aH,bl[i]?=some q/\bP ρ p.1=bP ρ q.1:=λi p hi=>by
  rcases hg i p hi with⟨rfl,rfl⟩|⟨_,h2⟩
  ·exact⟨_,ba,rfl⟩
  ·exact⟨_,h2,rfl⟩
 refine⟨h.ext,h.km,h.mU,h.l8,h.iW,h.j1,λi cs t hi aw=>?_,λi gW k5 j0 mN ta t hi=>?_,λi j p q hi aO hm=>?_⟩
 ·rcases hg i _ hi with⟨_,h2⟩|⟨_,h2⟩
  ·cases h2;exact absurd aw (by simp[cd])
  ·exact h.hI i cs t h2 aw
 ·rcases hg i _ hi with⟨rfl,h2⟩|⟨_,h2⟩
  ·cases h2;have:=h.rws _ sh off code cap kind eH ba;unfold wA at this⊢;rw[he];exact this
  ·exact h.rws i _ _ _ _ _ t h2
 ·obtain⟨dO,hp,ep⟩:=jC i p hi;obtain⟨fM,ai,eq⟩:=jC j q aO;rw[ep,eq];exact h.inj i j dO fM hp ai hm
theorem aK6 {tm:List V} {a:Act} {w:aC} {G:ft} {o:Oper} {K:Act->aC->Prop} {Q:Exit->Act->aC->Prop} {k:iP} {sE:T}
 (h:R w0 n ρ m tm bl a w) (bI:aeN P o n tm bl k=some sE) (ae:sE.holds S L G ρ) (af:m9 S L w0 k n bl.length ρ m G K):o.wp P a w K Q:=by
 unfold aeN at bI;split at bI
 rotate_left
 ·cases bI
 rename_i c aw;split at bI
 ·rename_i nX;split at bI
  rotate_left
  ·cases bI
  rename_i x y t t' jD qz;have hx:=db h.t x;have hy:=db h.t y;split at bI
  rotate_left
  ·rename_i b bE c4 ro len cap e hv nz he;rw[hv]at hx;rw[nz]at hy;split at bI
   rotate_left
   ·cases bI
   rename_i s hs;simp only[bp]at bI;subst bI;have bG:c.args=#[x,y]:=by rw[<-m6 (xs:=c.args),jD]
   have a2:c.argTypes=#[t,t']:=by rw[<-m6 (xs:=c.argTypes),qz]
   have uU:(A.sl b bE c4 ro len cap).ok n bl.length ρ:=hx.1;obtain⟨ptr,ar,aG,cm⟩:=AP (m:=m) uU;have eB:a.eval x=(A.sl b bE c4 ro len cap).den ρ m:=hx.2;rw[ar]at eB;have Ak:a.eval y= .slice none 0 0:=hy.2;obtain⟨zD,agn,Xp,bZ⟩:∃A B C,a.eval x= .slice A B C:=⟨_,_,_,eB⟩;have kZ:(A3 #[t,t'] o.type #[.slice zD agn Xp,.slice none 0 0]).run P w= .ok (goInt 0) w:=by
    cases zD<;>simp[A3,hV (jT he),Wk,kH hs,LW,storeCells]
   unfold qR;have hex:execOp a.eval o=(do pure (m7 (<-A3 #[t,t'] o.type #[a.eval x,a.eval y]))):=by
    simp[execOp,aw,resolve,nX,bG,a2,invoke,builtin]
   simp only[hex,bZ,Ak,jV,kZ,kg,lH];exact af n ρ m _ _ G _ _ (fj.refl _ _ _ _) (gQ.refl _ _) ⟨fl.put (v:= .w (.one (.int .i64 ⟨.const 0,0,0⟩))) h.t o.dst ⟨U.dK _ _,by simp[U.bz],by simp[U.bz]⟩ rfl,by rw[put_defers];exact h.d,h.b,h.bL⟩ ae
  ·cases bI
  rename_i b bE c4 ro len cap b9 aeW oI jn jm Bh e hv nz he;rw[hv]at hx;rw[nz]at hy;split at bI
  rotate_left
  ·cases bI
  rename_i sh off code gD kind eH aeB Dy j0 CS Ds Rf s ba C0 hs;cases hc:(cJ 2 kind&&ea 0 Ds&&U.beq c4 off&&U.beq oI Dy&&tk sh aeB&&aR bE sh.length&&aR aeW sh.length&&aR s sh.length&&ss sh)with
  |false=>rw[hc]at bI;cases bI
  |true=>
   rw[hc]at bI;simp only[cond_true,bp]at bI;subst bI;simp only[bA]at hc;obtain⟨⟨⟨⟨⟨⟨⟨⟨c1,bN⟩,cA⟩,dr⟩,fY⟩,hK⟩,nr⟩,mq⟩,kk⟩:=hc;have c1:=gY c1;have bN:0<Ds:=gY bN;have cA:=U.beq_eq cA;have dr:=U.beq_eq dr;have fY:=DP fY;have hK:=bV hK;have nr:=bV nr;have mq:=bV mq
   subst cA;subst dr;subst fY;subst hK;subst nr;subst mq;have bG:c.args=#[x,y]:=by rw[<-m6 (xs:=c.args),jD]
   have a2:c.argTypes=#[t,t']:=by rw[<-m6 (xs:=c.argTypes),qz]
   have uU:(A.sl b sh.length c4 ro len cap).ok n bl.length ρ:=hx.1;have amn:(A.sl b9 sh.length oI jn jm Bh).ok n bl.length ρ:=hy.1;obtain⟨ptr,ar,aG,cm⟩:=AP (m:=m) uU;obtain⟨aIc,f1,f2,f3⟩:=AP (m:=m) amn;have eB:a.eval x=(A.sl b sh.length c4 ro len cap).den ρ m:=hx.2;have Ak:a.eval y=(A.sl b9 sh.length oI jn jm Bh).den ρ m:=hy.2;rw[ar]at eB;rw[f1]at Ak;obtain⟨ah,⟨ag,ao,dB,kb⟩,⟨kq,oe,po,pq⟩,⟨p2,pn⟩,jH,k8⟩:=uU;obtain⟨an,⟨ak,ax,lT,VI⟩,⟨D1,VL,Cj,IK⟩,⟨DZ,Lr⟩,Lq,IE⟩:=amn;have iT:(A.rows sh c4 code gD kind).ok n bl.length ρ:=h.b _ (fZ ba) _ (by simp);have ax7:(A.rows sh oI j0 CS Ds).ok n bl.length ρ:=h.b _ (fZ C0) _ (by simp);have uR:=aKD kk;have dR:aB S L (bind (js 80 [code,ro,len]) λ_=>bind (js 22 [j0,jn,jn.add jm]) λ_=>bind (kC 62 [jm,len] 0 9223372036854775807) λq=>bind (kC 22 [j0,jn,jn.add q] 0 dN) λsrc=>bind (kC 63 [code,ro,src] 0 dN) λcode'=>pure (q,code')) n ρ λad n' p=>(p.1.bM n'/\p.2.bM n')/\(0<=p.2.den ad/\p.2.den ad<=dN)/\(0<=ro.den ρ/\0<=len.den ρ/\ro.den ρ+len.den ρ<=(aj (code.den ρ)).length)/\
    p.1.den ad=min (jm.den ρ) (len.den ρ)/\(0<=jn.den ρ/\jn.den ρ+jm.den ρ<=(aj (j0.den ρ)).length)/\aj (p.2.den ad)=(aj (code.den ρ)).take (ro.den ρ).toNat++((aj (j0.den ρ)).drop (jn.den ρ).toNat).take (min (jm.den ρ) (len.den ρ)).toNat++(aj (code.den ρ)).drop ((ro.den ρ).toNat+(((aj (j0.den ρ)).drop (jn.den ρ).toNat).take (min (jm.den ρ) (len.den ρ)).toNat).length)/\∀r∈aj (j0.den ρ),cP sh r:=by
    refine ln λs0=>ln λrY=>?_;have s0:0<=ro.den ρ/\0<=len.den ρ/\ro.den ρ+len.den ρ<=(aj (code.den ρ)).length:=s0;have rY:0<=jn.den ρ/\jn.den ρ<=(jn.add jm).den ρ/\(jn.add jm).den ρ<=(aj (j0.den ρ)).length:=rY;rw[U.den_add]at rY;obtain⟨Ka,mT⟩:=apu h.bL ba c1 iT.2.2.2 uR;have NL:∀r∈aj (j0.den ρ),cP sh r:=by
     rcases m5 (CS.den ρ) 0 with l7|l7
     ·have:=(h.bL.rws b9 sh oI j0 CS Ds Rf C0 (by omega)).1 l7;rw[this];intro _ h;simp at h
     ·obtain⟨_,_,_,_,_,⟨_,cp⟩,_⟩:=(h.bL.rws b9 sh oI j0 CS Ds Rf C0 (by omega)).2 l7;exact cp.1
    have aa3:cR 62 ([jm,len].map (·.den ρ))=min (jm.den ρ) (len.den ρ):=rfl;refine(mQ (by rw[aa3];omega) (by rw[aa3];omega)).bind λbg bk q iM hD ⟨a1,bB⟩=>?_;rw[aa3]at bB;have bQ:j0.den bg=j0.den ρ:=U.ch hD ax7.1.2.1;have zK:jn.den bg=jn.den ρ:=U.ch hD ax;have hf:cR 22 ([j0,jn,jn.add q].map (·.den bg))=rc (((aj (j0.den ρ)).drop (jn.den ρ).toNat).take (min (jm.den ρ) (len.den ρ)).toNat):=by
     simp only[dk,gZ,cR,U.den_add,bQ,zK,bB]
     congr 2;omega
    have iG:rc (((aj (j0.den ρ)).drop (jn.den ρ).toNat).take (min (jm.den ρ) (len.den ρ)).toNat)<=dN:=x3 (by
     simp only[p6,p4];have:(aj (code.den ρ)).length<=maxLen:=Ka;omega) λr hr=>(NL r (rG (nJ hr))).row kk
    refine(mQ (by rw[hf];exact k7 _) (by rw[hf];exact iG)).bind λb0 gF src gU eJ ⟨s1,s2⟩=>?_;rw[hf]at s2;have alg:=hD.trans eJ iM;have aaK:cR 63 ([code,ro,src].map (·.den b0))=rc ((aj (code.den ρ)).take (ro.den ρ).toNat++((aj (j0.den ρ)).drop (jn.den ρ).toNat).take (min (jm.den ρ) (len.den ρ)).toNat++(aj (code.den ρ)).drop ((ro.den ρ).toNat+(((aj (j0.den ρ)).drop (jn.den ρ).toNat).take (min (jm.den ρ) (len.den ρ)).toNat).length)):=by
     simp only[dk,gZ,cR,U.ch alg iT.1.2.1,U.ch alg ao,s2,kp]
    have Ad:∀r∈((aj (j0.den ρ)).drop (jn.den ρ).toNat).take (min (jm.den ρ) (len.den ρ)).toNat,cP sh r:=λr hr=>NL r (rG (nJ hr));have alo:rc ((aj (code.den ρ)).take (ro.den ρ).toNat++((aj (j0.den ρ)).drop (jn.den ρ).toNat).take (min (jm.den ρ) (len.den ρ)).toNat++(aj (code.den ρ)).drop ((ro.den ρ).toNat+(((aj (j0.den ρ)).drop (jn.den ρ).toNat).take (min (jm.den ρ) (len.den ρ)).toNat).length))<=dN:=x3 (by
     rw[an8 (by simp only[p6,p4];omega)];exact Ka) λr hr=>(an9 mT Ad r hr).row kk
    refine(mQ (by rw[aaK];exact k7 _) (by rw[aaK];exact alo)).bind λje tZ code' Da w5 ⟨k1,k2⟩=>aB.pure ?_;rw[aaK]at k2;refine⟨⟨a1.mono (nK gU Da),k1⟩,by rw[k2];exact⟨k7 _,alo⟩,s0,?_,⟨rY.1,rY.2.2⟩,by rw[k2,kp],NL⟩;rw[U.ch (eJ.trans w5 gU) a1,bB]
   obtain⟨ad,n',p,hn,ha,⟨⟨g1,pJ⟩,g2,g3,g4,g5,g6,NL⟩,ae⟩:=dR G (λp n=>k n (ie tm o.dst (.w (.one (.int .i64 ⟨p.1,0,9223372036854775807⟩)))) (eD bl b ([.rows sh c4 p.2 gD kind],eH))) ae;have hR:=h.later hn ha;have d1:code.den ad=code.den ρ:=U.ch ha iT.1.2.1;have d2:gD.den ad=gD.den ρ:=U.ch ha iT.1.2.2;rcases m5 0 (len.den ρ)with aAi|aAi
   rotate_left
   ·have tJ:len.den ρ=0:=by omega
    have Ag:p.1.den ad=0:=by rw[g4];omega
    have qx:min (jm.den ρ) (len.den ρ)=0:=by omega
    have aAv:aj (p.2.den ad)=aj (code.den ad):=by
     rw[g6,qx,d1];simp
    obtain⟨zD,agn,Xp,bZ⟩:∃A B C,a.eval x= .slice A B C/\B=0:=⟨_,_,_,eB,by rw[tJ];rfl⟩;obtain⟨bZ,rfl⟩:=bZ;obtain⟨Ws,ago,aha,hY⟩:∃A B C,a.eval y= .slice A B C:=⟨_,_,_,Ak⟩;have J2:(LW sh.length 0 (.slice Ws ago aha)).run P w= .ok #[] w:=by
     cases Ws<;>simp[LW,loadCells,loadCellsFrom]
    have kZ:(A3 #[t,t'] o.type #[.slice zD 0 Xp,.slice Ws ago aha]).run P w= .ok (goInt 0) w:=by
     cases zD<;>simp[A3,hV (jT he),Wk,kH hs,J2,storeCells]
    unfold qR;have hex:execOp a.eval o=(do pure (m7 (<-A3 #[t,t'] o.type #[a.eval x,a.eval y]))):=by
     simp[execOp,aw,resolve,nX,bG,a2,invoke,builtin]
    simp only[hex,bZ,hY,jV,kZ,kg,lH];refine af n' ad m _ _ G _ _ ⟨hn,ha,by rw[mA];exact bS _,λ_ _=>rfl⟩ (gQ.refl _ _) ⟨?_,by rw[put_defers];exact h.d,hR.b.set (λy hy=>by
     simp at hy;subst hy;exact⟨⟨iT.1.1.mono hn,pJ,iT.1.2.2.mono hn⟩,g2,by rw[d2];exact iT.2.2⟩),hR.bL.aJk ba aAv⟩ ae
    rw[mA];refine fl.put hR.t o.dst ⟨g1,by show(0:Int)<=p.1.den ad;omega,by show p.1.den ad<=9223372036854775807;omega⟩ ?_;show goInt 0=A0 .i64 (p.1.den ad);rw[Ag];rfl
   have e2:0<=gD.den ρ:=by
    rcases m5 (gD.den ρ) 0 with l7|l7
    ·have:=(h.bL.rws b sh c4 code gD kind eH ba (by omega)).1 l7;rw[this]at g3;simp at g3;omega
    ·exact l7
   generalize ai:(min (jm.den ρ) (len.den ρ)).toNat=q at*;have Ad:∀r∈((aj (j0.den ρ)).drop (jn.den ρ).toNat).take q,cP sh r:=λr hr=>NL r (rG (nJ hr));have J9:(((aj (j0.den ρ)).drop (jn.den ρ).toNat).take q).length=q:=by simp only[p6,p4];omega
   have hle:(ro.den ρ).toNat+(((aj (j0.den ρ)).drop (jn.den ρ).toNat).take q).length<=(aj (code.den ρ)).length:=by rw[J9];omega
   have xc:∀r∈aj (code.den ρ),cP sh r:=(apt h.bL ba c1 e2 iT.2.2.2 uR).2;obtain⟨cells,post,fz,b1,bY,dH,h8,il,ix,qE⟩:=hR.bL.rewrite (code':=p.2) ba c1 (by rw[d2];exact e2) (by rw[g6];exact an9 xc Ad) (by rw[g6,d1];exact an8 hle);rw[d1]at h8 il;have dH:c4.den ρ=0:=by rw[<-U.ch ha ag];exact dH
   have azd:0<=cap.den ρ:=by
    rcases m5 (cap.den ρ) 0 with l7|l7
    ·have:=jH l7;omega
    ·exact l7
   have bZ:a.eval x= .slice (some ⟨m b,(ro.den ρ).toNat*sh.length,none⟩) (len.den ρ).toNat (cap.den ρ).toNat:=by
    rw[eB,cm azd,if_neg (by omega),dH];simp
   have mR:(cc sh (((aj (j0.den ρ)).drop (jn.den ρ).toNat).take q)).length=q*sh.length:=by rw[sX Ad,J9]
   have azh:=congrArg qP il;simp only[gx,Gi,sX h8]at azh;have Ff:(ro.den ρ).toNat*sh.length+0+(cc sh (((aj (j0.den ρ)).drop (jn.den ρ).toNat).take q)).length<=cells.size:=by
    rw[mR];have:((ro.den ρ).toNat+q)*sh.length<=(aj (code.den ρ)).length*sh.length:=asx _ (by omega);rw[Cz]at this;omega
   have s3:=aei (P:=P) (m b) ((ro.den ρ).toNat*sh.length) eH.1 fz kind (cc sh (((aj (j0.den ρ)).drop (jn.den ρ).toNat).take q)) 0 cells w bY b1 Ff aku;rw[pv,aC6 h8 Ad il hle]at s3;rw[<-g6]at s3;have abc:LU (jm.den ρ).toNat (len.den ρ).toNat=q:=by show min _ _=q;omega
   have J2:(LW sh.length q (a.eval y)).run P w= .ok (cc sh (((aj (j0.den ρ)).drop (jn.den ρ).toNat).take q)).toArray w:=by
    rcases m5 (Bh.den ρ) 0 with l7|l7
    ·have h0:=Lq l7;have Ag:q=0:=by omega
     rw[Ak,f2 l7,Ag,qS];have:=run_firstCells_none (P:=P) w sh.length 0 (jm.den ρ).toNat (if Bh.den ρ<0 then 0 else(Bh.den ρ).toNat);simpa [cc]using this
    ·rw[Ak,f3 l7];have yo:0<=CS.den ρ∨q=0:=by
      rcases m5 (CS.den ρ) 0 with Fa|Fa
      ·have:=(h.bL.rws b9 sh oI j0 CS Ds Rf C0 (by omega)).1 Fa;rw[this]at g5;simp at g5;right;omega
      ·exact .inl Fa
     refine Wj w sh.length q _ _ _ _ mR λj v aO=>?_;rcases yo with yo|yo
     ·obtain⟨_,aQC,mg,aQR,a1,⟨bB,cp⟩,_⟩:=(h.bL.rws b9 sh oI j0 CS Ds Rf C0 (by omega)).2 yo;have:=(cp.sub (jn.den ρ).toNat q (by omega)).flat aO;rw[lb];simp only[pw,a1,zy,zz,if_false];exact this
     ·rw[yo,qS]at aO;simp[cc]at aO
   obtain⟨aCA,aQB,hY⟩:∃B C,a.eval y= .slice aIc B C:=⟨_,_,Ak⟩;have Nx:aCA=(jm.den ρ).toNat:=by rw[Ak]at hY;injection hY with _ h2 _;exact h2.symm
   subst Nx;have kZ:(A3 #[t,t'] o.type #[.slice (some ⟨m b,(ro.den ρ).toNat*sh.length,none⟩) (len.den ρ).toNat (cap.den ρ).toNat,a.eval y]).run P w= .ok (goInt q) (w.setRow (m b) (cc sh (aj (p.2.den ad))++post).toArray):=by
    rw[hY]at J2⊢;simp[A3,hV (jT he),Wk,kH hs,abc,J2,s3]
   unfold qR;have hex:execOp a.eval o=(do pure (m7 (<-A3 #[t,t'] o.type #[a.eval x,a.eval y]))):=by
    simp[execOp,aw,resolve,nX,bG,a2,invoke,builtin]
   simp only[hex,bZ,jV,kZ,kg,lH];refine af n' ad m _ _ G _ _ ⟨hn,ha,by rw[mA];exact bS _,λ_ _=>rfl⟩ (gQ.refl _ _) ⟨?_,by rw[put_defers];exact h.d,hR.b.set (λy hy=>by
    simp at hy;subst hy;exact⟨⟨iT.1.1.mono hn,pJ,iT.1.2.2.mono hn⟩,g2,by rw[d2];exact iT.2.2⟩),qE⟩ ae
   rw[mA];refine fl.put hR.t o.dst ⟨g1,by show(0:Int)<=p.1.den ad;rw[g4];omega,by show p.1.den ad<=9223372036854775807;rw[g4];omega⟩ ?_;show goInt q=A0 .i64 (p.1.den ad);have rV:((q:Nat):Int)=p.1.den ad:=by rw[g4,<-ai];omega
   rw[<-rV];rfl
 ·cases bI
theorem aK7 {tm:List V} {a:Act} {w:aC} {G:ft} {o:Oper} {K:Act->aC->Prop} {Q:Exit->Act->aC->Prop} {k:iP} {sE:T}
 (h:R w0 n ρ m tm bl a w) (bI:aeO P o n tm bl k=some sE) (ae:sE.holds S L G ρ) (af:m9 S L w0 k n bl.length ρ m G K):o.wp P a w K Q:=by
 unfold aeO at bI;split at bI
 rotate_left
 ·cases bI
 rename_i c aw;split at bI
 rotate_left
 ·cases bI
 rename_i nX;split at bI
 rotate_left
 ·cases bI
 rename_i x y t t' jD qz;have hx:=db h.t x;have hy:=db h.t y;split at bI
 rotate_left
 ·cases bI
 rename_i b off len cap b9 Dy jm Bh e hv nz he;rw[hv]at hx;rw[nz]at hy;split at bI
 rotate_left
 ·cases bI
 rename_i C eH l s ba hl hs;cases hc:(aR s 1&&cJ (off+l.length) C.length&&cd C&&cd (C.take off++l++C.drop (off+l.length)))with
 |false=>rw[hc]at bI;cases bI
 |true=>
  rw[hc]at bI;simp only[cond_true,bp]at bI;subst bI;simp only[bA]at hc;obtain⟨⟨⟨c1,bN⟩,uQ⟩,tM⟩:=hc;have c1:=bV c1;have bN:=gY bN;subst c1;have bG:c.args=#[x,y]:=by rw[<-m6 (xs:=c.args),jD]
  have a2:c.argTypes=#[t,t']:=by rw[<-m6 (xs:=c.argTypes),qz]
  have bZ:a.eval x= .slice (some ⟨m b,off,none⟩) len cap:=hx.2;have hY:a.eval y= .slice (some ⟨m b9,Dy,none⟩) jm Bh:=hy.2;obtain⟨l1,l2,oG⟩:=JX h.bL h.b hl;obtain⟨w',s3,C9⟩:=h.bL.storeCells (P:=P) h.b l2 ba bN uQ tM;have J2:(LW 1 (LU jm len) (.slice (some ⟨m b9,Dy,none⟩) jm Bh)).run P w= .ok (l.map (A.den ρ m)).toArray w:=
   Wj w 1 _ _ _ _ _ (by rw[qQ,l1,D6]) oG
  have kZ:(A3 #[t,t'] o.type #[.slice (some ⟨m b,off,none⟩) len cap,.slice (some ⟨m b9,Dy,none⟩) jm Bh]).run P w= .ok (goInt (LU jm len)) w':=by
   simp[A3,hV (jT he),Wk,kH hs,J2,s3]
  have b2:∀a∈C.take off++l++C.drop (off+l.length),A.ok n bl.length ρ a:=λa ha=>by
   have dR:=h.b _ (fZ ba);rcases List.mem_append.1 ha with ha|ha
   ·rcases List.mem_append.1 ha with ha|ha
    ·exact dR a (nJ ha)
    ·exact l2 a ha
   ·exact dR a (rG ha)
  unfold qR;have hex:execOp a.eval o=(do pure (m7 (<-A3 #[t,t'] o.type #[a.eval x,a.eval y]))):=by
   simp[execOp,aw,resolve,nX,bG,a2,invoke,builtin]
  simp only[hex,bZ,hY,jV,kZ,kg,lH];refine af n ρ m _ _ G _ w' ⟨bS _,agree.refl _ _,by rw[mA];exact bS _,λ_ _=>rfl⟩ (gQ.refl _ _) ⟨?_,by rw[put_defers];exact h.d,h.b.set b2,C9⟩ ae;rw[mA];refine fl.put (v:= .w (.one (.int .i64 (bT.const (LU jm len:Nat))))) h.t o.dst (bT.uG _ _ _) ?_;show goInt (LU jm len)=_;simp[W.den,A.den,bT.const,U.bz,goInt]
theorem apa {code:U} {kd:dZ} {lo hi:Int} (hc:code.bM n) (hr:∀r∈aj (code.den ρ),cP [.int kd lo hi] r):∀(c i:Nat) {bk:Nat} {bg:Env},n<=bk->agree n ρ bg->aB S L (UB code kd lo hi c i) bk bg λad n' l=>(∀a∈l,A.ok n' bl.length ad a)/\l.length=c/\i+c<=max i (aj (code.den ρ)).length/\l.map (A.den ad m)=cc [.int kd lo hi] (((aj (code.den ρ)).drop i).take c)
 |0,i,bk,bg,_,_=>aB.pure ⟨λ_ h=>by simp at h,rfl,by omega,by simp[cc]⟩
 |c+1,i,bk,bg,hn,ha=>by
  unfold UB;refine ln λaf=>?_;have ar:code.den bg=code.den ρ:=U.ch ha hc;have af:0<=(U.const i).den bg/\(U.const i).den bg<((aj (code.den bg)).length:Int):=af;rw[U.bz,ar]at af;have j3:i<(aj (code.den ρ)).length:=by omega
  obtain⟨z,hz,z0,av⟩:∃z,(aj (code.den ρ))[i]=[z]/\lo<=z/\z<=hi:=by
   have:=hr _ (Gh j3)
   match(aj (code.den ρ))[i],this with
   |[z],h=>exact⟨z,rfl,h.1.1,h.1.2⟩
  have hg:(aj (code.den ρ)).getD i []=[z]:=by rw[oR,nI j3,D9,hz]
  have hf:cR 21 ([code,.const (i:Int),.const 0].map (·.den bg))=z:=by
   show((aj (code.den bg)).getD ((U.const (i:Int)).den bg).toNat []).getD ((U.const 0).den bg).toNat 0=z;rw[ar,U.bz,U.bz,kf,hg];rfl
  refine(mQ (by rw[hf];exact z0) (by rw[hf];exact av)).bind λb0 gF q gU eJ ⟨a1,bB⟩=>?_;rw[hf]at bB;refine(apa hc hr c (i+1) (nK hn gU) (ha.trans eJ hn)).bind λje tZ l Da w5 ⟨l1,l2,oG,xo⟩=>aB.pure ?_;have cp:q.den je=z:=by rw[U.ch w5 a1,bB]
  refine⟨λa h=>?_,by simp[l2],by omega,?_⟩
  ·rcases List.mem_cons.1 h with rfl|h
   ·exact⟨a1.mono Da,by show lo<=q.den je;omega,by show q.den je<=hi;omega⟩
   ·exact l1 a h
  ·rw[List.drop_eq_getElem_cons j3,mG,hz,dk,xo];simp[cc,A.den,cp];rfl
theorem aK8 {tm:List V} {a:Act} {w:aC} {G:ft} {o:Oper} {K:Act->aC->Prop} {Q:Exit->Act->aC->Prop} {k:iP} {sE:T}
 (h:R w0 n ρ m tm bl a w) (bI:aeP P o n tm bl k=some sE) (ae:sE.holds S L G ρ) (af:m9 S L w0 k n bl.length ρ m G K):o.wp P a w K Q:=by
 unfold aeP at bI;split at bI
 rotate_left
 ·cases bI
 rename_i t p aw;have hp:=db h.t p;split at bI
 rotate_left
 ·cases bI
 rename_i b NI;rw[NI]at hp;split at bI
 rotate_left
 ·cases bI
 rename_i kd lo hi off code cap kind eH s ba iU hs;cases hc:(cJ 2 kind&&ea 0 s)with
 |false=>rw[hc]at bI;cases bI
 |true=>
  rw[hc]at bI;simp only[cond_true,bp]at bI;subst bI;simp only[bA]at hc;have c1:=gY hc.1;have bN:=vu hc.2;have NH:a.eval p= .pointer (some ⟨m b,0,none⟩):=hp.2;have iT:(A.rows [.int kd lo hi] off code cap kind).ok n bl.length ρ:=h.b _ (fZ ba) _ (by simp);have mT:=(apu h.bL ba c1 iT.2.2.2 (by simp)).2;obtain⟨ad,n',l,hn,ha,⟨l1,l2,oG,xo⟩,ae⟩:=apa (S:=S) (L:=L) (m:=m) (bl:=bl) iT.1.2.1 mT s 0 (bS _) (agree.refl _ _) G (λl n=>k n (ie tm o.dst (.w (.agg l))) bl) ae;have hle:s<=(aj (code.den ρ)).length:=by omega
  have e2:0<=cap.den ρ:=by
   rcases m5 (cap.den ρ) 0 with l7|l7
   ·have:=(h.bL.rws b _ off code cap kind eH ba (by omega)).1 l7;rw[this]at hle;simp at hle;omega
   ·exact l7
  obtain⟨_,cells,mg,fz,a1,⟨bB,cp⟩,eC⟩:=(h.bL.rws b _ off code cap kind eH ba (by omega)).2 e2;have az8:off.den ρ=0:=(eC c1).2.1;rw[az8]at cp;have hl:=Qr (P:=P) w ⟨m b,0,none⟩ (l.map (A.den ad m)) λj v aO=>by
   rw[xo]at aO;have:=(cp.sub 0 s (IV _)).flat aO;rw[lb];simp only[pw,a1,zy,zz,if_false];simpa using this
  simp only[qQ,l2]at hl;have hR:=h.later hn ha;have kZ:(p5 t (.pointer (some ⟨m b,0,none⟩))).run P w= .ok (.agg (l.map (A.den ad m)).toArray) w:=by
   simp[p5,px,loadVar,ug iU,kH hs,hl]
  have hex:execOp a.eval o=(do pure (m7 (<-p5 t (a.eval p)))):=by
   simp[execOp,aw]
  unfold qR;simp only[hex,NH,jV,kZ,kg,lH];refine af n' ad m _ _ G _ _ ⟨hn,ha,bS _,λ_ _=>rfl⟩ (gQ.refl _ _) ⟨?_,by rw[put_defers];exact h.d,hR.b,hR.bL⟩ ae;exact fl.put (v:= .w (.agg l)) hR.t o.dst l1 rfl
end
end Go.bX
namespace Go.bX
open M
section
variable {S:Nat->List Int->List Int->Prop} {L:V->Env->Prop} {w0:eV} {P:bU} {gl:fO} {cal:gy} {inl:mH}
theorem cond_holds {c:Bool} {t:T} {G:ft} {ρ:Env} (h:(cond c t .stuck).holds S L G ρ):c=true/\t.holds S L G ρ:=by
 cases c with
 |true=>exact⟨rfl,h⟩
 |false=>exact h.elim
theorem aK2 {n:Nat} {ρ:Env} {m:Nat->Nat} {tm:List V} {bl:List aH} {a:Act} {w:aC} {G:ft} {o:Oper} {K:Act->aC->Prop} {Q:Exit->Act->aC->Prop} {k:iP}
 (c8:iD S P gl w0 cal) (hg:gJ gl w0) (nY:rI S L w0 P inl) (h:R w0 n ρ m tm bl a w) (ae:(aeL P gl cal inl o n tm bl k).holds S L G ρ) (af:m9 S L w0 k n bl.length ρ m G K):o.wp P a w K Q:=by
 unfold aeL at ae;split at ae
 ·rename_i t aw;cases hz:rA P t with
  |none=>simp[hz,T.holds]at ae
  |some cs=>
   simp only[hz]at ae;unfold rA at hz;cases hi:P.info? t with
   |none=>simp[hi]at hz
   |some i=>
    cases lr:i.zero with
    |none=>simp[hi,lr]at hz
    |some z=>
     simp only[hi,lr]at hz;have hc:=EF hz n bl.length ρ m;obtain⟨o5,ae⟩:=cond_holds ae;have hw:=af n ρ _ _ _ G _ _ (fj.alloc n ρ m bl (cs,(t,false)) w.heap.size) (gQ.refl _ _) (h.alloc (t:=t) hc.1 o.dst o5) ae;unfold qR;simp only[execOp,aw,aPl,jV,zeroValue,typeInfo,run_program,kg,hi,lr,lH,newVar,newRow,run_newObj];have e:(cs.map (A.den ρ m)).toArray=z.cells:=by rw[hc.2]
     rw[e]at hw;exact hw
 ·rename_i t x aw;have hx:=db h.t x;split at ae
  ·rename_i u hu;rw[hu]at hx;have eB:a.eval x=u.den ρ m:=hx.2;obtain⟨o5,ae⟩:=cond_holds ae;have hw:=af n ρ _ _ _ G _ _ (fj.alloc n ρ m bl (u.cells,(t,false)) w.heap.size) (gQ.refl _ _) (h.alloc (t:=t) (W.Jt hx.1) o.dst o5) ae;unfold qR;simp only[execOp,aw,Instr.box,jV,kg,lH,newVar,newRow,run_newObj,eB];rw[<-W.Rw u hx.1]at hw;exact hw
  ·exact ae.elim
 ·rename_i t len parts aw;split at ae
  ·rename_i cs e w6;obtain⟨g1,g2⟩:=au0 (m:=m) (vals:=parts.map λ(i,x)=>(i,a.eval x)) w6 (by
    rw[Ed];generalize parts.toList=ly;induction ly with
    |nil=>exact trivial
    |cons p r ih=>exact⟨⟨rfl,db h.t p.2⟩,ih⟩)
   obtain⟨o5,ae⟩:=cond_holds ae;have hR:=R.row (t:=e) (cs:=cs) (ex:=[]) (open_:=false) h g1 (λ_=>rfl) o5 o.dst (v:= .w (.one (.slc bl.length 0 len len))) (x:= .slice (some ⟨w.heap.size,0,none⟩) len len) (by simp[V.ok,W.ok,A.ok]) (by
    show Qt (some ⟨w.heap.size,0,none⟩) _ _=_;simp[W.den,A.den,pY])
   have hw:=af n ρ _ _ _ G _ _ (fj.alloc n ρ m bl (cs,(e,false)) w.heap.size) (gQ.refl _ _) hR ae;rw[iq]at hw;unfold qR;simp only[execOp,aw,jV,g2,kg,lH];exact hw
  ·exact ae.elim
 ·rename_i t p x aw;have hp:=db h.t p;have hx:=db h.t x;split at ae
  ·rename_i b off u NI Hy;rw[NI]at hp;rw[Hy]at hx;have NH:a.eval p= .pointer (some ⟨m b,off,none⟩):=hp.2;have eB:a.eval x=u.den ρ m:=hx.2;split at ae
   ·rename_i cs eH s ba hs;cases hc:(aR u.cells.length s&&cJ (off+s) cs.length&&ea 0 s&&cd cs&&cd (cs.take off++u.cells++cs.drop (off+s)))with
    |false=>rw[hc]at ae;exact ae.elim
    |true=>
     simp only[hc,cond_true]at ae;simp only[bA]at hc;obtain⟨⟨hc,uQ⟩,tM⟩:=hc;have ar:=bV hc.1.1;have aG:=gY hc.1.2;have cm:=vu hc.2;subst ar;obtain⟨w',kZ,C9⟩:=h.bL.store h.b (W.Jt hx.1) ba aG cm uQ tM t hs (u.den ρ m) (W.Rw u hx.1);have b2:∀a∈cs.take off++u.cells++cs.drop (off+u.cells.length),A.ok n bl.length ρ a:=λa ha=>by
      have dR:=h.b _ (fZ ba);rcases List.mem_append.1 ha with ha|ha
      ·rcases List.mem_append.1 ha with ha|ha
       ·exact dR a (nJ ha)
       ·exact W.Jt hx.1 a ha
      ·exact dR a (rG ha)
     unfold qR;simp only[execOp,aw,jV,NH,eB,kZ,kg,lH];refine af n ρ m _ _ G _ w' ⟨bS _,agree.refl _ _,by rw[mA];exact bS _,λ_ _=>rfl⟩ (gQ.refl _ _) ⟨?_,by rw[put_defers];exact h.d,h.b.set b2,C9⟩ ae;rw[mA];exact fl.put h.t o.dst (by intro x hx;simp at hx) rfl
   ·exact ae.elim
  ·exact ae.elim
 ·rename_i c aw;split at ae
  ·rename_i f hc;split at ae
   ·exact Un c8 hg h ae af
   ·have tI:∀v∈c.args.toList.map (cu tm),V.ok n bl.length ρ v:=λv hv=>by
     obtain⟨x,_,rfl⟩:=List.mem_map.1 hv;exact(db h.t x).1
    have hr:=nY f n _ bl _ G ρ m w _ (λe tn=>match e with
     | .returned v=>K (a.put o.dst v) tn
     | .panicked chain=>Q (.panic chain) a tn
     | .outgrown=>LetsOut Q) h.b h.bL tI (QP (xs:=c.args.toList) h.t) ae (by
     intro n' v bx e7 ad m' w' val h1 h2 h3 h4 h5 h6 h7;exact af n' ad m' _ bx e7 _ w' h1 h2 ⟨fl.put (h.t.ext h1.ha h1.hn h1.hb h1.hm) o.dst h3 h4,by rw[put_defers];exact h.d,h5,h6⟩ h7)
    have ha:(c.args.toList.map a.eval).toArray=c.args.map a.eval:=by rw[<-Ed]
    rw[ha]at hr;unfold qR;rw[aeh hc o aw,hr.1];refine hr.2.mono λe tn he=>?_;cases e<;>exact he
  ·rename_i x hc;split at ae
   ·exact Un c8 hg h ae af
   split at ae
   ·rename_i f lL azm;have hx:=db h.t (.tmp x);obtain⟨tO,eB⟩:(∀y∈lL,A.ok n bl.length ρ y)/\a.eval (.tmp x)= .func (.func f) #[] (lL.map (A.den ρ m)).toArray:=avG azm hx.1 hx.2;have tI:∀v∈c.args.toList.map (cu tm)++lL.map (λy=>V.w (.one y)),V.ok n bl.length ρ v:=λv hv=>by
     rcases List.mem_append.1 hv with hv|hv
     ·obtain⟨x,_,rfl⟩:=List.mem_map.1 hv;exact(db h.t x).1
     ·obtain⟨y,hy,rfl⟩:=List.mem_map.1 hv;exact tO y hy
    have hrel:gb ρ m (c.args.toList.map (cu tm)++lL.map λy=>V.w (.one y)) (c.args.toList.map a.eval++lL.map (A.den ρ m)):=by
     generalize c.args.toList=l;induction l with
     |nil=>
      simp only[gZ,eM];generalize lL=q;induction q with
      |nil=>trivial
      |cons y r ih=>exact⟨rfl,ih⟩
     |cons x r ih=>exact⟨(db h.t x).2,ih⟩
    have hr:=nY f n _ bl _ G ρ m w _ (λe tn=>match e with
     | .returned v=>K (a.put o.dst v) tn
     | .panicked chain=>Q (.panic chain) a tn
     | .outgrown=>LetsOut Q) h.b h.bL tI hrel ae (by
     intro n' v bx e7 ad m' w' val h1 h2 h3 h4 h5 h6 h7;exact af n' ad m' _ bx e7 _ w' h1 h2 ⟨fl.put (h.t.ext h1.ha h1.hn h1.hb h1.hm) o.dst h3 h4,by rw[put_defers];exact h.d,h5,h6⟩ h7)
    have hex:execOp a.eval o=callFunc f (c.args.toList.map a.eval++lL.map (A.den ρ m)).toArray:=by
     have e:(c.args.toList.map a.eval++lL.map (A.den ρ m)).toArray=#[]++c.args.map a.eval++(lL.map (A.den ρ m)).toArray:=by
      apply Wi;simp
     rw[e];simp only[execOp,aw,resolve,hc,eB,Deferred.ofValue,pure_bind,invoke]
    unfold qR;rw[hex,hr.1];refine hr.2.mono λe tn he=>?_;cases e<;>exact he
   ·exact ae.elim
  ·rename_i hc;split at ae
   ·rename_i s x t t' jD qz;exact aur h aw hc jD qz ae af
   ·exact ae.elim
  ·exact Un c8 hg h ae af
 ·exact Un c8 hg h ae af
theorem aqd {n:Nat} {ρ:Env} {m:Nat->Nat} {tm:List V} {bl:List aH} {a:Act} {w:aC} {G:ft} {o:Oper} {K:Act->aC->Prop} {Q:Exit->Act->aC->Prop} {k:iP}
 (c8:iD S P gl w0 cal) (hg:gJ gl w0) (nY:rI S L w0 P inl) (h:R w0 n ρ m tm bl a w) (ae:(UX P gl cal inl o n tm bl k).holds S L G ρ) (af:m9 S L w0 k n bl.length ρ m G K):o.wp P a w K Q:=by
 unfold UX at ae;split at ae
 ·rename_i t aA;exact aK3 h aA ae af
 ·split at ae
  ·rename_i t aA;exact aK5 h aA ae af
  ·split at ae
   ·rename_i t aA;exact aK6 h aA ae af
   ·split at ae
    ·rename_i t aA;exact aK7 h aA ae af
    ·split at ae
     ·rename_i t aA;exact aK8 h aA ae af
     ·exact aK2 c8 hg nY h ae af
theorem ai9 {ρ:Env}:∀{b:bH} {v:Bool} {r:U×Option Int×Option Int},b.den ρ=v->yd b v=some r->(∀c,r.2.1=some c->c<=r.1.den ρ)/\(∀c,r.2.2=some c->r.1.den ρ<=c)
 | .le p q,true,r,hb,h| .le p q,false,r,hb,h| .lt p q,true,r,hb,h| .lt p q,false,r,hb,h=>by
  simp only[bH.den,decide_eq_true_eq,decide_eq_false_iff_not]at hb;simp only[yd]at h;split at h
  ·rename_i c h1 h2;have e:=U.lp h1 (ρ:=ρ);simp only[bp]at h;subst h;constructor<;>intro eW hc<;>simp only[bp,reduceCtorEq]at hc<;>subst hc<;>simp only<;>omega
  ·rename_i c h1 h2;have e:=U.lp h2 (ρ:=ρ);simp only[bp]at h;subst h;constructor<;>intro eW hc<;>simp only[bp,reduceCtorEq]at hc<;>subst hc<;>simp only<;>omega
  ·cases h
 | .not b,v,r,hb,h=>by
  simp only[yd]at h;refine ai9 (b:=b) (v:= !v) ?_ h;simp only[bH.den]at hb;rw[<-hb,Bool.not_not]
 | .lit _,_,_,_,h=>by simp[yd]at h
 | .eq _ _,_,_,_,h=>by simp[yd]at h
 | .and _ _,_,_,_,h=>by simp[yd]at h
 | .iff _ _,_,_,_,h=>by simp[yd]at h
theorem avL {n nb:Nat} {ρ:Env} {m:Nat->Nat} {b:bH} {v:Bool} (hb:b.den ρ=v) (u:V) (hu:u.ok n nb ρ):(RB b v (yd b v) u).ok n nb ρ/\∀x,u.rel ρ m x->(RB b v (yd b v) u).rel ρ m x:=by
 unfold RB;split
 ·rename_i e;cases hc:bH.beq e b with
  |false=>simp only[cond_false];exact⟨hu,λ_ h=>h⟩
  |true=>
   have:=bH.beq_eq hc;subst this;simp only[cond_true];refine⟨trivial,λx hx=>?_⟩;simp only[V.rel,W.den,A.den,bH.den]at hx⊢;rw[hx,hb]
 ·rename_i k y;cases hr:yd b v with
  |none=>exact⟨hu,λ_ h=>h⟩
  |some r=>
   obtain⟨l,lo,hi⟩:=r;simp only;cases hc:U.beq y.l l with
   |false=>simp only[cond_false];exact⟨hu,λ_ h=>h⟩
   |true=>
    have:=U.beq_eq hc;have hs:=ai9 hb hr;have hy:y.ok n ρ:=hu;simp only[cond_true];have bQ:KG y.lo lo<=y.l.den ρ:=by
     unfold KG;cases lo with
     |none=>exact hy.2.1
     |some c=>
      simp only;have:=hs.1 c rfl;have:=hy.2.1;cases decide (y.lo<=c)with
      |true=>simp only[cond_true];rw[‹y.l=l›];assumption
      |false=>simp only[cond_false];assumption
    have b9:y.l.den ρ<=OK y.hi hi:=by
     unfold OK;cases hi with
     |none=>exact hy.2.2
     |some c=>
      simp only;have:=hs.2 c rfl;have:=hy.2.2;cases decide (c<=y.hi)with
      |true=>simp only[cond_true];rw[‹y.l=l›];assumption
      |false=>simp only[cond_false];assumption
    cases hd:decide (KG y.lo lo=OK y.hi hi)with
    |true=>
     simp only[cond_true];have hd:=of_decide_eq_true hd;refine⟨bT.uG _ _ _,λx h=>?_⟩;have h:x= .int k (y.l.den ρ):=h;rw[h];simp only[V.rel,W.den,A.den,bT.const,U.bz]
     congr 1;omega
    |false=>simp only[cond_false];exact⟨⟨hy.1,bQ,b9⟩,λx h=>h⟩
 ·exact⟨hu,λ_ h=>h⟩
theorem Ll {n nb:Nat} {ρ:Env} {m:Nat->Nat} {b:bH} {v:Bool} (hb:b.den ρ=v) {tm:List V} {xs:Array a6} (h:fl n nb ρ m tm xs):fl n nb ρ m (xK b v tm) xs:=by
 refine⟨by simp[xK,h.1],λi u hu=>?_⟩;simp only[xK,rC,Option.map_eq_some_iff]at hu;obtain⟨vi,h0,rfl⟩:=hu;obtain⟨h1,x,h2,h3⟩:=h.2 i vi h0;have:=avL (m:=m) hb vi h1;exact⟨this.1,x,h2,this.2 x h3⟩
theorem MP {n nb:Nat} {ρ:Env} {m:Nat->Nat} {tm:List V} {a:Act} {G:ft} {ops:Array Oper} {o:Oper} {yes no:List V->T} (aA:fl n nb ρ m tm a.tmps) (h:(G9 ops tm o yes no).holds S L G ρ):
 ∃cE,fl n nb ρ m cE a.tmps/\((Cy o (yielded ops a.tmps)=true/\(yes cE).holds S L G ρ)∨(Cy o (yielded ops a.tmps)=false/\(no cE).holds S L G ρ)):=by
 unfold G9 at h;unfold Cy;cases jB:o.guard with
 |none=>simp only[jB]at h;exact⟨tm,aA,.inl ⟨rfl,h⟩⟩
 |some Z0=>
  obtain⟨g,want⟩:=Z0;simp only[jB]at h⊢;unfold yielded;cases hd:(ops[g]?).bind (·.dst)with
  |none=>simp[hd,T.holds]at h
  |some d=>
   simp only[hd]at h;simp only[Option.bind_some];cases abj:tm[d]? with
   |none=>simp[abj,T.holds]at h
   |some v=>
    obtain⟨_,x,hx,hr⟩:=aA.2 d v abj;simp only[abj]at h;revert hr h;cases v with
    |any=>intro hr h;exact h.elim
    |td _ _ _=>intro hr h;exact h.elim
    |tB _ _=>intro hr h;exact h.elim
    |jG l=>
     cases l with
     |nil=>
      intro hr h;have hr:x= .tuple #[]:=hr;subst hr;simp only[hx];exact⟨tm,aA,.inr ⟨by simp,h⟩⟩
     |cons _ _=>intro hr h;exact h.elim
    |w y=>
     cases y with
     |agg l=>intro hr h;exact h.elim
     |one c=>
      cases c with
      |bool b=>
       intro hr h;have hr:x= .bool (b.den ρ):=hr;subst hr;simp only[hx];have key:∀b:bH,(T.vx b (cond want (yes (xK b true tm)) (no (xK b true tm))) (cond want (no (xK b false tm)) (yes (xK b false tm)))).holds S L G ρ->∃cE,fl n nb ρ m cE a.tmps/\(((some (b.den ρ)==some want)=true/\(yes cE).holds S L G ρ)∨((some (b.den ρ)==some want)=false/\(no cE).holds S L G ρ)):=λb hb=>by
        simp only[T.holds]at hb;cases ai:b.den ρ with
        |true=>
         have:=hb.1 ai;cases want with
         |true=>exact⟨_,Ll ai aA,.inl ⟨by simp,this⟩⟩
         |false=>exact⟨_,Ll ai aA,.inr ⟨by simp,this⟩⟩
        |false=>
         have:=hb.2 ai;cases want with
         |true=>exact⟨_,Ll ai aA,.inr ⟨by simp,this⟩⟩
         |false=>exact⟨_,Ll ai aA,.inl ⟨by simp,this⟩⟩
       cases b with
       |lit v=>
        simp only[bH.den];cases hv:(v==want)with
        |true=>simp only[hv,cond_true]at h;exact⟨tm,aA,.inl ⟨by simpa using hv,h⟩⟩
        |false=>simp only[hv,cond_false]at h;exact⟨tm,aA,.inr ⟨by simpa using hv,h⟩⟩
       |eq _ _=>exact key _ h
       |lt _ _=>exact key _ h
       |le _ _=>exact key _ h
       |not _=>exact key _ h
       |and _ _=>exact key _ h
       |iff _ _=>exact key _ h
      |_=>intro hr h;exact h.elim
theorem R.skip {n:Nat} {ρ:Env} {m:Nat->Nat} {tm:List V} {bl:List aH} {a:Act} {w:aC} (h:R w0 n ρ m tm bl a w) (d:Option Tmp):R w0 n ρ m (ie tm d (.jG [])) bl (a.put d undef) w:=
 ⟨fl.put h.t d (by intro x hx;simp at hx) rfl,by rw[put_defers];exact h.d,h.b,h.bL⟩
theorem T7 {ops:Array Oper} {Q:Exit->Act->aC->Prop} (c8:iD S P gl w0 cal) (hg:gJ gl w0) (nY:rI S L w0 P inl):∀(l:List Oper) {n:Nat} {ρ:Env} {m:Nat->Nat} {tm:List V} {bl:List aH} {a:Act} {w:aC} {G:ft} {k:iP},
 R w0 n ρ m tm bl a w->(KS P gl cal inl ops l n tm bl k).holds S L G ρ->m9 S L w0 k n bl.length ρ m G (Q .normal)->wpList P ops Q l a w
 |[],n,ρ,m,tm,bl,a,w,G,k,h,ae,af=>af n ρ m tm bl G a w (fj.refl _ _ _ _) (gQ.refl _ _) h ae
 |o::r,n,ρ,m,tm,bl,a,w,G,k,h,ae,af=>by
  unfold KS at ae;unfold wpList;obtain⟨cE,o6,jB⟩:=MP h.t ae;have h:R w0 n ρ m cE bl a w:=⟨o6,h.d,h.b,h.bL⟩;rcases jB with⟨hw,ae⟩|⟨hw,ae⟩
  ·rw[if_pos hw];refine .inl (aqd c8 hg nY h ae λn' ad m' cE bx e7 dW w' h1 h2 h3 h4=>?_);exact T7 c8 hg nY r h3 h4 (af.later h1 h2)
  ·rw[if_neg (by simp[hw])];exact T7 c8 hg nY r (h.skip o.dst) ae af
theorem allT_holds {g:Nat->T} {L:V->Env->Prop} {G:ft} {ρ:Env}:∀{l:List Nat},(Yp g l).holds S L G ρ->∀i∈l,(g i).holds S L G ρ
 |[],ae,_,hi=>by cases hi
 |[j],ae,i,hi=>by simp at hi;subst hi;exact ae
 |j::abK::r,ae,i,hi=>by
  rcases List.mem_cons.1 hi with rfl|hi
  ·exact ae.1
  ·exact allT_holds (l:=abK::r) ae.2 i hi
theorem Sc {ops:Array Oper} {bl:List aH} {m:Nat->Nat} {gE:Nat} {cx:Env} (c8:iD S P gl w0 cal) (hg:gJ gl w0) (qt:dg gE bl.length cx bl) (hex:∃w,Mem w0 cx m bl w) {F:Act->Prop} {G:ft}:∀(l:List Oper) {n:Nat} {ρ:Env} {tm:List V} {a:Act} {k:Nat->List V->T},
 gE<=n->agree gE cx ρ->fl n bl.length ρ m tm a.tmps->a.defers=w0.ds->(JY P gl cal ops l n tm bl k).holds S L G ρ->
 (∀n' ad cE dW,n<=n'->agree n ρ ad->fl n' bl.length ad m cE dW.tmps->dW.defers=w0.ds->(k n' cE).holds S L G ad->F dW)->Gm P ops (λw=>Mem w0 cx m bl w) F l a
 |[],n,ρ,tm,a,k,hn,ha,aA,hd,ae,af=>af n ρ tm a (bS _) (agree.refl _ _) aA hd ae
 |o::r,n,ρ,tm,a,k,hn,ha,aA,hd,ae,af=>by
  unfold JY at ae;unfold Gm;obtain⟨DY,BE⟩:=hex;cases gT:iR o with
  |true=>
   simp only[gT,cond_true]at ae⊢;exact Sc c8 hg qt ⟨DY,BE⟩ r hn ha aA hd ae af
  |false=>
   simp only[gT,cond_false]at ae⊢;obtain⟨cE,aA,jB⟩:=MP aA ae;rcases jB with⟨hw,ae⟩|⟨hw,ae⟩
   ·have hb:dg n bl.length ρ bl:=qt.ext ha hn (bS _);obtain⟨ad,n',v,yr,nV,⟨hv,val,hr,ai⟩,J4⟩:=adV (L:=L) c8 hb hg ⟨DY,BE.tj qt ha⟩ aA o G _ ae;refine⟨val,.inl ⟨hw,λw aA4=>ai w (aA4.tj qt ha)⟩,?_⟩;exact Sc c8 hg qt ⟨DY,BE⟩ r (nK hn yr) (ha.trans nV hn) (fl.put (aA.ext nV yr (bS _) (λ_ _=>rfl)) o.dst hv hr) (by rw[put_defers];exact hd) J4
     λKL zC aqm ahr h1 h2 h3 h4 h5=>af KL zC aqm ahr (nK yr h1) (nV.trans h2 yr) h3 h4 h5
   ·exact⟨undef,.inr ⟨hw,rfl⟩,Sc c8 hg qt ⟨DY,BE⟩ r hn ha (fl.put (v:= .jG []) aA o.dst (by intro x hx;simp at hx) rfl) (by rw[put_defers];exact hd) ae af⟩
def LH (P:bU) (ops:Array Oper) (j:Nat):Obj:=
 match ops[j]? with
 |some o=>match o.op with
  | .alloc t=>match P.info? t with
   |some i=>match i.zero with
    |some z=> .cells z.cells t
    |none=>default
   |none=>default
  |_=>default
 |none=>default
theorem aOs {l:List Oper} {h j:Nat} {o:Oper} (hz:VY P (l.take h)=true) (aO:j<h) (aw:l.toArray[j]?=some o) (gT:iR o=true) (b:Act) (w:aC):
 (execOp b.eval o).run P w= .ok (.value (.pointer (some ⟨w.heap.size,0,none⟩))) (w.alloc (LH P l.toArray j)):=by
 have kE:l[j]?=some o:=by simpa using aw
 have hm:o∈l.take h:=fZ (i:=j) (by rw[vm,if_pos aO];exact kE);have h1:=List.all_eq_true.1 hz o hm;simp only[gT,cL,Bool.false_or]at h1;unfold LH;simp only[aw];cases hj:o.op with
 |alloc t=>
  simp only[hj]at h1;obtain⟨cs,dR⟩:=Option.isSome_iff_exists.1 h1;obtain⟨i,z,hi,lr,_⟩:=Qh dR;simp only[execOp,hj,aPl,jV,zeroValue,typeInfo,run_program,kg,hi,lr,lH,newVar,newRow,run_newObj];rfl
 |_=>simp[hj]at h1
theorem Yr {ops:Array Oper} {h:Nat} {wH b:Act} {iC:Nat->Nat} {bE:Nat} {w:aC} {n:Nat} {ρ:Env} {G:ft} {k:iP} {K:Act->aC->Prop} (C4:Fin ops h wH b iC) (ys:El ops h (λ_=>True) (LH P ops) iC bE w) (hsz:w0.b.heap.size<=bE) (ami:w0.r.heap.size<=bE):
 ∀(l:List Oper) (i:Nat) {m:Nat->Nat} {tm:List V} {bl:List aH} {c:Act},(∀j,j<l.length->ops[i+j]?=l[j]?)->i+l.length=h->R w0 n ρ m tm bl c w->
  (∀(jF:Nat) (p:aH),bl[jF]?=some p->bP ρ p.1≠0->m jF<bE∨∃j,j<i/\wF ops j=true/\m jF=iC j)->c.tmps.size=wH.tmps.size->
  (∀t:Nat,((∃j o,j<i/\ops[j]?=some o/\iR o=true/\o.dst=some t)->c.tmps[t]?=b.tmps[t]?)/\((∀j o,j<i->ops[j]?=some o->iR o=true->o.dst≠some t)->c.tmps[t]?=wH.tmps[t]?))->
  (Mc P l n tm bl k).holds S L G ρ->m9 S L w0 k n bl.length ρ m G K->wH.defers=w0.ds->K b w
 |[],i,m,tm,bl,c,hl,hi,hR,hm,dR,hc,ae,af,hd=>by
  simp only[rD,pv]at hi;subst hi;have oD:c=b:=at6 (by rw[hR.d,C4.d,hd]) λt=>by
   by_cases aA:∃j o,j<i/\ops[j]?=some o/\iR o=true/\o.dst=some t
   ·exact(hc t).1 aA
   ·have mS:∀j o,j<i->ops[j]?=some o->iR o=true->o.dst≠some t:=λj o h1 h2 h3 h4=>aA ⟨j,o,h1,h2,h3,h4⟩;rw[(hc t).2 mS,C4.no t mS]
  subst oD;exact af n ρ m tm bl G c w (fj.refl _ _ _ _) (gQ.refl _ _) hR ae
 |o::r,i,m,tm,bl,c,hl,hi,hR,hm,dR,hc,ae,af,hd=>by
  have aw:ops[i]?=some o:=by have:=hl 0 (by simp);simpa using this
  have hr:∀j,j<r.length->ops[i+1+j]?=r[j]?:=λj aO=>by
   have:=hl (j+1) (by simp;omega);rw[show i+1+j=i+(j+1) by omega,this];simp
  have q4:i+1+r.length=h:=by simp at hi;omega
  unfold Mc at ae;cases gT:iR o with
  |false=>
   simp only[gT,cond_false]at ae;refine Yr C4 ys hsz ami r (i+1) hr q4 hR (λjF p q6 hp=>(hm jF p q6 hp).imp id λ⟨j,h1,h2⟩=>⟨j,by omega,h2⟩) dR (λt=>⟨λ⟨j,c4,h1,h2,h3,h4⟩=>?_,λmS=>(hc t).2 λj c4 h1=>mS j c4 (by omega)⟩) ae af hd;by_cases qw:j=i
   ·subst qw;have:c4=o:=iH (h2.symm.trans aw);subst this;rw[gT]at h3;cases h3
   ·exact(hc t).1 ⟨j,c4,by omega,h2,h3,h4⟩
  |true=>
   simp only[gT,cond_true]at ae;cases hj:o.op with
   |alloc ty=>
    simp only[hj]at ae;cases hz:rA P ty with
    |none=>simp[hz,T.holds]at ae
    |some cs=>
     simp only[hz]at ae;obtain⟨o5,ae⟩:=cond_holds ae;obtain⟨inf,z,azK,lr,nX⟩:=Qh hz;have aaF:=EF nX n bl.length ρ m;have lN:wF ops i=true:=by simp[wF,aw,gT]
     have aaS:i<h:=by simp at hi;omega
     obtain⟨g1,g2⟩:=ys.1 i aaS trivial lN;have aBf:LH P ops i= .cells (cs.map (A.den ρ m)).toArray ty (0,0):=by
      unfold LH;simp only[aw,hj,azK,lr,aaF.2]
     rw[aBf]at g2;have dz:∀(jF:Nat) (p:aH),bl[jF]?=some p->bP ρ p.1≠0->m jF≠iC i:=λjF p q6 hp e=>by
      rcases hm jF p q6 hp with h1|⟨j,h1,h2,h3⟩
      ·omega
      ·have:=ys.2 j i (by omega) aaS trivial trivial h2 lN (h3.symm.trans e);omega
     have nU:=hR.bL.push (x:=(cs,(ty,false))) hR.b aaF.1 (λ_=>⟨by omega,.inr (by omega),[],λ_=>rfl,by rw[iq];exact g2⟩) (λsh off code cap kind e=>by simp only at e;subst e;cases o5) λi p hi he=> .inr (.inl (afU λaf=>dz i p hi af he));have ej:=fj.alloc n ρ m bl (cs,(ty,false)) (iC i);have w3:R w0 n ρ (od m bl.length (iC i)) (ie tm o.dst (.w (.one (.ptr bl.length 0)))) (bl++[(cs,(ty,false))]) (c.put o.dst (.pointer (some ⟨iC i,0,none⟩))) w:=
      ⟨fl.put (hR.t.ext ej.ha ej.hn ej.hb ej.hm) o.dst (by simp[V.ok,W.ok,A.ok]) (by simp[V.rel,W.den,A.den,pY]),by rw[put_defers];exact hR.d,hR.b.alloc aaF.1,nU⟩
     refine Yr C4 ys hsz ami r (i+1) hr q4 w3 (λjF p q6 hp=>?_) ((H2 _ _ _).trans dR) (λt=>⟨λ⟨j,c4,h1,h2,h3,h4⟩=>?_,λmS=>?_⟩) ae (af.later ej (gQ.refl _ _)) hd
     ·by_cases pL:jF<bl.length
      ·rw[pk pL];rw[zx pL]at q6;exact(hm jF p q6 hp).imp id λ⟨j,h1,h2⟩=>⟨j,by omega,h2⟩
      ·have:jF=bl.length:=by have:=(List.getElem?_eq_some_iff.1 q6).1;simp at this;omega
       subst this;rw[pY];exact .inr ⟨i,by omega,lN,rfl⟩
     ·by_cases aA:o.dst=some t
      ·rw[aA];simp only[Act.put];rcases Nat.lt_or_ge t c.tmps.size with h5|h5
       ·have w6:t<b.tmps.size:=by rw[C4.bE,<-dR];exact h5
        rw[C4.al t i o aaS aw gT aA w6];simp[h5]
       ·rw[Wh (by simpa using h5),Wh (by rw[C4.bE,<-dR];exact h5)]
      ·rw[BY aA];by_cases qw:j=i
       ·subst qw;have:c4=o:=iH (h2.symm.trans aw);subst this;exact absurd h4 aA
       ·exact(hc t).1 ⟨j,c4,by omega,h2,h3,h4⟩
     ·have aA:o.dst≠some t:=mS i o (by omega) aw gT;rw[BY aA];exact(hc t).2 λj c4 h1=>mS j c4 (by omega)
   |_=>simp[hj,T.holds]at ae
end
end Go.bX
namespace Go.bX
open M
theorem avH {a b:a6} (h:Zb a b=true):a=b:=by
 unfold Zb at h;split at h
 ·rfl
 ·rfl
 ·rename_i f a b qo dW b';simp only[bA]at h;obtain⟨⟨⟨⟨h1,h2⟩,h3⟩,h4⟩,h5⟩:=h;rw[bV h1,Ef (bV h2),Ef (bV h3),Ef (bV h4),Ef (bV h5)]
 ·cases h
theorem A.beq_eq {a b:A} (h:A.beq a b=true):a=b:=by
 cases a<;>cases b<;>simp only[A.beq]at h<;>(try(cases h;done))
 case int.int k x bD y=>
  simp only[bA,decide_eq_true_eq,beq_iff_eq]at h;obtain⟨⟨⟨h1,h2⟩,h3⟩,h4⟩:=h;cases x;cases y;simp only at h2 h3 h4;rw[h1,U.beq_eq h2,h3,h4]
 case bool.bool x y=>
  rw[bH.beq_eq h]
 case con.con=>rw[avH h]
 case ptr.ptr=>simp only[bA]at h;rw[bV h.1,bV h.2]
 case gptr.gptr=>simp only[bA]at h;rw[bV h.1,bV h.2]
 case slc.slc=>
  simp only[bA]at h;rw[bV h.1.1.1,bV h.1.1.2,bV h.1.2,bV h.2]
 case str.str=>rw[U.beq_eq h]
 case rows.rows=>
  simp only[bA]at h;rw[DP h.1.1.1.1,U.beq_eq h.1.1.1.2,U.beq_eq h.1.1.2,U.beq_eq h.1.2,bV h.2]
 case sl.sl=>
  simp only[bA]at h;rw[bV h.1.1.1.1.1,bV h.1.1.1.1.2,U.beq_eq h.1.1.1.2,U.beq_eq h.1.1.2,U.beq_eq h.1.2,U.beq_eq h.2]
 case ep.ep=>
  simp only[bA]at h;rw[bV h.1.1.1.1,bV h.1.1.1.2,U.beq_eq h.1.1.2,U.beq_eq h.1.2,bV h.2]
theorem GK:∀{a b:List A},rK a b=true->a=b
 |[],[],_=>rfl
 |x::r,y::s,h=>by
  simp only[rK,bA]at h;rw[A.beq_eq h.1,GK h.2]
 |[],_::_,h=>by simp[rK]at h
 |_::_,[],h=>by simp[rK]at h
theorem V.beq_eq {a b:V} (h:V.beq a b=true):a=b:=by
 cases a with
 |any=>cases b<;>simp[V.beq]at h
 |jG l=>cases l<;>cases b<;>simp[V.beq]at h;rename_i l';cases l'<;>simp[V.beq]at h;rfl
 |w x=>
  cases b with
  |w y=>cases x<;>cases y<;>simp[V.beq]at h;rw[A.beq_eq h];rw[GK h]
  |_=>cases x<;>simp[V.beq]at h
 |td _ _ _=>simp[V.beq]at h
 |tB f l=>
  cases b with
  |tB qo l'=>
   simp only[V.beq,bA]at h;rw[bV h.1,GK h.2]
  |_=>simp[V.beq]at h
theorem Ln:∀(zs:List Int) (n:Nat) (ρ:Env) (j:Nat),j<zs.length->bO ρ n zs (n+j)=zs.getD j 0
 |[],_,_,_,h=>by simp at h
 |z::zs,n,ρ,0,_=>by
  show bO (dQ ρ n z) (n+1) zs (n+0)=z;rw[agree.bO zs (n+1) _ (n+0) (by omega)];exact m4 ρ n z
 |z::zs,n,ρ,j+1,h=>by
  show bO (dQ ρ n z) (n+1) zs (n+(j+1))=_;rw[show n+(j+1)=n+1+j by omega,Ln zs (n+1) _ j (by simpa using h)];rfl
def Gn (n nb:Nat) (ρ:Env) (m:Nat->Nat):List V->List a6->Prop
 |[],[]=>True
 |v::r,x::s=>v.ok n nb ρ/\v.rel ρ m x/\Gn n nb ρ m r s
 |_,_=>False
theorem ahj {n nb:Nat} {ρ:Env} {m:Nat->Nat}:∀{tm:List V} {xs:List a6},fl n nb ρ m tm xs.toArray->Gn n nb ρ m tm xs
 |[],[],_=>trivial
 |v::r,x::s,h=>by
  have h0:=h.2 0 v rfl;obtain⟨h1,y,h2,h3⟩:=h0;simp at h2;subst h2;refine⟨h1,h3,ahj (tm:=r) (xs:=s) ⟨by simpa using h.1,λi u hu=>?_⟩⟩;have:=h.2 (i+1) u (by simpa using hu);simpa using this
 |[],_::_,h=>by have:=h.1;simp at this
 |_::_,[],h=>by have:=h.1;simp at this
theorem QX {n nb:Nat} {ρ:Env} {m:Nat->Nat}:∀{tm:List V} {xs:List a6},Gn n nb ρ m tm xs->fl n nb ρ m tm xs.toArray
 |[],[],_=>⟨rfl,λi v h=>by simp at h⟩
 |v::r,x::s,h=>by
  have ih:=QX h.2.2;refine⟨by simpa using ih.1,λi u hu=>?_⟩;cases i with
  |zero=>simp at hu;subst hu;exact⟨h.1,x,by simp,h.2.1⟩
  |succ i=>have:=ih.2 i u (by simpa using hu);simpa using this
 |[],_::_,h=>h.elim
 |_::_,[],h=>h.elim
theorem nA:∀{b b':List (Int×Int)} {l l':List Int},ay b l->ay b' l'->ay (b++b') (l++l')
 |[],_,[],_,_,h=>h
 |_::_,_,_::_,_,h,aP=>⟨h.1,h.2.1,nA h.2.2 aP⟩
 |[],_,_::_,_,h,_=>h.elim
 |_::_,_,[],_,h,_=>h.elim
theorem agree.symm {n:Nat} {ρ ad:Env} (h:agree n ρ ad):agree n ad ρ:=λi hi=>(h i hi).symm
theorem V.back {n nb:Nat} {cx ad b0:Env} {m0 m':Nat->Nat} {v:V} {x:a6} (h0:v.ok n nb cx) (ha:agree n cx ad) (h2:agree n cx b0) (hm:∀b,b<nb->m' b=m0 b) (hr:v.rel ad m' x):v.ok n nb b0/\v.rel b0 m0 x:=by
 have aAa:v.ok n nb ad:=h0.ext ha (bS _) (bS _);exact⟨h0.ext h2 (bS _) (bS _),hr.ext aAa (ha.symm.trans h2 (bS _)) λb hb=>(hm b hb).symm⟩
section
variable {ij:List Nat} {ints:List (Nat×Int×Int)}
theorem Kd:∀{tm:List V} {i s:Nat} {t:List V} {l:List U} {b:List (Int×Int)},hs ij ints i s tm=some (t,l,b)->l.length=b.length/\t.length=tm.length
 |[],i,s,t,l,b,h=>by simp[hs]at h;obtain⟨rfl,rfl,rfl⟩:=h;exact⟨rfl,rfl⟩
 |v::r,i,s,t,l,b,h=>by
  unfold hs at h;cases af:ij.any (aR i)with
  |true=>
   simp only[af,cond_true]at h;cases hr:hs ij ints (i+1) s r with
   |none=>simp[hr]at h
   |some q=>
    obtain⟨t',l',b'⟩:=q;simp only[hr,bp,eZ]at h;obtain⟨rfl,rfl,rfl⟩:=h;have:=Kd hr;simp[this]
  |false=>
   simp only[af,cond_false]at h;cases hf:E0 i ints with
   |none=>
    simp only[hf]at h;cases hr:hs ij ints (i+1) s r with
    |none=>simp[hr]at h
    |some q=>
     obtain⟨t',l',b'⟩:=q;simp only[hr,bp,eZ]at h;obtain⟨rfl,rfl,rfl⟩:=h;have:=Kd hr;simp[this]
   |some q=>
    obtain⟨lo,hi⟩:=q;simp only[hf]at h;split at h
    ·rename_i k x;cases hc:(decide (lo<=x.lo)&&decide (x.hi<=hi))with
     |false=>simp[hc]at h
     |true=>
      simp only[hc,cond_true]at h;cases hr:hs ij ints (i+1) (s+1) r with
      |none=>simp[hr]at h
      |some q=>
       obtain⟨t',l',b'⟩:=q;simp only[hr,bp,eZ]at h;obtain⟨rfl,rfl,rfl⟩:=h;have:=Kd hr;simp[this]
    ·cases hr:hs ij ints (i+1) (s+1) r with
     |none=>simp[hr]at h
     |some q=>
      obtain⟨t',l',b'⟩:=q;simp only[hr,bp,eZ]at h;obtain⟨rfl,rfl,rfl⟩:=h;have:=Kd hr;simp[this]
    ·cases h
theorem NP {n nb N:Nat} {cx ad b0:Env} {m0 m':Nat->Nat} {n' n8:Nat} (ha:agree n cx ad) (h2:agree n cx b0) (hm:∀b,b<nb->m' b=m0 b) (tK:n<=N):
 ∀{tm cE:List V} {xs:List a6} {i s:Nat} {t t':List V} {l l':List U} {b b':List (Int×Int)},
 (∀v∈tm,V.ok n nb cx v)->Gn n' n8 ad m' cE xs->hs ij ints i s tm=some (t,l,b)->hs ij ints i s cE=some (t',l',b')->qq t t'=true->
 (∀j,j<l'.length->b0 (s+j)=(l'.getD j (.const 0)).den ad)->s+l'.length<=N->Gn N nb b0 m0 t xs/\ay b (l'.map (·.den ad))/\l'.length=l.length
 |[],[],[],i,s,t,t',l,l',b,b',h0,hr,ar,aG,hf,hv,cB=>by
  simp[hs]at ar aG;obtain⟨rfl,rfl,rfl⟩:=ar;obtain⟨rfl,rfl,rfl⟩:=aG;exact⟨trivial,trivial,rfl⟩
 |v::r,v'::r',x::xs,i,s,t,t',l,l',b,b',h0,hr,ar,aG,hf,hv,cB=>by
  obtain⟨b2,hrel,Hu⟩:=hr;have Ha:∀v∈r,V.ok n nb cx v:=λu hu=>h0 u (eS _ hu);unfold hs at ar aG;cases af:ij.any (aR i)with
  |true=>
   simp only[af,cond_true]at ar aG;cases ic:hs ij ints (i+1) s r with
   |none=>simp[ic]at ar
   |some a1=>
    obtain⟨t1,l1,bQ⟩:=a1;cases jS:hs ij ints (i+1) s r' with
    |none=>simp[jS]at aG
    |some bB=>
     obtain⟨t2,l2,b9⟩:=bB;simp only[ic,bp,eZ]at ar;simp only[jS,bp,eZ]at aG;obtain⟨rfl,rfl,rfl⟩:=ar;obtain⟨rfl,rfl,rfl⟩:=aG;have q8:=h0 v (by simp);have key:qq t1 t2=true/\(v= .any∨v=v'):=by
      unfold qq at hf;split at hf
      ·rename_i heq _;cases heq
      ·rename_i h1 h2;cases h1;cases h2;exact⟨hf,.inl rfl⟩
      ·rename_i h1 h2;cases h1;cases h2;simp only[bA]at hf;exact⟨hf.2,.inr (V.beq_eq hf.1)⟩
      ·cases hf
     obtain⟨b1,bY,dH⟩:=NP ha h2 hm tK Ha Hu ic jS key.1 hv cB;refine⟨⟨?_,?_,b1⟩,bY,dH⟩
     ·exact q8.ext h2 tK (bS _)
     ·rcases key.2 with rfl|rfl
      ·trivial
      ·exact(V.back q8 ha h2 hm hrel).2
  |false=>
   simp only[af,cond_false]at ar aG;cases mw:E0 i ints with
   |none=>
    simp only[mw]at ar aG;cases ic:hs ij ints (i+1) s r with
    |none=>simp[ic]at ar
    |some a1=>
     obtain⟨t1,l1,bQ⟩:=a1;cases jS:hs ij ints (i+1) s r' with
     |none=>simp[jS]at aG
     |some bB=>
      obtain⟨t2,l2,b9⟩:=bB;simp only[ic,bp,eZ]at ar;simp only[jS,bp,eZ]at aG;obtain⟨rfl,rfl,rfl⟩:=ar;obtain⟨rfl,rfl,rfl⟩:=aG;obtain⟨b1,bY,dH⟩:=NP ha h2 hm tK Ha Hu ic jS (by simpa [qq]using hf) hv cB;exact⟨⟨trivial,trivial,b1⟩,bY,dH⟩
   |some q=>
    obtain⟨lo,hi⟩:=q;simp only[mw]at ar aG;split at ar
    ·rename_i k y;split at aG
     ·rename_i bD og;cases iL:(decide (lo<=y.lo)&&decide (y.hi<=hi))with
      |false=>simp[iL]at ar
      |true=>
       cases hc2:(decide (lo<=og.lo)&&decide (og.hi<=hi))with
       |false=>simp[hc2]at aG
       |true=>
        simp only[iL,cond_true]at ar;simp only[hc2,cond_true]at aG;cases ic:hs ij ints (i+1) (s+1) r with
        |none=>simp[ic]at ar
        |some a1=>
         obtain⟨t1,l1,bQ⟩:=a1;cases jS:hs ij ints (i+1) (s+1) r' with
         |none=>simp[jS]at aG
         |some bB=>
          obtain⟨t2,l2,b9⟩:=bB;simp only[ic,bp,eZ]at ar;simp only[jS,bp,eZ]at aG;obtain⟨rfl,rfl,rfl⟩:=ar;obtain⟨rfl,rfl,rfl⟩:=aG;simp only[qq,bA]at hf;have q6:=V.beq_eq hf.1;simp only[V.w.injEq,W.one.injEq,A.int.injEq]at q6;simp only[bA,decide_eq_true_eq]at hc2;obtain⟨b1,bY,dH⟩:=NP ha h2 hm tK Ha Hu ic jS hf.2 (λj aO=>by
           have:=hv (j+1) (by simpa using aO);rw[show s+1+j=s+(j+1) by omega];simpa using this) (by simp at cB;omega)
          have q8:=hv 0 (by simp);simp only[pv,gP]at q8;have hb:=b2.2;simp only[V.rel,W.den,A.den]at hrel;refine⟨⟨⟨U.hQ (by simp at cB;omega),?_,?_⟩,?_,b1⟩,⟨?_,?_,bY⟩,by simp[dH]⟩
          ·simp only[U.c6,q8];omega
          ·simp only[U.c6,q8];omega
          ·simp only[V.rel,W.den,A.den,U.c6,q8,q6.1];exact hrel
          ·simp only;omega
          ·simp only;omega
     ·cases ic:hs ij ints (i+1) (s+1) r' with
      |none=>simp[ic]at aG
      |some bB=>
       obtain⟨t2,l2,b9⟩:=bB;simp only[ic,bp,eZ]at aG;obtain⟨rfl,rfl,rfl⟩:=aG;cases iL:(decide (lo<=y.lo)&&decide (y.hi<=hi))with
       |false=>simp[iL]at ar
       |true=>
        simp only[iL,cond_true]at ar;cases jS:hs ij ints (i+1) (s+1) r with
        |none=>simp[jS]at ar
        |some a1=>
         obtain⟨t1,l1,bQ⟩:=a1;simp only[jS,bp,eZ]at ar;obtain⟨rfl,rfl,rfl⟩:=ar;simp[qq,V.beq,A.beq]at hf
     ·cases aG
    ·rename_i y;split at aG
     ·rename_i bD og;cases ic:hs ij ints (i+1) (s+1) r with
      |none=>simp[ic]at ar
      |some a1=>
       obtain⟨t1,l1,bQ⟩:=a1;simp only[ic,bp,eZ]at ar;obtain⟨rfl,rfl,rfl⟩:=ar;cases hc2:(decide (lo<=og.lo)&&decide (og.hi<=hi))with
       |false=>simp[hc2]at aG
       |true=>
        simp only[hc2,cond_true]at aG;cases jS:hs ij ints (i+1) (s+1) r' with
        |none=>simp[jS]at aG
        |some bB=>
         obtain⟨t2,l2,b9⟩:=bB;simp only[jS,bp,eZ]at aG;obtain⟨rfl,rfl,rfl⟩:=aG;simp[qq,V.beq,A.beq]at hf
     ·rename_i og;cases ic:hs ij ints (i+1) (s+1) r with
      |none=>simp[ic]at ar
      |some a1=>
       obtain⟨t1,l1,bQ⟩:=a1;cases jS:hs ij ints (i+1) (s+1) r' with
       |none=>simp[jS]at aG
       |some bB=>
        obtain⟨t2,l2,b9⟩:=bB;simp only[ic,bp,eZ]at ar;simp only[jS,bp,eZ]at aG;obtain⟨rfl,rfl,rfl⟩:=ar;obtain⟨rfl,rfl,rfl⟩:=aG;simp only[qq,bA]at hf;obtain⟨b1,bY,dH⟩:=NP ha h2 hm tK Ha Hu ic jS hf.2 (λj aO=>by
         have:=hv (j+1) (by simpa using aO);rw[show s+1+j=s+(j+1) by omega];simpa using this) (by simp at cB;omega)
        have q8:=hv 0 (by simp);simp only[pv,gP]at q8;have hb:0<=og.den ad/\og.den ad<=tu:=b2.2;have hrel:x= .string (iu (cN (og.den ad))):=hrel;refine⟨⟨⟨U.hQ (by simp at cB;omega),?_⟩,?_,b1⟩,⟨hb.1,hb.2,bY⟩,by simp[dH]⟩
        ·simp only[U.c6,q8];exact hb
        ·simp only[V.rel,W.den,A.den,U.c6,q8];exact hrel
     ·cases aG
    ·cases ar
 |[],_::_,_,i,s,t,t',l,l',b,b',h0,hr,ar,aG,hf,hv,cB=>by
  simp[hs]at ar;obtain⟨rfl,_,_⟩:=ar;have:=(Kd aG).2;cases t' with
  |nil=>simp at this
  |cons _ _=>simp[qq]at hf
 |_::_,[],_,i,s,t,t',l,l',b,b',h0,hr,ar,aG,hf,hv,cB=>by
  simp[hs]at aG;obtain⟨rfl,_,_⟩:=aG;have:=(Kd ar).2;cases t with
  |nil=>simp at this
  |cons y z=>cases y<;>simp[qq]at hf
 |_::_,_::_,[],i,s,t,t',l,l',b,b',h0,hr,ar,aG,hf,hv,cB=>hr.elim
 |[],[],_::_,i,s,t,t',l,l',b,b',h0,hr,ar,aG,hf,hv,cB=>hr.elim
end
def L1 (n nb:Nat) (ρ:Env) (m:Nat->Nat):List A->List a6->Prop
 |[],[]=>True
 |a::r,x::s=>A.ok n nb ρ a/\x=a.den ρ m/\L1 n nb ρ m r s
 |_,_=>False
theorem ahg {n nb:Nat} {ρ:Env} {m:Nat->Nat}:∀{l:List A},(∀a∈l,A.ok n nb ρ a)->L1 n nb ρ m l (l.map (A.den ρ m))
 |[],_=>trivial
 |a::r,h=>⟨h a (by simp),rfl,ahg λx hx=>h x (eS _ hx)⟩
theorem ahh {n nb:Nat} {ρ:Env} {m:Nat->Nat}:∀{l:List A} {xs:List a6},L1 n nb ρ m l xs->(∀a∈l,A.ok n nb ρ a)/\xs=l.map (A.den ρ m)
 |[],[],_=>⟨by simp,rfl⟩
 |a::r,x::s,h=>by
  have ih:=ahh h.2.2;exact⟨λy hy=>by rcases List.mem_cons.1 hy with rfl|hy;exact h.1;exact ih.1 y hy,by rw[h.2.1,ih.2];rfl⟩
 |[],_::_,h=>h.elim
 |_::_,[],h=>h.elim
theorem A.back {n nb:Nat} {cx ad b0:Env} {m0 m':Nat->Nat} {v:A} (h0:v.ok n nb cx) (ha:agree n cx ad) (h2:agree n cx b0) (hm:∀b,b<nb->m' b=m0 b):v.den ad m'=v.den b0 m0:=by
 rw[A.oA h0 ha hm,A.oA (m':=m0) h0 h2 (λ_ _=>rfl)]
section
variable {ints:List (Nat×Int×Int)}
theorem JT:∀{cs:List A} {i s:Nat} {t:List A} {l:List U} {b:List (Int×Int)},ha ints i s cs=some (t,l,b)->l.length=b.length/\t.length=cs.length
 |[],i,s,t,l,b,h=>by simp[ha]at h;obtain⟨rfl,rfl,rfl⟩:=h;exact⟨rfl,rfl⟩
 |v::r,i,s,t,l,b,h=>by
  unfold ha at h;cases hf:E0 i ints with
  |none=>
   simp only[hf]at h;cases hr:ha ints (i+1) s r with
   |none=>simp[hr]at h
   |some q=>
    obtain⟨t',l',b'⟩:=q;simp only[hr,bp,eZ]at h;obtain⟨rfl,rfl,rfl⟩:=h;have:=JT hr;simp[this]
  |some q=>
   obtain⟨lo,hi⟩:=q;simp only[hf]at h;cases hc:ns lo hi s v with
   |none=>simp[hc]at h
   |some p=>
    obtain⟨a,x,ia⟩:=p;simp only[hc]at h;cases hr:ha ints (i+1) (s+1) r with
    |none=>simp[hr]at h
    |some q=>
     obtain⟨t',l',b'⟩:=q;simp only[hr,bp,eZ]at h;obtain⟨rfl,rfl,rfl⟩:=h;have:=JT hr;simp[this]
theorem avx {n nb N:Nat} {cx ad b0:Env} {m0 m':Nat->Nat} {n' n8:Nat} {lo hi:Int} {s:Nat} {v v' a dW:A} {x ht:U} {ia auL:Int×Int} (iU:agree n cx ad) (h2:agree n cx b0) (tK:n<=N)
 (h0:v.ok n nb cx) (aP:v'.ok n' n8 ad) (ar:ns lo hi s v=some (a,x,ia)) (aG:ns lo hi s v'=some (dW,ht,auL)) (hf:a=dW) (hv:b0 s=ht.den ad) (cB:s<N):
 a.ok N nb b0/\a.den b0 m0=v'.den ad m'/\ia.1<=ht.den ad/\ht.den ad<=ia.2:=by
 subst hf;have uS:(U.var s).den b0=ht.den ad:=by rw[U.c6,hv]
 cases v with
 |int k y=>
  simp only[ns]at ar;cases iL:(decide (lo<=y.lo)&&decide (y.hi<=hi))with
  |false=>simp[iL]at ar
  |true=>
   simp only[iL,cond_true,bp,eZ]at ar;obtain⟨rfl,rfl,rfl⟩:=ar;cases v' with
   |int bD og=>
    simp only[ns]at aG;cases hc2:(decide (lo<=og.lo)&&decide (og.hi<=hi))with
    |false=>simp[hc2]at aG
    |true=>
     simp only[hc2,cond_true,bp,eZ,A.int.injEq]at aG;obtain⟨⟨rfl,_⟩,rfl,rfl⟩:=aG;simp only[bA,decide_eq_true_eq]at hc2;have aP:og.ok n' ad:=aP;have hb:=aP.2;refine⟨⟨U.hQ cB,by simp only[uS];omega,by simp only[uS];omega⟩,by simp only[A.den,uS],by simp only;omega,by simp only;omega⟩
   |str _=>simp[ns]at aG
   |rows _ _ _ _ _=>simp[ns]at aG
   |_=>simp[ns]at aG
 |str y=>
  simp only[ns,bp,eZ]at ar;obtain⟨rfl,rfl,rfl⟩:=ar;cases v' with
  |str og=>
   simp only[ns,bp,eZ]at aG;obtain⟨_,rfl,rfl⟩:=aG;have hb:0<=og.den ad/\og.den ad<=tu:=aP.2;exact⟨⟨U.hQ cB,by rw[uS];exact hb⟩,by simp only[A.den,uS],hb.1,hb.2⟩
  |int bD og=>
   simp only[ns]at aG;cases hc2:(decide (lo<=og.lo)&&decide (og.hi<=hi))<;>simp[hc2]at aG
  |rows _ _ _ _ _=>simp[ns]at aG
  |_=>simp[ns]at aG
 |rows sh off code cap k=>
  simp only[ns,bp,eZ]at ar;obtain⟨rfl,rfl,rfl⟩:=ar;cases v' with
  |rows gW k5 code' mN bD=>
   simp only[ns,bp,eZ,A.rows.injEq]at aG;obtain⟨_,rfl,rfl⟩:=aG;obtain⟨⟨s1,s2,bm⟩,_,dh⟩:=h0;obtain⟨_,b9,_⟩:=aP;refine⟨⟨⟨s1.mono tK,U.hQ cB,bm.mono tK⟩,by rw[uS];exact b9,by rw[U.ch h2 bm];exact dh⟩,by simp only[A.den,uS],b9.1,b9.2⟩
  |int bD og=>
   simp only[ns]at aG;cases hc2:(decide (lo<=og.lo)&&decide (og.hi<=hi))<;>simp[hc2]at aG
  |str _=>simp[ns]at aG
  |_=>simp[ns]at aG
 |_=>simp[ns]at ar
theorem aax {n nb N:Nat} {cx ad b0:Env} {m0 m':Nat->Nat} {n' n8:Nat} (iU:agree n cx ad) (h2:agree n cx b0) (hm:∀b,b<nb->m' b=m0 b) (tK:n<=N):
 ∀{cs lM:List A} {xs:List a6} {i s:Nat} {t t':List A} {l l':List U} {b b':List (Int×Int)},
 (∀v∈cs,A.ok n nb cx v)->L1 n' n8 ad m' lM xs->ha ints i s cs=some (t,l,b)->ha ints i s lM=some (t',l',b')->rK t t'=true->
 (∀j,j<l'.length->b0 (s+j)=(l'.getD j (.const 0)).den ad)->s+l'.length<=N->L1 N nb b0 m0 t xs/\ay b (l'.map (·.den ad))/\l'.length=l.length
 |[],[],[],i,s,t,t',l,l',b,b',h0,hr,ar,aG,hf,hv,cB=>by
  simp[ha]at ar aG;obtain⟨rfl,rfl,rfl⟩:=ar;obtain⟨rfl,rfl,rfl⟩:=aG;exact⟨trivial,trivial,rfl⟩
 |v::r,v'::r',x::xs,i,s,t,t',l,l',b,b',h0,hr,ar,aG,hf,hv,cB=>by
  obtain⟨b2,hrel,Hu⟩:=hr;have Ha:∀v∈r,A.ok n nb cx v:=λu hu=>h0 u (eS _ hu);unfold ha at ar aG;cases mw:E0 i ints with
  |none=>
   simp only[mw]at ar aG;cases ic:ha ints (i+1) s r with
   |none=>simp[ic]at ar
   |some a1=>
    obtain⟨t1,l1,bQ⟩:=a1;cases jS:ha ints (i+1) s r' with
    |none=>simp[jS]at aG
    |some bB=>
     obtain⟨t2,l2,b9⟩:=bB;simp only[ic,bp,eZ]at ar;simp only[jS,bp,eZ]at aG;obtain⟨rfl,rfl,rfl⟩:=ar;obtain⟨rfl,rfl,rfl⟩:=aG;simp only[rK,bA]at hf;have aA1:=A.beq_eq hf.1;subst aA1;have q8:=h0 v (by simp);obtain⟨b1,bY,dH⟩:=aax iU h2 hm tK Ha Hu ic jS hf.2 hv cB;exact⟨⟨q8.ext h2 tK (bS _),by rw[hrel,A.back q8 iU h2 hm],b1⟩,bY,dH⟩
  |some q=>
   obtain⟨lo,hi⟩:=q;simp only[mw]at ar aG;cases iL:ns lo hi s v with
   |none=>simp[iL]at ar
   |some b1=>
    obtain⟨bG,ah,d1⟩:=b1;cases hc2:ns lo hi s v' with
    |none=>simp[hc2]at aG
    |some bY=>
     obtain⟨a2,ag,d2⟩:=bY;simp only[iL]at ar;simp only[hc2]at aG;cases ic:ha ints (i+1) (s+1) r with
     |none=>simp[ic]at ar
     |some a1=>
      obtain⟨t1,l1,bQ⟩:=a1;cases jS:ha ints (i+1) (s+1) r' with
      |none=>simp[jS]at aG
      |some bB=>
       obtain⟨t2,l2,b9⟩:=bB;simp only[ic,bp,eZ]at ar;simp only[jS,bp,eZ]at aG;obtain⟨rfl,rfl,rfl⟩:=ar;obtain⟨rfl,rfl,rfl⟩:=aG;simp only[rK,bA]at hf;obtain⟨b1,bY,dH⟩:=aax iU h2 hm tK Ha Hu ic jS hf.2 (λj aO=>by
        have:=hv (j+1) (by simpa using aO);rw[show s+1+j=s+(j+1) by omega];simpa using this) (by simp at cB;omega)
       have q8:=hv 0 (by simp);simp only[pv,gP]at q8;obtain⟨c1,bN,cA,dr⟩:=avx (m0:=m0) (m':=m') iU h2 tK (h0 v (by simp)) b2 iL hc2 (A.beq_eq hf.1) q8 (by simp at cB;omega);exact⟨⟨c1,by rw[hrel,bN],b1⟩,⟨cA,dr,bY⟩,by simp[dH]⟩
 |[],_::_,_,i,s,t,t',l,l',b,b',h0,hr,ar,aG,hf,hv,cB=>by
  simp[ha]at ar;obtain⟨rfl,_,_⟩:=ar;have:=(JT aG).2;cases t' with
  |nil=>simp at this
  |cons _ _=>simp[rK]at hf
 |_::_,[],_,i,s,t,t',l,l',b,b',h0,hr,ar,aG,hf,hv,cB=>by
  simp[ha]at aG;obtain⟨rfl,_,_⟩:=aG;have:=(JT ar).2;cases t with
  |nil=>simp at this
  |cons y z=>simp[rK]at hf
 |_::_,_::_,[],i,s,t,t',l,l',b,b',h0,hr,ar,aG,hf,hv,cB=>hr.elim
 |[],[],_::_,i,s,t,t',l,l',b,b',h0,hr,ar,aG,hf,hv,cB=>hr.elim
end
section
variable {cells:List (Nat×Nat×Int×Int)}
theorem M7:∀{bl:List aH} {i s:Nat} {t:List aH} {l:List U} {b:List (Int×Int)},hb cells i s bl=some (t,l,b)->l.length=b.length/\t.length=bl.length
 |[],i,s,t,l,b,h=>by simp[hb]at h;obtain⟨rfl,rfl,rfl⟩:=h;exact⟨rfl,rfl⟩
 |(cs,ty)::r,i,s,t,l,b,h=>by
  unfold hb at h;cases hc:ha (cellsOf i cells) 0 s cs with
  |none=>simp[hc]at h
  |some q=>
   obtain⟨c,l1,bQ⟩:=q;simp only[hc]at h;cases hr:hb cells (i+1) (s+l1.length) r with
   |none=>simp[hr]at h
   |some q=>
    obtain⟨t',l',b'⟩:=q;simp only[hr,bp,eZ]at h;obtain⟨rfl,rfl,rfl⟩:=h;have h1:=JT hc;have h2:=M7 hr;simp[h1,h2]
theorem akO {l l':List U} {j:Nat} (h:j<l.length) (d:U):(l++l').getD j d=l.getD j d:=by
 simp[I,zx h]
theorem akP {l l':List U} {j:Nat} (d:U):(l++l').getD (l.length+j) d=l'.getD j d:=by
 simp only[I];rw[LM (by omega)];simp
theorem alm {n nb N:Nat} {cx ad b0:Env} {m0 m':Nat->Nat} {n' n8:Nat} (iU:agree n cx ad) (h2:agree n cx b0) (hm:∀b,b<nb->m' b=m0 b) (tK:n<=N):
 ∀{bl bx:List aH} {i s:Nat} {t t':List aH} {l l':List U} {b b':List (Int×Int)},
 dg n nb cx bl->dg n' n8 ad bx->hb cells i s bl=some (t,l,b)->hb cells i s bx=some (t',l',b')->qp t t'=true->
 (∀j,j<l'.length->b0 (s+j)=(l'.getD j (.const 0)).den ad)->s+l'.length<=N->
 dg N nb b0 t/\ay b (l'.map (·.den ad))/\l'.length=l.length/\∀(j:Nat) (c:List A) (ty:bw×Bool),t[j]?=some (c,ty)->∃eW:List A,bx[j]?=some (eW,ty)/\c.map (A.den b0 m0)=eW.map (A.den ad m')
 |[],[],i,s,t,t',l,l',b,b',h0,hr,ar,aG,hf,hv,cB=>by
  simp[hb]at ar aG;obtain⟨rfl,rfl,rfl⟩:=ar;obtain⟨rfl,rfl,rfl⟩:=aG;exact⟨λp hp=>by simp at hp,trivial,rfl,λj c ty h=>by simp at h⟩
 |(cs,ty)::r,(lM,aLL)::r',i,s,t,t',l,l',b,b',h0,hr,ar,aG,hf,hv,cB=>by
  unfold hb at ar aG;cases iL:ha (cellsOf i cells) 0 s cs with
  |none=>simp[iL]at ar
  |some a1=>
   obtain⟨c1,l1,bQ⟩:=a1;cases hc2:ha (cellsOf i cells) 0 s lM with
   |none=>simp[hc2]at aG
   |some bB=>
    obtain⟨bN,l2,b9⟩:=bB;simp only[iL]at ar;simp only[hc2]at aG;cases ic:hb cells (i+1) (s+l1.length) r with
    |none=>simp[ic]at ar
    |some a1=>
     obtain⟨t1,ank,Jm⟩:=a1;cases jS:hb cells (i+1) (s+l2.length) r' with
     |none=>simp[jS]at aG
     |some bB=>
      obtain⟨t2,anl,zK⟩:=bB;simp only[ic,bp,eZ]at ar;simp only[jS,bp,eZ]at aG;obtain⟨rfl,rfl,rfl⟩:=ar;obtain⟨rfl,rfl,rfl⟩:=aG;simp only[qp,bA]at hf;have NR:ty=aLL:=Qk (bV hf.1.1.2) (by simpa using hf.1.2);subst NR;have aan:s+l2.length+anl.length<=N:=by simp at cB;omega
      obtain⟨b1,bY,dH⟩:=aax iU h2 hm tK (λv hv=>h0 (cs,ty) (by simp) v hv) (ahg (m:=m') λv hv=>hr (lM,ty) (by simp) v hv) iL hc2 hf.1.1.1 (λj aO=>by
       have:=hv j (by simp;omega)
       rwa [akO aO]at this) (by omega)
      rw[<-dH]at ic;obtain⟨a1,bB,cp,eC⟩:=alm iU h2 hm tK (λp hp=>h0 p (eS _ hp)) (λp hp=>hr p (eS _ hp)) ic jS hf.2 (λj aO=>by
       have:=hv (l2.length+j) (by simp;omega);rw[akP]at this;rw[<-this];congr 1;omega) aan
      have hp:=ahh b1;refine⟨λp abb a alj=>?_,by rw[jd];exact nA bY bB,by simp[dH,cp],λj c aLM aO=>?_⟩
      ·rcases List.mem_cons.1 abb with rfl|abb
       ·exact hp.1 a alj
       ·exact a1 p abb a alj
      ·cases j with
       |zero=>simp at aO;obtain⟨rfl,rfl⟩:=aO;exact⟨lM,rfl,hp.2.symm⟩
       |succ j=>simp at aO;obtain⟨eW,h1,h2⟩:=eC j c aLM aO;exact⟨eW,by simpa using h1,h2⟩
 |[],_::_,i,s,t,t',l,l',b,b',h0,hr,ar,aG,hf,hv,cB=>by
  simp[hb]at ar;obtain⟨rfl,_,_⟩:=ar;have:=(M7 aG).2;cases t' with
  |nil=>simp at this
  |cons _ _=>simp[qp]at hf
 |_::_,[],i,s,t,t',l,l',b,b',h0,hr,ar,aG,hf,hv,cB=>by
  simp[hb]at aG;obtain⟨rfl,_,_⟩:=aG;have:=(M7 ar).2;cases t with
  |nil=>simp at this
  |cons y z=>simp[qp]at hf
def Lk (p q:List A):Prop:=∃sh off code code' cap k,p=[.rows sh off code cap k]/\q=[.rows sh off code' cap k]
theorem Lk.refl {p:List A} (h:cd p=false):Lk p p:=by
 unfold cd at h;split at h
 ·exact⟨_,_,_,_,_,_,rfl,rfl⟩
 ·cases h
theorem avw {lo hi:Int} {s:Nat} {v a:A} {x:U} {ia:Int×Int} (h:ns lo hi s v=some (a,x,ia)):cd [a]=cd [v]/\(cd [a]=false->Lk [a] [v]):=by
 unfold ns at h;split at h
 ·rename_i k x;cases hc:(decide (lo<=x.lo)&&decide (x.hi<=hi))with
  |false=>simp[hc]at h
  |true=>
   simp only[hc,cond_true,bp,eZ]at h;obtain⟨rfl,_,_⟩:=h;exact⟨rfl,λh=>by cases h⟩
 ·simp only[bp,eZ]at h;obtain⟨rfl,_,_⟩:=h;exact⟨rfl,λh=>by cases h⟩
 ·simp only[bp,eZ]at h;obtain⟨rfl,_,_⟩:=h;exact⟨rfl,λ_=>⟨_,_,_,_,_,_,rfl,rfl⟩⟩
 ·cases h
theorem abJ (a b:A) (l:List A):cd (a::b::l)=true:=by cases a<;>rfl
theorem ay2 {ints:List (Nat×Int×Int)} {i s:Nat} {cs:List A} {l:List U} {b:List (Int×Int)} {t:List A} (h:ha ints i s cs=some (t,l,b)):(cd t=cd cs)/\(cd t=false->Lk t cs):=by
 have hl:=(JT h).2
 match cs,t,hl with
 |[],[],_=>exact⟨rfl,λh=>by cases h⟩
 |a::b::r,dW::b'::r',_=>exact⟨by rw[abJ,abJ],λh=>by rw[abJ]at h;cases h⟩
 |[v],[a],_=>
  unfold ha at h;cases hf:E0 i ints with
  |none=>
   simp[hf,ha]at h;obtain⟨rfl,_,_⟩:=h;exact⟨rfl,λh=>Lk.refl h⟩
  |some q=>
   obtain⟨lo,hi⟩:=q;simp only[hf]at h;cases hc:ns lo hi s v with
   |none=>simp[hc]at h
   |some p=>
    obtain⟨dW,x,ia⟩:=p;simp[hc,ha]at h;obtain⟨rfl,_,_⟩:=h;exact avw hc
theorem aaA:∀{bl:List aH} {i s:Nat} {t:List aH} {l:List U} {b:List (Int×Int)},hb cells i s bl=some (t,l,b)->∀(k:Nat) (p:aH),t[k]?=some p->∃q:aH,bl[k]?=some q/\cd p.1=cd q.1/\p.2=q.2/\(cd p.1=false->Lk p.1 q.1)
 |[],i,s,t,l,b,h=>by simp[hb]at h;obtain⟨rfl,rfl,rfl⟩:=h;intro k p hp;simp at hp
 |(cs,ty)::r,i,s,t,l,b,h=>by
  unfold hb at h;cases iL:ha (cellsOf i cells) 0 s cs with
  |none=>simp[iL]at h
  |some a1=>
   obtain⟨c1,l1,bQ⟩:=a1;simp only[iL]at h;cases ic:hb cells (i+1) (s+l1.length) r with
   |none=>simp[ic]at h
   |some a1=>
    obtain⟨t1,ank,Jm⟩:=a1;simp only[ic,bp,eZ]at h;obtain⟨rfl,rfl,rfl⟩:=h;intro k p hp;cases k with
    |zero=>
     simp only[xZ,bp]at hp;subst hp;have:=ay2 iL;exact⟨(cs,ty),rfl,this.1,rfl,this.2⟩
    |succ k=>obtain⟨q,h1,h2⟩:=aaA ic k p (by simpa using hp);exact⟨q,by simpa using h1,h2⟩
theorem akj:∀{a b:List aH},qp a b=true->∀(k:Nat) (p:aH),a[k]?=some p->b[k]?=some p
 |[],[],_,k,p,h=>by simp at h
 |(c,t)::r,(eW,t')::s,hf,k,p,h=>by
  simp only[qp,bA]at hf;have NR:t=t':=Qk (bV hf.1.1.2) (by simpa using hf.1.2);have hc:=GK hf.1.1.1;subst NR;subst hc;cases k with
  |zero=>simpa using h
  |succ k=>have:=akj hf.2 k p (by simpa using h);simpa using this
 |[],_::_,h,_,_,_=>by simp[qp]at h
 |_::_,[],h,_,_,_=>by simp[qp]at h
end
end Go.bX
namespace Go.bX
variable {P:bU} {rd:Option Nat}
def wz (rd:Option Nat):Fence:={I4 with round:=rd}
def vh (Q:Exit->Act->aC->Prop):Exit->Act->aC->Prop
 | .normal,a,w=>Q .normal a w
 |_,_,_=>False
theorem vh.imp {Q:Exit->Act->aC->Prop}:∀(e:Exit) (a:Act) (w:aC),calm (vh Q) e a w->Q e a w:=λe a w h=>by
 cases e<;>first|exact h|exact(h:False).elim
theorem vh.let {Q:Exit->Act->aC->Prop}:¬LetsOut (vh Q):=λ⟨a,w,h⟩=>h
theorem vh.aCB {Q:Exit->Act->aC->Prop}:¬LetsOut (calm (vh Q)):=λ⟨a,w,h⟩=>h
def AA (o:Oper):Bool:=match o.op with| .defer _=>false|_=>true
def pR:Code->Bool
 | .region _ ops _=>ops.toList.all AA
 | .seq a b=>pR a&&pR b
 | .cond _ a b=>pR a&&pR b
 | .block _ c=>pR c
 | .loop c=>pR c
 |_=>true
theorem aDt {o:Oper} (h:AA o=true):∀c,o.op≠ .defer c:=λc e=>by simp[AA,e]at h
theorem avh {n:Nat} {f:dD} {args:Array a6} {w:aC} {R:Ending->aC->Prop} (h:oq P f args w R):CallsIn (wz rd) n P f args w R:=callsIn_wide.2 h
theorem aJD {n:Nat} {row:String} {args:Array a6} {w:aC} {R:a6->aC->Prop} (h:Rows P row args w R):RowsIn (wz rd) n P row args w R:=
 λc cs _=>let⟨v,w',r,s⟩:=h c cs;⟨v,w',r,stepsIn_wide.2 s⟩
theorem aoM {o:Oper} {a:Act} {w:aC} {K:Act->aC->Prop} {Q:Exit->Act->aC->Prop} (hd:rd=none∨AA o=true) (h:o.wp P a w K Q):o.wpIn (wz rd) 0 P a w K Q:=by
 refine⟨λ_ _=>trivial,?_⟩;have e:o.semAt (wz rd).round a.eval=execOp a.eval o:=by
  rcases hd with h|h
  ·subst h;rfl
  ·exact o.semAt_eq _ _ (aDt h)
 rw[e];unfold qR at h;generalize (execOp a.eval o).run P w=r at*;cases r with
 |ok n w'=>
  cases n<;>simp only[Oper.upon,aPx]at h⊢
  case value u=>exact h
  case skip=>exact h
  case defer d=>exact h
  case enter f args=>exact⟨λhs=>by simp[wz,I4]at hs,avh h⟩
  case row row args=>exact⟨λhs=>by simp[wz,I4]at hs,aJD h⟩
 |halt x w'=>
  cases x<;>simp only[Oper.upon,aPx]at h⊢
  case panic u=>exact h
variable {ops:Array Oper} {Q:Exit->Act->aC->Prop}
theorem afj (ej:¬LetsOut Q):∀{l:List Oper} {a:Act} {w:aC},(rd=none∨l.all AA=true)->wpList P ops Q l a w->wpListIn (wz rd) 0 P ops Q l a w
 |[],_,_,_,h=>h
 |o::r,a,w,hd,h=>by
  have h1:rd=none∨AA o=true:=hd.imp id λh=>by simp only[asw,bA]at h;exact h.1
  have h2:rd=none∨r.all AA=true:=hd.imp id λh=>by simp only[asw,bA]at h;exact h.2
  unfold wpList at h;unfold wpListIn;split
  ·rename_i hw;rw[if_pos hw]at h;rcases h with h|h
   ·exact aPy (λa w h=>afj ej h2 h) (aoM h1 h)
   ·exact absurd h.2 ej
  ·rename_i hw;rw[if_neg hw]at h;exact⟨λ_ _=>trivial,afj ej h2 h⟩
theorem VA {md:Region.Mode} (hd:rd=none∨ops.toList.all AA=true) (ej:¬LetsOut Q):∀{f:Nat} {listed:Array Bool} {a:Act} {w:aC},wpAny P md ops Q f listed a w->wpAnyIn (wz rd) 0 P md ops Q f listed a w
 |0,_,_,_,h=>h
 |f+1,listed,a,w,h=>by
  refine⟨h.1,λi hi=>?_⟩;have h2:=h.2 i hi;unfold wpOp at h2;unfold wpOpIn;cases aw:ops[i]? with
  |none=>simp only[aw]at h2⊢;exact VA hd ej h2
  |some o=>
   simp only[aw]at h2⊢;have h1:rd=none∨AA o=true:=hd.imp id λh=>List.all_eq_true.1 h o (by simpa using Array.mem_of_getElem? aw);split
   ·rename_i hw;rw[if_pos hw]at h2;rcases h2 with h2|h2
    ·exact aPy (λa w h=>VA hd ej h) (aoM h1 h2)
    ·exact absurd h2.2 ej
   ·rename_i hw;rw[if_neg hw]at h2;exact⟨λ_ _=>trivial,VA hd ej h2⟩
theorem aJm {id:Nat} {a:Act} {w:aC} (hd:rd=none∨ops.toList.all AA=true) (h:wpList P ops (vh Q) ops.toList a w):(aPz id ops false).wpIn (wz rd) 0 P Q a w:=
 wpIn_mono (wpIn_region_list (afj vh.let hd h)) λe a w h=>vh.imp e a w (by cases e<;>first|exact h|exact(h:False).elim)
theorem apb {id:Nat} {a:Act} {w:aC} (hm:P.follows .mixedOrders=true) (hd:rd=none∨ops.toList.all AA=true)
 (h:wpAny P .any ops (calm (vh Q)) ops.size (Cu ops.size false) a {w with drawn:=w.drawn+1}):(aPz id ops true).wpIn (wz rd) 0 P Q a w:=
 wpIn_mono (wpIn_region_any hm (VA hd vh.aCB h)) vh.imp
end Go.bX
namespace Go.bX
open M
section
variable {S:Nat->List Int->List Int->Prop} {L:V->Env->Prop} {w0:eV} {P:bU} {gl:fO} {cal:gy} {rd:Option Nat}
def Ja (S:Nat->List Int->List Int->Prop) (L:V->Env->Prop) (w0:eV) (k:x1) (n nb:Nat) (ρ:Env) (m:Nat->Nat) (G:ft) (Q:Exit->Act->aC->Prop):Prop:=
 ∀x n' ad m' cE bx e7 dW w',fj n nb ρ m n' (qP bx) ad m'->gQ n G e7->R w0 n' ad m' cE bx dW w'->(k x n' cE bx).holds S L e7 ad->Q x.to dW w'
theorem Ja.later {k:x1} {n nb bk Fy:Nat} {ρ bg:Env} {m hZ:Nat->Nat} {G G1:ft} {Q:Exit->Act->aC->Prop} (h:Ja S L w0 k n nb ρ m G Q) (hl:fj n nb ρ m bk Fy bg hZ) (aQ:gQ n G G1):Ja S L w0 k bk Fy bg hZ G1 Q:=
 λx n' ad m' cE bx e7 dW w' h1 h2 h3 h4=>h x n' ad m' cE bx e7 dW w' (hl.trans h1) (aQ.trans h2 hl.hn) h3 h4
def Xo (rd:Option Nat) (S:Nat->List Int->List Int->Prop) (L:V->Env->Prop) (w0:eV) (P:bU) (c:Code) (e:Nat->List V->List aH->x1->T):Prop:=(rd=none∨pR c=true)->
 ∀n tm bl k G ρ m a w Q,R w0 n ρ m tm bl a w->(e n tm bl k).holds S L G ρ->Ja S L w0 k n bl.length ρ m G Q->c.wpIn (wz rd) 0 P Q a w
theorem apl {c:Code} {e:Nat->List V->List aH->x1->T} (hd:rd=none∨pR c=true) (he:Xo rd S L w0 P c e) {Q:Exit->Act->aC->Prop}:∀(r:Nat) {n:Nat} {ρ:Env} {m:Nat->Nat} {tm:List V} {bl:List aH} {a:Act} {w:aC} {G:ft} {k:x1},
 R w0 n ρ m tm bl a w->(ad6 e r n tm bl k).holds S L G ρ->Ja S L w0 k n bl.length ρ m G Q->Code.roundsIn (wz rd) 0 P c Q r a w
 |0,_,_,_,_,_,_,_,_,_,_,ae,_=>ae.elim
 |r+1,n,ρ,m,tm,bl,a,w,G,k,h,ae,af=>by
  rw[roundsIn_succ];refine he hd n tm bl _ G ρ m a w _ h ae λx n' ad m' cE bx e7 dW w' h1 h2 h3 h4=>?_;cases x with
  |normal=>exact apl hd he r h3 h4 (af.later h1 h2)
  |exit id=>exact af (.exit id) n' ad m' cE bx e7 dW w' h1 h2 h3 h4
  |ret=>exact af .ret n' ad m' cE bx e7 dW w' h1 h2 h3 h4
theorem atF {n nb:Nat} {ρ:Env} {m:Nat->Nat} {tm:List V} {xs:Array a6} (h:fl n nb ρ m tm xs):Gn n nb ρ m tm xs.toList:=ahj (by simpa using h)
theorem alF {li:gz} {n:Nat} {cx ad:Env} {m0 m':Nat->Nat} {tm cE pj DT:List V} {bl bx gB sH:List aH} {l1 l2 v1 v2 ext:List U} {bQ b9 Jm zK:List (Int×Int)} {n':Nat} {a:Act} {w:aC}
 (hlen:bl.length<=bx.length)
 (ha:agree n cx ad) (hm:∀b,b<bl.length->m' b=m0 b) (aA:∀v∈tm,V.ok n bl.length cx v) (qt:dg n bl.length cx bl)
 (h:R w0 n' ad m' cE bx a w) (ar:hs li.ij li.ints 0 (n+1) tm=some (pj,l1,bQ)) (aG:hb li.cells 0 (n+1+l1.length) bl=some (gB,l2,b9))
 (cm:hs li.ij li.ints 0 (n+1) cE=some (DT,v1,Jm)) (iS:hb li.cells 0 (n+1+v1.length) (bx.take bl.length)=some (sH,v2,zK))
 (f1:qq pj DT=true) (f2:qp gB sH=true):
 v1.length+v2.length=l1.length+l2.length/\ay (bQ++b9) ((v1++v2).map (·.den ad))/\R w0 (n+1+l1.length+l2.length+ext.length) (bO cx (n+1) ((v1++v2++ext).map (·.den ad))) m0 pj gB a w/\gB.length=bl.length/\∀(i:Nat) (p:aH),gB[i]?=some p->i<bl.length/\∃dO:aH,bx[i]?=some dO/\bP (bO cx (n+1) ((v1++v2++ext).map (·.den ad))) p.1=bP ad dO.1:=by
 have aay:agree n cx (bO cx (n+1) ((v1++v2++ext).map (·.den ad))):=(agree.bO _ (n+1) cx).mono (by omega);have J3:∀j,j<(v1++v2).length->bO cx (n+1) ((v1++v2++ext).map (·.den ad)) (n+1+j)=((v1++v2).getD j (.const 0)).den ad:=λj aO=>by
  rw[Ln _ _ _ j (by simp at aO⊢;omega)];have yq:j<(v1++v2++ext).length:=by simp at aO⊢;omega
  have e:(v1++v2++ext)[j]=(v1++v2)[j]:=List.getElem_append_left aO;simp only[I,rC,nI aO,nI yq,AY,D9,e]
 have aRg:v1.length+v2.length=(v1++v2).length:=by simp
 obtain⟨b1,bY,dH⟩:=NP (N:=n+1+v1.length+v2.length+ext.length) ha aay hm (by omega) aA (atF h.t) ar cm f1 (λj aO=>by
  rw[J3 j (by simp;omega),akO aO]) (by omega)
 rw[<-dH]at aG;have aza:dg n' bx.length ad (bx.take bl.length):=λp hp=>h.b p (nJ hp);obtain⟨a1,bB,cp,eC⟩:=alm (N:=n+1+v1.length+v2.length+ext.length) ha aay hm (by omega) qt aza aG iS f2 (λj aO=>by
  rw[show n+1+v1.length+j=n+1+(v1.length+j) by omega,J3 (v1.length+j) (by simp;omega),akP]) (by omega)
 have ba:gB.length=bl.length:=(M7 aG).2;refine⟨by omega,by rw[jd];exact nA bY bB,?_⟩;rw[<-dH,<-cp];have Bz:∀(i:Nat) (p:aH),gB[i]?=some p->i<bl.length/\∃dO:aH,bx[i]?=some dO/\cd p.1=cd dO.1/\p.2=dO.2/\(cd p.1=false->∃sh off code code' cap k,p.1=[.rows sh off code cap k]/\dO.1=[.rows sh off code' cap k]/\off.bM n/\cap.bM n):=λi p hi=>by
  have lN:i<bl.length:=by rw[<-ba];exact(List.getElem?_eq_some_iff.1 hi).1
  obtain⟨dO,h1,h2,Hb,h3⟩:=aaA iS i p (akj f2 i p hi);rw[vm,if_pos lN]at h1;obtain⟨p0,g1,_,_,g3⟩:=aaA aG i p hi;refine⟨lN,dO,h1,h2,Hb,λaw=>?_⟩;obtain⟨sh,off,code,code',cap,k,s1,s2⟩:=h3 aw;obtain⟨gW,k5,c1,bN,mN,bD,bm,cr⟩:=g3 aw;rw[s1]at bm;cases bm;have b2:A.ok n bl.length cx (.rows sh off bN cap k):=qt _ (fZ g1) _ (by rw[cr];simp);exact⟨sh,off,code,code',cap,k,s1,s2,b2.1.1,b2.1.2.2⟩
 have aaz:agree n ad (bO cx (n+1) ((v1++v2++ext).map (·.den ad))):=ha.sym.trans aay (bS _);have rY:∀(p dO:aH),cd p.1=cd dO.1->(cd p.1=false->∃sh off code code' cap k,p.1=[.rows sh off code cap k]/\dO.1=[.rows sh off code' cap k]/\off.bM n/\cap.bM n)->bP (bO cx (n+1) ((v1++v2++ext).map (·.den ad))) p.1=bP ad dO.1:=λp dO h1 h2=>by
  cases aw:cd p.1 with
  |true=>rw[n6 aw,n6 (h1▸aw)]
  |false=>
   obtain⟨sh,off,code,code',cap,k,s1,s2,bm,cr⟩:=h2 aw;rw[s1,s2];simp only[bP];rw[U.ch aaz cr]
 refine⟨?_,ba,λi p hi=>by
  obtain⟨g1,dO,g2,g3,_,g4⟩:=Bz i p hi;exact⟨g1,dO,g2,rY p dO g3 g4⟩⟩
 refine⟨?_,h.d,by rw[ba];exact a1,⟨h.bL.ext,h.bL.km,h.bL.mU,h.bL.l8,h.bL.iW,h.bL.j1,λi cs t hi aw=>?_,λi sh off code cap kind t hi=>?_,λi j p q hi aO he=>?_⟩⟩
 ·rw[ba];have:=QX b1;simpa using this
 ·obtain⟨eW,h1,h2⟩:=eC i cs t hi;obtain⟨lN,dO,k1,k2,_⟩:=Bz i _ hi;rw[vm,if_pos lN,k1]at h1;have h1:=iH h1;subst h1;obtain⟨g1,pJ,r,hr,g2⟩:=h.bL.hI i eW t k1 (k2▸aw);rw[<-hm i lN];exact⟨g1,pJ,r,hr,by rw[h2];exact g2⟩
 ·obtain⟨lN,dO,k1,_,k2,k3⟩:=Bz i _ hi;obtain⟨gW,k5,c1,bN,mN,bD,s1,s2,bm,cr⟩:=k3 rfl;cases s1;obtain⟨C,t'⟩:=dO;simp only at s2 k2;subst s2;subst k2;obtain⟨eW,h1,h2⟩:=eC i _ t hi;rw[vm,if_pos lN,k1]at h1;cases h1;simp only[dk,gZ,A.den,mh,aTf,and_true,true_and]at h2;rw[<-hm i lN];have hR:=h.bL.rws i sh off bN cap kind t k1;unfold wA at hR⊢;rw[U.ch aaz bm,U.ch aaz cr,h2];exact hR
 ·obtain⟨lN,dO,k1,k2,_,k3⟩:=Bz i p hi;obtain⟨Hp,fM,l1,l2,_,oG⟩:=Bz j q aO;rw[rY p dO k2 k3,rY q fM l2 oG];rw[<-hm i lN,<-hm j Hp]at he;exact h.bL.inj i j dO fM k1 l1 he
theorem fl.set {n nb:Nat} {ρ:Env} {m:Nat->Nat} {tm:List V} {xs:Array a6} {s:Nat} {v:V} (h:fl n nb ρ m tm xs) (hv:v.ok n nb ρ) (hr:∀x,xs[s]?=some x->v.rel ρ m x):fl n nb ρ m (xI tm s v) xs:=by
 rw[aeA];refine⟨by simp[h.1],λi u hu=>?_⟩;rw[wv]at hu;split at hu
 ·rename_i aAB;subst aAB;split at hu
  ·rename_i hlt;cases hu;rw[h.1]at hlt;exact⟨hv,_,Qp hlt,hr _ (Qp hlt)⟩
  ·cases hu
 ·exact h.2 i u hu
def I9 (tmps:Array a6):List Nat->List Int->Prop
 |[],[]=>True
 |s::r,z::zs=>(0<=z/\z<=1)/\(∀x,tmps[s]?=some x->x= .bool (decide (z=1)))/\I9 tmps r zs
 |_,_=>False
def Gk (w0:eV) (w:aC) (tmps:Array a6) (F:Nat->Prop):List (Nat×List aV×bw)->List Int->Prop
 |[],[]=>True
 |(s,sh,e)::r,code::len::cap::zs=>∃g:Nat,(∀x,tmps[s]?=some x->x=if cap<0 then .slice none 0 0 else .slice (some ⟨g,0,none⟩) len.toNat cap.toNat)/\Ix 0 0 len cap/\(0<=code/\code<=dN)/\(cap<0->aj code=[])/\
    (0<=cap->∃cells:Array a6,w.heap[g]?=some (.cells cells e (0,0))/\pA cells 0 sh (aj code)/\cells.size=cap.toNat*sh.length/\w0.b.heap.size<=g/\(w0.ex g∨w0.r.heap.size<=g))/\
    (0<=cap->F g)/\Gk w0 w tmps (λl6=>F l6/\(0<=cap->l6≠g)) r zs
 |_,_=>False
theorem YQ {nb:Nat} {tm:List V} {m:Nat->Nat} {tmps:Array a6}:∀{l:List Nat} {n:Nat} {ρ:Env},fl n nb ρ m tm tmps->aB S L (Mi tm l) n ρ λad n' ls=>(∀x∈ls,U.bM n' x)/\ls.length=l.length/\I9 tmps l (ls.map (·.den ad))
 |[],n,ρ,aA=>aB.pure ⟨λ_ h=>by simp at h,rfl,trivial⟩
 |s::r,n,ρ,aA=>by
  unfold Mi;split
  ·rename_i e hs;obtain⟨h1,x,h2,h3⟩:=aA.2 s _ hs;have h3:x= .bool (e.den ρ):=h3;have key:aB S L (match e with| .lit v=>pure (U.const (cond v 1 0))|e=>HD e) n ρ λad n' l=>l.bM n'/\(0<=l.den ad/\l.den ad<=1)/\e.den ρ=decide (l.den ad=1):=by
    cases e with
    |lit v=>cases v<;>exact aB.pure ⟨U.dK _ _,by simp only[U.bz];decide,by simp only[U.bz,bH.den];rfl⟩
    |_=>exact SL
   refine key.bind λbg bk l hn ha ⟨g1,g2,g3⟩=>(YQ (l:=r) (aA.ext ha hn (bS _) (λ_ _=>rfl))).bind λb0 gF ls gU eJ ⟨k1,k2,k3⟩=>aB.pure ⟨λy hy=>?_,by simp[k2],?_⟩
   ·rcases List.mem_cons.1 hy with rfl|hy
    ·exact g1.mono gU
    ·exact k1 y hy
   ·have ar:=U.ch eJ g1;simp only[dk,I9,ar];refine⟨g2,λy hy=>?_,k3⟩;rw[h2]at hy;cases hy;rw[h3,g3]
  ·exact aB.fail
theorem ML {nb:Nat} {m:Nat->Nat} {tmps:Array a6}:∀{l:List (Nat×Int×Int)} {tm:List V} {n:Nat} {ρ:Env},fl n nb ρ m tm tmps->aB S L (G6 l tm) n ρ λad n' cE=>fl n' nb ad m cE tmps
 |[],tm,n,ρ,aA=>aB.pure aA
 |(s,lo,hi)::r,tm,n,ρ,aA=>by
  unfold G6;split
  ·rename_i k x hs;cases hc:(decide (lo<=x.lo)&&decide (x.hi<=hi))with
   |true=>simp only[cond_true];exact ML aA
   |false=>
    simp only[cond_false];refine ln λaf=>?_;simp only[dk,gZ,az,U.bz]at af;obtain⟨h1,y,h2,h3⟩:=aA.2 s _ hs;have h1:x.ok n ρ:=h1;exact ML (aA.set (v:= .w (.one (.int k ⟨x.l,lo,hi⟩))) ⟨h1.1,af.1,af.2⟩ λz hz=>by
     rw[h2]at hz;cases hz;exact h3)
  ·exact ML aA
theorem QY {n lo:Nat} {ρ:Env} {m:Nat->Nat} {tm:List V} {bl:List aH} {a:Act} {w:aC} (h:R w0 n ρ m tm bl a w):∀{l:List (Nat×List aV×bw)} {used:List Nat} {ls:List U} {u:List Nat},Bc lo l tm bl used=some (ls,u)->
 (∀x∈ls,U.bM n x)/\ls.length=(GA l).length/\(∀b∈used,b∈u)/\(∀b∈u,b∈used∨lo<=b)/\∀F:Nat->Prop,(∀(b:Nat) (p:aH),b∈u->b∉used->bl[b]?=some p->bP ρ p.1=2->cd p.1=false->F (m b))->Gk w0 w a.tmps F l (ls.map (·.den ρ))
 |[],used,ls,u,he=>by
  simp only[Bc,bp,eZ]at he;obtain⟨rfl,rfl⟩:=he;exact⟨λ_ h=>by simp at h,rfl,λ_ h=>h,λ_ h=> .inl h,λ_ _=>trivial⟩
 |(s,sh,e)::r,used,ls,u,he=>by
  unfold Bc at he;split at he
  ·rename_i hs;split at he
   ·rename_i l1 mD hr;simp only[bp,eZ]at he;obtain⟨rfl,rfl⟩:=he;obtain⟨g1,g2,g3,g4,g5⟩:=QY h hr;refine⟨λx hx=>?_,by simp[GA]at g2⊢;omega,g3,g4,λF hF=>⟨0,λx hx=>?_,?_,?_,?_,?_,?_,?_⟩⟩
    ·simp only[pt]at hx;rcases hx with rfl|rfl|rfl|hx
     ·exact U.dK _ _
     ·exact U.dK _ _
     ·exact U.dK _ _
     ·exact g1 x hx
    ·obtain⟨_,y,h2,h3⟩:=h.t.2 s _ hs;rw[h2]at hx;cases hx;have rV:(U.const (-1)).den ρ<0:=by rw[U.bz];decide
     simp only[rV,if_true];exact h3
    ·simp only[U.bz];exact⟨⟨by omega,by omega,by omega,by omega⟩,⟨by omega,by omega⟩,λ_=>rfl,λh=>by omega⟩
    ·simp only[U.bz];exact⟨cF _,Ct (k7 []) (x3 (l:=[]) (by simp) (by simp))⟩
    ·intro _;simp only[U.bz];exact m2
    ·simp only[U.bz];intro h;omega
    ·simp only[U.bz];intro h;omega
    ·refine g5 _ λb p hb hu ba af aw=>⟨hF b p hb hu ba af aw,?_⟩;simp only[U.bz];intro h;omega
   ·cases he
  ·rename_i b bE o ro len cap hs;split at he
   ·rename_i gW off code gD kind t ba;cases hc:(tk sh gW&&aR kind 2&&U.beq o (.const 0)&&U.beq off (.const 0)&&U.beq ro (.const 0)&&U.beq cap gD&&aR t.1 e&&aR bE sh.length&&cJ lo b&& !(used.any (aR b)))with
    |false=>rw[hc]at he;cases he
    |true=>
     rw[hc]at he;simp only[cond_true]at he;split at he
     ·rename_i l1 mD hr;simp only[bp,eZ]at he;obtain⟨rfl,rfl⟩:=he;simp only[bA]at hc;obtain⟨⟨⟨⟨⟨⟨⟨⟨⟨c1,bN⟩,cA⟩,dr⟩,fY⟩,hK⟩,nr⟩,mq⟩,kk⟩,qf⟩:=hc;have c1:=DP c1;have bN:=bV bN;have cA:=U.beq_eq cA;have dr:=U.beq_eq dr;have fY:=U.beq_eq fY;have hK:=U.beq_eq hK
      have nr:=bV nr;have mq:=bV mq;have kk:=gY kk
      have az6:b∉used:=λhb=>by
       have:used.any (aR b)=true:=List.any_eq_true.2 ⟨b,hb,IX b⟩;rw[this]at qf;cases qf
      subst c1;subst bN;subst cA;subst dr;subst fY;subst hK;subst nr;subst mq;obtain⟨g1,g2,g3,g4,g5⟩:=QY h hr;obtain⟨b2,y,h2,h3⟩:=h.t.2 s _ hs;have b2:(A.sl b sh.length (.const 0) (.const 0) len cap).ok n bl.length ρ:=b2;obtain⟨ah,⟨ag,ao,dB,kb⟩,kq⟩:=b2;simp only[U.bz]at kq;have iT:(A.rows sh (.const 0) code cap 2).ok n bl.length ρ:=h.b _ (fZ ba) _ (by simp);obtain⟨⟨r1,r2,ig⟩,aZ,aE⟩:=iT;have pN:=h.bL.rws b sh (.const 0) code cap 2 t ba (by decide);refine⟨λx hx=>?_,by simp[GA]at g2⊢;omega,λb' nW=>g3 b' (eS _ nW),λb' nW=>?_,λF hF=>⟨m b,λx hx=>?_,kq,aZ,pN.1,λh0=>?_,λh0=>?_,?_⟩⟩
      ·simp only[pt]at hx;rcases hx with rfl|rfl|rfl|hx
       ·exact r2
       ·exact dB
       ·exact kb
       ·exact g1 x hx
      ·rcases g4 b' nW with h5|h5
       ·rcases List.mem_cons.1 h5 with rfl|h5
        ·exact .inr kk
        ·exact .inl h5
       ·exact .inr h5
      ·have abt:y=x:=iH (h2.symm.trans hx);subst abt;have h3:y=(A.sl b sh.length (.const 0) (.const 0) len cap).den ρ m:=h3;rw[h3];simp only[A.den,U.bz];split<;>simp
      ·obtain⟨_,cells,mg,fz,k1,⟨k2,k3⟩,k4⟩:=pN.2 h0;obtain⟨s6,tS,Ap,S5,aBZ,aB0⟩:=k4 (by decide);subst s6;have Ap:=Ap.two;subst Ap;rw[U.bz]at k3;exact⟨cells,k1,k3,S5,aBZ,aB0⟩
      ·exact hF b _ (g3 b (by simp)) az6 ba (vO (by decide) h0) rfl
      ·refine g5 _ λb' p nW hu alq af aw=>⟨hF b' p nW (λh=>hu (eS _ h)) alq af aw,λh0=>?_⟩;have pL:bP ρ [A.rows sh (.const 0) code cap 2]=2:=vO (by decide) h0;exact h.bL.ne alq ba (by rw[af];exact bS 2) (by simp only[pL];decide) λe=>hu (by simp[e])
     ·cases he
   ·cases he
  ·cases he
theorem T9 {c:List A} (h:cd c=false):∃sh off code cap k,c=[.rows sh off code cap k]:=by
 unfold cd at h;split at h
 ·exact⟨_,_,_,_,_,rfl⟩
 ·cases h
theorem ach {n:Nat} {ρ:Env} {m:Nat->Nat} {tm:List V} {a:Act} {w:aC}:∀{us:List Nat} {bl:List aH},R w0 n ρ m tm bl a w->R w0 n ρ m tm (qB us bl) a w/\(qB us bl).length=bl.length/\∀(i:Nat) (p:aH),(qB us bl)[i]?=some p->(bl[i]?=some p/\(i∈us->cd p.1=true∨bP ρ p.1=0))∨bP ρ p.1=0
 |[],bl,h=>⟨h,rfl,λi p hp=> .inl ⟨hp,λh=>by simp at h⟩⟩
 |b::r,bl,h=>by
  unfold qB;split
  ·rename_i sh off code cap k t ba;obtain⟨g1,g2,g3⟩:=ach (us:=r) (h.kill ba);refine⟨g1,by rw[g2,mA],λi p hp=>?_⟩;rcases g3 i p hp with⟨g4,g5⟩|g4
   ·by_cases lN:i=b
    ·subst lN;rw[m3,asc (List.getElem?_eq_some_iff.1 ba).1]at g4;cases g4;exact .inr (by simp[bP])
    ·rw[m3,afX (λe=>lN e.symm)]at g4;exact .inl ⟨g4,λhi=>g5 (by simpa [lN]using hi)⟩
   ·exact .inr g4
  ·rename_i mS;obtain⟨g1,g2,g3⟩:=ach (us:=r) h;refine⟨g1,g2,λi p hp=>?_⟩;rcases g3 i p hp with⟨g4,g5⟩|g4
   ·refine .inl ⟨g4,λhi=>?_⟩;rcases List.mem_cons.1 hi with rfl|hi
    ·cases aw:cd p.1 with
     |true=>exact .inl rfl
     |false=>
      exfalso;obtain⟨c,t⟩:=p;obtain⟨sh,off,code,cap,k,rfl⟩:=T9 aw;exact mS _ _ _ _ _ _ g4
    ·exact g5 hi
   ·exact .inr g4
theorem alD {N:Nat} {b0:Env} {m:Nat->Nat} {bl:List aH} {a:Act} {w:aC}:∀{l:List Nat} {zs:List Int} {v:Nat} {tm:List V},R w0 N b0 m tm bl a w->I9 a.tmps l zs->(∀j,j<zs.length->b0 (v+j)=zs.getD j 0)->v+zs.length<=N->R w0 N b0 m (Ac l v tm) bl a w
 |[],[],v,tm,h,_,_,_=>h
 |s::r,z::zs,v,tm,h,hb,hv,cB=>by
  unfold Ac;have h0:=hv 0 (by simp);simp only[pv,gP]at h0;simp only[kJ]at cB;refine alD (l:=r) (zs:=zs) ⟨fl.set h.t ?_ λx hx=>?_,h.d,h.b,h.bL⟩ hb.2.2 (λj aO=>by
   have:=hv (j+1) (by simpa using aO);rw[show v+1+j=v+(j+1) by omega];simpa using this) (by omega)
  ·exact⟨U.hQ (by omega),U.dK _ _⟩
  ·rw[hb.2.1 x hx];simp[V.rel,W.den,A.den,bH.den,U.c6,U.bz,h0]
 |[],_::_,_,_,_,h,_,_=>h.elim
 |_::_,[],_,_,_,h,_,_=>h.elim
theorem alC {N:Nat} {b0:Env} {a:Act} {w:aC}:∀{l:List (Nat×List aV×bw)} {zs:List Int} {v:Nat} {tm:List V} {bl:List aH} {m:Nat->Nat} {F:Nat->Prop},R w0 N b0 m tm bl a w->Gk w0 w a.tmps F l zs->(∀g,F g->∀(i:Nat) (p:aH),bl[i]?=some p->m i=g->bP b0 p.1=0)->
 (∀j,j<zs.length->b0 (v+j)=zs.getD j 0)->v+zs.length<=N->∃e5,(∀b,b<bl.length->e5 b=m b)/\bl.length<=(xa l v tm bl).2.length/\R w0 N b0 e5 (xa l v tm bl).1 (xa l v tm bl).2 a w
 |[],[],v,tm,bl,m,F,h,_,_,_,_=>⟨m,λ_ _=>rfl,bS _,h⟩
 |(s,sh,e)::r,code::len::cap::zs,v,tm,bl,m,F,h,hf,hF,hv,cB=>by
  obtain⟨g,f1,f2,f3,f4,f5,f6,f7⟩:=hf;have v0:=hv 0 (by simp);have v1:=hv 1 (by simp);have v2:=hv 2 (by simp);simp only[gP,h9,pv]at v0 v1 v2;simp only[kJ]at cB;have hc:(-1:Int)<=cap/\cap<=9223372036854775807:=⟨f2.2.1.1,by have:=f2.2.1.2;omega⟩;have aQ:(A.rows sh (.const 0) (.var v) (.var (v+2)) 2).ok N bl.length b0:=⟨⟨U.dK _ _,U.hQ (by omega),U.hQ (by omega)⟩,by rw[U.c6,v0];exact f3,by rw[U.c6,v2];exact hc⟩;have nU:=h.bL.push (x:=([.rows sh (.const 0) (.var v) (.var (v+2)) 2],(e,false))) (g:=g) h.b (λy hy=>by simp at hy;subst hy;exact aQ) (λaw=>by cases aw) (λgW k5 code' mN ta he=>by
   cases he;intro _;simp only[U.c6,v0,v2,U.bz];refine⟨f4,λh0=>?_⟩;obtain⟨cells,k1,k2,k3,k4,tS⟩:=f5 h0;exact⟨tS.elim .inl λh=> .inr (.inr h),cells,e,(0,0),k1,⟨cF _,k2⟩,λ_=>⟨rfl,by trivial,.OL,k3,k4,tS⟩⟩) (λi p hi he=>by
   rcases m5 cap 0 with h0|h0
   ·refine .inr (.inr ?_);simp only[bP,U.c6,v2];rw[if_pos h0]
   ·exact .inr (.inl (hF g (f6 h0) i p hi he)))
  have ej:=fj.alloc N b0 m bl ([A.rows sh (.const 0) (.var v) (.var (v+2)) 2],(e,false)) g;have hR:R w0 N b0 (od m bl.length g) (xI tm s (.w (.one (.sl bl.length sh.length (.const 0) (.const 0) (.var (v+1)) (.var (v+2)))))) (bl++[([.rows sh (.const 0) (.var v) (.var (v+2)) 2],(e,false))]) a w:=by
   refine⟨fl.set (h.t.ext ej.ha ej.hn ej.hb ej.hm) ?_ λx hx=>?_,h.d,h.b.alloc (λy hy=>by simp at hy;subst hy;exact aQ),nU⟩
   ·refine⟨by simp,⟨U.dK _ _,U.dK _ _,U.hQ (by omega),U.hQ (by omega)⟩,?_⟩;simp only[U.bz,U.c6,v1,v2];exact f2
   ·rw[f1 x hx];simp only[V.rel,W.den,A.den,U.bz,U.c6,v1,v2,pY];split<;>simp
  obtain⟨e5,a1,bB,cp⟩:=alC (l:=r) (zs:=zs) (v:=v+3) hR f7 (λl6 BB i p hi he=>by
   rw[Qq]at hi;split at hi
   ·rename_i j3;rw[pk j3]at he;exact hF l6 BB.1 i p hi he
   ·have j3:=(List.getElem?_eq_some_iff.1 hi).1;have:i=bl.length:=by simp at j3;omega
    subst this;simp only[Nat.sub_self,xZ,bp]at hi;subst hi;rw[pY]at he;rcases m5 cap 0 with h0|h0
    ·simp only[bP,U.c6,v2];rw[if_pos h0]
    ·exact absurd he.symm (BB.2 h0)) (λj aO=>by
   have:=hv (j+3) (by simp only[kJ];omega);rw[show v+3+j=v+(j+3) by omega];simpa using this) (by omega)
  simp only[gx,kJ,rD]at a1 bB;exact⟨e5,λb hb=>by rw[a1 b (by omega)];exact pk hb,by unfold xa;omega,by unfold xa;exact cp⟩
 |[],_::_,_,_,_,_,_,_,h,_,_,_=>h.elim
 |_::_,[],_,_,_,_,_,_,h,_,_,_=>h.elim
 |_::_,[_],_,_,_,_,_,_,h,_,_,_=>h.elim
 |_::_,[_,_],_,_,_,_,_,_,h,_,_,_=>h.elim
theorem amD {tmps:Array a6}:∀{l:List Nat} {zs:List Int},I9 tmps l zs->ay (Rd l) zs
 |[],[],_=>trivial
 |s::r,z::zs,h=>⟨h.1.1,h.1.2,amD h.2.2⟩
 |[],_::_,h=>h.elim
 |_::_,[],h=>h.elim
theorem amC {w:aC} {tmps:Array a6}:∀{l:List (Nat×List aV×bw)} {zs:List Int} {F:Nat->Prop},Gk w0 w tmps F l zs->ay (GA l) zs
 |[],[],_,_=>trivial
 |(s,sh,e)::r,code::len::cap::zs,F,⟨g,f1,f2,f3,f4,f5,f6,f7⟩=>⟨f3.1,f3.2,f2.1.2.2.1,f2.1.2.2.2,f2.2.1.1,by have:=f2.2.1.2;omega,amC f7⟩
 |[],_::_,_,h=>h.elim
 |_::_,[],_,h=>h.elim
 |_::_,[_],_,h=>h.elim
 |_::_,[_,_],_,h=>h.elim
theorem Mem.PT {n:Nat} {ρ:Env} {m:Nat->Nat} {bl:List aH} {w:aC} {b c:Nat} {C:List A} {sh:List aV} {code:U} {t:bw×Bool} (h:Mem w0 ρ m bl w) (ba:bl[b]?=some (C,t)) (aw:cd C=true) (aA:t.2=false)
 (mT:∀row∈aj (code.den ρ),cP sh row) (mR:cc sh (aj (code.den ρ))=C.map (A.den ρ m)) (hlen:C.length=c*sh.length):Mem w0 ρ m (eD bl b ([.rows sh (.const 0) code (.const c) 2],t)) w:=by
 have uM:b<bl.length:=(List.getElem?_eq_some_iff.1 ba).1;obtain⟨a1,bB,r,hr,cp⟩:=h.hI b C t ba aw;have hr:=hr aA;subst hr;rw[iq]at cp;have eO:∀(i:Nat) (p:aH),(eD bl b ([.rows sh (.const 0) code (.const c) 2],t))[i]?=some p->(i=b/\p=([.rows sh (.const 0) code (.const c) 2],t))∨(i≠b/\bl[i]?=some p):=λi p hi=>by
  rw[m3,wv]at hi;split at hi
  ·rename_i iV;subst iV;simp only[uM,if_true,bp]at hi;exact .inl ⟨rfl,hi.symm⟩
  ·rename_i iV;exact .inr ⟨λe=>iV e.symm,hi⟩
 have rY:bP ρ [.rows sh (.const 0) code (.const c) 2]=2:=vO (by decide) (by rw[U.bz];omega);refine⟨h.ext,h.km,h.mU,h.l8,h.iW,h.j1,λi lM t' hi kE=>?_,λi gW k5 code' mN ta t' hi=>?_,λi j p q hi aO he=>?_⟩
 ·rcases eO i _ hi with⟨rfl,eN⟩|⟨dz,hi⟩
  ·cases eN;cases kE
  ·exact h.hI i lM t' hi kE
 ·rcases eO i _ hi with⟨rfl,eN⟩|⟨dz,hi⟩
  ·cases eN;intro _;simp only[U.bz];refine⟨λh0=>by omega,λ_=>⟨bB.elim .inl λh=> .inr (.inr h),_,_,_,cp,⟨cF _,mT,[],[],by simp[mR],rfl⟩,λ_=>⟨rfl,by trivial,.OL,by simp[hlen],a1,bB⟩⟩⟩
  ·exact h.rws i gW k5 _ mN ta t' hi
 ·have af:∀(i:Nat) (p:aH),(eD bl b ([.rows sh (.const 0) code (.const c) 2],t))[i]?=some p->∃dO,bl[i]?=some dO/\bP ρ dO.1=bP ρ p.1:=λi p hi=>by
   rcases eO i _ hi with⟨rfl,eN⟩|⟨dz,hi⟩
   ·exact⟨_,ba,by rw[eN];simp only[rY,n6 aw]⟩
   ·exact⟨p,hi,rfl⟩
  obtain⟨dO,hp,ep⟩:=af i p hi;obtain⟨fM,ai,eq⟩:=af j q aO;rw[<-ep,<-eq];exact h.inj i j dO fM hp ai he
theorem aeb {m:Nat->Nat} {tm:List V} {a:Act} {w:aC}:∀{l:List (Nat×List aV×Nat)} {bl:List aH} {n:Nat} {ρ:Env},R w0 n ρ m tm bl a w->aB S L (PU l bl) n ρ λad n' bx=>R w0 n' ad m tm bx a w/\bx.length=bl.length
 |[],bl,n,ρ,h=>aB.pure ⟨h,rfl⟩
 |(b,sh,c)::r,bl,n,ρ,h=>by
  unfold PU;split
  ·rename_i C t ba;cases aw:cd C with
   |false=>simp only[cond_false];exact aeb h
   |true=>
    simp only[cond_true];refine eX λhc=>?_;simp only[bA]at hc;obtain⟨⟨⟨c1,bN⟩,cA⟩,dr⟩:=hc;have c1:t.2=false:=by simpa using c1
    have bN:=bV bN;have dr:=gY dr;have b2:∀x∈C,A.ok n bl.length ρ x:=h.b _ (fZ ba);have o2:=Mq (w:=sh.length) (k:=c) bN;have cw:aj ((U.const 0).den ρ)=[]:=by rw[U.bz];exact m2
    have hz:(0:Int)<=dN:=Ct (k7 []) (x3 (l:=[]) (by simp) (by simp));refine(Md (nb:=bl.length) (m:=m) cA (rs:=rR sh.length c C) (c:= .const 0) (λrow hr x hx=>b2 x (Mr row hr x hx)) (U.dK _ _) (by rw[U.bz];exact⟨cF _,hz⟩) (by rw[cw];intro _ h;simp at h) (by rw[cw,o2.1];simp;omega)).bind λbg bk code iM hD ⟨b1,bY,eQ,dH,h8,il,ix⟩=>?_;rw[cw,eM]at dH;have h1:=h.later iM hD;have aa2:C.map (A.den bg m)=C.map (A.den ρ m):=yG b2 hD (λ_ _=>rfl);have nU:=h1.bL.PT (n:=bk) (c:=c) (sh:=sh) (code:=code) ba aw c1 (by rw[dH];exact il) (by rw[dH,ix,o2.2,aa2]) bN;have qu:dg bk (eD bl b ([.rows sh (.const 0) code (.const c) 2],t)).length bg (eD bl b ([.rows sh (.const 0) code (.const c) 2],t)):=h1.b.set (λy hy=>by
     have hy:y= .rows sh (.const 0) code (.const c) 2:=by simpa using hy
     subst hy;exact⟨⟨U.dK _ _,b1,U.dK _ _⟩,bY,by rw[U.bz];omega⟩)
    have hR:R w0 bk bg m tm (eD bl b ([.rows sh (.const 0) code (.const c) 2],t)) a w:=⟨by rw[mA];exact h1.t,h1.d,qu,nU⟩;exact(aeb (l:=r) hR).mono λb0 gF sG _ _ ⟨g1,g2⟩=>⟨g1,by rw[g2,mA]⟩
  ·exact aB.fail
theorem natsM_holds {G:ft} {I5:Unit->Nat->T}:∀{k n:Nat} {ρ:Env} {offs:List Int},(TV k n I5).holds S L G ρ->offs.length=k->(∀z∈offs,0<=z)->(I5 () (n+k)).holds S L G (bO ρ n offs)
 |0,n,ρ,[],h,_,_=>h
 |k+1,n,ρ,z::zs,h,hl,h0=>by
  have h1:(TV k (n+1) I5).holds S L G (dQ ρ n z):=h z (h0 z (by simp));have:=natsM_holds (offs:=zs) h1 (by simpa using hl) λy hy=>h0 y (eS _ hy);rw[show n+(k+1)=n+1+k by omega];exact this
 |0,_,_,_::_,_,hl,_=>by simp at hl
 |_+1,_,_,[],_,hl,_=>by simp at hl
def wB (w0:eV) (w:aC) (tmps:Array a6) (F:Nat->Prop):List (Nat×List aV)->List Nat->List Int->List Int->Prop
 |[],[],[],[]=>True
 |(s,sh)::r,g::gs,o::os,code::len::cap::zs=>(∀x,tmps[s]?=some x->x=if cap<0 then .slice none 0 0 else .slice (some ⟨g,o.toNat,none⟩) len.toNat cap.toNat)/\Ix o 0 len cap/\(0<=code/\code<=dN)/\(cap<0->aj code=[])/\
    (0<=cap->(w0.ex g∨w0.ro g∨w0.r.heap.size<=g)/\∃(cells:Array a6) (t:bw) (fz:Nat×Nat),w.heap[g]?=some (.cells cells t fz)/\pA cells o.toNat sh (aj code))/\
    (0<=cap->F g)/\wB w0 w tmps F r gs os zs
 |_,_,_,_=>False
theorem wB.len {w:aC} {tmps:Array a6} {F:Nat->Prop}:∀{l:List (Nat×List aV)} {gs:List Nat} {os zs:List Int},wB w0 w tmps F l gs os zs->os.length=l.length/\∀z∈os,0<=z
 |[],[],[],[],_=>⟨rfl,λ_ h=>by simp at h⟩
 |(s,sh)::r,g::gs,o::os,code::len::cap::zs,h=>by
  obtain⟨_,h2,_,_,_,_,h7⟩:=h;obtain⟨i1,i2⟩:=wB.len h7;exact⟨by simp[i1],λz hz=>by
   rcases List.mem_cons.1 hz with rfl|hz
   ·exact h2.1.1
   ·exact i2 z hz⟩
 |_::_,[],_,_,h=>h.elim
 |_::_,_::_,[],_,h=>h.elim
 |_::_,_::_,_::_,[],h=>h.elim
 |_::_,_::_,_::_,[_],h=>h.elim
 |_::_,_::_,_::_,[_,_],h=>h.elim
 |[],_::_,_,_,h=>h.elim
 |[],[],_::_,_,h=>h.elim
 |[],[],[],_::_,h=>h.elim
theorem amE {w:aC} {tmps:Array a6} {F:Nat->Prop}:∀{l:List (Nat×List aV)} {gs:List Nat} {os zs:List Int},wB w0 w tmps F l gs os zs->ay (Ib l) zs
 |[],[],[],[],_=>trivial
 |(s,sh)::r,g::gs,o::os,code::len::cap::zs,⟨f1,f2,f3,f4,f5,f6,f7⟩=>⟨f3.1,f3.2,f2.1.2.2.1,f2.1.2.2.2,f2.2.1.1,by have:=f2.2.1.2;omega,amE f7⟩
 |_::_,[],_,_,h=>h.elim
 |_::_,_::_,[],_,h=>h.elim
 |_::_,_::_,_::_,[],h=>h.elim
 |_::_,_::_,_::_,[_],h=>h.elim
 |_::_,_::_,_::_,[_,_],h=>h.elim
 |[],_::_,_,_,h=>h.elim
 |[],[],_::_,_,h=>h.elim
 |[],[],[],_::_,h=>h.elim
theorem Uz {n:Nat} {ρ:Env} {m:Nat->Nat} {tm:List V} {bl:List aH} {a:Act} {w:aC} (h:R w0 n ρ m tm bl a w):∀{l:List (Nat×List aV)} {ls:List U},Ic l tm bl=some ls->
 (∀x∈ls,U.bM n x)/\ls.length=(Ib l).length/\∃gs os,wB w0 w a.tmps (λg=>∃(i:Nat) (p:aH),bl[i]?=some p/\m i=g/\bP ρ p.1=1) l gs os (ls.map (·.den ρ))
 |[],ls,he=>by
  simp only[Ic,bp]at he;subst he;exact⟨λ_ h=>by simp at h,rfl,[],[],trivial⟩
 |(s,sh)::r,ls,he=>by
  unfold Ic at he;split at he
  ·rename_i hs;split at he
   ·rename_i l1 hr;simp only[bp]at he;subst he;obtain⟨g1,g2,gs,os,g3⟩:=Uz h hr;refine⟨λx hx=>?_,by simp[Ib]at g2⊢;omega,0::gs,0::os,λx hx=>?_,?_,?_,?_,?_,?_,g3⟩
    ·simp only[pt]at hx;rcases hx with rfl|rfl|rfl|hx
     ·exact U.dK _ _
     ·exact U.dK _ _
     ·exact U.dK _ _
     ·exact g1 x hx
    ·obtain⟨_,y,h2,h3⟩:=h.t.2 s _ hs;rw[h2]at hx;cases hx;have rV:(U.const (-1)).den ρ<0:=by rw[U.bz];decide
     simp only[rV,if_true];exact h3
    ·simp only[U.bz];exact⟨⟨by omega,by omega,by omega,by omega⟩,⟨by omega,by omega⟩,λ_=>rfl,λh=>by omega⟩
    ·simp only[U.bz];exact⟨cF _,Ct (k7 []) (x3 (l:=[]) (by simp) (by simp))⟩
    ·intro _;simp only[U.bz];exact m2
    ·simp only[U.bz];intro h;omega
    ·simp only[U.bz];intro h;omega
   ·cases he
  ·rename_i b bE o ro len cap hs;split at he
   ·rename_i gW off code gD kind t ba;cases hc:(tk sh gW&&aR kind 1&&U.beq o off&&U.beq ro (.const 0)&&U.beq cap gD&&aR bE sh.length)with
    |false=>rw[hc]at he;cases he
    |true=>
     rw[hc]at he;simp only[cond_true]at he;split at he
     ·rename_i l1 hr;simp only[bp]at he;subst he;simp only[bA]at hc;obtain⟨⟨⟨⟨⟨c1,bN⟩,cA⟩,dr⟩,fY⟩,hK⟩:=hc;have c1:=DP c1;have bN:=bV bN;have cA:=U.beq_eq cA;have dr:=U.beq_eq dr;have fY:=U.beq_eq fY;have hK:=bV hK
      subst c1;subst bN;subst cA;subst dr;subst fY;subst hK;obtain⟨g1,g2,gs,os,g3⟩:=Uz h hr;obtain⟨b2,y,h2,h3⟩:=h.t.2 s _ hs;have b2:(A.sl b sh.length o (.const 0) len cap).ok n bl.length ρ:=b2;obtain⟨ah,⟨ag,ao,dB,kb⟩,kq⟩:=b2;simp only[U.bz]at kq;have iT:(A.rows sh o code cap 1).ok n bl.length ρ:=h.b _ (fZ ba) _ (by simp);obtain⟨⟨r1,r2,ig⟩,aZ,aE⟩:=iT;have pN:=h.bL.rws b sh o code cap 1 t ba (by decide);refine⟨λx hx=>?_,by simp[Ib]at g2⊢;omega,m b::gs,o.den ρ::os,λx hx=>?_,kq,aZ,pN.1,λh0=>?_,λh0=>?_,g3⟩
      ·simp only[pt]at hx;rcases hx with rfl|rfl|rfl|hx
       ·exact r2
       ·exact dB
       ·exact kb
       ·exact g1 x hx
      ·have abt:y=x:=iH (h2.symm.trans hx);subst abt;have h3:y=(A.sl b sh.length o (.const 0) len cap).den ρ m:=h3;rw[h3];simp only[A.den,U.bz];split<;>simp
      ·obtain⟨er,cells,mg,fz,k1,⟨k2,k3⟩,k4⟩:=pN.2 h0;exact⟨er,cells,mg,fz,k1,k3⟩
      ·exact⟨b,_,ba,rfl,vO (by decide) h0⟩
     ·cases he
   ·cases he
  ·cases he
theorem wB.mono {w:aC} {tmps:Array a6} {F Ej:Nat->Prop} (hF:∀g,F g->Ej g):∀{l:List (Nat×List aV)} {gs:List Nat} {os zs:List Int},wB w0 w tmps F l gs os zs->wB w0 w tmps Ej l gs os zs
 |[],[],[],[],_=>trivial
 |(s,sh)::r,g::gs,o::os,code::len::cap::zs,⟨f1,f2,f3,f4,f5,f6,f7⟩=>⟨f1,f2,f3,f4,f5,λh=>hF g (f6 h),wB.mono hF f7⟩
 |_::_,[],_,_,h=>h.elim
 |_::_,_::_,[],_,h=>h.elim
 |_::_,_::_,_::_,[],h=>h.elim
 |_::_,_::_,_::_,[_],h=>h.elim
 |_::_,_::_,_::_,[_,_],h=>h.elim
 |[],_::_,_,_,h=>h.elim
 |[],[],_::_,_,h=>h.elim
 |[],[],[],_::_,h=>h.elim
theorem Yg {lo:Nat} {tm:List V} {bl:List aH}:∀{l:List (Nat×List aV×bw)} {used:List Nat} {ls:List U} {u:List Nat},Bc lo l tm bl used=some (ls,u)->∀b∈u,b∈used∨∃sh off code cap t,bl[b]?=some ([.rows sh off code cap 2],t)
 |[],used,ls,u,he=>by
  simp only[Bc,bp,eZ]at he;obtain⟨rfl,rfl⟩:=he
  exactλb hb=> .inl hb
 |(s,sh,e)::r,used,ls,u,he=>by
  unfold Bc at he;split at he
  ·split at he
   ·rename_i l1 mD hr;simp only[bp,eZ]at he;obtain⟨rfl,rfl⟩:=he;exact Yg hr
   ·cases he
  ·rename_i b bE o ro len cap hs;split at he
   ·rename_i gW off code gD kind t ba;cases hc:(tk sh gW&&aR kind 2&&U.beq o (.const 0)&&U.beq off (.const 0)&&U.beq ro (.const 0)&&U.beq cap gD&&aR t.1 e&&aR bE sh.length&&cJ lo b&& !(used.any (aR b)))with
    |false=>rw[hc]at he;cases he
    |true=>
     rw[hc]at he;simp only[cond_true]at he;split at he
     ·rename_i l1 mD hr;simp only[bp,eZ]at he;obtain⟨rfl,rfl⟩:=he;simp only[bA]at hc;obtain⟨⟨⟨⟨⟨⟨⟨⟨⟨c1,bN⟩,cA⟩,dr⟩,fY⟩,hK⟩,nr⟩,mq⟩,kk⟩,qf⟩:=hc;have bN:=bV bN;subst bN;intro b' nW;rcases Yg hr b' nW with h5|h5
      ·rcases List.mem_cons.1 h5 with rfl|h5
       ·exact .inr ⟨_,_,_,_,_,ba⟩
       ·exact .inl h5
      ·exact .inr h5
     ·cases he
   ·cases he
  ·cases he
theorem acg {i:Nat} {p:aH}:∀{us:List Nat} {bl:List aH},bl[i]?=some p->i∉us->(qB us bl)[i]?=some p
 |[],bl,h,_=>h
 |b::r,bl,h,hi=>by
  unfold qB;split
  ·refine acg ?_ λh=>hi (eS _ h);rw[m3,afX (λe=>hi (by simp[e]))];exact h
  ·exact acg h λh=>hi (eS _ h)
theorem alE {N:Nat} {b0:Env} {a:Act} {w:aC} {F:Nat->Prop}:∀{l:List (Nat×List aV)} {gs:List Nat} {os zs:List Int} {v u:Nat} {tm:List V} {bl:List aH} {m:Nat->Nat},R w0 N b0 m tm bl a w->wB w0 w a.tmps F l gs os zs->(∀g,F g->∀(i:Nat) (p:aH),bl[i]?=some p->m i=g->bP b0 p.1<=1)->
 (∀j,j<zs.length->b0 (v+j)=zs.getD j 0)->(∀j,j<os.length->b0 (u+j)=os.getD j 0)->v+zs.length<=N->u+os.length<=N->
 ∃e5,(∀b,b<bl.length->e5 b=m b)/\bl.length<=(headD l v u tm bl).2.length/\R w0 N b0 e5 (headD l v u tm bl).1 (headD l v u tm bl).2 a w/\∀(i:Nat) (p:aH),(headD l v u tm bl).2[i]?=some p->(i<bl.length/\bl[i]?=some p)∨(bP b0 p.1≠0->F (e5 i))
 |[],[],[],[],v,u,tm,bl,m,h,_,_,_,_,_,_=>⟨m,λ_ _=>rfl,bS _,h,λi p hp=> .inl ⟨(List.getElem?_eq_some_iff.1 hp).1,hp⟩⟩
 |(s,sh)::r,g::gs,o::os,code::len::cap::zs,v,u,tm,bl,m,h,hf,hF,hv,hu,cB,aan=>by
  obtain⟨f1,f2,f3,f4,f5,f6,f7⟩:=hf;have v0:=hv 0 (by simp);have v1:=hv 1 (by simp);have v2:=hv 2 (by simp);have vi:=hu 0 (by simp);simp only[gP,h9,pv]at v0 v1 v2 vi;simp only[kJ]at cB aan;have hc:(-1:Int)<=cap/\cap<=9223372036854775807:=⟨f2.2.1.1,by have:=f2.2.1.2;omega⟩;have aQ:(A.rows sh (.var u) (.var v) (.var (v+2)) 1).ok N bl.length b0:=⟨⟨U.hQ (by omega),U.hQ (by omega),U.hQ (by omega)⟩,by rw[U.c6,v0];exact f3,by rw[U.c6,v2];exact hc⟩;have alW:bP b0 [A.rows sh (.var u) (.var v) (.var (v+2)) 1]<=1:=by
   simp only[bP];split<;>omega
  have nU:=h.bL.push (x:=([.rows sh (.var u) (.var v) (.var (v+2)) 1],(0,false))) (g:=g) h.b (λy hy=>by simp at hy;subst hy;exact aQ) (λaw=>by cases aw) (λgW k5 code' mN ta he=>by
   cases he;intro _;simp only[U.c6,v0,v2,vi];refine⟨f4,λh0=>?_⟩;obtain⟨s6,cells,t,fz,k1,k2⟩:=f5 h0;exact⟨s6,cells,t,fz,k1,⟨f2.1.1,k2⟩,λdd=>by omega⟩) (λi p hi he=>by
   rcases m5 cap 0 with h0|h0
   ·refine .inr (.inr ?_);simp only[bP,U.c6,v2];rw[if_pos h0]
   ·exact .inl ⟨hF g (f6 h0) i p hi he,alW⟩)
  have ej:=fj.alloc N b0 m bl ([A.rows sh (.var u) (.var v) (.var (v+2)) 1],(0,false)) g;have hR:R w0 N b0 (od m bl.length g) (xI tm s (.w (.one (.sl bl.length sh.length (.var u) (.const 0) (.var (v+1)) (.var (v+2)))))) (bl++[([.rows sh (.var u) (.var v) (.var (v+2)) 1],(0,false))]) a w:=by
   refine⟨fl.set (h.t.ext ej.ha ej.hn ej.hb ej.hm) ?_ λx hx=>?_,h.d,h.b.alloc (λy hy=>by simp at hy;subst hy;exact aQ),nU⟩
   ·refine⟨by simp,⟨U.hQ (by omega),U.dK _ _,U.hQ (by omega),U.hQ (by omega)⟩,?_⟩;simp only[U.bz,U.c6,v1,v2,vi];exact f2
   ·rw[f1 x hx];simp only[V.rel,W.den,A.den,U.bz,U.c6,v1,v2,vi,pY];split<;>simp
  obtain⟨e5,a1,bB,cp,eC⟩:=alE (F:=F) (l:=r) (gs:=gs) (os:=os) (zs:=zs) (v:=v+3) (u:=u+1) hR f7 (λl6 BB i p hi he=>by
   rw[Qq]at hi;split at hi
   ·rename_i j3;rw[pk j3]at he;exact hF l6 BB i p hi he
   ·have j3:=(List.getElem?_eq_some_iff.1 hi).1;have:i=bl.length:=by simp at j3;omega
    subst this;simp only[Nat.sub_self,xZ,bp]at hi;subst hi;exact alW) (λj aO=>by
   have:=hv (j+3) (by simp only[kJ];omega);rw[show v+3+j=v+(j+3) by omega];simpa using this) (λj aO=>by
   have:=hu (j+1) (by simp only[kJ];omega);rw[show u+1+j=u+(j+1) by omega];simpa using this) (by omega) (by omega)
  simp only[gx,kJ,rD]at a1 bB;refine⟨e5,λb hb=>by rw[a1 b (by omega)];exact pk hb,by unfold headD;omega,by unfold headD;exact cp,λi p hp=>?_⟩;unfold headD at hp;rcases eC i p hp with⟨lz,oa⟩|lz
  ·simp only[gx,kJ,rD]at lz;rw[Qq]at oa;split at oa
   ·rename_i j3;exact .inl ⟨j3,oa⟩
   ·rename_i j3;have hi:i=bl.length:=by omega
    subst hi;simp only[Nat.sub_self,xZ,bp]at oa;subst oa;refine .inr λh0=>?_;rw[a1 bl.length (by omega),pY];refine f6 ?_;rcases m5 cap 0 with h1|h1
    ·refine absurd ?_ h0;simp only[bP,U.c6,v2];rw[if_pos h1]
    ·exact h1
  ·exact .inr lz
 |_::_,[],_,_,_,_,_,_,_,_,h,_,_,_,_,_=>h.elim
 |_::_,_::_,[],_,_,_,_,_,_,_,h,_,_,_,_,_=>h.elim
 |_::_,_::_,_::_,[],_,_,_,_,_,_,h,_,_,_,_,_=>h.elim
 |_::_,_::_,_::_,[_],_,_,_,_,_,_,h,_,_,_,_,_=>h.elim
 |_::_,_::_,_::_,[_,_],_,_,_,_,_,_,h,_,_,_,_,_=>h.elim
 |[],_::_,_,_,_,_,_,_,_,_,h,_,_,_,_,_=>h.elim
 |[],[],_::_,_,_,_,_,_,_,_,h,_,_,_,_,_=>h.elim
 |[],[],[],_::_,_,_,_,_,_,_,h,_,_,_,_,_=>h.elim
theorem alG {li:gz} {n:Nat} {cx ad:Env} {m0 m':Nat->Nat} {tm cE pj DT:List V} {bl bx gB sH:List aH} {l1 l2 v1 v2 iw ju fg:List U} {bQ b9 Jm zK:List (Int×Int)} {n':Nat} {a:Act} {w:aC} {NA ND NN:Nat} {gs:List Nat} {os:List Int}
 (hlen:bl.length<=bx.length)
 (ha:agree n cx ad) (hm:∀b,b<bl.length->m' b=m0 b) (aA:∀v∈tm,V.ok n bl.length cx v) (qt:dg n bl.length cx bl)
 (h:R w0 n' ad m' cE bx a w) (ar:hs li.ij li.ints 0 (n+1) tm=some (pj,l1,bQ)) (aG:hb li.cells 0 (n+1+l1.length) bl=some (gB,l2,b9))
 (cm:hs li.ij li.ints 0 (n+1) cE=some (DT,v1,Jm)) (iS:hb li.cells 0 (n+1+v1.length) (bx.take bl.length)=some (sH,v2,zK))
 (f1:qq pj DT=true) (f2:qp gB sH=true) (alp:I9 a.tmps li.vw (iw.map (·.den ad))) (R8:Gk w0 w a.tmps (λg=>(∀(i:Nat) (p:aH),i<bl.length->bx[i]?=some p->m' i=g->bP ad p.1=0)/\¬∃(i:Nat) (p:aH),bx[i]?=some p/\m' i=g/\bP ad p.1=1) li.uv (ju.map (·.den ad)))
 (Kc:wB w0 w a.tmps (λg=>∃(i:Nat) (p:aH),bx[i]?=some p/\m' i=g/\bP ad p.1=1) li.pX gs os (fg.map (·.den ad)))
 (ak5:NA=n+1+l1.length+l2.length+iw.length) (ak6:ND=n+1+l1.length+l2.length+(iw++ju).length) (ak7:NN=n+1+l1.length+l2.length+(iw++ju++fg).length):
 ay (bQ++b9++(Rd li.vw++GA li.uv++Ib li.pX)) ((v1++v2++(iw++ju++fg)).map (·.den ad))/\∃e5,(∀b,b<bl.length->e5 b=m0 b)/\bl.length<=(xa li.uv NA (headD li.pX ND NN (Ac li.vw (n+1+l1.length+l2.length) pj) gB).1 (headD li.pX ND NN (Ac li.vw (n+1+l1.length+l2.length) pj) gB).2).2.length/\
  R w0 (NN+li.pX.length) (bO (bO cx (n+1) ((v1++v2++(iw++ju++fg)).map (·.den ad))) NN os) e5 (xa li.uv NA (headD li.pX ND NN (Ac li.vw (n+1+l1.length+l2.length) pj) gB).1 (headD li.pX ND NN (Ac li.vw (n+1+l1.length+l2.length) pj) gB).2).1 (xa li.uv NA (headD li.pX ND NN (Ac li.vw (n+1+l1.length+l2.length) pj) gB).1 (headD li.pX ND NN (Ac li.vw (n+1+l1.length+l2.length) pj) gB).2).2 a w:=by
 obtain⟨aAZ,i1,i2,i3,i4⟩:=alF (ext:=iw++ju++fg) hlen ha hm aA qt h ar aG cm iS f1 f2;obtain⟨aAd,aRi⟩:=Kc.len;subst ak5;subst ak6;subst ak7;have J3:∀j,j<(iw++ju++fg).length->bO cx (n+1) ((v1++v2++(iw++ju++fg)).map (·.den ad)) (n+1+l1.length+l2.length+j)=((iw++ju++fg).map (·.den ad)).getD j 0:=λj aO=>by
  rw[show n+1+l1.length+l2.length+j=n+1+(v1.length+v2.length+j) by omega,Ln _ _ _ _ (by simp at aO⊢;omega)];rw[jd (l₁:=v1++v2),oR,LM (by simp),oR]
  congr 2
  simp
 generalize amq:bO cx (n+1) ((v1++v2++(iw++ju++fg)).map (·.den ad))=b0 at*;have w5:agree (n+1+l1.length+l2.length+(iw++ju++fg).length) b0 (bO b0 (n+1+l1.length+l2.length+(iw++ju++fg).length) os):=agree.bO os _ b0;have aBn:=i2.later (LN _ li.pX.length) w5;have aaN:∀j,j<(iw++ju++fg).length->bO b0 (n+1+l1.length+l2.length+(iw++ju++fg).length) os (n+1+l1.length+l2.length+j)=((iw++ju++fg).map (·.den ad)).getD j 0:=λj aO=>by
  rw[<-J3 j aO];exact(w5 _ (by omega))
 have Sh:∀(i:Nat) (p:aH),gB[i]?=some p->bP (bO b0 (n+1+l1.length+l2.length+(iw++ju++fg).length) os) p.1=bP b0 p.1:=λi p hi=>yD (i2.b p (fZ hi)) w5;generalize aBh:bO b0 (n+1+l1.length+l2.length+(iw++ju++fg).length) os=je at*;have dm:=alD (v:=n+1+l1.length+l2.length) aBn alp (λj aO=>by
  simp only[qQ]at aO;rw[aaN j (by simp;omega),iI,jd,oR,zx (by simpa using aO),oR]) (by simp;omega)
 obtain⟨hZ,b1,bY,dH,h8⟩:=alE (v:=n+1+l1.length+l2.length+(iw++ju).length) (u:=n+1+l1.length+l2.length+(iw++ju++fg).length) dm Kc (λg hg i p hi he=>by
  obtain⟨g1,dO,g2,g3⟩:=i4 i p hi;rw[Sh i p hi,g3];obtain⟨j,q,a1,bB,cp⟩:=hg;rcases h.bL.inj i j dO q g2 a1 (by rw[bB,<-he,hm i g1])with dd|dd|dd|dd
  ·subst dd;rw[g2]at a1;cases a1;omega
  ·exact dd.1
  ·omega
  ·omega) (λj aO=>by
  simp only[qQ]at aO;rw[show n+1+l1.length+l2.length+(iw++ju).length+j=n+1+l1.length+l2.length+((iw++ju).length+j) by omega,aaN _ (by simp at aO⊢;omega),jd (l₁:=iw++ju),oR,LM (by simp),oR]
  congr 2
  simp) (λj aO=>by rw[<-aBh,Ln _ _ _ _ aO]) (by simp only[qQ,gx];omega) (by rw[aAd];exact bS _)
 obtain⟨e5,a1,bB,cp⟩:=alC (v:=n+1+l1.length+l2.length+iw.length) dH R8 (λg hg i p hi he=>by
  rcases h8 i p hi with⟨g0,g1⟩|g1
  ·obtain⟨pJ,dO,g2,g3⟩:=i4 i p g1;rw[Sh i p g1,g3];exact hg.1 i dO pJ g2 (by rw[hm i pJ,<-b1 i g0];exact he)
  ·by_cases h0:bP je p.1=0
   ·exact h0
   ·have:=g1 h0;rw[he]at this;exact absurd this hg.2) (λj aO=>by
  simp only[qQ]at aO;rw[show n+1+l1.length+l2.length+iw.length+j=n+1+l1.length+l2.length+(iw.length+j) by omega,aaN _ (by simp;omega),iI,jd,oR,LM (by simp),jd,zx (by simp;omega),oR]
  congr 2
  simp) (by simp;omega)
 refine⟨?_,e5,λb hb=>by rw[a1 b (by rw[i3]at bY;omega),b1 b (by rw[i3];exact hb)],by rw[i3]at bY;omega,cp⟩;rw[jd,jd (l₁:=iw++ju),jd (l₁:=iw)];exact nA i1 (nA (nA (amD alp) (amC R8)) (amE Kc))
theorem YP {a b c:Nat} (h:a=c) (aP:b=c):b=a:=aP.trans h.symm
theorem aCP {li:gz} {c:Code} {e:Nat->List V->List aH->x1->T} (hd:rd=none∨pR c=true) (he:Xo rd S L w0 P c e) {Q:Exit->Act->aC->Prop} {n:Nat} {ρ:Env} {m:Nat->Nat} {tm:List V} {bl:List aH} {a:Act} {w:aC} {G:ft} {k:x1}
 (h:R w0 n ρ m tm bl a w) (ae:(acS li e n tm bl k).holds S L G ρ) (af:Ja S L w0 k n bl.length ρ m G Q):(Code.loop c).wpIn (wz rd) 0 P Q a w:=by
 unfold acS at ae;obtain⟨asK,HQ,ai8,Hr,alk,⟨hz1,SE⟩,ae⟩:=aeb (S:=S) (L:=L) h G _ ae;have af:=af.later (⟨Hr,alk,by rw[SE];exact bS _,λ_ _=>rfl⟩:fj n bl.length ρ m HQ ai8.length asK m) (gQ.refl _ G);clear h;have h:=hz1;clear hz1 SE Hr alk;revert h af ae;generalize HQ=n;generalize asK=ρ;generalize ai8=bl;intro ae af h;obtain⟨cx,gE,tm,uP,CZ,abg,ae⟩:=ML (S:=S) (L:=L) h.t G _ ae;have MS:=h.later uP CZ;have h:R w0 gE cx m tm bl a w:=⟨abg,MS.d,MS.b,MS.bL⟩;have af:=af.later (⟨uP,CZ,bS _,λ_ _=>rfl⟩:fj n bl.length ρ m gE bl.length cx m) (gQ.refl _ G);obtain⟨bg,bk,iw,iM,hD,⟨s1,s2,bm⟩,ae⟩:=YQ (S:=S) (L:=L) h.t G _ ae;have h1:=h.later iM hD;have af:=af.later (⟨iM,hD,bS _,λ_ _=>rfl⟩:fj gE bl.length cx m bk bl.length bg m) (gQ.refl _ G);split at ae
 rotate_left
 ·exact ae.elim
 rename_i pj l1 bQ ju us fg ar RG awl;obtain⟨bG,a2,_,_,a5⟩:=QY h1 RG;obtain⟨k1,k2,k3⟩:=ach (us:=us) h1;obtain⟨r1,r2,gs,os,ig⟩:=Uz h1 awl;cases aG:hb li.cells 0 (bk+1+l1.length) (qB us bl)with
 |none=>rw[aG]at ae;exact ae.elim
 |some bB=>
  obtain⟨gB,l2,b9⟩:=bB;rw[aG]at ae;simp only at ae;cases hf:(qq pj pj&&qp gB gB)with
  |false=>rw[hf]at ae;exact ae.elim
  |true=>
   rw[hf]at ae;simp only[cL,cond_false,T.holds]at ae;simp only[bA]at hf;obtain⟨fv,hB,aah,dm⟩:=ae;have SA:∀v∈tm,V.ok bk (qB us bl).length bg v:=λv hv=>by
    obtain⟨i,hi⟩:=List.getElem?_of_mem hv;exact(k1.t.2 i v hi).1
   have Zl:hb li.cells 0 (bk+1+l1.length) ((qB us bl).take (qB us bl).length)=some (gB,l2,b9):=by rw[afY];exact aG
   have ay3:Gk w0 w a.tmps (λg=>(∀(i:Nat) (p:aH),i<(qB us bl).length->(qB us bl)[i]?=some p->m i=g->bP bg p.1=0)/\¬∃(i:Nat) (p:aH),(qB us bl)[i]?=some p/\m i=g/\bP bg p.1=1) li.uv (ju.map (·.den bg)):=by
    refine a5 _ λb p hb _ ba pL o5=>?_;have key:∀(i:Nat) (q:aH),(qB us bl)[i]?=some q->m i=m b->bP bg q.1=0:=λi q hi he=>by
     rcases k3 i q hi with⟨g1,g2⟩|g1
     ·by_cases lN:i=b
      ·subst lN;rw[ba]at g1;cases g1;rcases g2 hb with g2|g2
       ·rw[o5]at g2;cases g2
       ·exact g2
      ·rcases h1.bL.inj i b q p g1 ba he with g3|g3|g3|g3
       ·exact absurd g3 lN
       ·omega
       ·exact g3
       ·omega
     ·exact g1
    exact⟨λi q _ hi he=>key i q hi he,λ⟨i,q,hi,he,af⟩=>by have:=key i q hi he;omega⟩
   have Kc:wB w0 w a.tmps (λg=>∃(i:Nat) (p:aH),(qB us bl)[i]?=some p/\m i=g/\bP bg p.1=1) li.pX gs os (fg.map (·.den bg)):=by
    refine ig.mono λg ⟨i,p,hi,he,af⟩=>⟨i,p,acg hi λhu=>?_,he,af⟩;rcases Yg RG i hu with dd|⟨sh,off,code,cap,t,dd⟩
    ·simp at dd
    ·rw[hi]at dd;cases dd;simp only[bP]at af;split at af<;>omega
   obtain⟨i1,e5,i2,i3,i4⟩:=alG (bS _) (agree.refl bk bg) (λ_ _=>rfl) SA k1.b k1 ar aG ar Zl hf.1 hf.2 bm ay3 Kc rfl rfl rfl;generalize ak7:bk+1+l1.length+l2.length+(iw++ju++fg).length=NN at*;generalize ak6:bk+1+l1.length+l2.length+(iw++ju).length=ND at*;generalize ak5:bk+1+l1.length+l2.length+iw.length=NA at*;generalize azn:headD li.pX ND NN (Ac li.vw (bk+1+l1.length+l2.length) pj) gB=d at*;refine wpIn_loop_ghost (λN dW w'=>∃zs os e5,ay (bQ++b9++(Rd li.vw++GA li.uv++Ib li.pX)) zs/\fv zs/\hB zs=N/\(os.length=li.pX.length/\∀z∈os,0<=z)/\(∀b,b<(qB us bl).length->e5 b=m b)/\
    R w0 (NN+li.pX.length) (bO (bO bg (bk+1) zs) NN os) e5 (xa li.uv NA d.1 d.2).1 (xa li.uv NA d.1 d.2).2 dW w') (hB ((l1++l2++(iw++ju++fg)).map (·.den bg))) ⟨_,os,e5,i1,aah,rfl,Kc.len,i2,i4⟩ ?_
   rintro N bG eR ⟨zs,adr,e5,hz1,SE,rfl,⟨aBc,aBd⟩,aBa,aBb⟩
   have C1:=natsM_holds (nh dm hz1 SE) aBc aBd;refine he hd _ _ _ _ _ _ _ bG eR _ aBb C1 λx n' ad m' cE bx e7 dW w' h1 h2 h3 h4=>?_;have Hh:agree bk bg (bO bg (bk+1) zs):=(agree.bO _ (bk+1) bg).mono (by omega);have ay5:agree bk bg (bO (bO bg (bk+1) zs) NN adr):=Hh.trans (agree.bO adr NN _) (by omega);have aaj:fj bk bl.length bg m (NN+li.pX.length) (xa li.uv NA d.1 d.2).2.length (bO (bO bg (bk+1) zs) NN adr) e5:=⟨by omega,ay5,by rw[k2]at i3;exact i3,λb hb=>aBa b (by rw[k2];exact hb)⟩;have E7:gQ bk G (G.set bk λvs=>fv vs/\hB vs<hB zs):=λl hl=>by
    unfold ft.set;cases hb:aR l bk with
    |true=>have:=bV hb;omega
    |false=>rfl
   have ej:=aaj.trans h1;have aag:e7 bk=λvs=>fv vs/\hB vs<hB zs:=by
    rw[h2 bk (by omega)];unfold ft.set;have:aR bk bk=true:=IX bk;rw[this];rfl
   cases x with
   |exit id=>exact af (.exit id) n' ad m' cE bx e7 dW w' ej (E7.trans h2 (by omega)) h3 h4
   |ret=>exact af .ret n' ad m' cE bx e7 dW w' ej (E7.trans h2 (by omega)) h3 h4
   |normal=>
    simp only at h4;obtain⟨agj,ac4,cE,al1,alh,abi,h4⟩:=ML (S:=S) (L:=L) h3.t e7 _ h4;have vG:=h3.later al1 alh;have h3:R w0 ac4 agj m' cE bx dW w':=⟨abi,vG.d,vG.b,vG.bL⟩;have ej:=ej.trans (⟨al1,alh,bS _,λ_ _=>rfl⟩:fj n' bx.length ad m' ac4 bx.length agj m');obtain⟨zC,KL,anA,gU,eJ,⟨t1,t2,t3⟩,h4⟩:=YQ (S:=S) (L:=L) h3.t e7 _ h4;have h3:=h3.later gU eJ;split at h4
    rotate_left
    ·exact h4.elim
    rename_i DT v1 Jm acH pZ anJ cm awk awm;obtain⟨c1,bN,_,dr,fY⟩:=QY h3 awk;obtain⟨d1,d2,aQU,aoN,d3⟩:=Uz h3 awm;cases iS:hb li.cells 0 (bk+1+v1.length) (bx.take bl.length)with
    |none=>rw[iS]at h4;exact h4.elim
    |some eC=>
     obtain⟨sH,v2,zK⟩:=eC;rw[iS]at h4;simp only at h4;cases mw:(qq pj DT&&qp gB sH)with
     |false=>rw[mw]at h4;exact h4.elim
     |true=>
      rw[mw]at h4;simp only[cond_true,T.holds,aag]at h4;simp only[bA]at mw;have aak:=ej.trans (⟨gU,eJ,bS _,λ_ _=>rfl⟩:fj ac4 bx.length agj m' KL bx.length zC m');have ay4:Gk w0 w' dW.tmps (λg=>(∀(i:Nat) (p:aH),i<(qB us bl).length->bx[i]?=some p->m' i=g->bP zC p.1=0)/\¬∃(i:Nat) (p:aH),bx[i]?=some p/\m' i=g/\bP zC p.1=1) li.uv (acH.map (·.den zC)):=by
       refine fY _ λb p hb _ ba pL o5=>⟨λi q j3 hi he=>?_,λ⟨i,q,hi,he,af⟩=>?_⟩
       ·have M9:bl.length<=b:=by
         rcases dr b hb with h|h
         ·simp at h
         ·exact h
        rw[k2]at j3;rcases h3.bL.inj i b q p hi ba he with g3|g3|g3|g3
        ·omega
        ·omega
        ·exact g3
        ·omega
       ·rcases h3.bL.inj i b q p hi ba he with g3|g3|g3|g3
        ·subst g3;rw[hi]at ba;cases ba;omega
        ·omega
        ·omega
        ·omega
      obtain⟨fK,Ay,oE,pO,tR⟩:=alG (NA:=NA) (ND:=ND) (NN:=NN) (by rw[k2];exact aak.hb) aak.ha (λb hb=>aak.hm b (by rw[k2]at hb;exact hb)) SA k1.b h3 ar aG cm (by rw[k2];exact iS) mw.1 mw.2 t3 ay4 d3 (by have:=t2;have:=YP s2 t2;omega) (by have:=YP s2 t2;simp only[gx]at*;omega) (by have:=YP s2 t2;simp only[gx]at*;omega);rw[azn]at tR;exact⟨_,h4.2,_,aoN,Ay,fK,h4.1,rfl,d3.len,oE,tR⟩
theorem toL {ops:Array Oper}:ops.toList.toArray=ops:=m6
theorem ZW (N:Nat):∀(i:Nat) (bl:List aH),(kl N i bl).length=bl.length
 |_,[]=>rfl
 |i,_::r=>by simp[kl,ZW N (i+1) r]
theorem JL (N:Nat):∀(i:Nat) (bl:List aH) (k:Nat) (p:aH),(kl N i bl)[k]?=some p->p=hW∨(i+k<N/\(cd p.1||BL p.1)=true/\bl[k]?=some p)
 |_,[],k,p,h=>by simp[kl]at h
 |i,q::r,0,p,h=>by
  simp only[kl,xZ,bp]at h;cases hc:(ea i N&&(cd q.1||BL q.1))with
  |false=>rw[hc]at h;exact .inl h.symm
  |true=>
   rw[hc]at h;simp only[cond_true]at h;subst h;simp only[bA]at hc;exact .inr ⟨by simpa using vu hc.1,hc.2,rfl⟩
 |i,q::r,k+1,p,h=>by
  rcases JL N (i+1) r k p (by simpa [kl]using h)with h1|⟨h1,h2,h3⟩
  ·exact .inl h1
  ·exact .inr ⟨by omega,h2,by simpa using h3⟩
theorem aoZ:∀{a b:List aH},preB a b=true->∀(k:Nat) (p:aH),a[k]?=some p->b[k]?=some p
 |[],_,_,_,_,h=>by simp at h
 |(c,t)::r,(eW,t')::s,hf,k,p,h=>by
  simp only[preB,bA]at hf;obtain⟨⟨⟨h1,h2⟩,h3⟩,h4⟩:=hf;cases k with
  |zero=>
   have ar:=GK h1;have aG:=bV h2;have cm:t.2=t'.2:=by simpa using h3
   have:t=t':=Qk aG cm;subst ar;subst this;simpa using h
  |succ k=>have:=aoZ h4 k p (by simpa using h);simpa using this
 |_::_,[],h,_,_,_=>by simp[preB]at h
theorem aBL {c:List A} (h:BL c=true):∃sh off code cap,c=[.rows sh off code cap 1]:=by
 unfold BL at h;split at h
 ·rename_i sh off code cap k;have:=bV h;subst this;exact⟨sh,off,code,cap,rfl⟩
 ·cases h
def UG (ρ b0:Env) (c:List A):Prop:=∀sh off code cap k,c=[.rows sh off code cap k]->off.den b0=off.den ρ/\code.den b0=code.den ρ/\cap.den b0=cap.den ρ
theorem anj {ρ b0:Env} {c:List A} (h:(cd c||BL c)=true) (hr:UG ρ b0 c):bP b0 c=bP ρ c:=by
 rcases Ea _ _▸h with h|h
 ·rw[n6 h,n6 h]
 ·obtain⟨sh,off,code,cap,rfl⟩:=aBL h;simp only[bP,(hr sh off code cap 1 rfl).2.2]
theorem Mem.sub {ρ b0:Env} {m e5:Nat->Nat} {bl sG:List aH} {w:aC} (h:Mem w0 ρ m bl w) (hs:∀(i:Nat) (p:aH),sG[i]?=some p->p=hW∨(bl[i]?=some p/\(cd p.1||BL p.1)=true/\e5 i=m i/\p.1.map (A.den b0 e5)=p.1.map (A.den ρ m)/\UG ρ b0 p.1)):Mem w0 b0 e5 sG w:=by
 have o4:bP b0 hW.1=0:=by simp[hW,bP]
 refine⟨h.ext,h.km,h.mU,h.l8,h.iW,h.j1,λi cs t hi aw=>?_,λi sh off code cap kind t hi=>?_,λi j p q hi aO he=>?_⟩
 ·rcases hs i _ hi with h1|⟨h1,_,h3,h4,_⟩
  ·cases h1;simp[cd]at aw
  ·rw[h3,h4];exact h.hI i cs t h1 aw
 ·rcases hs i _ hi with h1|⟨h1,h2,h3,_,h5⟩
  ·cases h1;intro af;exact absurd rfl af
  ·obtain⟨ar,aG,cm⟩:=h5 sh off code cap kind rfl;have:=h.rws i sh off code cap kind t h1;unfold wA at this⊢;rw[ar,aG,cm,h3];exact this
 ·rcases hs i _ hi with h1|⟨h1,h2,h3,_,h5⟩
  ·subst h1;exact .inr (.inr (.inl o4))
  ·rcases hs j _ aO with g1|⟨g1,g2,g3,_,g5⟩
   ·subst g1;exact .inr (.inr (.inr o4))
   ·rw[anj h2 h5,anj g2 g5];exact h.inj i j p q h1 g1 (by rw[<-h3,<-g3];exact he)
theorem dg.kl {n nb:Nat} {ρ:Env} {bl:List aH} (h:dg n nb ρ bl) (N:Nat):dg n nb ρ (Go.bX.kl N 0 bl):=λp hp=>by
 obtain⟨i,hi⟩:=List.mem_iff_getElem?.1 hp;rcases JL N 0 bl i p hi with h1|⟨_,_,h3⟩
 ·subst h1;intro a ha;simp only[hW,List.mem_singleton]at ha;subst ha;exact⟨⟨U.dK _ _,U.dK _ _,U.dK _ _⟩,⟨by simp[U.bz],by rw[U.bz];exact Ct (k7 []) (x3 (by simp) (λ_ h=>by cases h))⟩,by simp[U.bz]⟩
 ·exact h p (fZ h3)
theorem aps {n nb:Nat} {ρ ad:Env} {c:List A} (b2:∀a∈c,A.ok n nb ρ a) (ha:agree n ρ ad) (back:Bool):cond back (UG ad ρ c) (UG ρ ad c):=by
 have key:∀sh off code cap k,c=[.rows sh off code cap k]->off.den ad=off.den ρ/\code.den ad=code.den ρ/\cap.den ad=cap.den ρ:=λsh off code cap k hc=>by
  have:=b2 _ (by rw[hc];exact List.mem_singleton.2 rfl);obtain⟨⟨h1,h2,h3⟩,_⟩:=this;exact⟨U.ch ha h1,U.ch ha h2,U.ch ha h3⟩
 cases back with
 |true=>exactλsh off code cap k hc=>by obtain⟨h1,h2,h3⟩:=key sh off code cap k hc;exact⟨h1.symm,h2.symm,h3.symm⟩
 |false=>exact key
theorem azu {N:Nat} {tm:List V} {bl:List aH} {o:Oper} {a:Act} {w:aC} {v:a6} (aw:Se N tm bl o=true) (h:Gp P o a w v):(execOp a.eval o).run P w= .ok (.value v) w:=by
 rcases h with h|⟨f,args,h,_⟩
 ·exact h
 ·exfalso;have key:∀s:Sem a6,(do pure (m7 (<-s)):Sem Next).run P w= .ok (.enter f args) w->False:=λs hs=>by
   simp only[jV]at hs;cases hx:s.run P w with
   |ok u w'=>rw[hx]at hs;simp at hs
   |halt x w'=>rw[hx]at hs;simp at hs
  unfold Se at aw;split at aw
  ·rename_i op t x y u hj;exact key (eqGuard op t x y (a.eval x) (a.eval y) >>= λ_=>binOp op t (a.eval x) (a.eval y)) (by simpa [execOp,hj]using h)
  ·rename_i t x i hj;exact key (Instr.indexAt t (a.eval x) (a.eval i)) (by simpa [execOp,hj]using h)
  ·rename_i t x lo hi gv hj;exact key (xT t (a.eval x) (lo.map a.eval) (hi.map a.eval) (gv.map a.eval)) (by simpa [execOp,hj]using h)
  ·rename_i t p hj;exact key (p5 t (a.eval p)) (by simpa [execOp,hj]using h)
  ·cases aw
theorem azt {tm:List V} {o:Oper} {a:Act} {w:aC} {v:a6} (aw:Ni tm o=true) (h:Gp P o a w v):(execOp a.eval o).run P w= .ok (.value v) w:=by
 rcases h with h|⟨f,args,h,_⟩
 ·exact h
 ·exfalso;have key:∀s:Sem a6,(do pure (m7 (<-s)):Sem Next).run P w= .ok (.enter f args) w->False:=λs hs=>by
   simp only[jV]at hs;cases hx:s.run P w with
   |ok u w'=>rw[hx]at hs;simp at hs
   |halt x w'=>rw[hx]at hs;simp at hs
  unfold Ni at aw;split at aw
  ·rename_i t x lo hi gv hj;exact key (xT t (a.eval x) (lo.map a.eval) (hi.map a.eval) (gv.map a.eval)) (by simpa [execOp,hj]using h)
  ·cases aw
theorem azv {ops:Array Oper} {N:Nat} {tm:List V} {bl:List aH} {o:Oper} {a:Act} {w:aC} {v:a6} (aw:Sd N tm bl o=true) (h:Gp P o a w v):(execOp a.eval o).run P w= .ok (.value v) w:=by
 rcases h with h|⟨f,args,h,_⟩
 ·exact h
 ·exfalso;have key:∀s:Sem a6,(do pure (m7 (<-s)):Sem Next).run P w= .ok (.enter f args) w->False:=λs hs=>by
   simp only[jV]at hs;cases hx:s.run P w with
   |ok u w'=>rw[hx]at hs;simp at hs
   |halt x w'=>rw[hx]at hs;simp at hs
  unfold Sd at aw;split at aw
  ·rename_i x hj;simp[execOp,hj]at h
  ·rename_i x hj;simp[execOp,hj]at h
  ·rename_i x i hj;exact key (Instr.extract (a.eval x) i) (by simpa [execOp,hj]using h)
  ·rename_i s x i hj;exact key (Instr.fieldAt s (a.eval x) i) (by simpa [execOp,hj]using h)
  ·rename_i t p hj;exact key (p5 t (a.eval p)) (by simpa [execOp,hj]using h)
  ·rename_i t x lo hi gv hj;exact key (xT t (a.eval x) (lo.map a.eval) (hi.map a.eval) (gv.map a.eval)) (by simpa [execOp,hj]using h)
  ·cases aw
theorem auq {ops:Array Oper} {Q:Exit->Act->aC->Prop} {inl:mH} (c8:iD S P gl w0 cal) (hg:gJ gl w0) (nY:rI S L w0 P inl) (w2:∀c a w,¬Q (.panic c) a w)
 {N gE:Nat} {qe:List aH} {cx:Env} {m0:Nat->Nat} (cB:N<=qe.length) (qt:dg gE qe.length cx qe):∀(f:Nat) {listed:Array Bool} {n:Nat} {ρ:Env} {m:Nat->Nat} {tm:List V} {bl:List aH} {a:Act} {w:aC} {G:ft} {k:iP},
 R w0 n ρ m tm bl a w->fj gE qe.length cx m0 n bl.length ρ m->(∀(k:Nat) (p:aH),(kl N 0 qe)[k]?=some p->(kl N 0 bl)[k]?=some p)->(CL P gl cal inl ops N (kl N 0 qe) f listed n tm bl k).holds S L G ρ->m9 S L w0 k n bl.length ρ m G (Q .normal)->wpAnyH P .any ops Q (λw=>Mem w0 cx m0 (kl N 0 qe) w) f listed a w:=by
 have down:∀{n:Nat} {ρ:Env} {m:Nat->Nat} {bl:List aH} {w:aC},fj gE qe.length cx m0 n bl.length ρ m->(∀(k:Nat) (p:aH),(kl N 0 qe)[k]?=some p->(kl N 0 bl)[k]?=some p)->Mem w0 ρ m bl w->Mem w0 cx m0 (kl N 0 qe) w:=λhl hp hm=>by
  refine hm.sub λi p hi=>?_;rcases JL N 0 qe i p hi with h1|⟨h1,h2,h3⟩
  ·exact .inl h1
  ·refine .inr ?_;rcases JL N 0 _ i p (hp i p hi)with g1|⟨_,_,g3⟩
   ·subst g1;simp[hW,cd,BL]at h2
   ·exact⟨g3,h2,(hl.hm i (by omega)).symm,(yG (qt p (fZ h3)) hl.ha hl.hm).symm,aps (qt p (fZ h3)) hl.ha true⟩
 have up:∀{n:Nat} {ρ:Env} {m:Nat->Nat} {bl:List aH} {w:aC},fj gE qe.length cx m0 n bl.length ρ m->(∀(k:Nat) (p:aH),(kl N 0 qe)[k]?=some p->(kl N 0 bl)[k]?=some p)->Mem w0 cx m0 (kl N 0 qe) w->Mem w0 ρ m (kl N 0 bl) w:=λ{n ρ m bl w} hl hp hm=>by
  refine hm.sub λi p hi=>?_;rcases JL N 0 bl i p hi with h1|⟨h1,h2,h3⟩
  ·exact .inl h1
  ·refine .inr ?_;have hlt:i<(kl N 0 qe).length:=by rw[ZW];omega
   have ai:=hp i _ (nI hlt);rw[hi]at ai;have ai:p=(kl N 0 qe)[i]:=iH ai;have h0:(kl N 0 qe)[i]?=some p:=by rw[nI hlt,ai]
   rcases JL N 0 qe i p h0 with g1|⟨_,_,g3⟩
   ·subst g1;simp[hW,cd,BL]at h2
   ·exact⟨h0,h2,hl.hm i (by omega),yG (qt p (fZ g3)) hl.ha hl.hm,aps (qt p (fZ g3)) hl.ha false⟩
 intro f;induction f with
 |zero=>
  intro listed n ρ m tm bl a w G k h hl hp ae af;unfold CL at ae;unfold wpAnyH;split at ae
  ·rename_i hr;exact⟨hr,af n ρ m tm bl G a w (fj.refl _ _ _ _) (gQ.refl _ _) h ae⟩
  ·exact ae.elim
 |succ f ih=>
  intro listed n ρ m tm bl a w G k h hl hp ae af;unfold CL at ae;split at ae
  ·rename_i hr;exact⟨λ_=>af n ρ m tm bl G a w (fj.refl _ _ _ _) (gQ.refl _ _) h ae,λi hi=>by rw[hr]at hi;cases hi⟩
  ·rename_i l tJ;split at ae
   ·rename_i i hi;unfold alH at hi;cases yt:V6 ops with
    |false=>rw[yt]at hi;cases hi
    |true=>
    rw[yt,cond_true]at hi;have eN:=V7 hi;have C7:=IY hi;simp only[bA]at eN;cases aw:ops[i]? with
    |none=>simp only[aw]at ae;exact ae.elim
    |some o=>
     simp only[aw]at ae;have mR:Sd N tm bl o=true∨Se N tm bl o=true∨Ni tm o=true:=by
      have:=eN.1;simp only[aw,Ea,bA]at this;rcases this with(h|h)|h
      ·exact .inl h
      ·exact .inr h.2
      ·exact .inr (.inr h.2)
     obtain⟨cE,o6,jB⟩:=MP h.t ae;have h:R w0 n ρ m cE bl a w:=⟨o6,h.d,h.b,h.bL⟩;have iK:=down hl hp h.bL;rcases jB with⟨hw,ae⟩|⟨hw,ae⟩
     ·have hlen:(kl N 0 bl).length=bl.length:=ZW N 0 bl;obtain⟨ad,n',v,yr,nV,⟨hv,val,hr,ai⟩,J4⟩:=adV (L:=L) (bl:=kl N 0 bl) c8 (by rw[hlen];exact h.b.kl N) hg ⟨w,up hl hp iK⟩ (by rw[hlen];exact o6) o G _ ae;rw[hlen]at hv;have hy:YieldsIf P ops (λw=>Mem w0 cx m0 (kl N 0 qe) w) o val a:= .inl ⟨hw,λw' yy=>mR.elim (λhf=>azv (ops:=ops) hf (ai w' (up hl hp yy))) (λhf=>hf.elim (λhf=>azu hf (ai w' (up hl hp yy))) (λhf=>azt hf (ai w' (up hl hp yy))))⟩;refine wpAnyH_take aw yt eN.2 (by simpa using C7) (λc a w hp=>absurd hp (w2 _ _ _)) hy iK ?_;have hlt:fj n bl.length ρ m n' bl.length ad m:=⟨yr,nV,bS _,λ_ _=>rfl⟩;exact ih ⟨fl.put (o6.ext nV yr (bS _) (λ_ _=>rfl)) o.dst hv hr,by rw[put_defers];exact h.d,h.b.ext nV yr (bS _),h.bL.tj h.b nV⟩ (hl.trans hlt) hp J4 (af.later hlt (gQ.refl _ _))
     ·refine wpAnyH_take aw yt eN.2 (by simpa using C7) (λc a w hp=>absurd hp (w2 _ _ _)) (.inr ⟨hw,rfl⟩) iK ?_;exact ih (h.skip o.dst) hl hp ae af
   split at ae
   ·rename_i i hi;unfold aoH at hi;cases yt:V6 ops with
    |false=>rw[yt]at hi;cases hi
    |true=>
    rw[yt,cond_true]at hi;have eN:=V7 hi;have C7:=IY hi;simp only[bA]at eN;cases aw:ops[i]? with
    |none=>simp only[aw]at ae;exact ae.elim
    |some o=>
     simp only[aw]at ae;obtain⟨cE,o6,jB⟩:=MP h.t ae;have h:R w0 n ρ m cE bl a w:=⟨o6,h.d,h.b,h.bL⟩;have iK:=down hl hp h.bL;rcases jB with⟨_,ae⟩|⟨hw,ae⟩
     ·exact ae.elim
     ·refine wpAnyH_take aw yt eN.2 (by simpa using C7) (λc a w hp=>absurd hp (w2 _ _ _)) (.inr ⟨hw,rfl⟩) iK ?_;exact ih (h.skip o.dst) hl hp ae af
   unfold wpAnyH;refine⟨λhr=>absurd hr tJ,λi hi=>?_⟩;have eN:=allT_holds ae i hi;unfold wpOp;cases aw:ops[i]? with
   |none=>simp only[aw]at eN;exact eN.elim
   |some o=>
    simp only[aw]at eN⊢;obtain⟨cE,o6,jB⟩:=MP h.t eN;have h:R w0 n ρ m cE bl a w:=⟨o6,h.d,h.b,h.bL⟩;rcases jB with⟨hw,Nr⟩|⟨hw,Nr⟩
    ·rw[if_pos hw];refine .inl (aqd c8 hg nY h Nr λn' ad m' cE bx e7 dW w' h1 h2 h3 h4=>?_);cases hf:preB (kl N 0 qe) (kl N 0 bx)with
     |false=>rw[hf]at h4;exact h4.elim
     |true=>
      rw[hf,cond_true]at h4;have Fh:=hl.trans h1;have hf:=aoZ hf;exact⟨down Fh hf h3.bL,ih h3 Fh hf h4 (af.later h1 h2)⟩
    ·rw[if_neg (by simp[hw])];exact⟨down hl hp h.bL,ih (h.skip o.dst) hl hp Nr af⟩
theorem Jv {inl:mH} {li:Nat->Option gz} {rounds:Nat} (hm:P.follows .mixedOrders=true) (c8:iD S P gl w0 cal) (hg:gJ gl w0) (nY:rI S L w0 P inl):∀(c:Code),Xo rd S L w0 P c (qj P gl cal inl li rounds c):=by
 intro c;induction c with
 |skip=>intro hd n tm bl k G ρ m a w Q h ae af;exact wpIn_skip (af .normal n ρ m tm bl G a w (fj.refl _ _ _ _) (gQ.refl _ _) h ae)
 |exit id=>intro hd n tm bl k G ρ m a w Q h ae af;exact wpIn_exit (af (.exit id) n ρ m tm bl G a w (fj.refl _ _ _ _) (gQ.refl _ _) h ae)
 |ret=>intro hd n tm bl k G ρ m a w Q h ae af;exact wpIn_ret (af .ret n ρ m tm bl G a w (fj.refl _ _ _ _) (gQ.refl _ _) h ae)
 |region id ops draw=>
  intro hd n tm bl k G ρ m a w Q h ae af;have aao:m9 S L w0 (k .normal) n bl.length ρ m G (vh Q .normal):=λn' ad m' cE bx e7 dW w' h1 h2 h3 h4=>af .normal n' ad m' cE bx e7 dW w' h1 h2 h3 h4;cases draw with
  |false=>
   simp only[qj,cond_false]at ae;refine aJm hd ?_;exact T7 c8 hg nY ops.toList h ae aao
  |true=>
   simp only[qj,cond_true]at ae;cases aA:(Lm ops (Ng P cal ops)&&VY P (ops.toList.take (Ng P cal ops)))with
   |false=>
    simp only[aA,cond_false]at ae;cases hsz:cJ (ops.toList.filter λo=> !acT o).length 12 with
    |false=>simp only[hsz,cond_false]at ae;exact ae.elim
    |true=>
     simp only[hsz,cond_true]at ae;have w9:R w0 n ρ m tm bl a w.drew:=⟨h.t,h.d,h.b,h.bL.grow (V8 (sA w))⟩;refine apb hm hd (wpAny_of_held (S:=λw=>Mem w0 ρ m (kl (Nh ops tm bl) 0 bl) w) _ _ _ _ ?_);exact auq c8 hg nY (λc a w h=>h) (N:=Nh ops tm bl) (by unfold Nh;cases acU ops<;>cases ops.toList.any SO<;>simp<;>exact Nat.min_le_left _ _) h.b ops.size w9 (fj.refl _ _ _ _) (λ_ _ h=>h) ae aao
   |true=>
    simp only[aA,cond_true]at ae;simp only[bA]at aA;have hle:Ng P cal ops<=ops.toList.length:=by
     have h1:=aA.1;simp only[Lm,bA]at h1;simpa using gY h1.1.1.2
    generalize Ng P cal ops=tJ at*;have w9:R w0 n ρ m tm bl a w.drew:=⟨h.t,h.d,h.b,h.bL.grow (V8 (sA w))⟩;have key:=aOh (P:=P) (Q:=vh Q) (a:=a) (w:=w) (l:=ops.toList) (C:=λw'=>Mem w0 ρ m bl w') tJ (LH P ops) hm (by rw[toL];exact aA.1) (λw' yy=>w9.bL.grow yy) (λj o aO aw gT b w'=>by
     have:=aOs (l:=ops.toList) (P:=P) aA.2 aO aw gT b w';rw[toL]at this;exact this) (by
     rw[toL];refine Sc c8 hg h.b ⟨_,h.bL⟩ _ (bS _) (agree.refl _ _) h.t h.d ae λn' ad cE wH h1 h2 h3 h4 h5 iC b w' C4 ym NC=>?_;have hl:fj n bl.length ρ m n' bl.length ad m:=⟨h1,h2,bS _,λ_ _=>rfl⟩;have ayc:=(w9.bL.grow ym).tj h.b h2;refine Yr (S:=S) (L:=L) (w0:=w0) (P:=P) (K:=λb w'=>wpList P ops (calm (vh Q)) (ops.toList.drop tJ) b w') C4 NC w9.bL.ext.size w9.bL.iW (ops.toList.take tJ) 0 (λj aO=>?_) (by simp;exact Eb (by simpa using hle)) ⟨h3,h4,h.b.ext h2 h1 (bS _),ayc⟩ (λjF p q6 hp=> .inl ?_) rfl (λt=>⟨λ⟨j,o,aO,_⟩=>by omega,λ_=>rfl⟩) h5 (λKL zC aRP aqm aQt Xt ahr tn k1 k2 k3 k4=>T7 c8 hg nY _ k3 k4 ((aao.later hl (gQ.refl _ _)).later k1 k2)) h4
     ·have azM:j<tJ:=by simp at aO;omega
      rw[vm,if_pos azM];simp
     ·rw[yD (h.b _ (fZ q6)) h2]at hp;exact w9.bL.lt q6 hp)
    rw[toL]at key;exact apb hm hd key
 |seq x y aBC SH=>
  intro hd n tm bl k G ρ m a w Q h ae af;have Fc:rd=none∨pR x=true:=hd.imp id λh=>by simp only[pR,bA]at h;exact h.1
  have w8:rd=none∨pR y=true:=hd.imp id λh=>by simp only[pR,bA]at h;exact h.2
  refine wpIn_seq (aBC Fc n tm bl _ G ρ m a w _ h ae λx n' ad m' cE bx e7 dW w' h1 h2 h3 h4=>?_);cases x with
  |normal=>exact SH w8 n' cE bx k e7 ad m' dW w' Q h3 h4 (af.later h1 h2)
  |exit id=>exact af (.exit id) n' ad m' cE bx e7 dW w' h1 h2 h3 h4
  |ret=>exact af .ret n' ad m' cE bx e7 dW w' h1 h2 h3 h4
 |cond x y z SH amB=>
  intro hd n tm bl k G ρ m a w Q h ae af;simp only[qj]at ae;have hx:=db h.t x;split at ae
  ·rename_i b hb;rw[hb]at hx;have eB:a.eval x= .bool (b.den ρ):=hx.2;have Fc:rd=none∨pR y=true:=hd.imp id λh=>by simp only[pR,bA]at h;exact h.1
   have w8:rd=none∨pR z=true:=hd.imp id λh=>by simp only[pR,bA]at h;exact h.2
   refine wpIn_cond eB ?_;split at ae
   ·rename_i v;cases v with
    |true=>simp only[cond_true]at ae;exact SH Fc n tm bl k G ρ m a w Q h ae af
    |false=>simp only[cond_false]at ae;exact amB w8 n tm bl k G ρ m a w Q h ae af
   ·simp only[T.holds]at ae;cases hd:bH.den ρ b with
    |true=>exact SH Fc n _ bl k G ρ m a w Q ⟨Ll hd h.t,h.d,h.b,h.bL⟩ (ae.1 (by simpa using hd)) af
    |false=>exact amB w8 n _ bl k G ρ m a w Q ⟨Ll hd h.t,h.d,h.b,h.bL⟩ (ae.2 (by simpa using hd)) af
  ·exact ae.elim
 |block id x ih=>
  intro hd n tm bl k G ρ m a w Q h ae af;refine wpIn_block (ih hd n tm bl _ G ρ m a w _ h ae λx n' ad m' cE bx e7 dW w' h1 h2 h3 h4=>?_);cases x with
  |normal=>exact af .normal n' ad m' cE bx e7 dW w' h1 h2 h3 h4
  |ret=>exact af .ret n' ad m' cE bx e7 dW w' h1 h2 h3 h4
  |exit Fp=>
   simp only at h4;simp only[X.to,Exit.inBlock];cases hb:aR Fp id with
   |true=>
    simp only[hb,cond_true]at h4;rw[if_pos (bV hb)];exact af .normal n' ad m' cE bx e7 dW w' h1 h2 h3 h4
   |false=>
    simp only[hb,cond_false]at h4;rw[if_neg (λe=>by subst e;rw[show aR Fp Fp=true from IX Fp]at hb;cases hb)];exact af (.exit Fp) n' ad m' cE bx e7 dW w' h1 h2 h3 h4
 |loop x ih=>
  intro hd n tm bl k G ρ m a w Q h ae af;simp only[qj]at ae;split at ae
  ·exact aCP (c:=x) hd ih h ae af
  ·exact wpIn_loop_rounds rounds (apl (c:=x) hd ih rounds h ae af)
 |_=>intro hd n tm bl k G ρ m a w Q h ae af;exact ae.elim
def Ih (a:Act):ResultVar->Sem a6
 | .tmp t=>V9 (a.tmps.getD t undef)
 | .cell x t=>do loadVar t (<-asAddr (a.tmps.getD x undef))
theorem aJs {n:Nat} {ρ:Env} {m:Nat->Nat} {bl:List aH} {tm:List V} {a:Act} {w:aC} {r:ResultVar} {u:W} (hg:gJ gl w0) (h:R w0 n ρ m tm bl a w) (hr:PQ P gl bl tm r=some u):
 u.ok n bl.length ρ/\(Ih a r).run P w= .ok (u.den ρ m) w:=by
 cases r with
 |tmp t=>
  simp only[PQ]at hr;cases aA:tm[t]? with
  |none=>simp[aA]at hr
  |some v=>
   obtain⟨h1,x,h2,h3⟩:=h.t.2 t v aA;simp only[aA]at hr;cases v with
   |w aLQ=>
    simp only[bp]at hr;subst hr;refine⟨h1,?_⟩;have:a.tmps.getD t undef=aLQ.den ρ m:=by simp[h2];exact h3
    simp only[Ih,this];rfl
   |_=>simp at hr
 |cell x t=>
  simp only[PQ]at hr;cases aA:tm[x]? with
  |none=>simp[aA]at hr
  |some v=>
   obtain⟨h1,y,h2,h3⟩:=h.t.2 x v aA;simp only[aA]at hr;cases v with
   |jG l=>simp at hr
   |any=>simp at hr
   |td _ _ _=>simp at hr
   |tB _ _=>simp at hr
   |w q=>
    cases q with
    |agg l=>simp at hr
    |one p=>
     simp only at hr;have hy:a.tmps.getD x undef=p.den ρ m:=by simp[h2];exact h3
     cases hc:Js bl gl p with
     |none=>simp[hc]at hr
     |some cs=>
      obtain⟨g,o,hp,b2,hcell⟩:=Y4 h.bL h.b hg hc;simp only[Ih,hy,hp];cases rX:lu P t with
      |none=>simp[hc,rX]at hr
      |some b=>
       cases b with
       |true=>
        cases hs:hq P t with
        |none=>simp[hc,rX,hs]at hr
        |some k=>
         simp only[hc,rX,hs]at hr;cases af:cJ k cs.length with
         |false=>simp[af]at hr
         |true=>
          simp only[af,cond_true,bp]at hr;subst hr;have af:=gY af;refine⟨λa h=>b2 a (nJ h),?_⟩;have hl:=Qr (P:=P) w ⟨g,o,none⟩ ((cs.take k).map (A.den ρ m)) λj v aO=>by
           rw[lb];rw[rC]at aO;cases ai:(cs.take k)[j]? with
           |none=>simp[ai]at aO
           |some a=>
            simp only[ai,AY,bp]at aO;subst aO;refine hcell j a ?_;rw[vm]at ai;split at ai
            ·exact ai
            ·cases ai
          simp only[qQ,p6,Eb af]at hl;simp[asAddr,loadVar,ug rX,kH hs,hl,W.den]
       |false=>
        cases cs with
        |nil=>simp[hc,rX]at hr
        |cons z r=>
         simp only[hc,rX,bp]at hr;subst hr;refine⟨b2 z (by simp),?_⟩;have:=hcell 0 z rfl;simp only[pv]at this;simp[asAddr,loadVar,ug rX,this,W.den]
theorem aph {n:Nat} {ρ:Env} {m:Nat->Nat} {bl:List aH} {tm:List V} {a:Act} {w:aC} (hg:gJ gl w0) (h:R w0 n ρ m tm bl a w):∀{rs:List ResultVar} {l:List W},Ii P gl bl tm rs=some l->
 (∀u∈l,W.ok n bl.length ρ u)/\(rs.mapM (m:=Sem) (Ih a)).run P w= .ok (l.map (W.den ρ m)) w
 |[],l,hr=>by simp[Ii]at hr;subst hr;exact⟨by simp,by simp⟩
 |r::s,l,hr=>by
  simp only[Ii]at hr;cases h1:PQ P gl bl tm r with
  |none=>simp[h1]at hr
  |some u=>
   cases h2:Ii P gl bl tm s with
   |none=>simp[h1,h2]at hr
   |some l'=>
    simp only[h1,h2,bp]at hr;subst hr;have ar:=aJs hg h h1;have aG:=aph hg h h2;refine⟨λx hx=>by rcases List.mem_cons.1 hx with rfl|hx;exact ar.1;exact aG.1 x hx,?_⟩;rw[List.mapM_cons,jV];simp only[ar.2,aG.2,kg,jV,lH,dk]
theorem ad3 {fn:Func} {n:Nat} {ρ:Env} {m:Nat->Nat} {bl:List aH} {tm:List V} {a:Act} {w:aC} {k:RK} {G:ft} (hg:gJ gl w0) (h:R w0 n ρ m tm bl a w) (ae:(PN P gl fn n tm bl k).holds S L G ρ):
 ∃v val,V.ok n bl.length ρ v/\v.rel ρ m val/\(results fn a.tmps).run P w= .ok val w/\(k n v bl).holds S L G ρ:=by
 unfold PN at ae;cases hr:Ii P gl bl tm fn.results.toList with
 |none=>
  simp only[hr]at ae;cases aw:adm tm fn.results.toList with
  |none=>simp[aw,T.holds]at ae
  |some v=>
   simp only[aw]at ae;obtain⟨t,e,hv⟩:∃t,fn.results.toList=[.tmp t]/\tm[t]?=some v:=by
    unfold adm at aw;split at aw
    ·rename_i t he;refine⟨t,he,?_⟩;split at aw<;>first|(cases aw;assumption)|cases aw
    ·cases aw
   obtain⟨h1,x,h2,h3⟩:=h.t.2 t v hv;refine⟨v,x,h1,h3,?_,ae⟩;have pI:fn.results=#[.tmp t]:=by rw[<-m6 (xs:=fn.results),e]
   have ex:a.tmps.getD t undef=x:=by simp[h2]
   have e:results fn a.tmps=(do let vs<-fn.results.mapM (Ih a);V9 (if h:vs.size=1 then vs[0]else .tuple vs)):=by
    unfold results
    congr 1
   rw[e,pI,aOG];simp[jV,Sem.run_map,kg,Ih,h2]
 |some l=>
  obtain⟨h1,h2⟩:=aph hg h hr;have kZ:(results fn a.tmps).run P w= .ok (if h:(l.map (W.den ρ m)).toArray.size=1 then(l.map (W.den ρ m)).toArray[0]else .tuple (l.map (W.den ρ m)).toArray) w:=by
   have e:results fn a.tmps=(do let vs<-fn.results.mapM (Ih a);V9 (if h:vs.size=1 then vs[0]else .tuple vs)):=by
    unfold results
    congr 1
   rw[e,aOG];simp only[jV,Sem.run_map,kg,h2,lH]
  simp only[hr]at ae;split at ae
  ·rename_i u heq;have heq:=iH heq;subst heq;exact⟨.w u,_,h1 u (by simp),rfl,by rw[kZ];simp,ae⟩
  ·rename_i l' dz heq;have heq:=iH heq;subst heq;refine⟨.jG l,_,h1,rfl,?_,ae⟩;rw[kZ,dif_neg];intro hs;simp at hs
   match l,hs,dz with
   |[u],_,dz=>exact dz u rfl
  ·rename_i heq;cases heq
theorem XG {ρ:Env} {m:Nat->Nat}:∀{vs:List V} {xs:List a6},gb ρ m vs xs->vs.length=xs.length
 |[],[],_=>rfl
 |_::_,_::_,h=>by simp[XG h.2]
 |[],_::_,h=>h.elim
 |_::_,[],h=>h.elim
theorem XE {n nb:Nat} {ρ:Env} {m:Nat->Nat} (k:Nat):∀{vs:List V} {xs:List a6},(∀v∈vs,V.ok n nb ρ v)->gb ρ m vs xs->Gn n nb ρ m (vs++K9 k) (xs++fD k undef)
 |[],[],_,_=>by
  simp only[eM];induction k with
  |zero=>trivial
  |succ k ih=>exact⟨by intro x hx;simp at hx,rfl,ih⟩
 |v::r,x::s,h,hr=>⟨h v (by simp),hr.1,XE k (λu hu=>h u (eS _ hu)) hr.2⟩
 |[],_::_,_,h=>h.elim
 |_::_,[],_,h=>h.elim
theorem aja (sY:w0.ds=[]) {li:dD->Nat->Option gz} {rounds:Nat} {inl:mH} (hm:P.follows .mixedOrders=true) (c8:iD S P gl w0 cal) (hg:gJ gl w0) (ih:rI S L w0 P inl):rI S L w0 P (Rb P gl cal inl li rounds):=by
 intro f n vs bl k G ρ m w xs R' hb nx lO hrel ae af;unfold Rb at ae;cases hf:P.funcs[f]? with
 |none=>simp[hf,T.holds]at ae
 |some fn=>
  cases C1:fn.body with
  |none=>simp[hf,C1,T.holds]at ae
  |some c=>
   simp only[hf,C1]at ae;cases hc:(!(fn.name== "runtime.NumGoroutine")&&cJ vs.length fn.ntmps)with
   |false=>simp[hc,T.holds]at ae
   |true=>
    simp only[hc,cond_true]at ae;simp only[bA,Bool.not_eq_true']at hc;have hlen:=XG hrel;refine⟨?_,calls_of_wp hf C1 ?_⟩
    ·have h1:¬fn.name= "runtime.NumGoroutine" :=by have:=hc.1;simpa using this
     simp[callFunc,hf,C1,h1]
    ·have hR:R w0 n ρ m (vs++K9 (fn.ntmps-vs.length)) bl {tmps:=xs.toArray++Cu (fn.ntmps-xs.toArray.size) undef,defers:=[]} w:=by
      refine⟨?_,sY.symm,hb,nx⟩;have:=QX (XE (fn.ntmps-vs.length) lO hrel);have e:(xs++fD (fn.ntmps-vs.length) undef).toArray=xs.toArray++Cu (fn.ntmps-xs.toArray.size) undef:=by
       simp[hlen]
      rw[e]at this;exact this
     refine wpIn_wide.1 (Jv (rd:=none) hm c8 hg ih c (.inl rfl) n _ bl _ G ρ m _ w _ hR ae λx n' ad m' cE bx e7 dW w' h1 h2 h3 h4=>?_);cases x with
     |exit id=>exact h4.elim
     |normal=>
      obtain⟨v,val,b1,bY,dH,h8⟩:=ad3 hg h3 h4;exact⟨h3.d.trans sY,val,dH,af n' v bx e7 ad m' w' val h1 h2 b1 bY h3.b h3.bL h8⟩
     |ret=>
      obtain⟨v,val,b1,bY,dH,h8⟩:=ad3 hg h3 h4;exact⟨h3.d.trans sY,val,dH,af n' v bx e7 ad m' w' val h1 h2 b1 bY h3.b h3.bL h8⟩
theorem YY (sY:w0.ds=[]) {li:dD->Nat->Option gz} {rounds:Nat} (hm:P.follows .mixedOrders=true) (c8:iD S P gl w0 cal) (hg:gJ gl w0):∀d,rI S L w0 P (Mo P gl cal li rounds d)
 |0=>λf n vs bl k G ρ m w xs R' _ _ _ _ ae _=>ae.elim
 |d+1=>aja sY hm c8 hg (YY sY hm c8 hg d)
def x0 (S:Nat->List Int->List Int->Prop) (L:V->Env->Prop) (w0:eV) (P:bU) (bc:qT):Prop:=
 ∀f g,bc f=some g->∀n vs bl k G ρ m w xs R',dg n (qP bl) ρ bl->Mem w0 ρ m bl w->(∀v∈vs,V.ok n bl.length ρ v)->gb ρ m vs xs->(g n vs bl k).holds S L G ρ->Gs S L w0 k n bl.length ρ m G R'->
  (callFunc f xs.toArray).run P w= .ok (.enter f xs.toArray) w/\oq P f xs.toArray w R'
theorem aFA {bc:qT} {inl:mH} (oD:x0 S L w0 P bc) (h:rI S L w0 P inl):rI S L w0 P (adn bc inl):=by
 intro f n vs bl k G ρ m w xs R' h1 h2 h3 h4 h5 h6;unfold adn at h5;cases hf:bc f with
 |none=>rw[hf]at h5;exact h f n vs bl k G ρ m w xs R' h1 h2 h3 h4 h5 h6
 |some g=>rw[hf]at h5;exact oD f g hf n vs bl k G ρ m w xs R' h1 h2 h3 h4 h5 h6
theorem Rr (sY:w0.ds=[]) {bc:qT} {li:dD->Nat->Option gz} {rounds:Nat} (hm:P.follows .mixedOrders=true) (c8:iD S P gl w0 cal) (hg:gJ gl w0) (oD:x0 S L w0 P bc):∀d,rI S L w0 P (Jr bc P gl cal li rounds d)
 |0=>λf n vs bl k G ρ m w xs R' _ _ _ _ ae _=>ae.elim
 |d+1=>aja sY hm c8 hg (aFA oD (Rr sY hm c8 hg oD d))
theorem Mem.extends {b w w':aC} {ρ:Env} {m:Nat->Nat} {bl:List aH} (h:Mem ⟨b,w,λ_=>False,λ_=>False,[]⟩ ρ m bl w'):w.Extends w':=by
 have uN:∀i:Nat,i<w.heap.size->w'.heap[i]?=w.heap[i]?:=λi hi=>h.j1 i hi id;exact⟨h.km,h.mU,h.l8,h.iW,λa ha=>by simp only[pw,uN a.block ha],λa ha=>by simp only[Gd,uN a.block ha],uN⟩
theorem avi {b w:aC} {li:dD->Nat->Option gz} {rounds d:Nat} (hm:P.follows .mixedOrders=true) (c8:iD S P gl ⟨b,w,λ_=>False,λ_=>False,[]⟩ cal) (hg:gJ gl ⟨b,w,λ_=>False,λ_=>False,[]⟩) (f:dD) (n:Nat) (vs:List V) (ρ:Env) (xs:List a6) (he:b.Extends w)
 (lO:∀v∈vs,V.ok n 0 ρ v) (hrel:gb ρ (λ_=>0) vs xs) (ae:(Mo P gl cal li rounds d f n vs [] λn' v _=> .leaf v).holds S (λv ad=>L v ad) (λ_ _=>False) ρ):
 oq P f xs.toArray w λe w'=>∃v ad m val nb,e= .returned val/\v.rel ad m val/\(∃n',V.ok n' nb ad v)/\L v ad/\w.Extends w':=by
 have nx:Mem ⟨b,w,λ_=>False,λ_=>False,[]⟩ ρ (λ_=>0) [] w:=⟨he,rfl,rfl,rfl,bS _,λ_ _ _=>rfl,λi cs t h=>by simp at h,λi sh off code cap kind t h=>by simp at h,λi j p q h=>by simp at h⟩;refine(YY rfl (L:=L) (li:=li) (rounds:=rounds) hm c8 hg d f n vs [] (λn' v _=> .leaf v) (λ_ _=>False) ρ (λ_=>0) w xs _ (λp hp=>by simp at hp) nx lO hrel ae ?_).2;intro n' v bx e7 ad m' w' val h1 h2 h3 h4 h5 h6 h7;exact⟨v,ad,m',val,_,rfl,h4,⟨n',h3⟩,h7,h6.extends⟩
end
end Go.bX
namespace Go.bX
open M
def aV.sym (s:Nat):aV->A
 |int k lo hi=> .int k ⟨.var s,lo,hi⟩
 |str=> .str (.var s)
 |bool=> .bool (.eq (.var s) (.const 1))
inductive D where
 |str
 |int (k:dZ) (lo hi:Int)
 |bool
 |agg (k:dZ) (n:Nat) (lo hi:Int)
 |mix (l:List aV)
 |AQ (l:List UInt8)
 |kF (k:dZ) (c:Int)
def aS (lo hi:Int):Nat->List (Int×Int)
 |0=>[]
 |n+1=>(lo,hi)::aS lo hi n
noncomputable def D.bds:D->List (Int×Int)
 |str=>[(0,tu)]
 |int _ lo hi=>[(lo,hi)]
 |bool=>[(0,1)]
 |agg _ n lo hi=>aS lo hi n
 |mix l=>l.map aV.ia
 |AQ _=>[]
 |kF .. =>[]
def D.num:D->Nat
 |str=>1
 |int .. =>1
 |bool=>1
 |agg _ n _ _=>n
 |mix l=>l.length
 |AQ _=>0
 |kF .. =>0
def D.val:D->List Int->a6
 |str,zs=> .string (iu (cN (zs.getD 0 0)))
 |int k _ _,zs=> .int k (zs.getD 0 0)
 |bool,zs=> .bool (decide (zs.getD 0 0=1))
 |agg k n _ _,zs=> .agg ((zs.take n).map (.int k)).toArray
 |mix l,zs=> .agg (wx aV.val l zs).toArray
 |AQ l,_=> .string (iu (yB l))
 |kF k c,_=> .int k c
def xA (k:dZ) (lo hi:Int):Nat->Nat->List A
 |_,0=>[]
 |s,n+1=> .int k ⟨.var s,lo,hi⟩::xA k lo hi (s+1) n
def KJ:Nat->List aV->List A
 |_,[]=>[]
 |s,c::r=>c.sym s::KJ (s+1) r
def D.sym (s:Nat):D->W
 |str=> .one (.str (.var s))
 |int k lo hi=> .one (.int k ⟨.var s,lo,hi⟩)
 |bool=> .one (.bool (.eq (.var s) (.const 1)))
 |agg k n lo hi=> .agg (xA k lo hi s n)
 |mix l=> .agg (KJ s l)
 |AQ l=> .one (.str (.const (l5 (yB l))))
 |kF k c=> .one (.int k (bT.const c))
noncomputable def aU:List D->List (Int×Int)
 |[]=>[]
 |d::r=>d.bds++aU r
def p1:List D->List Int->List a6
 |[],_=>[]
 |d::r,zs=>d.val zs::p1 r (zs.drop d.num)
def vZ:Nat->List D->List W
 |_,[]=>[]
 |s,d::r=>d.sym s::vZ (s+d.num) r
theorem dn:∀{b:List (Int×Int)} {l:List Int},ay b l->l.length=b.length
 |[],[],_=>rfl
 |_::_,_::_,h=>by simp[dn h.2.2]
 |[],_::_,h=>h.elim
 |_::_,[],h=>h.elim
theorem Ie (lo hi:Int):∀n,(aS lo hi n).length=n
 |0=>rfl
 |n+1=>by simp[aS,Ie lo hi n]
theorem D.Mg (d:D):d.bds.length=d.num:=by cases d<;>simp[D.bds,D.num,Ie]
theorem BI:∀{b b':List (Int×Int)} {l:List Int},ay (b++b') l->ay b (l.take b.length)/\ay b' (l.drop b.length)
 |[],_,_,h=>⟨trivial,h⟩
 |_::_,_,_::_,h=>by
  have ih:=BI h.2.2;exact⟨⟨h.1,h.2.1,ih.1⟩,ih.2⟩
 |_::_,_,[],h=>h.elim
def kr (ρ:Env) (s:Nat) (zs:List Int):Prop:=∀j,j<zs.length->ρ (s+j)=zs.getD j 0
theorem kr.bO (ρ:Env) (s:Nat) (zs:List Int):kr (bO ρ s zs) s zs:=λj aO=>Ln zs s ρ j aO
theorem kr.tail {ρ:Env} {s:Nat} {z:Int} {zs:List Int} (h:kr ρ s (z::zs)):ρ s=z/\kr ρ (s+1) zs:=by
 refine⟨by simpa using h 0 (by simp),λj aO=>?_⟩;have:=h (j+1) (by simpa using aO);rw[show s+1+j=s+(j+1) by omega,this];simp
theorem kr.drop {ρ:Env} {s:Nat} {zs:List Int} (h:kr ρ s zs) (k:Nat):kr ρ (s+k) (zs.drop k):=λj aO=>by
 have:=h (k+j) (by simp at aO;omega);rw[show s+k+j=s+(k+j) by omega,this];simp[I]
theorem ad2 {ρ:Env} {m:Nat->Nat} {N nb:Nat} {k:dZ} {lo hi:Int}:∀(n s:Nat) (zs:List Int),ay (aS lo hi n) (zs.take n)->kr ρ s zs->s+n<=N->
 (∀a∈xA k lo hi s n,A.ok N nb ρ a)/\(xA k lo hi s n).map (A.den ρ m)=(zs.take n).map (.int k)
 |0,s,zs,_,_,_=>by simp[xA]
 |n+1,s,[],h,_,_=>by simp[aS,ay]at h
 |n+1,s,z::zs,h,ha,cB=>by
  have aA:=ha.tail;simp only[aS,mG,ay]at h;obtain⟨h1,h2⟩:=ad2 (m:=m) (nb:=nb) (k:=k) (N:=N) n (s+1) zs h.2.2 aA.2 (by omega);refine⟨λa hm=>?_,by simp only[xA,dk,A.den,U.c6,aA.1,h2,mG]⟩;rcases List.mem_cons.1 hm with rfl|hm
  ·exact⟨U.hQ (by omega),by simp only[U.c6,aA.1];exact h.1,by simp only[U.c6,aA.1];exact h.2.1⟩
  ·exact h1 a hm
theorem aV.P0 {ρ:Env} {m:Nat->Nat} {N nb:Nat} (c:aV) {s:Nat} {z:Int} (h0:c.ia.1<=z) (h1:z<=c.ia.2) (hz:ρ s=z) (cB:s<N):(c.sym s).ok N nb ρ/\(c.sym s).den ρ m=c.val z:=by
 cases c with
 |int k lo hi=>exact⟨⟨U.hQ cB,by simp only[U.c6,hz];exact h0,by simp only[U.c6,hz];exact h1⟩,by simp[aV.sym,aV.val,A.den,U.c6,hz]⟩
 |str=>exact⟨⟨U.hQ cB,by rw[U.c6,hz];exact h0,by rw[U.c6,hz];exact h1⟩,by simp[aV.sym,aV.val,A.den,U.c6,hz]⟩
 |bool=>exact⟨⟨U.hQ cB,U.dK _ _⟩,by simp[aV.sym,aV.val,A.den,bH.den,U.c6,U.bz,hz]⟩
theorem aod {ρ:Env} {m:Nat->Nat} {N nb:Nat}:∀(l:List aV) (s:Nat) (zs:List Int),ay (l.map aV.ia) (zs.take l.length)->kr ρ s zs->s+l.length<=N->
 (∀a∈KJ s l,A.ok N nb ρ a)/\(KJ s l).map (A.den ρ m)=wx aV.val l zs
 |[],s,zs,_,_,_=>by simp[KJ]
 |_::_,s,[],h,_,_=>by simp[ay]at h
 |c::r,s,z::zs,h,ha,cB=>by
  have aA:=ha.tail;simp only[dk,kJ,mG,ay]at h;obtain⟨h1,h2⟩:=aod (m:=m) (nb:=nb) (N:=N) r (s+1) zs h.2.2 aA.2 (by simp at cB;omega);have hc:=c.P0 (m:=m) (nb:=nb) (N:=N) h.1 h.2.1 aA.1 (by simp at cB;omega);refine⟨λa hm=>?_,by simp only[KJ,dk,hc.2,h2,Wa]⟩;rcases List.mem_cons.1 hm with rfl|hm
  ·exact hc.1
  ·exact h1 a hm
theorem D.P0 {ρ:Env} {m:Nat->Nat} {N nb:Nat} (d:D) {s:Nat} {zs:List Int} (h:ay d.bds (zs.take d.num)) (ha:kr ρ s zs) (cB:s+d.num<=N):(d.sym s).ok N nb ρ/\(d.sym s).den ρ m=d.val zs:=by
 cases d with
 |str=>
  cases zs with
  |nil=>simp[D.bds,ay]at h
  |cons z r=>
   have aA:=ha.tail;simp only[D.bds,D.num,mG,ay]at h;simp only[D.num]at cB;exact⟨⟨U.hQ (by omega),by rw[U.c6,aA.1];exact h.1,by rw[U.c6,aA.1];exact h.2.1⟩,by simp[D.sym,W.den,A.den,D.val,U.c6,aA.1]⟩
 |int k lo hi=>
  cases zs with
  |nil=>simp[D.bds,ay]at h
  |cons z r=>
   have aA:=ha.tail;simp only[D.bds,D.num,mG,ay]at h;simp only[D.num]at cB;exact⟨⟨U.hQ (by omega),by simp only[U.c6,aA.1];exact h.1,by simp only[U.c6,aA.1];exact h.2.1⟩,by simp[D.sym,W.den,A.den,D.val,U.c6,aA.1]⟩
 |bool=>
  cases zs with
  |nil=>simp[D.bds,ay]at h
  |cons z r=>
   have aA:=ha.tail;simp only[D.num]at cB;exact⟨⟨U.hQ (by omega),U.dK _ _⟩,by simp[D.sym,W.den,A.den,D.val,bH.den,U.c6,U.bz,aA.1]⟩
 |agg k n lo hi=>
  have:=ad2 (m:=m) (nb:=nb) (k:=k) n s zs h ha cB;exact⟨this.1,by simp only[D.sym,W.den,D.val,this.2]⟩
 |mix l=>
  have:=aod (m:=m) (nb:=nb) l s zs h ha cB;exact⟨this.1,by simp only[D.sym,W.den,D.val,this.2]⟩
 |AQ l=>exact⟨⟨U.dK _ _,by rw[U.bz];exact aB1 l⟩,by simp[D.sym,W.den,A.den,D.val,U.bz,Iu]⟩
 |kF k c=>exact⟨bT.uG _ _ c,by simp[D.sym,W.den,A.den,D.val,bT.const,U.bz]⟩
theorem UY {ρ:Env} {m:Nat->Nat} {N nb:Nat}:∀(ds:List D) {s:Nat} {zs:List Int},ay (aU ds) zs->kr ρ s zs->s+(aU ds).length<=N->(∀u∈vZ s ds,W.ok N nb ρ u)/\(vZ s ds).map (W.den ρ m)=p1 ds zs
 |[],s,zs,_,_,_=>by simp[vZ,p1]
 |d::r,s,zs,h,ha,cB=>by
  have hs:=BI h;rw[D.Mg]at hs;simp only[aU,gx,D.Mg]at cB;have h1:=d.P0 (m:=m) (nb:=nb) hs.1 ha (N:=N) (by omega);have h2:=UY (m:=m) (nb:=nb) (N:=N) r hs.2 (ha.drop d.num) (by omega);exact⟨λu hu=>by rcases List.mem_cons.1 hu with rfl|hu;exact h1.1;exact h2.1 u hu,by simp[vZ,p1,h1.2,h2.2]⟩
def Ij (ds:List D) (s:Nat):V:=match vZ s ds with|[u]=> .w u|l=> .jG l
def oc (ds:List D) (zs:List Int):a6:=match p1 ds zs with|[x]=>x|l=> .tuple l.toArray
def uJ (lo hi:Int) (x:bT):Bool:=decide (lo<=x.lo)&&decide (x.hi<=hi)
def oY (k:dZ) (lo hi:Int):List A->Option (List U)
 |[]=>some []
 | .int bD x::r=>cond (decide (k=bD)&&uJ lo hi x) (match oY k lo hi r with|some l=>some (x.l::l)|none=>none) none
 |_::_=>none
def aV.fit:aV->A->Option U
 |int k lo hi,.int bD x=>cond (decide (k=bD)&&uJ lo hi x) (some x.l) none
 |str,.str l=>some l
 |bool,.bool (.lit b)=>some (.const (cond b 1 0))
 |_,_=>none
def vF:List aV->List A->Option (List U)
 |[],[]=>some []
 |c::r,a::s=>match c.fit a,vF r s with|some x,some l=>some (x::l)|_,_=>none
 |_,_=>none
def G8:D->V->Option (List U)
 | .int k lo hi,.w (.one (.int bD x))=>cond (decide (k=bD)&&uJ lo hi x) (some [x.l]) none
 | .agg k n lo hi,.w (.agg l)=>cond (aR l.length n) (oY k lo hi l) none
 | .mix l,.w (.agg s)=>vF l s
 | .str,.w (.one (.str l))=>some [l]
 | .bool,.w (.one (.bool (.lit b)))=>some [.const (cond b 1 0)]
 | .AQ l,.w (.one (.str x))=>match x.e4 with|some c=>cond (decide (c=l5 (yB l))) (some []) none|none=>none
 | .kF k c,.w (.one (.int bD x))=>match x.l.e4 with|some d=>cond (decide (k=bD)&&decide (d=c)) (some []) none|none=>none
 |_,_=>none
def uK:List D->List V->Option (List U)
 |[],[]=>some []
 |d::r,v::s=>match G8 d v,uK r s with|some a,some b=>some (a++b)|_,_=>none
 |_,_=>none
theorem MK {n:Nat} {ρ:Env} {lo hi:Int} {x:bT} (h:uJ lo hi x=true) (hx:x.ok n ρ):lo<=x.l.den ρ/\x.l.den ρ<=hi:=by
 simp only[uJ,bA,decide_eq_true_eq]at h;have:=hx.2;omega
theorem RS {n nb:Nat} {ρ:Env} {m:Nat->Nat} {k:dZ} {lo hi:Int}:∀{l:List A} {r:List U},oY k lo hi l=some r->(∀a∈l,A.ok n nb ρ a)->r.length=l.length/\ay (aS lo hi l.length) (r.map (·.den ρ))/\l.map (A.den ρ m)=(r.map (·.den ρ)).map (.int k)
 |[],r,h,_=>by simp[oY]at h;subst h;exact⟨rfl,trivial,rfl⟩
 | .int bD x::s,r,h,b2=>by
  simp only[oY]at h;cases hc:(decide (k=bD)&&uJ lo hi x)with
  |false=>simp[hc]at h
  |true=>
   simp only[hc,cond_true]at h;simp only[bA,decide_eq_true_eq]at hc;cases hr:oY k lo hi s with
   |none=>simp[hr]at h
   |some r'=>
    simp only[hr,bp]at h;subst h;obtain⟨h1,h2,h3⟩:=RS (m:=m) hr λa ha=>b2 a (eS _ ha);have hx:x.ok n ρ:=b2 (.int bD x) (by simp);have hf:=MK hc.2 hx;exact⟨by simp[h1],⟨hf.1,hf.2,h2⟩,by simp only[dk,h3,A.den,hc.1]⟩
 | .bool _::_,_,h,_=>by simp[oY]at h
 | .ptr .. ::_,_,h,_=>by simp[oY]at h
 | .rp .. ::_,_,h,_=>by simp[oY]at h
 | .gptr .. ::_,_,h,_=>by simp[oY]at h
 | .slc .. ::_,_,h,_=>by simp[oY]at h
 | .con _::_,_,h,_=>by simp[oY]at h
 | .str _::_,_,h,_=>by simp[oY]at h
theorem aV.awR {n nb:Nat} {ρ:Env} {m:Nat->Nat} {c:aV} {a:A} {l:U} (h:c.fit a=some l) (b2:a.ok n nb ρ):(c.ia.1<=l.den ρ/\l.den ρ<=c.ia.2)/\a.den ρ m=c.val (l.den ρ):=by
 unfold aV.fit at h;split at h
 ·rename_i k lo hi bD x;cases hc:(decide (k=bD)&&uJ lo hi x)with
  |false=>simp[hc]at h
  |true=>
   simp only[hc,cond_true,bp]at h;subst h;simp only[bA,decide_eq_true_eq]at hc;exact⟨MK hc.2 b2,by simp only[A.den,aV.val,hc.1]⟩
 ·simp only[bp]at h;subst h;exact⟨b2.2,rfl⟩
 ·rename_i b;simp only[bp]at h;subst h;cases b<;>simp[aV.ia,aV.val,A.den,bH.den,U.bz]
 ·cases h
theorem akt {n nb:Nat} {ρ:Env} {m:Nat->Nat}:∀{d:List aV} {l:List A} {r:List U},vF d l=some r->(∀a∈l,A.ok n nb ρ a)->r.length=d.length/\ay (d.map aV.ia) (r.map (·.den ρ))/\l.map (A.den ρ m)=wx aV.val d (r.map (·.den ρ))
 |[],[],r,h,_=>by simp[vF]at h;subst h;exact⟨rfl,trivial,rfl⟩
 |c::d,a::s,r,h,b2=>by
  simp only[vF]at h;cases hx:c.fit a with
  |none=>simp[hx]at h
  |some x=>
   cases hr:vF d s with
   |none=>simp[hx,hr]at h
   |some r'=>
    simp only[hx,hr,bp]at h;subst h;obtain⟨h1,h2,h3⟩:=akt (m:=m) hr λa ha=>b2 a (eS _ ha);have hf:=aV.awR (m:=m) hx (b2 a (by simp));exact⟨by simp[h1],⟨hf.1.1,hf.1.2,h2⟩,by simp only[dk,h3,hf.2,Wa]⟩
 |[],_::_,_,h,_=>by simp[vF]at h
 |_::_,[],_,h,_=>by simp[vF]at h
theorem aqe {n:Nat} {ρ:Env} {l:List UInt8} {x:U} {c:Int} (hc:x.e4=some c) (h:c=l5 (yB l)):cN (x.den ρ)=yB l:=by rw[U.lp hc,h,Iu]
theorem akq {n nb:Nat} {ρ:Env} {m:Nat->Nat} {d:D} {v:V} {r:List U} {x:a6} (h:G8 d v=some r) (b2:v.ok n nb ρ) (hx:v.rel ρ m x):r.length=d.num/\ay d.bds (r.map (·.den ρ))/\∀zs,d.val ((r.map (·.den ρ))++zs)=x:=by
 unfold G8 at h;split at h
 ·rename_i k lo hi bD y;cases hc:(decide (k=bD)&&uJ lo hi y)with
  |false=>simp[hc]at h
  |true=>
   simp only[hc,cond_true,bp]at h;subst h;simp only[bA,decide_eq_true_eq]at hc;have hf:=MK hc.2 b2;simp only[V.rel,W.den,A.den]at hx;exact⟨rfl,⟨hf.1,hf.2,trivial⟩,λzs=>by simp[D.val,hx,hc.1]⟩
 ·rename_i k n' lo hi l;cases hc:aR l.length n' with
  |false=>simp[hc]at h
  |true=>
   simp only[hc,cond_true]at h;have hl:=bV hc;subst hl;obtain⟨h1,h2,h3⟩:=RS (m:=m) h b2;simp only[V.rel,W.den]at hx;exact⟨h1,h2,λzs=>by rw[hx,h3];simp only[D.val];rw[Qs (by simp[h1]),oo (by simp[h1])]⟩
 ·rename_i l s;obtain⟨h1,h2,h3⟩:=akt (m:=m) h b2;simp only[V.rel,W.den]at hx;refine⟨h1,h2,λzs=>?_⟩;rw[hx,h3];simp only[D.val]
  congr 2
  have key:∀(a:List aV) (b c:List Int),b.length=a.length->wx aV.val a (b++c)=wx aV.val a b:=by
   intro a;induction a with
   |nil=>intro b c _;simp
   |cons p a ih=>
    intro b c hb;cases b with
    |nil=>simp at hb
    |cons z b=>simp[ih b c (by simpa using hb)]
  exact key _ _ _ (by simp[h1])
 ·rename_i l;simp only[bp]at h;subst h;simp only[V.rel,W.den,A.den]at hx;exact⟨rfl,⟨b2.2.1,b2.2.2,trivial⟩,λzs=>by rw[hx];rfl⟩
 ·rename_i b;simp only[bp]at h;subst h;simp only[V.rel,W.den,A.den,bH.den]at hx;cases b<;>exact⟨rfl,by simp[D.bds,ay,U.bz],λzs=>by rw[hx];simp[D.val,U.bz]⟩
 ·rename_i l y;cases hc:y.e4 with
  |none=>simp[hc]at h
  |some c=>
   simp only[hc]at h;cases hd:decide (c=l5 (yB l))with
   |false=>simp[hd]at h
   |true=>
    simp only[hd,cond_true,bp]at h;subst h;have hd:c=l5 (yB l):=by simpa using hd
    refine⟨rfl,trivial,λzs=>?_⟩;have hx:x= .string (iu (cN (y.den ρ))):=hx;rw[hx,aqe (n:=n) hc hd];rfl
 ·rename_i k c bD y;cases hc:y.l.e4 with
  |none=>simp[hc]at h
  |some d=>
   simp only[hc]at h;cases hd:(decide (k=bD)&&decide (d=c))with
   |false=>simp[hd]at h
   |true=>
    simp only[hd,cond_true,bp]at h;subst h;simp only[bA,decide_eq_true_eq]at hd;refine⟨rfl,trivial,λzs=>?_⟩;have hx:x= .int bD (y.l.den ρ):=hx;rw[hx,U.lp hc,<-hd.1,hd.2];rfl
 ·cases h
theorem RV {n nb:Nat} {ρ:Env} {m:Nat->Nat}:∀{ds:List D} {vs:List V} {r:List U} {xs:List a6},uK ds vs=some r->(∀v∈vs,V.ok n nb ρ v)->gb ρ m vs xs->ay (aU ds) (r.map (·.den ρ))/\p1 ds (r.map (·.den ρ))=xs
 |[],[],r,[],h,_,_=>by simp[uK]at h;subst h;exact⟨trivial,rfl⟩
 |d::ds,v::vs,r,x::xs,h,b2,hr=>by
  simp only[uK]at h;cases h1:G8 d v with
  |none=>simp[h1]at h
  |some a=>
   cases h2:uK ds vs with
   |none=>simp[h1,h2]at h
   |some b=>
    simp only[h1,h2,bp]at h;subst h;obtain⟨b1,bY,dH⟩:=akq (m:=m) h1 (b2 v (by simp)) hr.1;obtain⟨a1,bB⟩:=RV h2 (λu hu=>b2 u (eS _ hu)) hr.2;refine⟨by rw[jd];exact nA bY a1,?_⟩;rw[jd];simp only[p1,dH];rw[show d.num=(a.map (·.den ρ)).length by simp[b1],Ge,bB]
 |[],_::_,_,_,h,_,_=>by simp[uK]at h
 |_::_,[],_,_,h,_,_=>by simp[uK]at h
 |[],[],_,_::_,_,_,hr=>hr.elim
 |_::_,_::_,_,[],_,_,hr=>hr.elim
structure br where
 f:dD
 id:Nat
 args:List D
 res:List D
def br.bu (P:bU) (wb:aC) (c:br) (spec:List Int->List Int->Prop):Prop:=
 (∀args w,(callFunc c.f args).run P w= .ok (.enter c.f args) w)/\
 ∀zs,ay (aU c.args) zs->∃rs,ay (aU c.res) rs/\spec zs rs/\∀w,wb.Extends w->oq P c.f (p1 c.args zs).toArray w λe w'=>e= .returned (oc c.res rs)/\w.Extends w'
noncomputable def ZO (d:D) (v:V):M (List U):=
 match d,v with
 | .bool,.w (.one (.bool e))=>bind (HD e) λl=>pure [l]
 | .mix l,.w (.agg s)=>Im l s
 | .int k lo hi,.w (.one (.int bD x))=>cond (decide (k=bD)) (cond (uJ lo hi x) (pure [x.l]) (bind (js 39 [x.l,.const lo,.const hi]) λ_=>pure [x.l])) fail
 |d,v=>match G8 d v with|some r=>pure r|none=>fail
noncomputable def RU:List D->List V->M (List U)
 |[],[]=>pure []
 |d::r,v::s=>bind (ZO d v) λa=>bind (RU r s) λb=>pure (a++b)
 |_,_=>fail
noncomputable def br.M (c:br):List aH->List V->M V:=λ_ vs n k=>
 match uK c.args vs with
 |some l=> .call c.id l n (aU c.res) (k (Ij c.res n) (n+(aU c.res).length))
 |none=>RU c.args vs n λl n=> .call c.id l n (aU c.res) (k (Ij c.res n) (n+(aU c.res).length))
section
variable {S:Nat->List Int->List Int->Prop} {L:V->Env->Prop}
theorem ZN {k:dZ} {lo hi:Int} {n nb:Nat} {ρ:Env}:∀{l:List A} {r:List U},oY k lo hi l=some r->(∀a∈l,A.ok n nb ρ a)->∀x∈r,U.bM n x
 |[],r,h,_=>by simp[oY]at h;subst h;intro x hx;simp at hx
 |a::s,r,h,b2=>by
  cases a with
  |int bD x=>
   simp only[oY]at h;cases hc:(decide (k=bD)&&uJ lo hi x)with
   |false=>simp[hc]at h
   |true=>
    cases hr:oY k lo hi s with
    |none=>simp[hc,hr]at h
    |some r'=>
     simp only[hc,hr,cond_true,bp]at h;subst h;intro y hy;rcases List.mem_cons.1 hy with hy|hy
     ·rw[hy];have h0:A.ok n nb ρ (.int bD x):=b2 _ (List.mem_cons_self ..);have h0:x.ok n ρ:=h0;exact h0.1
     ·exact ZN hr (λa ha=>b2 a (eS _ ha)) y hy
  |_=>simp[oY]at h
theorem aks {n nb:Nat} {ρ:Env}:∀{d:List aV} {l:List A} {r:List U},vF d l=some r->(∀a∈l,A.ok n nb ρ a)->∀x∈r,U.bM n x
 |[],[],r,h,_=>by simp[vF]at h;subst h;intro x hx;simp at hx
 |c::d,a::s,r,h,b2=>by
  simp only[vF]at h;cases hx:c.fit a with
  |none=>simp[hx]at h
  |some x=>
   cases hr:vF d s with
   |none=>simp[hx,hr]at h
   |some r'=>
    simp only[hx,hr,bp]at h;subst h;intro y hy;rcases List.mem_cons.1 hy with hy|hy
    ·subst hy;have h0:=b2 a (by simp);unfold aV.fit at hx;split at hx
     ·rename_i k lo hi bD z;cases hc:(decide (k=bD)&&uJ lo hi z)with
      |false=>simp[hc]at hx
      |true=>
       simp only[hc,cond_true,bp]at hx;subst hx;have h0:z.ok n ρ:=h0;exact h0.1
     ·simp only[bp]at hx;subst hx;exact h0.1
     ·simp only[bp]at hx;subst hx;exact U.dK _ _
     ·cases hx
    ·exact aks hr (λa ha=>b2 a (eS _ ha)) y hy
 |[],_::_,_,h,_=>by simp[vF]at h
 |_::_,[],_,h,_=>by simp[vF]at h
theorem awV {n nb:Nat} {ρ:Env} {d:D} {v:V} {r:List U} (h:G8 d v=some r) (b2:v.ok n nb ρ):∀x∈r,U.bM n x:=by
 unfold G8 at h;split at h
 ·rename_i k lo hi bD y;cases hc:(decide (k=bD)&&uJ lo hi y)with
  |false=>simp[hc]at h
  |true=>
   simp only[hc,cond_true,bp]at h;subst h;have h0:y.ok n ρ:=b2;intro x hx;simp at hx;subst hx;exact h0.1
 ·rename_i k n' lo hi l;cases hc:aR l.length n' with
  |false=>simp[hc]at h
  |true=>
   simp only[hc,cond_true]at h;exact ZN h b2
 ·exact aks h b2
 ·simp only[bp]at h;subst h;intro x hx;simp at hx;subst hx;exact b2.1
 ·simp only[bp]at h;subst h;intro x hx;simp at hx;subst hx;exact U.dK _ _
 ·rename_i l y;cases hc:y.e4 with
  |none=>simp[hc]at h
  |some c=>
   simp only[hc]at h;cases hd:decide (c=l5 (yB l))with
   |false=>simp[hd]at h
   |true=>
    simp only[hd,cond_true,bp]at h;subst h;intro x hx;simp at hx
 ·rename_i k c bD y;cases hc:y.l.e4 with
  |none=>simp[hc]at h
  |some d=>
   simp only[hc]at h;cases hd:(decide (k=bD)&&decide (d=c))with
   |false=>simp[hd]at h
   |true=>
    simp only[hd,cond_true,bp]at h;subst h;intro x hx;simp at hx
 ·cases h
theorem cP.abF:∀{sh:List aV} {zs:List Int},cP sh zs->ay (sh.map aV.ia) zs/\wx aV.val sh zs=eu sh zs
 |[],[],_=>⟨trivial,rfl⟩
 |c::sh,z::zs,h=>⟨⟨h.1.1,h.1.2,(cP.abF h.2).1⟩,by simp[eu,(cP.abF h.2).2]⟩
 |[],_::_,h=>h.elim
 |_::_,[],h=>h.elim
theorem ar6 {f:aV->Int->a6}:∀(a:List aV) (b c:List Int),b.length=a.length->wx f a (b++c)=wx f a b
 |[],b,c,_=>by simp
 |_::a,[],c,h=>by simp at h
 |_::a,z::b,c,h=>by simp[ar6 a b c (by simpa using h)]
theorem awT {d:D} {v:V} {X:a6} {n nb:Nat} {ρ:Env} {m:Nat->Nat} (hv:v.ok n nb ρ) (bZ:v.rel ρ m X):aB S L (ZO d v) n ρ λad n' ls=>(∀x∈ls,U.bM n' x)/\ls.length=d.num/\ay d.bds (ls.map (·.den ad))/\∀zs,d.val ((ls.map (·.den ad))++zs)=X:=by
 unfold ZO;split
 ·rename_i e;have bZ:X= .bool (e.den ρ):=bZ;exact SL.bind λbg bk l hn ha ⟨g1,g2,g3⟩=>aB.pure ⟨λx hx=>by simp at hx;subst hx;exact g1,rfl,⟨g2.1,g2.2,trivial⟩,λzs=>by rw[bZ,g3];rfl⟩
 ·rename_i l s;have bZ:X= .agg (s.map (A.den ρ m)).toArray:=bZ;refine(PR (nb:=nb) (m:=m) hv).mono λbg bk ls hn ha ⟨g1,g2,g3⟩=>?_;have h1:=cP.abF g2;have h2:=g2.len;refine⟨g1,by simpa [D.num]using h2,h1.1,λzs=>?_⟩;rw[bZ,<-g3,<-h1.2];simp only[D.val];rw[ar6 _ _ _ (by simpa using h2)]
 ·rename_i k lo hi bD x;have bZ:X= .int bD (x.l.den ρ):=bZ;have hv:x.ok n ρ:=hv;refine eX λaf=>?_;have af:=of_decide_eq_true af;subst af;cases hf:uJ lo hi x with
  |true=>
   have:=MK hf hv;exact aB.pure ⟨λy hy=>by simp at hy;subst hy;exact hv.1,rfl,⟨this.1,this.2,trivial⟩,λzs=>by rw[bZ];rfl⟩
  |false=>
   refine ln λhc=>aB.pure ?_;simp only[dk,gZ,az,U.bz]at hc;exact⟨λy hy=>by simp at hy;subst hy;exact hv.1,rfl,⟨hc.1,hc.2,trivial⟩,λzs=>by rw[bZ];rfl⟩
 ·split
  ·rename_i hf;obtain⟨b1,bY,dH⟩:=akq (m:=m) hf hv bZ;exact aB.pure ⟨awV hf hv,b1,bY,dH⟩
  ·exact aB.fail
theorem gb.ext {n nb:Nat} {ρ ad:Env} {m m':Nat->Nat}:∀{vs:List V} {xs:List a6},gb ρ m vs xs->(∀v∈vs,V.ok n nb ρ v)->agree n ρ ad->(∀b,b<nb->m' b=m b)->gb ad m' vs xs
 |[],[],_,_,_,_=>trivial
 |v::vs,x::xs,h,b2,ha,hm=>⟨V.rel.ext h.1 (b2 v (by simp)) ha hm,gb.ext h.2 (λu hu=>b2 u (eS _ hu)) ha hm⟩
 |[],_::_,h,_,_,_=>h.elim
 |_::_,[],h,_,_,_=>h.elim
theorem akr {nb:Nat} {m:Nat->Nat}:∀{ds:List D} {vs:List V} {xs:List a6} {n:Nat} {ρ:Env},(∀v∈vs,V.ok n nb ρ v)->gb ρ m vs xs->aB S L (RU ds vs) n ρ λad n' ls=>(∀x∈ls,U.bM n' x)/\ay (aU ds) (ls.map (·.den ad))/\p1 ds (ls.map (·.den ad))=xs
 |[],[],[],n,ρ,_,_=>aB.pure ⟨λ_ h=>by simp at h,trivial,rfl⟩
 |d::ds,v::vs,x::xs,n,ρ,b2,hr=>by
  unfold RU;refine(awT (nb:=nb) (b2 v (by simp)) hr.1).bind λbg bk a iM hD ⟨p0,b1,bY,dH⟩=>(akr (ds:=ds) (vs:=vs) (λu hu=>(b2 u (eS _ hu)).ext hD iM (bS _)) (gb.ext hr.2 (λu hu=>b2 u (eS _ hu)) hD (λ_ _=>rfl))).bind λb0 gF b gU eJ ⟨er,a1,bB⟩=>aB.pure ⟨λy hy=>?_,?_,?_⟩
  ·rcases List.mem_append.1 hy with hy|hy
   ·exact(p0 y hy).mono gU
   ·exact er y hy
  ·have e:a.map (·.den b0)=a.map (·.den bg):=kK λy hy=>U.ch eJ (p0 y hy);rw[jd,e];exact nA bY a1
  ·have e:a.map (·.den b0)=a.map (·.den bg):=kK λy hy=>U.ch eJ (p0 y hy);rw[jd,e];simp only[p1,dH];rw[show d.num=(a.map (·.den bg)).length by simp[b1],Ge,bB]
 |[],_::_,_,_,_,_,_=>aB.fail
 |_::_,[],_,_,_,_,_=>aB.fail
 |[],[],_::_,_,_,_,hr=>hr.elim
 |_::_,_::_,[],_,_,_,hr=>hr.elim
end
section
variable {S:Nat->List Int->List Int->Prop} {P:bU} {gl:fO} {w0:eV}
theorem Rs {L:V->Env->Prop} {id:Nat} {l:List U} {n:Nat} {bds:List (Int×Int)} {r:T} {G:ft} {ρ:Env} (h:(T.call id l n bds r).holds S L G ρ) {rs:List Int} (hi:ay bds rs) (hs:S id (l.map (·.den ρ)) rs):r.holds S L G (bO ρ n rs):=
 nh h hi hs
theorem UE {ρ:Env} {m:Nat->Nat} {N nb:Nat} {ds:List D} {s:Nat} {zs:List Int} (h:ay (aU ds) zs) (ha:kr ρ s zs) (cB:s+(aU ds).length<=N):(Ij ds s).ok N nb ρ/\(Ij ds s).rel ρ m (oc ds zs):=by
 have hs:=UY (m:=m) (nb:=nb) ds h ha cB;unfold Ij oc;rw[<-hs.2];split
 ·rename_i u heq;rw[heq]at hs;rw[heq];exact⟨hs.1 u (by simp),rfl⟩
 ·rename_i l dz;refine⟨hs.1,?_⟩;split
  ·rename_i x heq;have:∃u,vZ s ds=[u]:=by
    cases hl:vZ s ds with
    |nil=>rw[hl]at heq;simp at heq
    |cons u r=>
     cases r with
     |nil=>exact⟨u,rfl⟩
     |cons _ _=>rw[hl]at heq;simp at heq
   obtain⟨u,hu⟩:=this;exact absurd hu (dz u)
  ·rfl
def br.A7 (P:bU) (wb:aC) (c:br) (spec:List Int->List Int->Prop):Prop:=
 ∀zs,ay (aU c.args) zs->∃rs,ay (aU c.res) rs/\spec zs rs/\∀w,wb.Extends w->x2 P c.f (p1 c.args zs).toArray w (oc c.res rs)
theorem br.bu.f {wb:aC} {c:br} {spec:List Int->List Int->Prop} (h:c.bu P wb spec):c.A7 P wb spec:=λzs hz=>by
 obtain⟨rs,h1,h2,h3⟩:=h.2 zs hz;exact⟨rs,h1,h2,λw hw=> .inr ⟨h.1 _ _,h3 w hw⟩⟩
theorem br.snd {c:br} {spec:List Int->List Int->Prop} (hc:c.A7 P w0.b spec) (iK:∀zs rs,spec zs rs->S c.id zs rs) (L:V->Env->Prop) (n:Nat) (ρ:Env) (m:Nat->Nat) (bl:List aH) (vs:List V) (xs:List a6)
 (lO:∀v∈vs,V.ok n bl.length ρ v) (hr:gb ρ m vs xs):aB S L (c.M bl vs) n ρ λad n' v=>v.ok n' bl.length ad/\∃val,v.rel ad m val/\∀w,Mem w0 ρ m bl w->x2 P c.f xs.toArray w val:=by
 intro G k af;unfold br.M at af;cases hl:uK c.args vs with
 |none=>
  simp only[hl]at af;obtain⟨bg,bk,l,iM,hD,⟨_,h1,h2⟩,af⟩:=akr (S:=S) (L:=L) (nb:=bl.length) lO hr G _ af;obtain⟨rs,r1,r2,ig⟩:=hc _ h1;have ae:=Rs af r1 (iK _ _ r2);have hlen:=dn r1;have pM:=UE (m:=m) (nb:=bl.length) (N:=bk+(aU c.res).length) r1 (kr.bO bg bk rs) (bS _);refine⟨_,_,_,nK iM (LN _ _),hD.trans (agree.bO rs bk bg) iM,⟨pM.1,_,pM.2,λw hw=>?_⟩,ae⟩;rw[h2]at ig;exact ig w hw.ext
 |some l=>
  simp only[hl]at af;obtain⟨h1,h2⟩:=RV hl lO hr;obtain⟨rs,r1,r2,ig⟩:=hc _ h1;have ae:=Rs af r1 (iK _ _ r2);have hlen:=dn r1;have pM:=UE (m:=m) (nb:=bl.length) (N:=n+(aU c.res).length) r1 (kr.bO ρ n rs) (bS _);refine⟨_,_,_,LN _ _,agree.bO rs n ρ,⟨pM.1,_,pM.2,λw hw=>?_⟩,ae⟩;rw[h2]at ig;exact ig w hw.ext
def acX:List aH->List V->M V:=λ_ vs=>
 match vs with
 |[.w (.one (.int .u64 x)),.w (.one (.int .u64 y))]=>
  cond (decide (0<=x.lo)&&decide (x.hi<18446744073709551616)&&decide (0<=y.lo)&&decide (y.hi<18446744073709551616)) (bind (mulM x y) λp=>bind (Bj p 18446744073709551616) λq=>
   pure (.jG [.one (.int .u64 q),.one (.int .u64 ⟨p.l.sub (q.l.smul 18446744073709551616),0,18446744073709551615⟩)])) fail
 |_=>fail
def Yh:List aH->List V->M V:=λ_ vs=>
 match vs with
 |[.w (.one (.int .u64 x)),.w (.one (.int .u64 y)),.w (.one (.int .u64 c))]=>
  cond (decide (0<=x.lo)&&decide (0<=y.lo)&&decide (0<=c.lo)&&decide (c.hi<=1)) (bind (Bj ⟨(x.l.add y.l).add c.l,x.lo+y.lo+c.lo,x.hi+y.hi+c.hi⟩ 18446744073709551616) λq=>
   pure (.jG [.one (.int .u64 ⟨((x.l.add y.l).add c.l).sub (q.l.smul 18446744073709551616),0,18446744073709551615⟩),.one (.int .u64 q)])) fail
 |_=>fail
def aeU:List aH->List V->M V:=λ_ vs=>
 match vs with
 |[.w (.one (.int .u64 x)),.w (.one (.int .u64 y)),.w (.one (.int .u64 c))]=>
  cond (decide (0<=x.lo)&&decide (x.hi<18446744073709551616)&&decide (0<=y.lo)&&decide (y.hi<18446744073709551616)&&decide (0<=c.lo)&&decide (c.hi<=1)) (bind (Bj ⟨(x.l.sub y.l).sub c.l,x.lo-y.hi-c.hi,x.hi-y.lo-c.lo⟩ 18446744073709551616) λq=>
   pure (.jG [.one (.int .u64 ⟨((x.l.sub y.l).sub c.l).sub (q.l.smul 18446744073709551616),0,18446744073709551615⟩),.one (.int .u64 ⟨q.l.smul (-1),0,1⟩)])) fail
 |_=>fail
def Jc (P:bU) (f:dD):Prop:=∀x y:Int,0<=x->x<18446744073709551616->0<=y->y<18446744073709551616->∀w,x2 P f #[.int .u64 x,.int .u64 y] w (.tuple #[.int .u64 (x*y/18446744073709551616),.int .u64 (x*y% 18446744073709551616)])
def I7 (P:bU) (f:dD):Prop:=∀x y c:Int,0<=x->0<=y->0<=c->c<=1->∀w,x2 P f #[.int .u64 x,.int .u64 y,.int .u64 c] w (.tuple #[.int .u64 ((x+y+c)% 18446744073709551616),.int .u64 ((x+y+c)/18446744073709551616)])
def Jf (P:bU) (f:dD):Prop:=∀x y c:Int,0<=x->x<18446744073709551616->0<=y->y<18446744073709551616->0<=c->c<=1->∀w,x2 P f #[.int .u64 x,.int .u64 y,.int .u64 c] w (.tuple #[.int .u64 ((x-y-c)% 18446744073709551616),.int .u64 (-((x-y-c)/18446744073709551616))])
variable {L:V->Env->Prop} {n:Nat} {ρ:Env} {m:Nat->Nat} {bl:List aH} {vs:List V} {xs:List a6}
theorem anK {x y c:A} (hr:gb ρ m [.w (.one x),.w (.one y),.w (.one c)] xs):xs=[x.den ρ m,y.den ρ m,c.den ρ m]:=by
 match xs,hr with
 |[a,b,d],h=>obtain⟨rfl,rfl,rfl,_⟩:=h;rfl
 |[],h=>exact h.elim
 |[_],h=>exact h.2.elim
 |[_,_],h=>exact h.2.2.elim
 |_::_::_::_::_,h=>exact h.2.2.2.elim
theorem aCQ {x y:A} (hr:gb ρ m [.w (.one x),.w (.one y)] xs):xs=[x.den ρ m,y.den ρ m]:=by
 match xs,hr with
 |[a,b],h=>obtain⟨rfl,rfl,_⟩:=h;rfl
 |[],h=>exact h.elim
 |[_],h=>exact h.2.elim
 |_::_::_::_,h=>exact h.2.2.elim
theorem aDb {f:dD} (hf:Jc P f) (lO:∀v∈vs,V.ok n bl.length ρ v) (hr:gb ρ m vs xs):aB S L (acX bl vs) n ρ λad n' v=>v.ok n' bl.length ad/\∃val,v.rel ad m val/\∀w,Mem w0 ρ m bl w->x2 P f xs.toArray w val:=by
 unfold acX;split
 ·rename_i x y;refine eX λhc=>?_;simp only[bA,decide_eq_true_eq]at hc;have hx:x.ok n ρ:=lO (.w (.one (.int .u64 x))) (by simp);have hy:y.ok n ρ:=lO (.w (.one (.int .u64 y))) (by simp);have CR:=hx.2;have Mj:=hy.2
  refine(acZ hx hy).bind λbg bk p iM hD ⟨hp,ep⟩=>?_;refine(EI (by decide) hp).bind λb0 gF q gU eJ ⟨ai,eq,_⟩=>aB.pure ?_;have Kb:=hp.agree eJ gU;have ZD:p.l.den b0=x.l.den ρ*y.l.den ρ:=by rw[U.ch eJ hp.1,ep]
  have aG:(p.l.sub (q.l.smul 18446744073709551616)).den b0=x.l.den ρ*y.l.den ρ% 18446744073709551616:=by
   rw[U.mu,U.nu,ZD,eq,ep];omega
  refine⟨λu hu=>?_,_,rfl,λw _=>?_⟩
  ·simp at hu;rcases hu with rfl|rfl
   ·exact ai
   ·exact⟨U.xH Kb.1 (U.xG ai.1),by simp only[aG];omega,by simp only[aG];omega⟩
  ·rw[aCQ hr];have:=hf (x.l.den ρ) (y.l.den ρ) (by omega) (by omega) (by omega) (by omega) w;simpa [A.den,W.den,aG,eq,ep]using this
 ·exact aB.fail
theorem at7 {f:dD} (hf:I7 P f) (lO:∀v∈vs,V.ok n bl.length ρ v) (hr:gb ρ m vs xs):aB S L (Yh bl vs) n ρ λad n' v=>v.ok n' bl.length ad/\∃val,v.rel ad m val/\∀w,Mem w0 ρ m bl w->x2 P f xs.toArray w val:=by
 unfold Yh;split
 ·rename_i x y c;refine eX λhc=>?_;simp only[bA,decide_eq_true_eq]at hc;have hx:x.ok n ρ:=lO (.w (.one (.int .u64 x))) (by simp);have hy:y.ok n ρ:=lO (.w (.one (.int .u64 y))) (by simp);have C2:c.ok n ρ:=lO (.w (.one (.int .u64 c))) (by simp);have CR:=hx.2;have Mj:=hy.2;have bc:=C2.2
  have hs:(bT.mk ((x.l.add y.l).add c.l) (x.lo+y.lo+c.lo) (x.hi+y.hi+c.hi)).ok n ρ:=⟨U.y0 (U.y0 hx.1 hy.1) C2.1,by simp only[U.den_add];omega,by simp only[U.den_add];omega⟩;refine(EI (x:=⟨(x.l.add y.l).add c.l,x.lo+y.lo+c.lo,x.hi+y.hi+c.hi⟩) (by decide) hs).bind λb0 gF q gU eJ ⟨ai,eq,_⟩=>aB.pure ?_;have Aj:=hs.agree eJ gU;simp only[U.den_add]at eq;have aG:(((x.l.add y.l).add c.l).sub (q.l.smul 18446744073709551616)).den b0=(x.l.den ρ+y.l.den ρ+c.l.den ρ)% 18446744073709551616:=by
   rw[U.mu,U.nu,U.ch eJ hs.1,U.den_add,U.den_add,eq];omega
  refine⟨λu hu=>?_,_,rfl,λw _=>?_⟩
  ·simp at hu;rcases hu with rfl|rfl
   ·exact⟨U.xH Aj.1 (U.xG ai.1),by simp only[aG];omega,by simp only[aG];omega⟩
   ·exact ai
  ·rw[anK hr];have:=hf (x.l.den ρ) (y.l.den ρ) (c.l.den ρ) (by omega) (by omega) (by omega) (by omega) w;simpa [A.den,W.den,aG,eq]using this
 ·exact aB.fail
theorem aLd {f:dD} (hf:Jf P f) (lO:∀v∈vs,V.ok n bl.length ρ v) (hr:gb ρ m vs xs):aB S L (aeU bl vs) n ρ λad n' v=>v.ok n' bl.length ad/\∃val,v.rel ad m val/\∀w,Mem w0 ρ m bl w->x2 P f xs.toArray w val:=by
 unfold aeU;split
 ·rename_i x y c;refine eX λhc=>?_;simp only[bA,decide_eq_true_eq]at hc;have hx:x.ok n ρ:=lO (.w (.one (.int .u64 x))) (by simp);have hy:y.ok n ρ:=lO (.w (.one (.int .u64 y))) (by simp);have C2:c.ok n ρ:=lO (.w (.one (.int .u64 c))) (by simp);have CR:=hx.2;have Mj:=hy.2;have bc:=C2.2
  have hs:(bT.mk ((x.l.sub y.l).sub c.l) (x.lo-y.hi-c.hi) (x.hi-y.lo-c.lo)).ok n ρ:=⟨U.xH (U.xH hx.1 hy.1) C2.1,by simp only[U.mu];omega,by simp only[U.mu];omega⟩;refine(EI (x:=⟨(x.l.sub y.l).sub c.l,x.lo-y.hi-c.hi,x.hi-y.lo-c.lo⟩) (by decide) hs).bind λb0 gF q gU eJ ⟨ai,eq,_⟩=>aB.pure ?_;have Aj:=hs.agree eJ gU;simp only[U.mu]at eq;have aG:(((x.l.sub y.l).sub c.l).sub (q.l.smul 18446744073709551616)).den b0=(x.l.den ρ-y.l.den ρ-c.l.den ρ)% 18446744073709551616:=by
   rw[U.mu,U.nu,U.ch eJ hs.1,U.mu,U.mu,eq];omega
  have cm:(q.l.smul (-1)).den b0=-((x.l.den ρ-y.l.den ρ-c.l.den ρ)/18446744073709551616):=by
   rw[U.nu,eq];omega
  refine⟨λu hu=>?_,_,rfl,λw _=>?_⟩
  ·simp at hu;rcases hu with rfl|rfl
   ·exact⟨U.xH Aj.1 (U.xG ai.1),by simp only[aG];omega,by simp only[aG];omega⟩
   ·exact⟨U.xG ai.1,by simp only[cm];omega,by simp only[cm];omega⟩
  ·rw[anK hr];have:=hf (x.l.den ρ) (y.l.den ρ) (c.l.den ρ) (by omega) (by omega) (by omega) (by omega) (by omega) (by omega) w;simpa [A.den,W.den,aG,cm]using this
 ·exact aB.fail
end
end Go.bX
