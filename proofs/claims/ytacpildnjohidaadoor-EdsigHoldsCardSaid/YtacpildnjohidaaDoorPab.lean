/- The evaluator's soundness: operations and regions. -/
import Derived.Test.YtacpildnjohidaaDoorPaa
import Derived.Laws.Append
import Derived.Deep.AppendSrc
import Derived.Deep.Upon
import Derived.Laws.MakeOwn
import Derived.Lib.MakeNoZero
import Derived.Laws.Externs
import Derived.KernelRfl
import Derived.Lib.ConvBytes
import Derived.ArgAppend
import Derived.OrdersIn
import Derived.TacticsIn
import Derived.LoopNIn
import Derived.Sort.LoopGhostIn
open Array renaming toArray_toList->lN,toList_map->zG,replicate->Bb,eq_empty_of_size_eq_zero->CN,length_toList->CO,getElem?_eq_getElem->Ni,getElem?_toList->Ns,getElem?_eq_none->RT,ext'->RU,toList_range->Zz,size_append->aja,mapM_eq_mapM_toList->aA9,range->aBJ,getElem?_modify->aBR,getElem?_push_lt->aBT
open Bool renaming and_eq_true->bw,not_true->je,false_eq_true->ym,or_eq_true->CJ
open Classical renaming byContradiction->Zm
open Eq renaming trans->wG
open Function renaming comp->Nh
open Go renaming World->aC,Value->aV,TypeId->bp,Program->bV,FuncId->dt,IntKind->dO,run_underlying->fx,Calls->oD,Operand->rC,setRow_other->Nt,setRow_heap->Nu,run_firstCells_some->RV
open Go.Builtin renaming zeroCells->qd,copy_->zJ,append_->JW,firstCells->JX,lenOf->RW,nextslicecap->ai7,clear_->ajf
open Go.Code renaming region->aB1
open Go.Extern renaming findNext->Zp,find->Zq
open Go.Extern.BytealgMakeNoZero renaming digits->Be,makeNoZero->ZG
open Go.Fence renaming wide->Hf
open Go.Instr renaming sureAddr->qb,loadAt->ss,sliceAt->ue,storeAt->Zy,buildSlice->ai8,alloc->aBO
open Go.Lib renaming bytesWorld->Nw,bytesCells->Nx
open Go.Next renaming value->nJ
open Go.Oper renaming wp->qc,uponIn->aBZ,wpIn_mono->aB0
open Go.Question renaming cut->aBK
open Go.Region renaming wanted->Bd,noSelect->RF
open Go.Result renaming andThen_ok->jv
open Go.Sem renaming run_bind->jg,run_pure->kk
open Go.Value renaming int->zD,slice->Nl
open Go.Value.int renaming injEq->aIc
open Go.World renaming cell?->o3,frozen?->CK,alloc->JY,freeze->RX,alloc_eq->RY,drew->ZH,drew_eq->ajb
open Go.World.Extends renaming refl->sT,drew->RH
open Int renaming le_refl->cW,lt_or_le->od,toNat_natCast->sq,le_trans->CI,natCast_nonneg->JJ
open List renaming getD->U,map_cons->c5,mem_cons_of_mem->eB,mem_of_getElem?->e8,replicate->e9,map_nil->fD,length_append->fQ,range->fY,nil_append->gp,append_nil->gZ,map_append->jf,getD_cons_zero->jH,length_cons->jS,map_congr_left->kD,getD_cons_succ->kS,cons_append->mY,append_assoc->nI,mem_of_mem_take->oc,take_append_drop->o2,take_succ_cons->o4,mem_cons->pD,map_map->p8,length->qa,getElem?_eq_getElem->qJ,length_nil->qL,length_map->qM,take_zero->qN,length_drop->rA,mem_of_mem_drop->rD,getElem?_map->sr,length_take->su,getElem?_take->tw,flatten_cons->uT,take_of_length_le->uU,getElem?_set->uV,zipWith->uW,flatMap_cons->uY,getElem?_cons_zero->wJ,getD_eq_getElem?_getD->yr,getElem?_append_left->zB,eq_nil_of_length_eq_zero->zI,drop_drop->A9,size_toArray->Bc,replicate_succ->CP,drop_left->EN,mem_of_find?_eq_some->Ha,getElem?_append_right->JL,getElem_mem->JR,getElem?_append->Nj,take_append_of_le_length->Nk,mem_or_eq_of_mem_set->Nv,find?_some->RG,zipWith_cons_cons->RL,length_replicate->R2,getElem?_set_ne->Zn,take_length->Zo,ext_getElem?->ZA,getElem?_eq_none->ZB,getElem?_set_self->aiS,getElem?_range->ai6,all_cons->ai9,eq_of_mem_replicate->ajc,drop_append_of_le_length->aBI,flatMap_map->aBN
open List.cons renaming injEq->qK
open Nat renaming beq->aM,le_refl->bO,eq_of_beq_eq_true->bR,ble->cK,blt->dP,le_of_ble_eq_true->fP,le_trans->oE,add_zero->pE,le_succ->tx,zero_add->yk,lt_succ_self->zE,succ_mul->zF,add_mul->zH,mul_one->Ba,min_eq_left->EM,lt_of_lt_of_le->G8,beq_refl->G9,le_add_right->JM,min->JV,mod_lt->Nc,mod_eq_of_lt->Zl,mul_le_mul_right->ZF,mul_le_mul->aiR,le_of_mul_le_mul_right->aBS
open Option renaming isSome_none->yl,map_some->zA,getD_some->EL
open Option.some renaming injEq->bb,inj->jd
open Prod renaming ext->Na
open Prod.mk renaming injEq->eW
open Pure renaming pure->RI
set_option linter.unusedVariables false
set_option linter.unusedSimpArgs false
namespace Go.ch
open M
structure eX (n nb:Nat) (ρ:Env) (m:Nat->Nat) (n' ov:Nat) (aa:Env) (m':Nat->Nat):Prop where
 hn:n<=n'
 ha:agree n ρ aa
 hb:nb<=ov
 hm:∀b,b<nb->m' b=m b
theorem eX.refl (n nb:Nat) (ρ:Env) (m:Nat->Nat):eX n nb ρ m n nb ρ m:=⟨bO _,agree.refl _ _,bO _,λ_ _=>rfl⟩
theorem eX.trans {n nb a1 D9 ff ago:Nat} {ρ aQ bW:Env} {m gW fj:Nat->Nat} (h:eX n nb ρ m a1 D9 aQ gW) (bd:eX a1 D9 aQ gW ff ago bW fj):eX n nb ρ m ff ago bW fj:=
 ⟨oE h.hn bd.hn,h.ha.trans bd.ha h.hn,oE h.hb bd.hb,λb hb=>(bd.hm b (G8 hb h.hb)).trans (h.hm b hb)⟩
def fm (n:Nat) (G eP:e2):Prop:=∀l,l<n->eP l=G l
theorem fm.refl (n:Nat) (G:e2):fm n G G:=λ_ _=>rfl
theorem fm.trans {n n':Nat} {G eP SG:e2} (h:fm n G eP) (bd:fm n' eP SG) (hn:n<=n'):fm n G SG:=λl hl=>(bd l (by omega)).trans (h l hl)
structure R (w0:eG) (n:Nat) (ρ:Env) (m:Nat->Nat) (tm:List V) (bl:List aE) (a:Act) (w:aC):Prop where
 t:eY n bl.length ρ m tm a.tmps
 d:a.defers=w0.ds
 b:cY n bl.length ρ bl
 bF:Mem w0 ρ m bl w
section
variable (S:Nat->List Int->List Int->Prop) (L:V->Env->Prop) (w0:eG)
def nL (k:iI) (n nb:Nat) (ρ:Env) (m:Nat->Nat) (G:e2) (K:Act->aC->Prop):Prop:=
 ∀n' aa m' cC bq eP du w',eX n nb ρ m n' (qa bq) aa m'->fm n G eP->R w0 n' aa m' cC bq du w'->(k n' cC bq).holds S L eP aa->K du w'
def EY (k:RK) (n nb:Nat) (ρ:Env) (m:Nat->Nat) (G:e2) (R':Ending->aC->Prop):Prop:=
 ∀n' v bq eP aa m' w' val,eX n nb ρ m n' (qa bq) aa m'->fm n G eP->V.ok n' bq.length aa v->v.rel aa m' val->cY n' bq.length aa bq->Mem w0 aa m' bq w'->(k n' v bq).holds S L eP aa->R' (.returned val) w'
def rE (P:bV) (inl:m1):Prop:=
 ∀f n vs bl k G ρ m w xs R',cY n (qa bl) ρ bl->Mem w0 ρ m bl w->(∀v∈vs,V.ok n bl.length ρ v)->fb ρ m vs xs->(inl f n vs bl k).holds S L G ρ->EY S L w0 k n bl.length ρ m G R'->
  (callFunc f xs.toArray).run P w= .ok (.enter f xs.toArray) w/\oD P f xs.toArray w R'
end
section
variable {S:Nat->List Int->List Int->Prop} {L:V->Env->Prop} {w0:eG} {P:bV} {gl:fa} {cal:fy} {inl:m1}
theorem nL.later {k:iI} {n nb a1 D9:Nat} {ρ aQ:Env} {m gW:Nat->Nat} {G G1:e2} {K:Act->aC->Prop} (h:nL S L w0 k n nb ρ m G K) (hl:eX n nb ρ m a1 D9 aQ gW) (aU:fm n G G1):nL S L w0 k a1 D9 aQ gW G1 K:=
 λn' aa m' cC bq eP du w' h1 h2 h3 h4=>h n' aa m' cC bq eP du w' (hl.trans h1) (aU.trans h2 hl.hn) h3 h4
def oz (m:Nat->Nat) (nb g:Nat):Nat->Nat:=λb=>if b=nb then g else m b
theorem py {m:Nat->Nat} {nb g b:Nat} (h:b<nb):oz m nb g b=m b:=by simp[oz];omega
theorem p3 (m:Nat->Nat) (nb g:Nat):oz m nb g nb=g:=by simp[oz]
theorem Mem.push {n:Nat} {ρ:Env} {m:Nat->Nat} {bl:List aE} {w:aC} {x:aE} {g:Nat} (h:Mem w0 ρ m bl w) (hb:cY n bl.length ρ bl) (hx:∀a∈x.1,A.ok n bl.length ρ a)
 (h1:cc x.1=true->w0.b.heap.size<=g/\(w0.ex g∨w0.r.heap.size<=g)/\∃r:List aV,(x.2.2=false->r=[])/\w.heap[g]?=some (.cells (x.1.map (A.den ρ m)++r).toArray x.2.1 (0,0)))
 (h2:∀sh off code cap kind,x.1=[.rows sh off code cap kind]->u0 w0 ρ g sh off code cap kind x.2.1 w)
 (h3:∀(i:Nat) (p:aE),bl[i]?=some p->m i=g->(bM ρ p.1<=1/\bM ρ x.1<=1)∨bM ρ p.1=0∨bM ρ x.1=0):
 Mem w0 ρ (oz m bl.length g) (bl++[x]) w:=by
 have hold:∀(i:Nat) (p:aE),(bl++[x])[i]?=some p->(i<bl.length/\bl[i]?=some p)∨(i=bl.length/\p=x):=λi p hi=>by
  rw[Nj]at hi
  split at hi
  ·rename_i ko;exact .inl ⟨ko,hi⟩
  ·have:i=bl.length:=by
    have:=(List.getElem?_eq_some_iff.1 hi).1
    simp at this;omega
   subst this
   simp only[Nat.sub_self,wJ,bb]at hi
   exact .inr ⟨rfl,hi.symm⟩
 refine⟨h.ext,h.jN,h.m6,h.kV,h.gF,h.jB,λi kI t' hi ax=>?_,λi sh off code cap kind t' hi=>?_,λi j p q hi aK he=>?_⟩
 ·rcases hold i _ hi with⟨ko,hi⟩|⟨rfl,ec⟩
  ·obtain⟨g1,oM,r,hr,g2⟩:=h.fT i kI t' hi ax
   rw[py ko]
   refine⟨g1,oM,r,hr,?_⟩
   rw[xz (hb _ (e8 hi)) (agree.refl n ρ) (λb hb=>py hb)]
   exact g2
  ·subst ec
   rw[p3]
   obtain⟨g1,oM,r,hr,g2⟩:=h1 ax
   refine⟨g1,oM,r,hr,?_⟩
   rw[xz hx (agree.refl n ρ) (λb hb=>py hb)]
   exact g2
 ·rcases hold i _ hi with⟨ko,hi⟩|⟨rfl,ec⟩
  ·rw[py ko]
   exact h.rws i sh off code cap kind t' hi
  ·subst ec
   rw[p3]
   exact h2 sh off code cap kind rfl
 ·rcases hold i p hi with⟨ko,BL⟩|⟨rfl,ec⟩<;>rcases hold j q aK with⟨aeP,Lu⟩|⟨rfl,xk⟩
  ·rw[py ko,py aeP]at he
   exact h.inj i j p q BL Lu he
  ·rw[py ko,p3]at he
   subst xk
   exact .inr (h3 i p BL he)
  ·rw[py aeP,p3]at he
   subst ec
   rcases h3 j q Lu he.symm with h|h|h
   ·exact .inr (.inl ⟨h.2,h.1⟩)
   ·exact .inr (.inr (.inr h))
   ·exact .inr (.inr (.inl h))
  ·exact .inl rfl
theorem Mem.alloc {n:Nat} {ρ:Env} {m:Nat->Nat} {bl:List aE} {w:aC} {cs:List A} {t:bp} {ex:List aV} {open_:Bool} (h:Mem w0 ρ m bl w) (hb:cY n bl.length ρ bl) (hc:∀a∈cs,A.ok n bl.length ρ a) (fG:open_=false->ex=[]) (pe:cc cs=true):
 Mem w0 ρ (oz m bl.length w.heap.size) (bl++[(cs,(t,open_))]) (w.alloc (.cells (cs.map (A.den ρ m)++ex).toArray t)):=by
 refine(h.grow ((sT w).alloc _)).push hb hc (λ_=>⟨h.ext.size,.inr h.gF,ex,fG,heap_alloc_new w _⟩) (λsh off code cap kind e=>?_) λi p hi he=>?_
 ·simp only at e
  subst e
  cases pe
 ·by_cases ab:bM ρ p.1=0
  ·exact .inr (.inl ab)
  ·have:=h.lt hi ab;omega
theorem Mem.put {kd:Nat} {ρ:Env} {m:Nat->Nat} {bl:List aE} {w:aC} {b:Nat} {sh:List aN} {off code cap code':I} {t:bp×Bool} {cells row:Array aV} {fz:Nat×Nat} (h:Mem w0 ρ m bl w) (jb:2<=kd) (aX:bl[b]?=some ([.rows sh off code cap kd],t)) (df:0<=cap.den ρ)
 (hr:u0 w0 ρ (m b) sh off code' cap kd t.1 (w.setRow (m b) row)):Mem w0 ρ m (dN bl b ([.rows sh off code' cap kd],t)) (w.setRow (m b) row):=by
 have tF:b<bl.length:=(List.getElem?_eq_some_iff.1 aX).1
 have pP:∀c,bM ρ [.rows sh off c cap kd]=kd:=λc=>vB (by omega) df
 obtain⟨_,hl⟩:=h.rws b sh off code cap kd t aX (by omega)
 obtain⟨_,cells,nq,fz,_,_,h5⟩:=hl df
 obtain⟨_,_,_,_,h1,DM⟩:=h5 jb
 have er:∀(i:Nat) (p:aE),(dN bl b ([.rows sh off code' cap kd],t))[i]?=some p->(i=b/\p=([.rows sh off code' cap kd],t))∨(i≠b/\bl[i]?=some p):=λi p hi=>by
  rw[np,uV]at hi
  split at hi
  ·rename_i hW
   subst hW
   simp only[tF,if_true,bb]at hi
   exact .inl ⟨rfl,hi.symm⟩
  ·rename_i hW;exact .inr ⟨λe=>hW e.symm,hi⟩
 refine⟨h.ext.setRow (m b) _ h1,h.jN,h.m6,h.kV,by simp;exact h.gF,λi hi hx=>?_,λi kI t' hi ax=>?_,λi fX kf code' j8 sL t' hi=>?_,λi j p q hi aK he=>?_⟩
 ·rw[Nt w (m b) i _ (λe=>by
   subst e
   rcases DM with h3|h3
   ·exact hx h3
   ·omega)]
  exact h.jB i hi hx
 ·rcases er i _ hi with⟨rfl,ec⟩|⟨c7,hi⟩
  ·cases ec;cases ax
  ·obtain⟨g1,oM,g2⟩:=h.fT i kI t' hi ax
   exact⟨g1,oM,by rw[Nt w (m b) (m i) _ (λe=>h.ne aX hi (by rw[pP];exact jb) (by rw[oq ax];decide) (λe=>c7 e.symm) (by first|exact e|exact e.symm))];exact g2⟩
 ·rcases er i _ hi with⟨rfl,ec⟩|⟨c7,hi⟩
  ·cases ec;exact hr
  ·exact(h.rws i fX kf _ j8 sL t' hi).grow λab hc=>Nt w (m b) (m i) _ (λe=>h.ne aX hi (by rw[pP];exact jb) (by simp only[vB ab hc];exact ab) (λe=>c7 e.symm) (by first|exact e|exact e.symm))
 ·have ab:∀(i:Nat) (p:aE),(dN bl b ([.rows sh off code' cap kd],t))[i]?=some p->∃dj,bl[i]?=some dj/\bM ρ dj.1=bM ρ p.1:=λi p hi=>by
   rcases er i _ hi with⟨rfl,ec⟩|⟨c7,hi⟩
   ·exact⟨_,aX,by rw[ec];simp only[pP]⟩
   ·exact⟨p,hi,rfl⟩
  obtain⟨dj,hp,ep⟩:=ab i p hi
  obtain⟨e3,ah,eq⟩:=ab j q aK
  rw[<-ep,<-eq]
  exact h.inj i j dj e3 hp ah he
theorem Mem.kill {ρ:Env} {m:Nat->Nat} {bl:List aE} {w:aC} {b k:Nat} {sh:List aN} {off code cap:I} {t:bp×Bool} (h:Mem w0 ρ m bl w) (aX:bl[b]?=some ([.rows sh off code cap k],t)):Mem w0 ρ m (dN bl b ([.rows sh off code cap 0],t)) w:=by
 have tF:b<bl.length:=(List.getElem?_eq_some_iff.1 aX).1
 have er:∀(i:Nat) (p:aE),(dN bl b ([.rows sh off code cap 0],t))[i]?=some p->(i=b/\p=([.rows sh off code cap 0],t))∨(i≠b/\bl[i]?=some p):=λi p hi=>by
  rw[np,uV]at hi
  split at hi
  ·rename_i hW
   subst hW
   simp only[tF,if_true,bb]at hi
   exact .inl ⟨rfl,hi.symm⟩
  ·rename_i hW;exact .inr ⟨λe=>hW e.symm,hi⟩
 have nQ:bM ρ [.rows sh off code cap 0]=0:=by simp[bM]
 refine⟨h.ext,h.jN,h.m6,h.kV,h.gF,h.jB,λi kI t' hi ax=>?_,λi fX kf code' j8 sL t' hi=>?_,λi j p q hi aK he=>?_⟩
 ·rcases er i _ hi with⟨rfl,ec⟩|⟨c7,hi⟩
  ·cases ec;cases ax
  ·exact h.fT i kI t' hi ax
 ·rcases er i _ hi with⟨rfl,ec⟩|⟨c7,hi⟩
  ·cases ec;exactλab=>absurd rfl ab
  ·exact h.rws i fX kf _ j8 sL t' hi
 ·rcases er i _ hi with⟨rfl,ec⟩|⟨c7,hi⟩
  ·exact .inr (.inr (.inl (by rw[ec];exact nQ)))
  ·rcases er j _ aK with⟨rfl,xk⟩|⟨c7,aK⟩
   ·exact .inr (.inr (.inr (by rw[xk];exact nQ)))
   ·exact h.inj i j p q hi aK he
theorem eX.alloc (n:Nat) (ρ:Env) (m:Nat->Nat) (bl:List aE) (x:aE) (g:Nat):eX n bl.length ρ m n (bl++[x]).length ρ (oz m bl.length g):=
 ⟨bO _,agree.refl _ _,by simp,λb hb=>py hb⟩
theorem cY.alloc {n:Nat} {ρ:Env} {bl:List aE} {cs:List A} {t:bp×Bool} (hb:cY n bl.length ρ bl) (hc:∀a∈cs,A.ok n bl.length ρ a):cY n (bl++[(cs,t)]).length ρ (bl++[(cs,t)]):=by
 intro p hp a ha
 rcases List.mem_append.1 hp with hp|hp
 ·exact(hb p hp a ha).ext (agree.refl n ρ) (bO _) (by simp)
 ·simp at hp;subst hp;exact(hc a ha).ext (agree.refl n ρ) (bO _) (by simp)
theorem R.alloc {n:Nat} {ρ:Env} {m:Nat->Nat} {tm:List V} {bl:List aE} {a:Act} {w:aC} {cs:List A} {t:bp} (h:R w0 n ρ m tm bl a w) (hc:∀x∈cs,A.ok n bl.length ρ x) (dst:Option Tmp) (pe:cc cs=true):
 R w0 n ρ (oz m bl.length w.heap.size) (gx tm dst (.w (.one (.ptr bl.length 0)))) (bl++[(cs,(t,false))]) (a.put dst (.pointer (some ⟨w.heap.size,0,none⟩))) (w.alloc (.cells (cs.map (A.den ρ m)).toArray t)):=by
 have hl:=eX.alloc n ρ m bl (cs,(t,false)) w.heap.size
 have qq:=h.bF.alloc (t:=t) (ex:=[]) (open_:=false) h.b hc (λ_=>rfl) pe
 rw[gZ]at qq
 exact⟨eY.put (h.t.ext hl.ha hl.hn hl.hb hl.hm) dst (by simp[V.ok,W.ok,A.ok]) (by simp[V.rel,W.den,A.den,p3]),by rw[put_defers];exact h.d,h.b.alloc hc,qq⟩
theorem R.row {n:Nat} {ρ:Env} {m:Nat->Nat} {tm:List V} {bl:List aE} {a:Act} {w:aC} {cs:List A} {t:bp} {ex:List aV} {open_:Bool} (h:R w0 n ρ m tm bl a w) (hc:∀x∈cs,A.ok n bl.length ρ x) (fG:open_=false->ex=[]) (pe:cc cs=true) (dst:Option Tmp) {v:V} {x:aV}
 (hv:v.ok n (bl.length+1) ρ) (hx:v.rel ρ (oz m bl.length w.heap.size) x):
 R w0 n ρ (oz m bl.length w.heap.size) (gx tm dst v) (bl++[(cs,(t,open_))]) (a.put dst x) (w.alloc (.cells (cs.map (A.den ρ m)++ex).toArray t)):=by
 have hl:=eX.alloc n ρ m bl (cs,(t,open_)) w.heap.size
 exact⟨eY.put (h.t.ext hl.ha hl.hn hl.hb hl.hm) dst (by simpa using hv) hx,by rw[put_defers];exact h.d,h.b.alloc hc,h.bF.alloc h.b hc fG pe⟩
theorem Mem.storeCells {n:Nat} {ρ:Env} {m:Nat->Nat} {bl:List aE} {w:aC} {b off:Nat} {cs l:List A} {dJ:bp×Bool} (h:Mem w0 ρ m bl w) (hb:cY n bl.length ρ bl) (hl:∀a∈l,A.ok n bl.length ρ a)
 (aX:bl[b]?=some (cs,dJ)) (Aq:off+l.length<=cs.length) (tM:cc cs=true) (te:cc (cs.take off++l++cs.drop (off+l.length))=true):
 ∃w',(Go.storeCells ⟨m b,off,none⟩ (l.map (A.den ρ m))).run P w= .ok () w'/\Mem w0 ρ m (dN bl b (cs.take off++l++cs.drop (off+l.length),dJ)) w':=by
 obtain⟨h1,DM,r,hr,h2⟩:=h.fT b cs dJ aX tM
 have oP:=run_storeCells_at P (m b) off dJ.1 (l.map (A.den ρ m)) 0 (cs.map (A.den ρ m)++r).toArray w h2 (by simp;omega) (λx hx=>by
  obtain⟨a,ha,rfl⟩:=List.mem_map.1 hx
  exact A.QE (hl a ha))
 have P0:∀k,k<=cs.length->(cs.map (A.den ρ m)++r).take k=(cs.take k).map (A.den ρ m)/\(cs.map (A.den ρ m)++r).drop k=(cs.drop k).map (A.den ρ m)++r:=λk ab=>by
  refine⟨?_,?_⟩
  ·rw[Nk (by simpa using ab),List.map_take]
  ·rw[aBI (by simpa using ab),List.map_drop]
 refine⟨w.setRow (m b) ((cs.take off++l++cs.drop (off+l.length)).map (A.den ρ m)++r).toArray,?_,?_⟩
 ·simp only[pE,qM]at oP
  rw[oP]
  congr 3
  simp only[jf,nI]
  rw[(P0 off (by omega)).1,(P0 (off+l.length) (by omega)).2]
 ·have tF:b<bl.length:=(List.getElem?_eq_some_iff.1 aX).1
  have er:∀(i:Nat) (p:aE),(dN bl b (cs.take off++l++cs.drop (off+l.length),dJ))[i]?=some p->(i=b/\p=(cs.take off++l++cs.drop (off+l.length),dJ))∨(i≠b/\bl[i]?=some p):=λi p hi=>by
   rw[np,uV]at hi
   split at hi
   ·rename_i hW
    subst hW
    simp only[tF,if_true,bb]at hi
    exact .inl ⟨rfl,hi.symm⟩
   ·rename_i hW;exact .inr ⟨λe=>hW e.symm,hi⟩
  have pP:bM ρ cs=2:=oq tM
  refine⟨h.ext.setRow (m b) _ h1,h.jN,h.m6,h.kV,by simp;exact h.gF,λi hi hx=>?_,λi kI t' hi ax=>?_,λi sh kf code cap kind t' hi=>?_,λi j p q hi aK he=>?_⟩
  ·rw[Nt w (m b) i _ (λe=>by
    subst e
    rcases DM with h3|h3
    ·exact hx h3
    ·omega)]
   exact h.jB i hi hx
  ·rcases er i _ hi with⟨rfl,ec⟩|⟨c7,hi⟩
   ·cases ec
    exact⟨h1,DM,r,hr,Nu w (m i) _ _ _ _ h2⟩
   ·obtain⟨g1,oM,g2⟩:=h.fT i kI t' hi ax
    exact⟨g1,oM,by rw[Nt w (m b) (m i) _ (λe=>h.ne aX hi (by rw[pP];exact bO 2) (by rw[oq ax];decide) (λe=>c7 e.symm) (by first|exact e|exact e.symm))];exact g2⟩
  ·rcases er i _ hi with⟨rfl,ec⟩|⟨c7,hi⟩
   ·have hi:=(Prod.mk.inj ec).1
    rw[<-hi]at te
    cases te
   ·exact(h.rws i sh kf code cap kind t' hi).grow λab hc=>Nt w (m b) (m i) _ (λe=>h.ne aX hi (by rw[pP];exact bO 2) (by simp only[vB ab hc];exact ab) (λe=>c7 e.symm) (by first|exact e|exact e.symm))
  ·have ab:∀(i:Nat) (p:aE),(dN bl b (cs.take off++l++cs.drop (off+l.length),dJ))[i]?=some p->∃dj,bl[i]?=some dj/\bM ρ dj.1=bM ρ p.1:=λi p hi=>by
    rcases er i _ hi with⟨rfl,ec⟩|⟨c7,hi⟩
    ·exact⟨_,aX,by rw[ec];exact pP.trans (oq te).symm⟩
    ·exact⟨p,hi,rfl⟩
   obtain⟨dj,hp,ep⟩:=ab i p hi
   obtain⟨e3,ah,eq⟩:=ab j q aK
   rw[<-ep,<-eq]
   exact h.inj i j dj e3 hp ah he
theorem Mem.store {n:Nat} {ρ:Env} {m:Nat->Nat} {bl:List aE} {w:aC} {b off:Nat} {cs l:List A} {dJ:bp×Bool} (h:Mem w0 ρ m bl w) (hb:cY n bl.length ρ bl) (hl:∀a∈l,A.ok n bl.length ρ a)
 (aX:bl[b]?=some (cs,dJ)) (Aq:off+l.length<=cs.length) (rR:0<l.length) (tM:cc cs=true) (te:cc (cs.take off++l++cs.drop (off+l.length))=true) (ty:bp) (hs:fO P ty=some l.length) (v:aV) (hv:v.cells=(l.map (A.den ρ m)).toArray):
 ∃w',(Zy ty (.pointer (some ⟨m b,off,none⟩)) v).run P w= .ok () w'/\Mem w0 ρ m (dN bl b (cs.take off++l++cs.drop (off+l.length),dJ)) w':=by
 obtain⟨w',jC,BN⟩:=h.storeCells (P:=P) hb hl aX Aq tM te
 refine⟨w',?_,BN⟩
 simp only[Zy,qb,jg,kk,jv,storeVar,ki hs,hv]
 simp only[Bc,qM,ne_eq,not_true_eq_false,if_false,kk,jv]
 simp only[kk,jv,jC]
theorem kQ (bl:List aE) (b:Nat) (x:aE):(dN bl b x).length=bl.length:=by rw[np];simp
theorem cY.set {n:Nat} {ρ:Env} {bl:List aE} {b:Nat} {cs:List A} {t:bp×Bool} (hb:cY n bl.length ρ bl) (hc:∀a∈cs,A.ok n bl.length ρ a):cY n (dN bl b (cs,t)).length ρ (dN bl b (cs,t)):=by
 intro p hp a ha
 rw[kQ]
 rw[np]at hp
 rcases Nv hp with h|h
 ·exact hb p h a ha
 ·subst h;exact hc a ha
theorem JE {t:bp} {cs:List A} (h:qI P t=some cs):∃i z,P.info? t=some i/\i.zero=some z/\Bw z.cells.toList=some cs:=by
 unfold qI at h
 cases hi:P.info? t with
 |none=>simp[hi]at h
 |some i=>
  cases hz:i.zero with
  |none=>simp[hi,hz]at h
  |some z=>simp only[hi,hz]at h;exact⟨i,z,rfl,hz,h⟩
theorem adP {Z:Array aV} {i:Nat} (h:i<Z.size):Z[i]! =Z[i]:=by simp[h]
theorem av5 {z:List A} {Z:Array aV} {n nb:Nat} {ρ:Env} {m:Nat->Nat} (hz:z.map (A.den ρ m)=Z.toList) (b0:∀a∈z,A.ok n nb ρ a) (h0:0<z.length) (len:Nat):
 (∀a∈ML z len,A.ok n nb ρ a)/\((ML z len).map (A.den ρ m)).toArray=(aBJ (len*Z.size)).map λi=>Z[i% Z.size]! :=by
 have hl:Z.size=z.length:=by have:=congrArg qa hz;simpa using this.symm
 have hi:∀i,i% z.length<z.length:=λi=>Nc _ h0
 refine⟨λa ha=>?_,?_⟩
 ·obtain⟨i,_,rfl⟩:=List.mem_map.1 ha
  rw[qJ (hi i)]
  exact b0 _ (JR _)
 ·apply RU
  rw[zG,Zz]
  simp only[ML,p8,hl]
  refine kD λi _=>?_
  simp only[Nh]
  have h1:i% z.length<Z.size:=by rw[hl];exact hi i
  rw[adP h1,qJ (hi i)]
  simp only[EL]
  have h2:=congrArg (λl=>l[i% z.length]?) hz
  simp only[sr,qJ (hi i),zA]at h2
  rw[Ns,Ni h1]at h2
  simpa using h2
theorem ak7 {t:bp} {len n:Nat} {ρ:Env} {m:Nat->Nat} {bl:List aE} {parts:List (Nat×V)} {vals:Array (Nat×aV)} {cs:List A} {e:bp} (h:T9 P t len parts=some (cs,e)) (hr:NL n bl.length ρ m parts vals.toList):
 (∀a∈cs,A.ok n bl.length ρ a)/\∀w,(ai8 t len vals).run P w= .ok (.slice (some ⟨w.heap.size,0,none⟩) len len) (w.alloc (.cells (cs.map (A.den ρ m)).toArray e)):=by
 unfold T9 at h
 cases h1:j2 P t with
 |none=>simp[h1]at h
 |some da=>
  simp only[h1]at h
  cases h2:fO P da with
  |none=>simp[h2]at h
  |some s=>
   cases h3:qI P da with
   |none=>simp[h2,h3]at h
   |some z=>
    simp only[h2,h3]at h
    cases hc:(aM z.length s&&dP 0 s&&cK (len*s) 16777216)with
    |false=>simp[hc]at h
    |true=>
     simp only[hc,cond_true]at h
     simp only[bw]at hc
     have c1:=bR hc.1.1
     have bK:=vh hc.1.2
     have cy:=fP hc.2
     cases h4:Am (λi=>some (i*s,s)) (ML z len) parts with
     |none=>simp[h4]at h
     |some l=>
      simp only[h4,bb,eW]at h
      obtain⟨rfl,rfl⟩:=h
      obtain⟨inf,o5,hi,jZ,oO⟩:=JE h3
      have tI:=Bx oO n bl.length ρ m
      have Ga:=av5 (Z:=o5.cells) tI.2 tI.1 (by omega) len
      have FP:o5.cells.size=s:=by have:=congrArg qa tI.2;simp at this;omega
      obtain⟨g1,g2⟩:=Pk (m:=m) h4 Ga.1 hr
      refine⟨g1,λw=>?_⟩
      rw[Ga.2,FP]at g2
      have hn:¬(16777216<len*s):=by omega
      by_cases pQ:len=0
      ·subst pQ
       have g3:Instr.fill (λi=>some (i*s,s)) ((aBJ (0*s)).map λi=>(#[]:Array aV)[i% (#[]:Array aV).size]!) vals.toList=some (l.map (A.den ρ m)).toArray:=by
        rw[<-g2];congr 1;simp
       simp[ai8,fx (iT h1),ki h2]at g3⊢
       simp[g3,newRow]
      ·have c7:¬(len*s=0):=by
        intro h0
        rcases Nat.mul_eq_zero.1 h0 with h0|h0<;>omega
       have PO:¬(s=0):=by omega
       simp[ai8,fx (iT h1),ki h2,hn,c7,pQ,PO,zeroValue,typeInfo,hi,jZ,FP,g2,newRow]
theorem aAT {Z:Array aV} {k:Nat} (h:0<Z.size):∃r:List aV,qd Z (k+1)=(Z.toList++r).toArray:=by
 refine⟨(qd Z (k+1)).toList.drop Z.size,?_⟩
 apply RU
 have:(qd Z (k+1)).toList.take Z.size=Z.toList:=by
  apply ZA
  intro i
  rw[tw]
  by_cases hi:i<Z.size
  ·have h1:i<(k+1)*Z.size:=G8 hi (by rw[zF];omega)
   rw[if_pos hi]
   simp only[qd,zG,Zz,sr,ai6 h1,zA,Zl hi]
   rw[adP hi,Ns,Ni hi]
  ·rw[if_neg hi,ZB (by simpa using hi)]
 conv=>lhs;rw[<-o2 Z.size (qd Z (k+1)).toList,this]
theorem Im {w:aC} {n:Nat} {ρ:Env} {m:Nat->Nat} {bl:List aE} {b off k:Nat} {cs:List A} (hm:Mem w0 ρ m bl w) (hb:cY n bl.length ρ bl) (h:xj bl b off k=some cs):
 cs.length=k/\(∀a∈cs,A.ok n bl.length ρ a)/\∀j v,(cs.map (A.den ρ m))[j]?=some v->w.cell? ((⟨m b,off,none⟩:Addr).add j)=some v:=by
 unfold xj at h
 cases aX:bl[b]? with
 |none=>simp[aX]at h
 |some q=>
  obtain⟨C,t⟩:=q
  simp only[aX]at h
  cases hc:(cK (off+k) C.length&&cc C)with
  |false=>simp[hc]at h
  |true=>
   simp only[hc,cond_true,bb]at h
   simp only[bw]at hc
   have hle:=fP hc.1
   subst h
   obtain⟨_,_,r,_,h2⟩:=hm.fT b C t aX hc.2
   refine⟨by simp;omega,λa ha=>hb _ (e8 aX) a (rD (oc ha)),λj v aK=>?_⟩
   rw[kF]
   rw[sr,tw]at aK
   split at aK
   ·rename_i aFx
    rw[List.getElem?_drop]at aK
    cases ah:C[off+j]? with
    |none=>simp[ah]at aK
    |some y=>
     simp only[ah,zA,bb]at aK
     have hlt:off+j<C.length:=(List.getElem?_eq_some_iff.1 ah).1
     simp only[o3,h2,yl,ym,if_false,List.getElem?_toArray]
     rw[zB (by simpa using hlt),sr,ah]
     simp[aK]
   ·simp at aK
theorem adV {n:Nat} {ρ:Env} {m:Nat->Nat} {tm:List V} {bl:List aE} {a:Act} {w:aC} {G:e2} {K:Act->aC->Prop} {k:iI} {i:TypeInfo} {e:bp} {z:List A} {d:Option Tmp} {gJ tn len:Nat} {olds news:List A} {Z:Array aV}
 (h:R w0 n ρ m tm bl a w) (ax:∀a∈olds,A.ok n bl.length ρ a) (hn:∀a∈news,A.ok n bl.length ρ a) (hz:∀a∈z,A.ok n bl.length ρ a) (FP:z.map (A.den ρ m)=Z.toList) (ae:(Pr i e z d gJ tn len olds news n tm bl k).holds S L G ρ) (ab:nL S L w0 k n bl.length ρ m G K):
 (gJ+len<=1000000/\ai7 (gJ+len) tn*i.bytes<=281474976710656/\tn<gJ+len/\0<len)/\
 K (a.put d (.slice (some ⟨w.heap.size,0,none⟩) (gJ+len) (grownCap w (gJ+len) tn e))) (w.drew.alloc (.cells ((olds.map (A.den ρ m)).toArray++(news.map (A.den ρ m)).toArray++qd Z (grownCap w (gJ+len) tn e-(gJ+len))) e)):=by
 unfold Pr at ae
 cases hc:(cK (gJ+len) 1000000&&cK (ai7 (gJ+len) tn*i.bytes) 281474976710656&&dP tn (gJ+len)&&dP 0 len&&aM z.length i.size&&dP 0 i.size&&cc (olds++news)&&cc (olds++news++z))with
 |false=>rw[hc]at ae;exact ae.elim
 |true=>
  simp only[hc,cond_true,T.holds]at ae
  simp only[bw]at hc
  obtain⟨⟨hc,tM⟩,te⟩:=hc
  have c1:=fP hc.1.1.1.1.1
  have bK:=fP hc.1.1.1.1.2
  have cy:=vh hc.1.1.1.2
  have c3:=vh hc.1.1.2
  have fh:=bR hc.1.2
  have hH:=vh hc.2
  refine⟨⟨c1,bK,cy,c3⟩,?_⟩
  have hsz:Z.size=z.length:=by have:=congrArg qa FP;simpa using this.symm
  have tc:gJ+len<=grownCap w (gJ+len) tn e:=by unfold grownCap aBK;exact JM _ _
  generalize grownCap w (gJ+len) tn e=c at tc⊢
  have vr:R w0 n ρ m tm bl a w.drew:=⟨h.t,h.d,h.b,h.bF.grow (RH (sT w))⟩
  by_cases PC:c=gJ+len
  ·subst PC
   have WC:qd Z (gJ+len-(gJ+len))=#[]:=by simp[qd]
   rw[WC]
   have hR:=R.row (t:=e) (cs:=olds++news) (ex:=[]) (open_:=false) vr (λx hx=>(List.mem_append.1 hx).elim (ax x) (hn x)) (λ_=>rfl) tM d (v:= .w (.one (.slc bl.length 0 (gJ+len) (gJ+len)))) (x:= .slice (some ⟨w.heap.size,0,none⟩) (gJ+len) (gJ+len)) (by simp[V.ok,W.ok,A.ok]) (by
    show Nl (some ⟨w.heap.size,0,none⟩) _ _=_
    simp[W.den,A.den,p3])
   have:=ab n ρ _ _ _ G _ _ (eX.alloc n ρ m bl (olds++news,(e,false)) w.heap.size) (fm.refl _ _) hR ae.1
   simpa [jf]using this
  ·obtain⟨q,ah⟩:∃q,c-(gJ+len)=q+1:=⟨c-(gJ+len)-1,by omega⟩
   rw[ah]
   obtain⟨r,hr⟩:=aAT (Z:=Z) (k:=q) (by omega)
   rw[hr,<-FP]
   have hR:=R.row (t:=e) (cs:=olds++news++z) (ex:=r) (open_:=true) vr (λx hx=>(List.mem_append.1 hx).elim (λhx=>(List.mem_append.1 hx).elim (ax x) (hn x)) (hz x)) (λh=>by cases h) te d (v:= .sN bl.length (gJ+len) (gJ+len+1)) (x:= .slice (some ⟨w.heap.size,0,none⟩) (gJ+len) c) (by simp[V.ok]) ⟨c,by omega,by
    rw[p3];rfl⟩
   have:=ab n ρ _ _ _ G _ _ (eX.alloc n ρ m bl (olds++news++z,(e,true)) w.heap.size) (fm.refl _ _) hR ae.2
   simpa [jf]using this
theorem akD {n:Nat} {ρ:Env} {m:Nat->Nat} {tm:List V} {bl:List aE} {a:Act} {w:aC} {G:e2} {o:Oper} {K:Act->aC->Prop} {Q:Exit->Act->aC->Prop} {k:iI} {c:Call} {s x:rC} {t t':bp}
 (h:R w0 n ρ m tm bl a w) (fG:o.op= .call c) (oO:c.callee= .builtin .append) (gf:c.args.toList=[s,x]) (pf:c.argTypes.toList=[t,t'])
 (ae:(TN P o.dst t t' (cl tm s) (cl tm x) n tm bl k).holds S L G ρ) (ab:nL S L w0 k n bl.length ρ m G K):o.wp P a w K Q:=by
 have b2:c.args=#[s,x]:=by rw[<-lN (xs:=c.args),gf]
 have a2:c.argTypes=#[t,t']:=by rw[<-lN (xs:=c.argTypes),pf]
 have hex:execOp a.eval o=(do pure (nJ (<-JW #[t,t'] o.type #[a.eval s,a.eval x]))):=by
  simp[execOp,fG,resolve,oO,b2,a2,invoke,builtin]
 have BQ:∀v w',(JW #[t,t'] o.type #[a.eval s,a.eval x]).run P w= .ok v w'->K (a.put o.dst v) w'->o.wp P a w K Q:=λv w' h1 h2=>by
  unfold qc
  simp only[hex,jg,h1,jv,kk]
  exact h2
 have hs:=cM h.t s
 have hx:=cM h.t x
 unfold TN at ae
 split at ae
 ·rename_i b' kf rf j8 e BS BP
  rw[BS]at hx
  have dp:a.eval x= .slice (some ⟨m b',kf,none⟩) rf j8:=hx.2
  split at ae
  ·rename_i i z hi hz
   split at ae
   ·rename_i news apk
    obtain⟨a1,ff,uB⟩:=Im h.bF h.b apk
    cases P3:aM t t' with
    |false=>simp[P3,T.holds]at ae
    |true=>
     have P3:=bR P3
     subst P3
     simp only[G9,je,cond_false]at ae
     obtain⟨inf,o5,q2,jZ,tI⟩:=JE hz
     rw[hi]at q2
     simp only[bb]at q2
     subst q2
     have tI:=Bx tI n bl.length ρ m
     cases rQ:WL (cl tm s)with
     |true=>
      simp only[rQ,cond_true]at ae
      have uw:a.eval s= .slice none 0 0:=by
       unfold WL at rQ
       split at rQ
       ·rename_i hv
        rw[hv]at hs
        exact hs.2
       ·cases rQ
      obtain⟨⟨c1,bK,cy,c3⟩,fh⟩:=adV (Z:=o5.cells) h (λ_ h=>by simp at h) ff tI.1 tI.2 ae ab
      simp only[yk]at c1 bK cy c3 fh
      refine BQ _ _ ?_ fh
      rw[uw,dp,run_append_nil w t _ e i o5 (iT BP) hi jZ ⟨m b',kf,none⟩ rf j8 (news.map (A.den ρ m)) (by simpa using a1) uB c3 (by omega) (by rw[nextslicecap_zero c3]at bK;exact bK)]
      simp
     |false=>
      simp only[rQ,cond_false]at ae
      split at ae
      ·rename_i b off len cap tO
       rw[tO]at hs
       have uw:a.eval s= .slice (some ⟨m b,off,none⟩) len cap:=hs.2
       split at ae
       ·rename_i olds hold
        obtain⟨o1,vE,agE⟩:=Im h.bF h.b hold
        obtain⟨⟨c1,bK,cy,c3⟩,fh⟩:=adV (Z:=o5.cells) h vE ff tI.1 tI.2 ae ab
        refine BQ _ _ ?_ fh
        rw[uw,dp,run_append_grow w t _ e i o5 (iT BP) hi jZ ⟨m b,off,none⟩ len cap (olds.map (A.den ρ m)) (by simpa using o1) agE ⟨m b',kf,none⟩ rf j8 (news.map (A.den ρ m)) (by simpa using a1) uB cy (by omega) bK]
       ·exact ae.elim
      ·rename_i b len lo tO
       rw[tO]at hs
       obtain⟨oK,DS,uw⟩:=hs.2
       split at ae
       ·rename_i cs ty aX
        cases hc:(cK (len+rf) lo&&cK ((len+rf)*i.size) cs.length&&dP 0 (rf*i.size)&&cc cs&&cc (cs.take (len*i.size)++news++cs.drop (len*i.size+news.length)))with
        |false=>rw[hc]at ae;exact ae.elim
        |true=>
         simp only[hc,cond_true]at ae
         simp only[bw]at hc
         obtain⟨⟨hc,tM⟩,te⟩:=hc
         have c1:=fP hc.1.1
         have bK:=fP hc.1.2
         have cy:=vh hc.2
         obtain⟨w',jC,BN⟩:=h.bF.storeCells (P:=P) (off:=len*i.size) (l:=news) h.b ff aX (by rw[a1,<-zH];exact bK) tM te
         have b0:∀a∈cs.take (len*i.size)++news++cs.drop (len*i.size+news.length),A.ok n bl.length ρ a:=λa ha=>by
          have db:=h.b _ (e8 aX)
          rcases List.mem_append.1 ha with ha|ha
          ·rcases List.mem_append.1 ha with ha|ha
           ·exact db a (oc ha)
           ·exact ff a ha
          ·exact db a (rD ha)
         have Lb:b<bl.length:=(List.getElem?_eq_some_iff.1 aX).1
         refine BQ (.slice (some ⟨m b,0,none⟩) (len+rf) oK) w' ?_ (ab n ρ m _ _ G _ w' ⟨bO _,agree.refl _ _,by rw[kQ];exact bO _,λ_ _=>rfl⟩ (fm.refl _ _) ⟨?_,by rw[put_defers];exact h.d,h.b.set b0,BN⟩ ae)
         ·have DV:=RV (P:=P) w i.size rf ⟨m b',kf,none⟩ rf j8 (news.map (A.den ρ m)) (by simpa using a1) uB
          have hle:len+rf<=oK:=by omega
          rw[uw,dp]
          simp[JW,fx (iT BP),sizeOf,typeInfo,hi,RW,hle,DV,kF,jC]
         ·rw[kQ]
          exact eY.put h.t o.dst Lb ⟨oK,by omega,rfl⟩
       ·exact ae.elim
      ·exact ae.elim
   ·exact ae.elim
  ·exact ae.elim
 ·exact ae.elim
theorem QU {n:Nat} {ρ:Env} {m:Nat->Nat} {tm:List V} {bl:List aE} {a:Act} {w:aC} {G:e2} {o:Oper} {K:Act->aC->Prop} {Q:Exit->Act->aC->Prop} {k:iI}
 (c6:h8 S P gl w0 cal) (hg:fA gl w0) (h:R w0 n ρ m tm bl a w) (ae:(Ck P cal gl bl tm o n λv n'=>k n' (gx tm o.dst v) bl).holds S L G ρ) (ab:nL S L w0 k n bl.length ρ m G K):o.wp P a w K Q:=by
 obtain⟨aa,n',v,hn,ha,⟨hv,val,hr,ah⟩,Iu⟩:=X6 (L:=L) c6 h.b hg ⟨w,h.bF⟩ h.t o G _ ae
 have hl:eX n bl.length ρ m n' bl.length aa m:=⟨hn,ha,bO _,λ_ _=>rfl⟩
 have hR:∀w',w.Extends w'->R w0 n' aa m (gx tm o.dst v) bl (a.put o.dst val) w':=λw' he=>
  ⟨eY.put (h.t.ext ha hn (bO _) (λ_ _=>rfl)) o.dst hv hr,by rw[put_defers];exact h.d,h.b.ext ha hn (bO _),(h.bF.grow he).sP h.b ha⟩
 unfold qc
 rcases ah w h.bF with ah|⟨f,args,ah,hc⟩
 ·rw[ah]
  exact ab n' aa m _ bl G _ w hl (fm.refl _ _) (hR w (sT w)) Iu
 ·rw[ah]
  refine hc.mono λe sR ⟨he,hx⟩=>?_
  subst he
  exact ab n' aa m _ bl G _ sR hl (fm.refl _ _) (hR sR hx) Iu
theorem alM {n nb:Nat} {ρ:Env} {m:Nat->Nat} {v:V} {f:Nat} {kH:List A} {x:aV} (h:Uo v=some (f,kH)) (hv:v.ok n nb ρ) (hr:v.rel ρ m x):
 (∀y∈kH,A.ok n nb ρ y)/\x= .func (.func f) #[] (kH.map (A.den ρ m)).toArray:=by
 unfold Uo at h
 split at h
 ·simp only[bb,eW]at h
  obtain⟨rfl,rfl⟩:=h
  exact⟨hv,hr⟩
 ·rename_i s8 a b
  cases hc:(aM a.size 0&&aM b.size 0)with
  |false=>simp[hc]at h
  |true=>
   simp only[hc,cond_true,bb,eW]at h
   obtain⟨rfl,rfl⟩:=h
   simp only[bw]at hc
   have aw:=CN (bR hc.1)
   have aD:=CN (bR hc.2)
   subst aw;subst aD
   have hr:x= .func (.func s8) #[] #[]:=hr
   exact⟨λy hy=>by simp at hy,by rw[hr];rfl⟩
 ·cases h
end
end Go.ch
namespace Go.ch
open M
theorem cF.row {sh:List aN} {row:List Int} (hs:qC sh=true) (h:cF sh row):Yd row:=by
 unfold qC at hs
 simp only[bw]at hs
 obtain⟨⟨h0,KZ⟩,h2⟩:=hs
 refine⟨by rw[h.len];exact fP h0,?_⟩
 have hp:=SJ
 clear h0 KZ
 induction sh generalizing row with
 |nil=>
  cases row with
  |nil=>intro z hz;simp at hz
  |cons _ _=>exact h.elim
 |cons c sh ih=>
  cases row with
  |nil=>exact h.elim
  |cons x r=>
   simp only[ai9,bw]at h2
   intro z hz
   rcases List.mem_cons.1 hz with rfl|hz
   ·have h3:=h.1
    cases c with
    |int k lo hi=>
     have h4:=h2.1
     simp only[bw,decide_eq_true_eq]at h4
     simp only[aN.ga]at h3
     omega
    |str=>simp only[aN.ga]at h3;omega
    |bool=>simp only[aN.ga]at h3;omega
   ·exact ih h.2 h2.2 z hz
theorem EW {sh:List aN} {rows:List (List Int)} (hs:qC sh=true) (hl:rows.length<=1073741824) (h:∀row∈rows,cF sh row):rc rows<=bU:=
 uh (by unfold maxLen;omega) λrow hr=>(h row hr).row hs
theorem aN.val_one (c:aN) (z:Int):(c.val z).oneCell'=true:=by cases c<;>rfl
theorem ahm:∀{sh:List aN} {row:List Int},∀u∈dr sh row,u.oneCell'=true
 |[],_,u,h=>by simp[dr]at h
 |_::_,[],u,h=>by simp[dr]at h
 |c::sh,z::r,u,h=>by
  simp only[dr,pD]at h
  rcases h with rfl|h
  ·exact aN.val_one c z
  ·exact ahm u h
theorem U1 {sh:List aN} {rows:List (List Int)}:∀u∈ca sh rows,u.oneCell'=true:=λu h=>by
 obtain⟨row,_,h⟩:=List.mem_flatMap.1 h
 exact ahm u h
theorem pK.flat {cells:Array aV} {off:Nat} {sh:List aN} {rows:List (List Int)} (h:pK cells off sh rows) {j:Nat} {v:aV} (aK:(ca sh rows)[j]?=some v):cells[off+j]?=some v:=by
 obtain⟨h1,pre,post,h2,h3⟩:=h
 have hlt:=(List.getElem?_eq_some_iff.1 aK).1
 rw[<-Ns,h2,nI,JL (by omega),zB (by omega)]
 rw[show off+j-pre.length=j by omega];exact aK
theorem pK.sub {cells:Array aV} {off:Nat} {sh:List aN} {rows:List (List Int)} (h:pK cells off sh rows) (a k:Nat) (ha:a<=rows.length):pK cells (off+a*sh.length) sh ((rows.drop a).take k):=by
 obtain⟨h1,pre,post,h2,h3⟩:=h
 refine⟨λrow hr=>h1 row (rD (oc hr)),pre++ca sh (rows.take a),ca sh ((rows.drop a).drop k)++post,?_,?_⟩
 ·rw[h2]
  have:rows=rows.take a++((rows.drop a).take k++(rows.drop a).drop k):=by rw[o2,o2]
  conv=>lhs;rw[this]
  simp only[yK,nI]
 ·rw[fQ,h3,qY λrow hr=>h1 row (oc hr),su,EM ha]
section
variable {S:Nat->List Int->List Int->Prop} {L:V->Env->Prop} {n:Nat} {ρ:Env} {m:Nat->Nat} {bl:List aE} {gl:fa} {w0:eG} {P:bV}
theorem Qa {e:bC}:az S L (Gi e) n ρ λaa n' l=>l.bG n'/\(0<=l.den aa/\l.den aa<=1)/\e.den ρ=decide (l.den aa=1):=by
 intro A k ab
 cases h:e.den ρ with
 |true=>exact⟨_,n+1,_,tx _,agree.dm _ _ _,⟨I.fW (zE n),by simp[I.cS,nG],by simp[I.cS,nG]⟩,ab 1 (by decide) (by decide) (by simp[h])⟩
 |false=>exact⟨_,n+1,_,tx _,agree.dm _ _ _,⟨I.fW (zE n),by simp[I.cS,nG],by simp[I.cS,nG]⟩,ab 0 (by decide) (by decide) (by simp[h])⟩
theorem alE {nb:Nat} {c:aN} {a:A} (ha:a.ok n nb ρ):az S L (Ui c a) n ρ λaa n' l=>l.bG n'/\(c.ga.1<=l.den aa/\l.den aa<=c.ga.2)/\c.val (l.den aa)=a.den ρ m:=by
 unfold Ui
 split
 ·refine eI λhc=>az.pure ?_
  simp only[bw,decide_eq_true_eq]at hc
  obtain⟨⟨h1,h2⟩,h3⟩:=hc
  have h4:=ha.2
  refine⟨ha.1,⟨?_,?_⟩,?_⟩
  ·simp only[aN.ga];omega
  ·simp only[aN.ga];omega
  ·simp only[aN.val,A.den,h1]
 ·exact az.pure ⟨ha.1,ha.2,rfl⟩
 ·split
  ·rename_i v
   refine az.pure ⟨I.dd _ _,?_,?_⟩
   ·simp only[aN.ga,I.br];cases v<;>decide
   ·simp only[aN.val,A.den,bC.den,I.br];cases v<;>rfl
  ·rename_i e _
   exact Qa.mono λaa n' l _ _ ⟨h1,h2,h3⟩=>⟨h1,h2,by simp only[aN.val,A.den,h3]⟩
 ·exact az.fail
theorem Jn {nb:Nat}:∀{sh:List aN} {l:List A} {n:Nat} {ρ:Env},(∀a∈l,A.ok n nb ρ a)->az S L (Cu sh l) n ρ λaa n' ls=>(∀x∈ls,I.bG n' x)/\cF sh (ls.map (·.den aa))/\dr sh (ls.map (·.den aa))=l.map (A.den ρ m)
 |[],[],n,ρ,_=>az.pure ⟨λ_ h=>by simp at h,trivial,rfl⟩
 |c::sh,a::r,n,ρ,h=>by
  have h0:=h a (by simp)
  refine(alE (m:=m) h0).bind λaQ a1 x hn ha ⟨g1,g2,g3⟩=>(Jn (nb:=nb) (sh:=sh) (l:=r) λb hb=>(h b (eB _ hb)).ext ha hn (bO _)).bind λbW ff ls fo eb ⟨k1,k2,k3⟩=>az.pure ⟨λy hy=>?_,?_,?_⟩
  ·rcases List.mem_cons.1 hy with rfl|hy
   ·exact g1.mono fo
   ·exact k1 y hy
  ·simp only[c5]
   exact⟨by rw[I.b5 eb g1];exact g2,k2⟩
  ·simp only[c5,dr,I.b5 eb g1,g3,k3]
   rw[xz (λb hb=>h b (eB _ hb)) ha (λ_ _=>rfl)]
 |[],_::_,_,_,_=>az.fail
 |_::_,[],_,_,_=>az.fail
theorem Kr {w:Nat}:∀{k:Nat} {l:List A},l.length=k*w->(rI w k l).length=k/\(rI w k l).flatten=l
 |0,l,h=>by
  have:l=[]:=zI (by omega)
  subst this;exact⟨rfl,rfl⟩
 |k+1,l,h=>by
  rw[zF]at h
  have ih:=Kr (w:=w) (k:=k) (l:=l.drop w) (by simp;omega)
  exact⟨by simp[rI,ih.1],by simp[rI,ih.2]⟩
theorem Ks {w:Nat}:∀{k:Nat} {l:List A},∀row∈rI w k l,∀a∈row,a∈l
 |0,l,row,h,a,ha=>by simp[rI]at h
 |k+1,l,row,h,a,ha=>by
  simp only[rI,pD]at h
  rcases h with rfl|h
  ·exact oc ha
  ·exact rD (Ks row h a ha)
theorem Kc {nb:Nat} {sh:List aN} (lR:qC sh=true):∀{rs:List (List A)} {n:Nat} {ρ:Env} {c:I},(∀row∈rs,∀a∈row,A.ok n nb ρ a)->c.bG n->(0<=c.den ρ/\c.den ρ<=bU)->(∀row∈ak (c.den ρ),cF sh row)->(ak (c.den ρ)).length+rs.length<=1073741824->
 az S L (C1 sh rs c) n ρ λaa n' eR=>eR.bG n'/\(0<=eR.den aa/\eR.den aa<=bU)/\∃eA,ak (eR.den aa)=ak (c.den ρ)++eA/\eA.length=rs.length/\(∀row∈eA,cF sh row)/\ca sh eA=rs.flatten.map (A.den ρ m)
 |[],n,ρ,c,_,h1,h2,_,_=>az.pure ⟨h1,h2,[],by simp,rfl,λ_ h=>by simp at h,rfl⟩
 |row::rs,n,ρ,c,h0,h1,h2,h3,h4=>by
  refine(Jn (nb:=nb) (m:=m) (sh:=sh) (l:=row) (h0 row (by simp))).bind λaQ a1 ls hn ha ⟨g1,g2,g3⟩=>?_
  have aw:c.den aQ=c.den ρ:=I.b5 ha h1
  have hf:bE 23 ((c::ls).map (·.den aQ))=rc (ak (c.den ρ)++[ls.map (·.den aQ)]):=by
   simp only[c5,bE,aw]
  simp only[jS]at h4
  have tN:∀r∈ak (c.den ρ)++[ls.map (·.den aQ)],cF sh r:=λr hr=>by
   rcases List.mem_append.1 hr with hr|hr
   ·exact h3 r hr
   ·simp at hr;subst hr;exact g2
  have hb:rc (ak (c.den ρ)++[ls.map (·.den aQ)])<=bU:=EW lR (by simp;omega) tN
  refine(iP (by rw[hf];exact jR _) (by rw[hf];exact hb)).bind λbW ff eR fo eb ⟨k1,k2⟩=>?_
  rw[hf]at k2
  have aD:ak (eR.den bW)=ak (c.den ρ)++[ls.map (·.den aQ)]:=by rw[k2,kh]
  have aU:=ha.trans eb hn
  refine(Kc (nb:=nb) (rs:=rs) (c:=eR) lR (λr hr a FT=>(h0 r (eB _ hr) a FT).ext aU (oE hn fo) (bO _)) k1 (by rw[k2];exact⟨jR _,hb⟩) (by rw[aD];exact tN) (by rw[aD];simp;omega)).mono λjw uB cy F4 yN ⟨cz,cw,eA,dc,fC,fN,gH⟩=>⟨cz,cw,ls.map (·.den aQ)::eA,?_,by simp[fC],λr hr=>?_,?_⟩
  ·rw[dc,aD];simp
  ·rcases List.mem_cons.1 hr with rfl|hr
   ·exact g2
   ·exact fN r hr
  ·show dr sh (ls.map (·.den aQ))++ca sh eA=_
   rw[gH,g3,uT,jf]
   congr 1
   refine kD λa PA=>A.oL (n:=n) (nb:=nb) ?_ aU (λ_ _=>rfl)
   obtain⟨r,hr,FT⟩:=List.mem_flatten.1 PA
   exact h0 r (eB _ hr) a FT
def ake (P:bV) (tr:bp) (sh:List aN) (X:aV) (w:aC) (old:List (List Int)) (aa:Env) (n':Nat) (p:I×I):Prop:=
 p.1.bG n'/\p.2.bG n'/\(0<=p.1.den aa/\p.1.den aa<=bU)/\∃eA,ak (p.1.den aa)=old++eA/\p.2.den aa=eA.length/\(∀row∈eA,cF sh row)/\old.length+eA.length<=1073741824/\Src P sh.length tr X eA.length (ca sh eA) w
theorem ah2 {sh:List aN} (lR:qC sh=true) {w:aC} (hb:cY n bl.length ρ bl) (hw:Mem w0 ρ m bl w) {tr:bp} {x:V} {X:aV} (hx:x.ok n bl.length ρ) (b3:x.rel ρ m X) {base:I} (tH:base.bG n)
 (ael:0<=base.den ρ/\base.den ρ<=bU) (yO:∀row∈ak (base.den ρ),cF sh row):az S L (Rh P tr sh bl x base) n ρ (ake P tr sh X w (ak (base.den ρ))):=by
 unfold Rh
 split
 ·rename_i b off len cap
  split
  ·rename_i cs da db IF
   obtain⟨c1,bK,cy⟩:=Im hw hb db
   refine jL λab=>?_
   simp only[c5,fD,ar,I.br]at ab
   have pd:=Kr (w:=sh.length) (k:=len) c1
   refine(Kc (nb:=bl.length) (m:=m) lR (rs:=rI sh.length len cs) (c:=base) (λrow hr a ha=>bK a (Ks row hr a ha)) tH ael yO (by rw[pd.1];omega)).bind λaQ a1 eR hn ha ⟨cz,cw,eA,dc,fC,fN,gH⟩=>az.pure ⟨cz,I.dd _ _,cw,eA,dc,?_,fN,by rw[fC,pd.1];omega,?_⟩
   ·rw[I.br,fC,pd.1]
   ·have b3:X= .slice (some ⟨m b,off,none⟩) len cap:=b3
    rw[pd.2]at gH
    rw[b3,gH,fC,pd.1]
    exact Src.ofSlice w (iT IF) _ _ _ _ (by simpa using c1) cy (λu hu=>by
     obtain⟨a,ha,rfl⟩:=List.mem_map.1 hu
     exact A.QE (bK a ha))
  ·exact az.fail
 ·rename_i b bz o ro len cap
  split
  ·rename_i fX off code e5 kind dJ da aX IF
   refine eI λhc=>jL λnR=>jL λrP=>?_
   simp only[bw]at hc
   obtain⟨⟨⟨c1,bK⟩,cy⟩,c3⟩:=hc
   have c1:0<kind:=fP c1
   have bK:=Ex bK
   have cy:=I.beq_eq cy
   have c3:=bR c3
   subst bK;subst cy;subst c3
   simp only[c5,fD,ar,I.den_add]at nR rP
   have rT:(A.sl b sh.length o ro len cap).ok n bl.length ρ:=hx
   obtain⟨ptr,aw,aD,cj⟩:=wj (m:=m) rT
   have b3:X=(A.sl b sh.length o ro len cap).den ρ m:=b3
   rw[aw]at b3
   obtain⟨ag,⟨ad,ao,cZ,iV⟩,⟨jG,n7,n8,n9⟩,⟨oA,n6⟩,gX,jF⟩:=rT
   have pS:=hw.rws b sh o code e5 kind dJ aX (by omega)
   have m5:∀row∈ak (code.den ρ),cF sh row:=λrow hr=>by
    rcases od (e5.den ρ) 0 with h|h
    ·rw[pS.1 h]at hr;simp at hr
    ·obtain⟨_,cells,nq,fz,_,⟨_,g3⟩,_⟩:=pS.2 h
     exact g3.1 row hr
   have LJ:∀row∈(((ak (code.den ρ)).drop (ro.den ρ).toNat).take (len.den ρ).toNat),cF sh row:=λrow hr=>m5 row (rD (oc hr))
   have hlen:(((ak (code.den ρ)).drop (ro.den ρ).toNat).take (len.den ρ).toNat).length=(len.den ρ).toNat:=by simp;omega
   have tJ:bE 22 ([code,ro,ro.add len].map (·.den ρ))=rc (((ak (code.den ρ)).drop (ro.den ρ).toNat).take (len.den ρ).toNat):=by
    simp only[c5,fD,bE,I.den_add]
    have:(ro.den ρ+len.den ρ).toNat-(ro.den ρ).toNat=(len.den ρ).toNat:=by omega
    rw[this]
   have Ih:Src P sh.length tr X (((ak (code.den ρ)).drop (ro.den ρ).toNat).take (len.den ρ).toNat).length (ca sh (((ak (code.den ρ)).drop (ro.den ρ).toNat).take (len.den ρ).toNat)) w:=by
    rw[b3]
    by_cases df:cap.den ρ<0
    ·have h0:=gX df
     rw[aD df,if_pos df,h0]
     simp only[Int.toNat_zero,qN]
     exact Src.ofNil w (iT IF) 0
    ·rw[cj (by omega),if_neg df,hlen]
     refine Src.ofSlice w (iT IF) _ _ _ _ (by rw[qY LJ,hlen]) (λj u hu=>?_) U1
     rw[kF]
     rcases od (e5.den ρ) 0 with h|h
     ·rw[pS.1 h]at hu;simp[ca]at hu
     ·obtain⟨_,cells,nq,fz,g1,⟨_,g3⟩,_⟩:=pS.2 h
      have:=(g3.sub (ro.den ρ).toNat (len.den ρ).toNat (by omega)).flat hu
      simp only[o3,g1,yl,ym,if_false]
      exact this
   generalize tK:(((ak (code.den ρ)).drop (ro.den ρ).toNat).take (len.den ρ).toNat)=mid at LJ hlen tJ Ih
   have qn:rc mid<=bU:=EW lR (by omega) LJ
   refine(iP (by rw[tJ];exact jR _) (by rw[tJ];exact qn)).bind λaQ a1 s gE fe ⟨g1,g2⟩=>?_
   rw[tJ]at g2
   have DE:base.den aQ=base.den ρ:=I.b5 fe tH
   have lQ:bE 24 ([base,s].map (·.den aQ))=rc (ak (base.den ρ)++mid):=by
    simp only[c5,fD,bE,DE,g2,kh]
   have jr:∀row∈ak (base.den ρ)++mid,cF sh row:=λrow hr=>(List.mem_append.1 hr).elim (yO row) (LJ row)
   have q1:rc (ak (base.den ρ)++mid)<=bU:=EW lR (by simp;omega) jr
   refine(iP (by rw[lQ];exact jR _) (by rw[lQ];exact q1)).bind λbW ff c fo eb ⟨k1,k2⟩=>az.pure ⟨k1,cZ.mono (oE gE fo),?_,mid,?_,?_,LJ,by omega,Ih⟩
   ·rw[k2,lQ];exact⟨jR _,q1⟩
   ·rw[k2,lQ,kh]
   ·rw[I.b5 (fe.trans eb gE) cZ,hlen];omega
  ·exact az.fail
 ·rename_i l
  split
  ·rename_i hu
   refine eI λIk=>?_
   have apQ:∃lo hi,sh=[.int .u8 lo hi]/\lo=0/\hi=255:=by
    unfold Od at Ik
    split at Ik
    ·simp only[bw,decide_eq_true_eq]at Ik
     exact⟨_,_,rfl,Ik.1,Ik.2⟩
    ·cases Ik
   obtain⟨lo,hi,rfl,rfl,rfl⟩:=apQ
   have hl:(A.str l).ok n bl.length ρ:=hx
   have b3:X= .string (dY (bx (l.den ρ))):=b3
   have apb:=J2 hl.2.2
   unfold nX at apb
   refine(iP (op:=0) (args:=[l]) (JJ _) (by show((bx (l.den ρ)).length:Int)<=_;omega)).bind λaQ a1 len gE fe ⟨g1,g2⟩=>jL λab=>?_
   have g2:len.den aQ=(bx (l.den ρ)).length:=g2
   have DE:base.den aQ=base.den ρ:=I.b5 fe tH
   have el:l.den aQ=l.den ρ:=I.b5 fe hl.1
   simp only[c5,fD,ar,DE,g2]at ab
   have tJ:bE 27 ([l].map (·.den aQ))=rc ((bx (l.den ρ)).map λb=>[(b.toNat:Int)]):=by
    simp only[c5,fD,bE,el]
   have tK:∀row∈((bx (l.den ρ)).map λb=>[(b.toNat:Int)]),cF [.int .u8 0 255] row:=λrow hr=>by
    obtain⟨b,_,rfl⟩:=List.mem_map.1 hr
    have:=b.toNat_lt
    refine⟨⟨?_,?_⟩,trivial⟩
    ·simp only[aN.ga];omega
    ·simp only[aN.ga];omega
   have IB:((bx (l.den ρ)).map λb=>[(b.toNat:Int)]).length=(bx (l.den ρ)).length:=by simp
   have kU:ca [.int .u8 0 255] ((bx (l.den ρ)).map λb=>[(b.toNat:Int)])=byteCells (dY (bx (l.den ρ))):=by
    unfold byteCells ca dY
    simp only[aBN]
    generalize bx (l.den ρ)=q
    induction q with
    |nil=>rfl
    |cons y r ih=>rw[uY,c5,ih];rfl
   have Ih:=Src.ofString (P:=P) w hu (dY (bx (l.den ρ)))
   rw[<-kU,Bp,<-b3]at Ih
   generalize qq:((bx (l.den ρ)).map λb=>[(b.toNat:Int)])=mid at tK IB tJ Ih
   have qn:rc mid<=bU:=EW lR (by omega) tK
   refine(iP (by rw[tJ];exact jR _) (by rw[tJ];exact qn)).bind λbW ff s fo eb ⟨h1,h2⟩=>?_
   rw[tJ]at h2
   have ams:base.den bW=base.den ρ:=(I.b5 eb (tH.mono gE)).trans DE
   have lQ:bE 24 ([base,s].map (·.den bW))=rc (ak (base.den ρ)++mid):=by
    simp only[c5,fD,bE,ams,h2,kh]
   have jr:∀row∈ak (base.den ρ)++mid,cF [.int .u8 0 255] row:=λrow hr=>(List.mem_append.1 hr).elim (yO row) (tK row)
   have q1:rc (ak (base.den ρ)++mid)<=bU:=EW lR (by simp;omega) jr
   refine(iP (by rw[lQ];exact jR _) (by rw[lQ];exact q1)).bind λjw uB c F4 yN ⟨k1,k2⟩=>az.pure ⟨k1,g1.mono (oE fo F4),?_,mid,?_,?_,tK,by omega,?_⟩
   ·rw[k2,lQ];exact⟨jR _,q1⟩
   ·rw[k2,lQ,kh]
   ·rw[I.b5 (eb.trans yN fo) g1,g2,IB]
   ·rw[IB];exact Ih
  ·exact az.fail
 ·split
  ·rename_i da IF
   refine jL λab=>az.pure ⟨tH,I.dd _ _,ael,[],by simp,by simp[I.br],λ_ h=>by simp at h,?_,?_⟩
   ·simp only[c5,fD,ar,I.br]at ab
    simp only[qL];omega
   ·have b3:X= .slice none 0 0:=b3
    rw[b3]
    exact Src.ofNil w (iT IF) 0
  ·exact az.fail
 ·exact az.fail
theorem awi (w:aC) (t tr ty e:bp) (i:TypeInfo) (aA:P.underlying t=some (.slice e)) (hi:P.info? e=some i) (g gJ tn:Nat) (cur:Array aV) (H3:bp) (hg:w.heap[g]?=some (.cells cur H3 (0,0))) (x:aV) (k:Nat) (news:List aV) (hs:Src P i.size tr x k news w)
 (LG:gJ+k<=tn) (Aq:gJ*i.size+news.length<=cur.size):
 (JW #[t,tr] ty #[.slice (some ⟨g,0,none⟩) gJ tn,x]).run P w= .ok (.slice (some ⟨g,0,none⟩) (gJ+k) tn) (w.setRow g (cur.toList.take (gJ*i.size)++news++cur.toList.drop (gJ*i.size+news.length)).toArray):=by
 have oP:=run_storeCells_at P g (gJ*i.size) H3 news 0 cur w hg (by simpa using Aq) hs.one
 simp only[pE]at oP
 rcases hs.kind with⟨da,ab⟩|ab<;>simp[JW,fx aA,fx ab,sizeOf,typeInfo,hi,hs.len,LG,hs.cells,Addr.add_lit,oP]
theorem aiJ (Z:Array aV) (k:Nat):(qd Z k).size=k*Z.size:=by simp[qd]
theorem adX (w:aC) (IW old:Nat) (e:bp) (h:IW<=1073741824):IW<=grownCap w IW old e/\grownCap w IW old e<=9223372036854775807:=by
 have hlt:=Nc (w.tape w.drawn (.appendCap IW old e)) (show 0<2^63-IW by omega)
 simp only[grownCap,aBK]
 omega
theorem ag2 {kd:Nat} {tm:List V} {a:Act} {w:aC} {G:e2} {K:Act->aC->Prop} {k:iI} {e:bp} {d:Option Tmp} {sh:List aN} {code len:I} {c:Int} {g:Nat}
 (jb:2<=kd) (h:R w0 n ρ m tm bl a w) (db:code.bG n) (DX:len.bG n) (hL:0<=code.den ρ/\code.den ρ<=bU) (hc:-1<=c/\c<=9223372036854775807) (xq:G0 0 0 (len.den ρ) c)
 (rQ:c<0->ak (code.den ρ)=[])
 (Ly:0<=c->∃(cells:Array aV) (fz:Nat×Nat),(w.heap[g]?=some (.cells cells e fz)/\Bh kd fz cells.size)/\pK cells 0 sh (ak (code.den ρ))/\cells.size=c.toNat*sh.length/\w0.b.heap.size<=g/\(w0.ex g∨w0.r.heap.size<=g))
 (As:∀(i:Nat) (p:aE),bl[i]?=some p->m i=g->bM ρ p.1=0∨c<0)
 (ae:(k (n+1) (gx tm d (.w (.one (.sl bl.length sh.length (.const 0) (.const 0) len (.var n))))) (bl++[([.rows sh (.const 0) code (.var n) kd],(e,false))])).holds S L G (dm ρ n c)) (ab:nL S L w0 k n bl.length ρ m G K):
 K (a.put d (if c<0 then .slice none 0 0 else .slice (some ⟨g,0,none⟩) (len.den ρ).toNat c.toNat)) w:=by
 have ha:agree n ρ (dm ρ n c):=agree.dm _ _ _
 have qn:cY (n+1) bl.length (dm ρ n c) bl:=h.b.ext ha (tx _) (bO _)
 have PR:Mem w0 (dm ρ n c) m bl w:=h.bF.sP h.b ha
 have aw:code.den (dm ρ n c)=code.den ρ:=I.b5 ha db
 have aD:len.den (dm ρ n c)=len.den ρ:=I.b5 ha DX
 have cj:(I.var n).den (dm ρ n c)=c:=by simp[I.cS,nG]
 have aU:(A.rows sh (.const 0) code (.var n) kd).ok (n+1) bl.length (dm ρ n c):=⟨⟨I.dd _ _,db.mono (tx _),I.fW (zE n)⟩,by rw[aw];exact hL,by rw[cj];omega⟩
 have pO:=PR.push (x:=([.rows sh (.const 0) code (.var n) kd],(e,false))) (g:=g) qn (λy hy=>by simp at hy;subst hy;exact aU) (λax=>by cases ax) (λfX kf code' j8 sL he=>by
  cases he
  intro _
  refine⟨λh=>by rw[cj]at h;rw[aw];exact rQ h,λh=>?_⟩
  rw[cj]at h
  obtain⟨cells,fz,⟨g1,oM⟩,g2,g3,g4,g5⟩:=Ly h
  exact⟨g5.elim .inl λh=> .inr (.inr h),cells,e,fz,g1,⟨by rw[I.br];exact cW _,by rw[aw,I.br];exact g2⟩,λ_=>⟨rfl,I.br _ _,oM,by rw[cj];exact g3,g4,g5⟩⟩) (λi p hi he=>by
  rcases As i p hi he with dZ|dZ
  ·exact .inr (.inl (by rw[xw (h.b _ (e8 hi)) ha];exact dZ))
  ·refine .inr (.inr ?_)
   simp only[bM,cj]
   rw[if_pos dZ])
 have dL:eX n bl.length ρ m (n+1) (bl++[([A.rows sh (.const 0) code (.var n) kd],(e,false))]).length (dm ρ n c) (oz m bl.length g):=⟨tx _,ha,by simp,λb hb=>py hb⟩
 refine ab _ _ _ _ _ G _ _ dL (fm.refl _ _) ⟨eY.put (h.t.ext dL.ha dL.hn dL.hb dL.hm) d ?_ ?_,by rw[put_defers];exact h.d,qn.alloc (λy hy=>by simp at hy;subst hy;exact aU),pO⟩ ae
 ·refine⟨by simp,⟨I.dd _ _,I.dd _ _,DX.mono (tx _),I.fW (zE n)⟩,?_⟩
  rw[I.br,aD,cj]
  exact xq
 ·simp only[V.rel,W.den,A.den,aD,cj,I.br,p3]
  split<;>simp
theorem XO {kd:Nat} {tm:List V} {a:Act} {w:aC} {G:e2} {K:Act->aC->Prop} {k:iI} {e:bp} {d:Option Tmp} {sh:List aN} {code len:I} {c:Int} {g:Nat}
 (jb:2<=kd) (h:R w0 n ρ m tm bl a w) (db:code.bG n) (DX:len.bG n) (hL:0<=code.den ρ/\code.den ρ<=bU) (hc:-1<=c/\c<=9223372036854775807) (xq:G0 0 0 (len.den ρ) c)
 (rQ:c<0->ak (code.den ρ)=[])
 (Ly:0<=c->∃(cells:Array aV) (fz:Nat×Nat),(w.heap[g]?=some (.cells cells e fz)/\Bh kd fz cells.size)/\pK cells 0 sh (ak (code.den ρ))/\cells.size=c.toNat*sh.length/\w0.b.heap.size<=g/\(w0.ex g∨w0.r.heap.size<=g))
 (As:∀(i:Nat) (p:aE),bl[i]?=some p->m i=g->bM ρ p.1=0∨c<0)
 (ae:(KV kd e d sh code len n tm bl k).holds S L G ρ) (ab:nL S L w0 k n bl.length ρ m G K):
 K (a.put d (if c<0 then .slice none 0 0 else .slice (some ⟨g,0,none⟩) (len.den ρ).toNat c.toNat)) w:=by
 unfold KV at ae
 exact ag2 jb h db DX hL hc xq rQ Ly As (ae c (by omega) (by omega)) ab
theorem XP {tm:List V} {a:Act} {w:aC} {G:e2} {K:Act->aC->Prop} {k:iI} {e:bp} {d:Option Tmp} {sh:List aN} {code len:I} {c:Int} {g:Nat}
 (h:R w0 n ρ m tm bl a w) (db:code.bG n) (DX:len.bG n) (hL:0<=code.den ρ/\code.den ρ<=bU) (hc:-1<=c/\c<=9223372036854775807) (xq:G0 0 0 (len.den ρ) c)
 (rQ:c<0->ak (code.den ρ)=[])
 (Ly:0<=c->∃cells:Array aV,w.heap[g]?=some (.cells cells e (0,0))/\pK cells 0 sh (ak (code.den ρ))/\cells.size=c.toNat*sh.length/\w0.b.heap.size<=g/\(w0.ex g∨w0.r.heap.size<=g))
 (As:∀(i:Nat) (p:aE),bl[i]?=some p->m i=g->bM ρ p.1=0∨c<0)
 (ae:(Ic e d sh code len n tm bl k).holds S L G ρ) (ab:nL S L w0 k n bl.length ρ m G K):
 K (a.put d (if c<0 then .slice none 0 0 else .slice (some ⟨g,0,none⟩) (len.den ρ).toNat c.toNat)) w:=
 XO (kd:=2) (bO 2) h db DX hL hc xq rQ (λh0=>by
  obtain⟨cells,g1,g2⟩:=Ly h0
  exact⟨cells,(0,0),⟨g1,.L7⟩,g2⟩) As ae ab
theorem adW {tm:List V} {a:Act} {w:aC} {G:e2} {K:Act->aC->Prop} {k:iI} {e:bp} {d:Option Tmp} {sh:List aN} {code len:I} {rows:List (List Int)} {c:Nat} {cells:Array aV}
 (h:R w0 n ρ m tm bl a w) (db:code.bG n) (DX:len.bG n) (hL:0<=code.den ρ/\code.den ρ<=bU) (tN:ak (code.den ρ)=rows) (b0:∀row∈rows,cF sh row) (hlen:len.den ρ=rows.length)
 (df:rows.length<=c) (aFr:c<=9223372036854775807) (VE:cells.size=c*sh.length) (aoS:∃post,cells.toList=ca sh rows++post)
 (ae:(Ic e d sh code len n tm bl k).holds S L G ρ) (ab:nL S L w0 k n bl.length ρ m G K):
 K (a.put d (.slice (some ⟨w.heap.size,0,none⟩) rows.length c)) (w.drew.alloc (.cells cells e)):=by
 have vr:R w0 n ρ m tm bl a w.drew:=⟨h.t,h.d,h.b,h.bF.grow (RH (sT w))⟩
 have hR:R w0 n ρ m tm bl a (w.drew.alloc (.cells cells e)):=⟨h.t,h.d,h.b,vr.bF.grow ((sT w.drew).alloc _)⟩
 have key:=XP (c:=(c:Int)) (g:=w.heap.size) hR db DX hL ⟨by omega,by omega⟩ (by rw[hlen];exact⟨⟨by omega,by omega,by omega,by omega⟩,⟨by omega,by omega⟩,λh=>by omega,λ_=>by omega⟩) (λh=>by omega)
  (λ_=>⟨cells,heap_alloc_new w.drew _,by
    obtain⟨post,hp⟩:=aoS
    rw[tN]
    exact⟨b0,[],post,by simpa using hp,rfl⟩,by simpa using VE,h.bF.ext.size,.inr h.bF.gF⟩) (λi p hi he=>by
    by_cases nQ:bM ρ p.1=0
    ·exact .inl nQ
    ·have:=vr.bF.lt hi nQ
     have dZ:w.drew.heap.size=w.heap.size:=rfl
     omega) ae ab
 rw[if_neg (by omega),hlen]at key
 simpa using key
theorem aAR {nb:Nat} {v:V} {X:aV} (h:Ze v=true) (hv:v.ok n nb ρ) (hr:v.rel ρ m X):∃base,X= .slice base 0 0:=by
 unfold Ze at h
 split at h
 ·rename_i b bz o ro len cap
  split at h
  ·rename_i l c hl hc
   simp only[bw,decide_eq_true_eq]at h
   have aw:=I.km hl (ρ:=ρ)
   have aD:=I.km hc (ρ:=ρ)
   have hr:X=(A.sl b bz o ro len cap).den ρ m:=hr
   simp only[A.den,aw,aD,h.1,h.2]at hr
   exact⟨_,hr⟩
  ·cases h
 ·rename_i b off len cap
  simp only[bw]at h
  have aw:=bR h.1
  have aD:=bR h.2
  subst aw;subst aD
  exact⟨_,hr⟩
 ·exact⟨none,hr⟩
 ·cases h
theorem adm (w:aC) (size:Nat) (base:Option Addr) (c:Nat):(JX size 0 (.slice base 0 c)).run P w= .ok #[] w:=by
 cases base with
 |none=>exact run_firstCells_none w size 0 0 c
 |some b=>exact RV w size 0 b 0 c [] (by simp) (λj v h=>by simp at h)
theorem R.later {n':Nat} {aa:Env} {tm:List V} {a:Act} {w:aC} (h:R w0 n ρ m tm bl a w) (hn:n<=n') (ha:agree n ρ aa):R w0 n' aa m tm bl a w:=
 ⟨h.t.ext ha hn (bO _) (λ_ _=>rfl),h.d,h.b.ext ha hn (bO _),h.bF.sP h.b ha⟩
theorem oW:ak 0=[]:=kh []
theorem R.kill {tm:List V} {a:Act} {w:aC} {b k:Nat} {sh:List aN} {off code cap:I} {t:bp×Bool} (h:R w0 n ρ m tm bl a w) (aX:bl[b]?=some ([.rows sh off code cap k],t)):R w0 n ρ m tm (dN bl b ([.rows sh off code cap 0],t)) a w:=
 ⟨by rw[kQ];exact h.t,h.d,h.b.set (λy hy=>by
  simp at hy;subst hy
  exact h.b _ (e8 aX) (.rows sh off code cap k) (by simp)),h.bF.kill aX⟩
theorem akE {tm:List V} {a:Act} {w:aC} {G:e2} {o:Oper} {K:Act->aC->Prop} {Q:Exit->Act->aC->Prop} {k:iI} {c:Call} {s x:rC} {t t':bp} {ui:T}
 (h:R w0 n ρ m tm bl a w) (fG:o.op= .call c) (oO:c.callee= .builtin .append) (gf:c.args.toList=[s,x]) (pf:c.argTypes.toList=[t,t'])
 (bH:TO P o.dst t t' (cl tm s) (cl tm x) n tm bl k=some ui) (ae:ui.holds S L G ρ) (ab:nL S L w0 k n bl.length ρ m G K):o.wp P a w K Q:=by
 have b2:c.args=#[s,x]:=by rw[<-lN (xs:=c.args),gf]
 have a2:c.argTypes=#[t,t']:=by rw[<-lN (xs:=c.argTypes),pf]
 have hex:execOp a.eval o=(do pure (nJ (<-JW #[t,t'] o.type #[a.eval s,a.eval x]))):=by
  simp[execOp,fG,resolve,oO,b2,a2,invoke,builtin]
 have BQ:∀v w',(JW #[t,t'] o.type #[a.eval s,a.eval x]).run P w= .ok v w'->K (a.put o.dst v) w'->o.wp P a w K Q:=λv w' h1 h2=>by
  unfold qc
  simp only[hex,jg,h1,jv,kk]
  exact h2
 have hs:=cM h.t s
 have hx:=cM h.t x
 unfold TO at bH
 split at bH
 ·cases bH
 rename_i e BP
 split at bH
 rotate_left
 ·cases bH
 rename_i i z hi hz
 obtain⟨inf,o5,q2,jZ,tI⟩:=JE hz
 rw[hi]at q2
 simp only[bb]at q2
 subst q2
 have q8:o5.cells.size=z.length:=by
  have:=(Bx tI n bl.length ρ m).2
  have:=congrArg qa this
  simpa using this.symm
 split at bH
 ·
  rename_i WC
  obtain⟨base,uw⟩:=aAR WC hs.1 hs.2
  split at bH
  rotate_left
  ·cases bH
  rename_i sh _
  cases ja:Ia sh i z with
  |false=>simp[ja]at bH
  |true=>
  simp only[ja,cond_true,bb]at bH
  subst bH
  unfold Ia at ja
  simp only[bw]at ja
  obtain⟨⟨⟨d1,d2⟩,d3⟩,d4⟩:=ja
  have d2:=bR d2
  have d3:=bR d3
  have d4:=fP d4
  unfold adG at ae
  have fF:(I.const 0).den ρ=0:=I.br _ _
  obtain⟨aa,n',p,hn,ha,⟨bm,cb,cJ,eA,et,kg,oS,qz,po⟩,ae⟩:=(ah2 (P:=P) d1 h.b h.bF hx.1 hx.2 (I.dd _ _) (by rw[fF];exact⟨cW _,by have:=uh (l:=[]) (by simp) (by simp);exact CI (jR []) this⟩) (by rw[fF,oW];simp)) G _ ae
  rw[fF,oW,gp]at et
  rw[fF,oW]at qz
  simp only[qL,yk]at qz
  have vq:=h.later hn ha
  have om:=ab.later (G1:=G) (⟨hn,ha,bO _,λ_ _=>rfl⟩:eX n bl.length ρ m n' bl.length aa m) (fm.refl _ _)
  rw[<-d2]at po
  have aeZ:eA.length=0->(k n' (gx tm o.dst (cl tm s)) bl).holds S L G aa->o.wp P a w K Q:=λh0 PH=>by
   have jc:eA=[]:=zI h0
   subst jc
   refine BQ _ _ (by rw[uw];exact run_append_nothing w t t' o.type e i (iT BP) hi base 0 0 (bO _) _ po) ?_
   refine om n' aa m _ bl G _ w (eX.refl _ _ _ _) (fm.refl _ _) ⟨eY.put vq.t o.dst (cM vq.t s).1 ?_,by rw[put_defers];exact h.d,vq.b,vq.bF⟩ PH
   rw[<-uw];exact(cM vq.t s).2
  have aeI:0<eA.length->(Ic e o.dst sh p.1 p.2 n' tm bl k).holds S L G aa->o.wp P a w K Q:=λh0 PH=>by
   have Le:=adX w (0+eA.length) 0 e (by omega)
   refine BQ _ _ (by rw[uw];exact run_append_grow_src w t t' o.type e i o5 (iT BP) hi jZ base 0 0 [] (adm _ _ _ _) _ _ _ po (by omega) (by omega) (growslice_fits (by omega) (by
    have:=aiR (show 0+eA.length<=1073741824 by omega) d4
    omega))) ?_
   have key:=adW (c:=grownCap w (0+eA.length) 0 e) (cells:=([]++ca sh eA).toArray++qd o5.cells (grownCap w (0+eA.length) 0 e-(0+eA.length))) vq bm cb cJ et oS kg (by omega) Le.2 (by
    have:=po.newsLen
    rw[aja,aiJ,q8,d3,Bc,gp,this,d2,<-zH]
    congr 1;omega) ⟨(qd o5.cells (grownCap w (0+eA.length) 0 e-(0+eA.length))).toList,by simp⟩ PH om
   simpa using key
  split at ae
  ·rename_i hc0
   have:=I.km hc0 (ρ:=aa)
   exact aeZ (by omega) ae
  ·rename_i alq hc0 c7
   have:=I.km c7 (ρ:=aa)
   exact aeI (by
    have:alq≠0:=λe=>hc0 e
    omega) ae
  ·simp only[T.holds,bC.den,I.br,decide_eq_true_eq,decide_eq_false_iff_not]at ae
   by_cases h0:eA.length=0
   ·exact aeZ h0 (ae.1 (by omega))
   ·exact aeI (by omega) (ae.2 (by omega))
 ·split at bH
  rotate_left
  ·cases bH
  rename_i b bz off ro len cap tO
  split at bH
  rotate_left
  ·cases bH
  rename_i sh kf code e5 kind dJ aX
  cases ja:(Ia sh i z&&aM kind 2&&I.beq off (.const 0)&&I.beq kf (.const 0)&&I.beq ro (.const 0)&&I.beq cap e5&&aM dJ.1 e)with
  |false=>rw[ja]at bH;cases bH
  |true=>
  rw[ja]at bH
  simp only[cond_true,bb]at bH
  subst bH
  simp only[bw]at ja
  obtain⟨⟨⟨⟨⟨⟨ja,k2⟩,b8⟩,b9⟩,de⟩,oH⟩,oI⟩:=ja
  have oI:=bR oI
  have k2:=bR k2
  have b8:=I.beq_eq b8
  have b9:=I.beq_eq b9
  have de:=I.beq_eq de
  have oH:=I.beq_eq oH
  subst k2;subst b8;subst b9;subst de;subst oH
  unfold Ia at ja
  simp only[bw]at ja
  obtain⟨⟨⟨d1,d2⟩,d3⟩,d4⟩:=ja
  have d2:=bR d2
  have d3:=bR d3
  have d4:=fP d4
  obtain⟨PK,ae⟩:=ae
  simp only[c5,fD,ar]at PK
  rw[tO]at hs
  have Gd:(A.sl b bz (.const 0) (.const 0) len cap).ok n bl.length ρ:=hs.1
  obtain⟨ptr,aw,aD,cj⟩:=wj (m:=m) Gd
  have uw:a.eval s=(A.sl b bz (.const 0) (.const 0) len cap).den ρ m:=hs.2
  rw[aw]at uw
  obtain⟨ag,⟨ad,ao,cZ,iV⟩,⟨jG,n7,n8,n9⟩,⟨oA,n6⟩,gX,jF⟩:=Gd
  rw[I.br]at n6
  have pS:=h.bF.rws b sh (.const 0) code cap 2 dJ aX (by decide)
  have gD:(A.rows sh (.const 0) code cap 2).ok n bl.length ρ:=h.b _ (e8 aX) _ (by simp)
  obtain⟨⟨r1,r2,gI⟩,n2,av⟩:=gD
  have m5:∀row∈ak (code.den ρ),cF sh row:=λrow hr=>by
   rcases od (cap.den ρ) 0 with h|h
   ·rw[pS.1 h]at hr;simp at hr
   ·obtain⟨_,cells,nq,fz,_,⟨_,g3⟩,_⟩:=pS.2 h
    exact g3.1 row hr
  obtain⟨aa,n',p,hn,ha,⟨bm,cb,cJ,eA,et,kg,oS,qz,po⟩,ae⟩:=(ah2 (P:=P) d1 h.b h.bF hx.1 hx.2 r2 n2 m5) G _ ae
  rw[<-d2]at po
  generalize tN:ak (code.den ρ)=rows at*
  have ao8:=h.kill aX
  have vq:=ao8.later hn ha
  have qn:=kQ bl b ([.rows sh (.const 0) code cap 0],dJ)
  have om:nL S L w0 k n' (dN bl b ([.rows sh (.const 0) code cap 0],dJ)).length aa m G K:=by
   rw[qn]
   exact ab.later (⟨hn,ha,bO _,λ_ _=>rfl⟩:eX n bl.length ρ m n' bl.length aa m) (fm.refl _ _)
  have PQ:(len.add p.2).den aa=(rows++eA).length:=by
   rw[I.den_add,I.b5 ha cZ,kg,PK];simp
  have jr:∀row∈rows++eA,cF sh row:=λrow hr=>(List.mem_append.1 hr).elim (m5 row) (oS row)
  have aeY:=po.newsLen
  have aeU:(len.den ρ).toNat=rows.length:=by omega
  have kn:cap.den aa=cap.den ρ:=I.b5 ha iV
  have IA:(len.add p.2).bG n':=I.xQ (cZ.mono hn) cb
  have PM:(rows++eA).length=rows.length+eA.length:=fQ
  have kU:(ca sh rows).length=rows.length*i.size:=by rw[qY m5,d2]
  by_cases LG:((rows.length+eA.length:Nat):Int)<=cap.den ρ∨(cap.den ρ<0/\eA.length=0)
  ·by_cases hc0:cap.den ρ<0
   ·
    have jc:eA.length=0:=by rcases LG with h|h<;>omega
    have jc:eA=[]:=zI jc
    subst jc
    have Wh:rows=[]:=pS.1 hc0
    subst Wh
    have pQ:=gX hc0
    refine BQ _ _ (by rw[uw,aD hc0,if_pos hc0,pQ];exact run_append_nothing w t t' o.type e i (iT BP) hi none 0 0 (bO _) _ po) ?_
    have key:=XP (c:=-1) (g:=w.heap.size) vq bm IA cJ ⟨by omega,by omega⟩ (by rw[PQ];exact⟨⟨by omega,by omega,by omega,by omega⟩,⟨by omega,by omega⟩,λh=>by simp,λh=>by omega⟩) (λ_=>by rw[et];rfl) (λh=>by omega) (λ_ _ _ _=> .inr (by omega)) ae om
    rw[if_pos (by omega)]at key
    exact key
   ·
    obtain⟨_,cells,nq,fz,g1,⟨g2,g3⟩,g4⟩:=pS.2 (by omega)
    obtain⟨g0,g5,g6,g7,g8,g9⟩:=g4 (by decide)
    subst g0
    have g6:=g6.two
    subst g6
    rw[I.br]at g3
    obtain⟨_,pre,post,g10,g11⟩:=g3
    have rS:pre=[]:=zI (by simpa using g11)
    subst rS
    simp only[gp]at g10
    have hsz:cells.size=(ca sh rows).length+post.length:=by rw[<-CO,g10,fQ]
    have ae4:rows.length+eA.length<=(cap.den ρ).toNat:=by rcases LG with h|h<;>omega
    have Aq:rows.length*i.size+(ca sh eA).length<=cells.size:=by
     rw[aeY,g7,<-zH,d2]
     exact ZF _ ae4
    have jC:=awi w t t' o.type e i (iT BP) hi (m b) rows.length (cap.den ρ).toNat cells dJ.1 g1 _ _ _ po ae4 Aq
    have apS:a.eval s= .slice (some ⟨m b,0,none⟩) rows.length (cap.den ρ).toNat:=by
     rw[uw,cj (by omega),if_neg hc0,aeU,I.br];simp
    refine BQ _ _ (by rw[apS];exact jC) ?_
    have xl:(cells.toList.take (rows.length*i.size)++ca sh eA++cells.toList.drop (rows.length*i.size+(ca sh eA).length))=ca sh (rows++eA)++cells.toList.drop (rows.length*i.size+(ca sh eA).length):=by
     rw[yK,g10,Nk (by omega),<-kU,Zo]
    rw[xl]
    have PT:=h.bF.put (kd:=2) (cells:=cells) (fz:=(0,0)) (code':=code) (by decide) aX (by omega) (row:=(ca sh (rows++eA)++cells.toList.drop (rows.length*i.size+(ca sh eA).length)).toArray) (λ_=>⟨λh=>by omega,λ_=>⟨g9.elim .inl λh=> .inr (.inr h),_,_,(0,0),Nu w (m b) _ _ _ _ g1,⟨g2,by
     rw[tN,I.br]
     exact⟨m5,[],ca sh eA++cells.toList.drop (rows.length*i.size+(ca sh eA).length),by simp[yK],rfl⟩⟩,λ_=>⟨rfl,g5,.L7,by
     rw[<-g7];simp only[Bc,fQ,rA,CO,yK];omega,g8,g9⟩⟩⟩)
    have apO:dN bl b ([.rows sh (.const 0) code cap 2],dJ)=bl:=by
     rw[np]
     exact ZA λj=>by
      rw[uV]
      split
      ·rename_i aK
       subst aK
       first|exact aX.symm|(rw[if_pos (List.getElem?_eq_some_iff.1 aX).1];exact aX.symm)
      ·rfl
    rw[apO]at PT
    have FO:R w0 n ρ m tm bl a (w.setRow (m b) (ca sh (rows++eA)++cells.toList.drop (rows.length*i.size+(ca sh eA).length)).toArray):=⟨h.t,h.d,h.b,PT⟩
    have an4:=(FO.kill aX).later hn ha
    have key:=XP (e:=e) (d:=o.dst) (c:=cap.den ρ) (g:=m b) an4 bm IA cJ ⟨by omega,by omega⟩ (by rw[PQ,PM];exact⟨⟨by omega,by omega,by omega,by omega⟩,⟨by omega,by omega⟩,λh=>by omega,λh=>by omega⟩) (λh=>by omega)
     (λ_=>⟨_,by rw[<-oI];exact Nu w (m b) _ _ _ _ g1,by
       rw[et]
       exact⟨jr,[],cells.toList.drop (rows.length*i.size+(ca sh eA).length),by simp,rfl⟩,by
       rw[<-g7];simp only[Bc,fQ,rA,CO,yK];omega,g8,g9⟩) (λj q aK he=>by
       by_cases F1:j=b
       ·subst F1
        rw[np,aiS (List.getElem?_eq_some_iff.1 aX).1]at aK
        simp only[bb]at aK
        subst aK
        exact .inl (by simp[bM])
       ·rw[np,Zn (λe=>F1 e.symm)]at aK
        have pP:bM ρ [A.rows sh (.const 0) code cap 2]=2:=vB (by decide) (by omega)
        have ao9:bM ρ q.1=0:=by
         rcases h.bF.inj j b q _ aK aX he with dZ|dZ|dZ|dZ
         ·exact absurd dZ F1
         ·have:=dZ.2;simp only[pP]at this;omega
         ·exact dZ
         ·simp only[pP]at dZ;omega
        exact .inl (by rw[xw (h.b _ (e8 aK)) ha];exact ao9)) ae om
    rw[if_neg hc0,PQ,PM,sq]at key
    exact key
  ·
   have aeJ:(if cap.den ρ<0 then 0 else(cap.den ρ).toNat)<rows.length+eA.length:=by
    split
    ·rename_i hc
     have:¬eA.length=0:=λe=>LG (.inr ⟨hc,e⟩)
     omega
    ·omega
   have hold:(JX i.size rows.length (.slice ptr rows.length (if cap.den ρ<0 then 0 else(cap.den ρ).toNat))).run P w.drew= .ok (ca sh rows).toArray w.drew:=by
    by_cases hc:cap.den ρ<0
    ·have Wh:rows=[]:=pS.1 hc
     subst Wh
     exact adm _ _ _ _
    ·obtain⟨_,cells,nq,fz,g1,⟨g2,g3⟩,g4⟩:=pS.2 (by omega)
     rw[cj (by omega)]
     refine RV w.drew i.size rows.length _ rows.length _ (ca sh rows) kU λj v hv=>?_
     rw[kF,I.br]
     have:=g3.flat hv
     rw[I.br]at this
     have oM:w.drew.heap[m b]?=some (.cells cells nq fz):=g1
     simp only[o3,oM,yl,ym,if_false]
     simpa using this
   have Le:=adX w (rows.length+eA.length) (if cap.den ρ<0 then 0 else(cap.den ρ).toNat) e qz
   refine BQ _ _ (by rw[uw,aeU];exact run_append_grow_src w t t' o.type e i o5 (iT BP) hi jZ ptr rows.length _ (ca sh rows) hold _ _ _ po aeJ (by omega) (growslice_fits aeJ (by
    have:=aiR qz d4
    omega))) ?_
   have key:=adW (e:=e) (d:=o.dst) (c:=grownCap w (rows.length+eA.length) (if cap.den ρ<0 then 0 else(cap.den ρ).toNat) e) (cells:=(ca sh rows++ca sh eA).toArray++qd o5.cells (grownCap w (rows.length+eA.length) (if cap.den ρ<0 then 0 else(cap.den ρ).toNat) e-(rows.length+eA.length))) vq bm IA cJ et jr PQ (by rw[PM];exact Le.1) Le.2 (by
    rw[aja,aiJ,q8,d3,Bc,fQ,kU,aeY,<-zH,d2,<-zH]
    congr 1;omega) ⟨(qd o5.cells (grownCap w (rows.length+eA.length) (if cap.den ρ<0 then 0 else(cap.den ρ).toNat) e-(rows.length+eA.length))).toList,by rw[yK];simp⟩ ae om
   rw[PM]at key
   exact key
theorem axn {tm:List V} {a:Act} {w:aC} {G:e2} {o:Oper} {K:Act->aC->Prop} {Q:Exit->Act->aC->Prop} {k:iI} {ui:T}
 (h:R w0 n ρ m tm bl a w) (bH:YL P o n tm bl k=some ui) (ae:ui.holds S L G ρ) (ab:nL S L w0 k n bl.length ρ m G K):o.wp P a w K Q:=by
 unfold YL at bH
 split at bH
 ·rename_i c ax
  split at bH
  ·rename_i hc
   split at bH
   ·rename_i s x t t' gf pf
    exact akE h ax hc gf pf bH ae ab
   ·cases bH
  ·cases bH
 ·cases bH
end
end Go.ch
namespace Go.ch
open M
theorem MR:∀{s1 s2:List aN} {l1 l2:List Int},l1.length=s1.length->dr (s1++s2) (l1++l2)=dr s1 l1++dr s2 l2
 |[],_,[],_,_=>rfl
 |c::s1,s2,z::l1,l2,h=>by
  simp only[mY,dr,MR (s1:=s1) (s2:=s2) (l1:=l1) (l2:=l2) (by simpa using h)]
 |[],_,_::_,_,h=>by simp at h
 |_::_,_,[],_,h=>by simp at h
theorem J6:∀{s1 s2:List aN} {l1 l2:List Int},l1.length=s1.length->(cF (s1++s2) (l1++l2)↔cF s1 l1/\cF s2 l2)
 |[],_,[],_,_=>by simp[cF]
 |c::s1,s2,z::l1,l2,h=>by
  simp only[mY,cF,J6 (s1:=s1) (s2:=s2) (l1:=l1) (l2:=l2) (by simpa using h),and_assoc]
 |[],_,_::_,_,h=>by simp at h
 |_::_,_,[],_,h=>by simp at h
theorem ahp {sh:List aN} {row ls:List Int} {j s:Nat} (h:cF sh row) (hl:cF ((sh.drop j).take s) ls) (aK:j+s<=sh.length):
 cF sh (row.take j++ls++row.drop (j+ls.length))/\dr sh (row.take j++ls++row.drop (j+ls.length))=(dr sh row).take j++dr ((sh.drop j).take s) ls++(dr sh row).drop (j+s):=by
 have hlen:=h.len
 have V2:ls.length=s:=by rw[hl.len];simp;omega
 have e:sh=sh.take j++((sh.drop j).take s++sh.drop (j+s)):=by
  rw[<-A9,o2,o2]
 have qX:row=row.take j++((row.drop j).take s++row.drop (j+s)):=by
  rw[<-A9,o2,o2]
 have l1:(row.take j).length=(sh.take j).length:=by simp[hlen]
 have l2:((row.drop j).take s).length=((sh.drop j).take s).length:=by simp[hlen]
 have qx:ls.length=((sh.drop j).take s).length:=hl.len
 have h0:cF (sh.take j++((sh.drop j).take s++sh.drop (j+s))) (row.take j++((row.drop j).take s++row.drop (j+s))):=by rw[<-e,<-qX];exact h
 rw[J6 l1,J6 l2]at h0
 have hv:dr sh row=dr (sh.take j) (row.take j)++(dr ((sh.drop j).take s) ((row.drop j).take s)++dr (sh.drop (j+s)) (row.drop (j+s))):=by
  conv=>lhs;rw[e,qX]
  rw[MR l1,MR l2]
 have k1:(dr (sh.take j) (row.take j)).length=j:=by rw[GV h0.1];simp;omega
 have k2:(dr ((sh.drop j).take s) ((row.drop j).take s)).length=s:=by rw[GV h0.2.1];simp;omega
 rw[V2]
 refine⟨?_,?_⟩
 ·rw[nI]
  conv=>lhs;rw[e]
  rw[J6 l1,J6 qx]
  exact⟨h0.1,hl,h0.2.2⟩
 ·rw[nI]
  conv=>lhs;rw[e]
  have aA:(dr sh row).take j=dr (sh.take j) (row.take j):=by rw[hv];exact List.take_left' k1
  have hd:(dr sh row).drop (j+s)=dr (sh.drop (j+s)) (row.drop (j+s)):=by
   rw[hv,<-nI];exact List.drop_left' (by rw[fQ,k1,k2])
  rw[MR l1,MR qx,aA,hd,nI]
theorem U2 {sh:List aN}:∀{rows:List (List Int)} {i:Nat} {row:List Int},rows[i]?=some row->ca sh rows=ca sh (rows.take i)++(dr sh row++ca sh (rows.drop (i+1)))
 |r::rs,0,row,h=>by simp at h;subst h;simp[ca]
 |r::rs,i+1,row,h=>by
  have ih:=U2 (sh:=sh) (rows:=rs) (i:=i) (by simpa using h)
  simp only[ca,uY,o4,List.drop_succ_cons]at ih⊢
  rw[ih,nI]
 |[],_,_,h=>by simp at h
theorem amL {sh:List aN} {rows:List (List Int)} {i:Nat} {row GU:List Int} (h:rows[i]?=some row):ca sh (rows.set i GU)=ca sh (rows.take i)++(dr sh GU++ca sh (rows.drop (i+1))):=by
 have hlt:=(List.getElem?_eq_some_iff.1 h).1
 have:=U2 (sh:=sh) (rows:=rows.set i GU) (i:=i) (row:=GU) (by simp[hlt])
 rw[this,List.take_set,List.drop_set_of_lt (by omega)]
 congr 1
 congr 1
 rw[List.set_eq_of_length_le (by simp;omega)]
theorem Q6 {P:bV} (g o:Nat) (t:bp) (fz:Nat×Nat) (kd:Nat):∀(vs:List aV) (i:Nat) (cur:Array aV) (w:aC),Bh kd fz cur.size->w.heap[g]?=some (.cells cur t fz)->o+i+vs.length<=cur.size->(∀v∈vs,v.oneCell'=true)->
 (storeCells ⟨g,o,none⟩ vs i).run P w= .ok () (w.setRow g (cur.toList.take (o+i)++vs++cur.toList.drop (o+i+vs.length)).toArray)
 |[],i,cur,w,_,hg,_,_=>by
  simp only[storeCells,gZ,qL,pE,o2,lN]
  rw[setRow_self w g cur t fz hg]
  rfl
 |v::rest,i,cur,w,VM,hg,hl,h1=>by
  have hi:o+i<cur.size:=by simp at hl;omega
  have hcell:w.cell? ⟨g,o+i,none⟩=some cur[o+i]:=by simp[o3,hg,hi]
  have aoU:w.frozen? ⟨g,o+i,none⟩=false:=by
   rcases VM with⟨_,rfl⟩|⟨_,rfl⟩
   ·simp[CK,hg]
   ·simp[CK,hg];omega
  have oP:(store ((⟨g,o,none⟩:Addr).add i) v).run P w= .ok () (w.setRow g (cur.setIfInBounds (o+i) v)):=by
   rw[kF,run_store P w _ v _ (h1 v (by simp)),hcell]
   simp[aoU,setCell_eq_setRow w g (o+i) cur t fz v hg]
  have ih:=Q6 (P:=P) g o t fz kd rest (i+1) (cur.setIfInBounds (o+i) v) (w.setRow g (cur.setIfInBounds (o+i) v)) (by simpa using VM) (Nu w g cur _ t _ hg) (by simp at hl⊢;omega) (λx hx=>h1 x (by simp[hx]))
  simp only[storeCells,jg,oP,jv,ih,setRow_setRow]
  congr 3
  have e:=list_seg_step cur.toList (o+i) v rest (by simp at hl⊢;omega)
  simpa [Array.toList_setIfInBounds,Nat.add_assoc]using e
section
variable {S:Nat->List Int->List Int->Prop} {L:V->Env->Prop} {n:Nat} {ρ:Env} {m:Nat->Nat} {bl:List aE} {gl:fa} {w0:eG} {P:bV}
theorem afC {tm:List V} {a:Act} (h:eY n bl.length ρ m tm a.tmps) {x:rC} {l:I} (hl:tR (cl tm x)=some l):∃k,a.eval x= .int k (l.den ρ)/\l.bG n:=by
 have hx:=cM h x
 unfold tR at hl
 split at hl
 ·rename_i k m7 hv
  simp only[bb]at hl
  subst hl
  rw[hv]at hx
  exact⟨k,hx.2,hx.1.1⟩
 ·cases hl
theorem Mem.mark {w0:eG} {P:bV} {ρ:Env} {m:Nat->Nat} {bl:List aE} {w:aC} {b c:Nat} {C:List A} {code:I} {t:bp×Bool} {s e:bp} (h:Mem w0 ρ m bl w) (aX:bl[b]?=some (C,t)) (ax:cc C=true) (aA:t.2=false) (hlen:C.length=c)
 (hs:P.underlying s=some (.slice e)) (he:P.underlying e=some (.int .u8))
 (m5:∀row∈ak (code.den ρ),cF jJ row) (kU:ca jJ (ak (code.den ρ))=C.map (A.den ρ m)):
 ∃w',(convert s s (.slice (some ⟨m b,0,none⟩) c c)).run P w= .ok (.slice (some ⟨m b,0,none⟩) c c) w'/\Mem w0 ρ m (dN bl b ([.rows jJ (.const 0) code (.const c) 3],t)) w':=by
 have tF:b<bl.length:=(List.getElem?_eq_some_iff.1 aX).1
 obtain⟨bm,cb,r,hr,cJ⟩:=h.fT b C t aX ax
 have hr:=hr aA
 subst hr
 rw[gZ]at cJ
 have hsz:(C.map (A.den ρ m)).toArray.size=c:=by simp[hlen]
 have lR:w.shape? (m b)=some (t.1,c):=by
  unfold World.shape?
  rw[cJ];simp[hlen]
 have Ir:∀i:Nat,i≠m b->(w.freeze ⟨m b,c,none⟩ 1).heap[i]?=w.heap[i]?:=λi hi=>by
  unfold RX
  rw[if_neg (by decide)]
  simp only[aBR]
  rw[if_neg (λe=>hi e.symm)]
 have tJ:(w.freeze ⟨m b,c,none⟩ 1).heap[m b]?=some (.cells (C.map (A.den ρ m)).toArray t.1 (c,c+1)):=by
  unfold RX
  rw[if_neg (by decide)]
  simp only[aBR,if_true,cJ,zA]
  rfl
 have aeG:(w.freeze ⟨m b,c,none⟩ 1).heap.size=w.heap.size:=by
  unfold RX
  rw[if_neg (by decide)]
  simp
 refine⟨w.freeze ⟨m b,c,none⟩ 1,?_,?_⟩
 ·simp[convert,fx hs,fx he,markStringish,lR]
 generalize BB:w.freeze ⟨m b,c,none⟩ 1=w' at*
 have jN:w'.os=w.os/\w'.tape=w.tape/\w'.output=w.output:=by
  subst BB
  unfold RX
  rw[if_neg (by decide)]
  exact⟨rfl,rfl,rfl⟩
 have er:∀(i:Nat) (p:aE),(dN bl b ([.rows jJ (.const 0) code (.const c) 3],t))[i]?=some p->(i=b/\p=([.rows jJ (.const 0) code (.const c) 3],t))∨(i≠b/\bl[i]?=some p):=λi p hi=>by
  rw[np,uV]at hi
  split at hi
  ·rename_i hW
   subst hW
   simp only[tF,if_true,bb]at hi
   exact .inl ⟨rfl,hi.symm⟩
  ·rename_i hW;exact .inr ⟨λe=>hW e.symm,hi⟩
 have pP:bM ρ C=2:=oq ax
 have PI:bM ρ [.rows jJ (.const 0) code (.const c) 3]=3:=vB (by decide) (by rw[I.br];omega)
 have V8:∀i:Nat,i<w0.b.heap.size->w'.heap[i]?=w.heap[i]?:=λi hi=>Ir i (by omega)
 have FX:w0.b.Extends w':=⟨jN.1.trans h.ext.os,jN.2.1.trans h.ext.tape,jN.2.2.trans h.ext.output,by rw[aeG];exact h.ext.size,
  λy hy=>wG (by simp only[o3,V8 y.block hy]) (h.ext.cell y hy),λy hy=>wG (by simp only[CK,V8 y.block hy]) (h.ext.frozen y hy),λi hi=>(V8 i hi).trans (h.ext.block i hi)⟩
 refine⟨FX,jN.1.trans h.jN,jN.2.1.trans h.m6,jN.2.2.trans h.kV,by rw[aeG];exact h.gF,λi hi hx=>?_,λi kI t' hi jY=>?_,λi fX kf code' j8 sL t' hi=>?_,λi j p q hi aK he=>?_⟩
 ·rw[Ir i (λe=>by
   subst e
   rcases cb with h3|h3
   ·exact hx h3
   ·omega)]
  exact h.jB i hi hx
 ·rcases er i _ hi with⟨rfl,ec⟩|⟨c7,hi⟩
  ·cases ec;cases jY
  ·obtain⟨g1,oM,g2⟩:=h.fT i kI t' hi jY
   exact⟨g1,oM,by rw[Ir (m i) (λe=>h.ne aX hi (by rw[pP];exact bO 2) (by rw[oq jY];decide) (λe=>c7 e.symm) (by first|exact e|exact e.symm))];exact g2⟩
 ·rcases er i _ hi with⟨rfl,ec⟩|⟨c7,hi⟩
  ·cases ec
   intro _
   simp only[I.br]
   refine⟨λh0=>by omega,λ_=>⟨cb.elim .inl λh=> .inr (.inr h),_,_,_,tJ,⟨cW _,m5,[],[],by simp[kU],rfl⟩,λ_=>⟨rfl,by trivial,.inr ⟨by decide,by rw[hsz]⟩,by simp[hlen,jJ],bm,cb⟩⟩⟩
  ·exact(h.rws i fX kf _ j8 sL t' hi).grow λab hc=>Ir (m i) (λe=>h.ne aX hi (by rw[pP];exact bO 2) (by simp only[vB ab hc];exact ab) (λe=>c7 e.symm) (by first|exact e|exact e.symm))
 ·have ab:∀(i:Nat) (p:aE),(dN bl b ([.rows jJ (.const 0) code (.const c) 3],t))[i]?=some p->∃dj,bl[i]?=some dj/\(bM ρ dj.1=bM ρ p.1∨(bM ρ dj.1=2/\bM ρ p.1=3)):=λi p hi=>by
   rcases er i _ hi with⟨rfl,ec⟩|⟨c7,hi⟩
   ·exact⟨_,aX,.inr ⟨pP,by rw[ec];exact PI⟩⟩
   ·exact⟨p,hi,.inl rfl⟩
  obtain⟨dj,hp,ep⟩:=ab i p hi
  obtain⟨e3,ah,eq⟩:=ab j q aK
  have:=h.inj i j dj e3 hp ah he
  omega
theorem ac2:∀(n t:Nat) (acc:Array aV),∃l:List (List Int),l.length=n/\(∀r∈l,cF jJ r)/\(Be n t acc).toList=acc.toList++ca jJ l
 |0,_,_=>⟨[],rfl,by simp,by simp[Be,ca]⟩
 |n+1,t,acc=>by
  obtain⟨l,h1,h2,h3⟩:=ac2 n (t/256) (acc.push (.int .u8 (Int.ofNat (t% 256))))
  refine⟨[((t% 256:Nat):Int)]::l,by simp[h1],λr hr=>?_,?_⟩
  ·rcases List.mem_cons.1 hr with rfl|hr
   ·exact⟨⟨by simp only[aN.ga];omega,by simp only[aN.ga];omega⟩,trivial⟩
   ·exact h2 r hr
  ·rw[Be,h3]
   simp[ca,jJ,dr,aN.val]
theorem awk {P:bV} (w:aC) (kq:Array bp) (t e:bp) (aA:P.underlying t=some (.slice e)) (n:Nat) (hn:n<=281474976710656):
 ∃(c d:Nat),(ZG kq #[t] #[.int .i64 n]).run P w= .ok (.slice (some ⟨w.heap.size,0,none⟩) n c) (w.drew.drew.alloc (.cells (Be c d #[]) e))/\n<=c/\(n<=maxLen->c<=maxLen):=by
 have Li:ZG kq #[t] #[.int .i64 n]=
  (do
    let .slice elem<-underlying t|stuck "bytealg.MakeNoZero: slice type expected"
    if(n:Int)<0||(n:Int)>2^48 then runtimePanic (.error "makeslice: len out of range")
    let cap<-choose (.appendCap (n:Int).toNat 0 elem)
    askRoom cap
    let bytes<-choose (.extern "internal/bytealg.MakeNoZero.bytes" 0)
    let a<-newRow elem (Be cap bytes #[])
    pure (.slice (some a) (n:Int).toNat cap)):=rfl
 have h1:¬(n:Int)<0:=by omega
 have h2:¬(281474976710656:Int)<(n:Int):=by omega
 exact⟨grownCap w n 0 e,_,by
  rw[Li]
  simp[fx aA,h1,h2,Question.forced,newRow,grownCap]
  rfl,by simpa using grownCap_ge w n 0 e,λhm=>by simpa using grownCap_le_maxLen w n 0 e hm⟩
theorem amF {fn:Func} (h:Qb fn=true):fn.body.isNone=true/\(fn.name== "runtime.NumGoroutine")=false/\Zp fn=none/\Zq fn=some (ZG fn.params fn.resultTypes):=by
 unfold Qb at h
 simp only[bw,beq_iff_eq]at h
 obtain⟨⟨h1,h2⟩,h3⟩:=h
 have g1:Extern.allNextRows.lookup "internal/bytealg.MakeNoZero" =none:=by kernel_rfl
 have g2:Extern.allNextRows.lookup "" =none:=by kernel_rfl
 have g3:Extern.allGenericRows.lookup "internal/bytealg.MakeNoZero" =none:=by kernel_rfl
 have g4:Extern.allTypedRows.lookup "internal/bytealg.MakeNoZero" =some ZG:=by kernel_rfl
 refine⟨h2,by rw[h1];decide,?_,?_⟩
 ·unfold Zp
  simp only[h1,h3,g1,g2]
  rfl
 ·unfold Zq
  simp only[h1,g3,g4]
  rfl
theorem axp {tm:List V} {a:Act} {w:aC} {G:e2} {o:Oper} {K:Act->aC->Prop} {Q:Exit->Act->aC->Prop} {k:iI} {ui:T}
 (h:R w0 n ρ m tm bl a w) (bH:Cx P o n tm bl k=some ui) (ae:ui.holds S L G ρ) (ab:nL S L w0 k n bl.length ρ m G K):o.wp P a w K Q:=by
 unfold Cx at bH
 split at bH
 ·rename_i t p x ax
  have hp:=cM h.t p
  have hx:=cM h.t x
  split at bH
  ·rename_i b bz cD i j u Wf BS
   rw[Wf]at hp
   rw[BS]at hx
   split at bH
   ·rename_i sh off code cap kind dJ s aX hs
    cases hc:(cK 2 kind&&aM bz sh.length&&I.beq cD off&&aM u.cells.length s&&dP 0 s&&cK (j+s) sh.length&&qC sh)with
    |false=>rw[hc]at bH;cases bH
    |true=>
     rw[hc]at bH
     simp only[cond_true,bb]at bH
     subst bH
     simp only[bw]at hc
     obtain⟨⟨⟨⟨⟨⟨c1,bK⟩,cy⟩,c3⟩,fh⟩,hH⟩,qi⟩:=hc
     have c1:=fP c1;have bK:=bR bK;have cy:=I.beq_eq cy;have c3:=bR c3;have fh:=vh fh;have hH:=fP hH
     subst bK;subst cy;subst c3
     have We:a.eval p= .pointer (some ⟨m b,(cD.den ρ).toNat+(i.den ρ).toNat*sh.length+j,none⟩):=hp.2
     have dp:a.eval x=u.den ρ m:=hx.2
     have apA:(A.ep b sh.length cD i j).ok n bl.length ρ:=hp.1
     have gD:(A.rows sh cD code cap kind).ok n bl.length ρ:=h.b _ (e8 aX) _ (by simp)
     have db:az S L (bind (gS 21 [code,i]) λ_=>bind (Hs 67 [code,i,.const sh.length]) λ_=>bind (Cu ((sh.drop j).take u.cells.length) u.cells) λls=>bind (fV 42 (code::i:: .const j::ls) 0 bU) λcode'=>pure code') n ρ λaa n' code'=>code'.bG n'/\(0<=code'.den aa/\code'.den aa<=bU)/\(0<=i.den ρ/\i.den ρ<(ak (code.den ρ)).length)/\
      ∃ls:List Int,cF ((sh.drop j).take u.cells.length) ls/\dr ((sh.drop j).take u.cells.length) ls=u.cells.map (A.den ρ m)/\
       ak (code'.den aa)=(ak (code.den ρ)).set (i.den ρ).toNat (((ak (code.den ρ)).getD (i.den ρ).toNat []).take j++ls++((ak (code.den ρ)).getD (i.den ρ).toNat []).drop (j+ls.length)):=by
      refine jL λnR=>?_
      have nR:0<=i.den ρ/\i.den ρ<(ak (code.den ρ)).length:=nR
      have hlt:(i.den ρ).toNat<(ak (code.den ρ)).length:=by omega
      have df:0<=cap.den ρ:=by
       rcases od (cap.den ρ) 0 with jX|jX
       ·have:=(h.bF.rws b sh cD code cap kind dJ aX (by omega)).1 jX
        rw[this]at hlt;simp at hlt
       ·exact jX
      obtain⟨_,cells,nq,fz,bm,⟨cb,cJ⟩,et⟩:=(h.bF.rws b sh cD code cap kind dJ aX (by omega)).2 df
      have It:(ak (code.den ρ)).getD (i.den ρ).toNat []=(ak (code.den ρ))[(i.den ρ).toNat]:=by simp[U,hlt]
      have kb:cF sh ((ak (code.den ρ)).getD (i.den ρ).toNat []):=by rw[It];exact cJ.1 _ (JR hlt)
      refine(N5 (op:=67) (ls:=[code,i,.const sh.length]) (by simp only[c5,fD,ar,I.br,sq];exact kb.len)).bind λcu jt _ _ _ ⟨Gg,tL⟩=>?_
      have Gg:=Gg.symm;have tL:=tL.symm
      subst Gg;subst tL
      refine(Jn (nb:=bl.length) (m:=m) (λy hy=>W.HL hx.1 y hy)).bind λaQ a1 ls gE fe ⟨g1,g2,g3⟩=>?_
      have hf:bE 42 ((code::i::I.const j::ls).map (·.den aQ))=rc ((ak (code.den ρ)).set (i.den ρ).toNat (((ak (code.den ρ)).getD (i.den ρ).toNat []).take j++ls.map (·.den aQ)++((ak (code.den ρ)).getD (i.den ρ).toNat []).drop (j+(ls.map (·.den aQ)).length))):=by
       simp only[c5,bE,I.br,sq,I.b5 fe gD.1.2.1,I.b5 fe apA.2.1.2]
      have apD:=ahp kb g2 hH
      have tN:∀r∈(ak (code.den ρ)).set (i.den ρ).toNat (((ak (code.den ρ)).getD (i.den ρ).toNat []).take j++ls.map (·.den aQ)++((ak (code.den ρ)).getD (i.den ρ).toNat []).drop (j+(ls.map (·.den aQ)).length)),cF sh r:=λr hr=>by
       rcases Nv hr with hr|hr
       ·exact cJ.1 r hr
       ·subst hr;exact apD.1
      have rR:0<sh.length:=by omega
      have hlen:(ak (code.den ρ)).length<=maxLen:=by
       have Mp:=cJ
       obtain⟨_,pre,post,cz,cw⟩:=Mp
       have h4:=congrArg qa cz
       simp only[fQ,qY cJ.1,CO]at h4
       obtain⟨_,_,_,h5,_⟩:=et c1
       rw[h5]at h4
       have h6:(ak (code.den ρ)).length*sh.length<=(cap.den ρ).toNat*sh.length:=by omega
       have h7:=aBS h6 rR
       have:=gD.2.2.2
       unfold maxLen;omega
      have iA:=uh (l:=(ak (code.den ρ)).set (i.den ρ).toNat (((ak (code.den ρ)).getD (i.den ρ).toNat []).take j++ls.map (·.den aQ)++((ak (code.den ρ)).getD (i.den ρ).toNat []).drop (j+(ls.map (·.den aQ)).length))) (by simpa using hlen) λr hr=>(tN r hr).row qi
      refine(iP (by rw[hf];exact jR _) (by rw[hf];exact iA)).bind λbW ff code' fo eb ⟨k1,k2⟩=>az.pure ?_
      rw[hf]at k2
      exact⟨k1,by rw[k2];exact⟨jR _,iA⟩,nR,ls.map (·.den aQ),g2,g3,by rw[k2,kh]⟩
     obtain⟨aa,n',code',hn,ha,⟨g1,g2,g3,ls,g4,g5,g6⟩,ae⟩:=db G _ ae
     have hR:=h.later hn ha
     have hlt:(i.den ρ).toNat<(ak (code.den ρ)).length:=by omega
     have df:0<=cap.den ρ:=by
      rcases od (cap.den ρ) 0 with jX|jX
      ·have:=(h.bF.rws b sh cD code cap kind dJ aX (by omega)).1 jX
       rw[this]at hlt;simp at hlt
      ·exact jX
     obtain⟨e4,cells,nq,fz,bm,⟨cb,cJ⟩,et⟩:=(h.bF.rws b sh cD code cap kind dJ aX (by omega)).2 df
     obtain⟨r0,r1,r2,gI,n2,av⟩:=et c1
     subst r0
     obtain⟨AQ,pre,post,I6,Mr⟩:=cJ
     have PZ:(ak (code.den ρ))[(i.den ρ).toNat]?=some ((ak (code.den ρ)).getD (i.den ρ).toNat []):=by simp[U,hlt]
     generalize aFH:(ak (code.den ρ)).getD (i.den ρ).toNat []=row at g6 PZ
     have Gc:=AQ row (e8 PZ)
     obtain⟨cz,cw⟩:=ahp Gc g4 hH
     have aqd:u.cells.length=(u.cells.map (A.den ρ m)).length:=by simp
     have aes:cells.toList=(pre++ca sh ((ak (code.den ρ)).take (i.den ρ).toNat))++(dr sh row++(ca sh ((ak (code.den ρ)).drop ((i.den ρ).toNat+1))++post)):=by
      rw[I6,U2 PZ];simp only[nI]
     have aU:(pre++ca sh ((ak (code.den ρ)).take (i.den ρ).toNat)).length=(cD.den ρ).toNat+(i.den ρ).toNat*sh.length:=by
      rw[fQ,Mr,qY λr hr=>AQ r (oc hr),su,EM (by omega)]
     have ea:=GV Gc
     have aoQ:(cD.den ρ).toNat+(i.den ρ).toNat*sh.length+j+0+(u.cells.map (A.den ρ m)).length<=cells.size:=by
      have:=congrArg qa aes
      simp only[fQ,CO,ea]at this aU
      simp;omega
     have oP:=Q6 (P:=P) (m b) ((cD.den ρ).toNat+(i.den ρ).toNat*sh.length+j) _ fz kind (u.cells.map (A.den ρ m)) 0 cells w r2 bm aoQ (λv hv=>by
      obtain⟨y,hy,rfl⟩:=List.mem_map.1 hv
      exact A.QE (W.HL hx.1 y hy))
     simp only[pE]at oP
     have xl:cells.toList.take ((cD.den ρ).toNat+(i.den ρ).toNat*sh.length+j)++u.cells.map (A.den ρ m)++cells.toList.drop ((cD.den ρ).toNat+(i.den ρ).toNat*sh.length+j+(u.cells.map (A.den ρ m)).length)=pre++ca sh (ak (code'.den aa))++post:=by
      rw[g6,amL PZ,aes,<-aU,cw,g5]
      rw[List.take_append,uU (by omega),Nat.add_sub_cancel_left,Nk (by omega)]
      rw[List.drop_append,List.drop_of_length_le (by omega),gp]
      rw[show(pre++ca sh ((ak (code.den ρ)).take (i.den ρ).toNat)).length+j+(u.cells.map (A.den ρ m)).length-(pre++ca sh ((ak (code.den ρ)).take (i.den ρ).toNat)).length=j+u.cells.length by simp;omega]
      rw[aBI (by omega)]
      simp only[nI]
     rw[xl]at oP
     have ae5:∀r∈ak (code'.den aa),cF sh r:=λr hr=>by
      rw[g6]at hr
      rcases Nv hr with hr|hr
      ·exact AQ r hr
      ·subst hr;exact cz
     have DW:(ak (code'.den aa)).length=(ak (code.den ρ)).length:=by rw[g6];simp
     have hsz:(pre++ca sh (ak (code'.den aa))++post).length=cells.size:=by
      have aw:=congrArg qa I6
      simp only[fQ,qY ae5,qY AQ,CO,DW]at aw⊢
      omega
     have d1:cap.den aa=cap.den ρ:=I.b5 ha gD.1.2.2
     have d2:cD.den aa=cD.den ρ:=I.b5 ha gD.1.1
     have PT:=hR.bF.put (kd:=kind) (cells:=cells) (fz:=fz) (code':=code') c1 aX (by rw[d1];exact df) (row:=(pre++ca sh (ak (code'.den aa))++post).toArray) (λ_=>⟨λdZ=>by rw[d1]at dZ;omega,λ_=>⟨e4,_,_,fz,Nu w (m b) _ _ _ _ bm,⟨by rw[d2];exact cb,by
      rw[d2]
      exact⟨ae5,pre,post,rfl,Mr⟩⟩,λ_=>⟨rfl,by rw[d2];exact r1,by simp only[Bc,hsz];exact r2,by rw[d1];simp only[Bc,hsz];exact gI,n2,av⟩⟩⟩)
     unfold qc
     have jC:(Zy t (.pointer (some ⟨m b,(cD.den ρ).toNat+(i.den ρ).toNat*sh.length+j,none⟩)) (u.den ρ m)).run P w= .ok () (w.setRow (m b) (pre++ca sh (ak (code'.den aa))++post).toArray):=by
      simp only[Zy,qb,jg,kk,jv,storeVar,ki hs,W.OU (m:=m) u hx.1]
      simp only[Bc,qM,ne_eq,not_true_eq_false,if_false,kk,jv]
      simp only[kk,jv,oP]
     simp only[execOp,ax,jg,We,dp,jC,jv,kk]
     refine ab n' aa m _ _ G _ _ ⟨hn,ha,by rw[kQ];exact bO _,λ_ _=>rfl⟩ (fm.refl _ _) ⟨?_,by rw[put_defers];exact h.d,hR.b.set (λy hy=>by
      simp at hy;subst hy
      exact⟨⟨gD.1.1.mono hn,g1,gD.1.2.2.mono hn⟩,g2,by rw[d1];exact gD.2.2⟩),PT⟩ ae
     rw[kQ]
     exact eY.put hR.t o.dst (by intro x hx;simp at hx) rfl
   ·cases bH
  ·cases bH
 ·rename_i s d x ax
  have hx:=cM h.t x
  split at bH
  ·rename_i l BS
   rw[BS]at hx
   split at bH
   ·rename_i e hs hd
    split at bH
    ·rename_i he
     simp only[bb]at bH
     subst bH
     have yU:(A.str l).ok n bl.length ρ:=hx.1
     have dp:a.eval x= .string (dY (bx (l.den ρ))):=hx.2
     have db:az S L (bind (fV 27 [l] 0 bU) λcode=>bind (fV 0 [l] 0 9223372036854775807) λlen=>pure (code,len)) n ρ λaa n' p=>(p.1.bG n'/\p.2.bG n')/\(0<=p.1.den aa/\p.1.den aa<=bU)/\(bx (l.den ρ)).length<=9223372036854775807/\ak (p.1.den aa)=(bx (l.den ρ)).map (λb=>[(b.toNat:Int)])/\p.2.den aa=(bx (l.den ρ)).length:=by
      have nR:(bx (l.den ρ)).length<=9223372036854775807:=by have:=J2 yU.2.2;unfold nX at this;omega
      have iA:rc ((bx (l.den ρ)).map λb=>[(b.toNat:Int)])<=bU:=uh (by simp;unfold maxLen;omega) λr hr=>by
       obtain⟨b,_,rfl⟩:=List.mem_map.1 hr
       have hp:=SJ
       have:=b.toNat_lt
       exact⟨by simp,λz hz=>by simp at hz;subst hz;omega⟩
      refine(iP (op:=27) (args:=[l]) (jR _) iA).bind λaQ a1 code gE fe ⟨g1,g2⟩=>?_
      have g2:code.den aQ=rc ((bx (l.den ρ)).map λb=>[(b.toNat:Int)]):=g2
      have VY:l.den aQ=l.den ρ:=I.b5 fe yU.1
      refine(iP (op:=0) (args:=[l]) (lo:=0) (hi:=9223372036854775807) (JJ _) (by
       show((bx (l.den aQ)).length:Int)<=_
       rw[VY];omega)).bind λbW ff len fo eb ⟨k1,k2⟩=>az.pure ?_
      have k2:len.den bW=((bx (l.den aQ)).length:Nat):=k2
      have cj:code.den bW=code.den aQ:=I.b5 eb g1
      refine⟨⟨g1.mono fo,k1⟩,by rw[cj,g2];exact⟨jR _,iA⟩,nR,by rw[cj,g2,kh],by rw[k2,VY]⟩
     obtain⟨aa,n',p,hn,ha,⟨⟨g1,oM⟩,g2,g3,g4,g5⟩,ae⟩:=db G (λp n=>KV 3 e o.dst jJ p.1 p.2 n tm bl k) ae
     have hR:=h.later hn ha
     have jC:=Lib.run_convert_string_bytes (P:=P) w s d e (dY (bx (l.den ρ))) hs (iT hd) he
     generalize df:grownCap w (dY (bx (l.den ρ))).size 0 e=c at jC
     have tc:(dY (bx (l.den ρ))).size<=c:=by rw[<-df];exact grownCap_ge w _ 0 e
     have hle:c<=9223372036854775807:=by rw[<-df];exact grownCap_le_maxLen w _ 0 e (by rw[Bp];exact g3)
     have BK:(Nw w e (dY (bx (l.den ρ)))).heap[w.heap.size]?=some (.cells (Nx w e (dY (bx (l.den ρ)))) e ((Nx w e (dY (bx (l.den ρ)))).size,(Nx w e (dY (bx (l.den ρ)))).size+1)):=Lib.bytesWorld_at_new w e _
     have aoD:(Nx w e (dY (bx (l.den ρ)))).size=c:=by
      have aoW:=tc
      rw[Bp]at aoW
      simp only[Nx,aja,Array.size_map,Array.size_replicate,df]
      show(dY (bx (l.den ρ))).size+_=_
      omega
     have FX:w.Extends (Nw w e (dY (bx (l.den ρ)))):=by
      have hb:∀i:Nat,i<w.heap.size->(Nw w e (dY (bx (l.den ρ)))).heap[i]?=w.heap[i]?:=λi hi=>Lib.bytesWorld_at_old w e _ i hi
      exact⟨rfl,rfl,rfl,by simp[Nw,RX,JY,ZH,-RY,-ajb],λy hy=>by simp only[o3,hb y.block hy],λy hy=>by simp only[CK,hb y.block hy],hb⟩
     have FO:R w0 n' aa m tm bl a (Nw w e (dY (bx (l.den ρ)))):=⟨hR.t,hR.d,hR.b,hR.bF.grow FX⟩
     unfold qc
     simp only[execOp,ax,jg,dp,jC,jv,kk]
     have om:nL S L w0 k n' bl.length aa m G K:=ab.later ⟨hn,ha,bO _,λ_ _=>rfl⟩ (fm.refl _ _)
     have gF:(dY (bx (l.den ρ))).size=(bx (l.den ρ)).length:=Bp _
     have key:=XO (kd:=3) (c:=(c:Int)) (g:=w.heap.size) (by omega) FO g1 oM g2 ⟨by omega,by omega⟩ (by rw[g5];exact⟨⟨by omega,by omega,by omega,by omega⟩,⟨by omega,by omega⟩,λh=>by omega,λ_=>by omega⟩) (λh=>by omega)
      (λ_=>⟨_,_,⟨BK,.inr ⟨by decide,rfl⟩⟩,by
        rw[g4]
        refine⟨λr hr=>?_,[],e9 (c-(bx (l.den ρ)).length) (.int .u8 0),?_,rfl⟩
        ·obtain⟨b,_,rfl⟩:=List.mem_map.1 hr
         have:=b.toNat_lt
         exact⟨⟨by simp[aN.ga],by simp only[aN.ga];omega⟩,trivial⟩
        ·simp only[Nx,df,Array.toList_append,zG,Array.toList_replicate,gp]
         congr 1
         ·show(bx (l.den ρ)).map _=_
          simp only[ca,aBN]
          induction bx (l.den ρ)with
          |nil=>rfl
          |cons b r ih=>simp[dr,aN.val,jJ,ih],by
        rw[aoD];simp[jJ],h.bF.ext.size,.inr h.bF.gF⟩) (λi p hi he=>by
         by_cases nQ:bM aa p.1=0
         ·exact .inl nQ
         ·have:=hR.bF.lt hi nQ;omega) ae om
     rw[if_neg (by omega),g5]at key
     have key:K (a.put o.dst (.slice (some ⟨w.heap.size,0,none⟩) (bx (l.den ρ)).length c)) (Nw w e (dY (bx (l.den ρ)))):=by simpa using key
     rw[gF]
     exact key
    ·cases bH
   ·cases bH
  ·rename_i b len cap BS
   rw[BS]at hx
   split at bH
   ·rename_i C t e aX hd
    split at bH
    ·rename_i he
     cases hc:(aM s d&&cc C&& !t.2&&aM C.length len&&aM cap len&&cK len 1000000)with
     |false=>rw[hc]at bH;cases bH
     |true=>
      rw[hc]at bH
      simp only[cond_true,bb]at bH
      subst bH
      simp only[bw]at hc
      obtain⟨⟨⟨⟨⟨eS,c1⟩,bK⟩,cy⟩,c3⟩,fh⟩:=hc
      have eS:=bR eS
      have bK:t.2=false:=by simpa using bK
      have cy:=bR cy
      have c3:=bR c3
      have fh:=fP fh
      subst eS;subst c3
      have b0:∀x∈C,A.ok n bl.length ρ x:=h.b _ (e8 aX)
      have pd:=Kr (w:=1) (k:=cap) (l:=C) (by omega)
      have fF:ak ((I.const 0).den ρ)=[]:=by rw[I.br];exact oW
      have hz:(0:Int)<=bU:=CI (jR []) (uh (l:=[]) (by simp) (by simp))
      obtain⟨aa,n',code,hn,ha,⟨cz,cw,eA,dc,fC,fN,gH⟩,ae⟩:=Kc (S:=S) (L:=L) (nb:=bl.length) (m:=m) (sh:=jJ) (by decide) (rs:=rI 1 cap C) (c:= .const 0) (n:=n) (ρ:=ρ) (λrow hr x hx=>b0 x (Ks row hr x hx)) (I.dd _ _) (by rw[I.br];exact⟨cW _,hz⟩) (by rw[fF];intro _ h;simp at h) (by rw[fF,pd.1];simp;omega) G _ ae
      rw[fF,gp]at dc
      have hR:=h.later hn ha
      have V4:C.map (A.den aa m)=C.map (A.den ρ m):=xz b0 ha (λ_ _=>rfl)
      obtain⟨w',jC,pO⟩:=hR.bF.mark (P:=P) (s:=s) (e:=e) (code:=code) aX c1 bK cy (iT hd) he (by rw[dc];exact fN) (by rw[dc,gH,pd.2,V4])
      unfold qc
      have aqk:a.eval x= .slice (some ⟨m b,0,none⟩) cap cap:=hx.2
      simp only[execOp,ax,jg,aqk,jC,jv,kk]
      have Lc:b<bl.length:=(List.getElem?_eq_some_iff.1 aX).1
      refine ab n' aa m _ _ G _ _ ⟨hn,ha,by rw[kQ];exact bO _,λ_ _=>rfl⟩ (fm.refl _ _) ⟨?_,by rw[put_defers];exact h.d,hR.b.set (λy hy=>by
       have hy:y= .rows jJ (.const 0) code (.const cap) 3:=by simpa using hy
       subst hy
       exact⟨⟨I.dd _ _,cz,I.dd _ _⟩,cw,by rw[I.br];omega⟩),pO⟩ ae
      rw[kQ]
      exact eY.put hR.t o.dst ⟨Lc,⟨I.dd _ _,I.dd _ _,I.dd _ _,I.dd _ _⟩,by simp only[I.br,G0];omega⟩ (by
       show _=_
       simp[W.den,A.den,I.br])
    ·cases bH
   ·cases bH
  ·cases bH
 ·rename_i t x y ax
  split at bH
  ·rename_i e rh qy hd apf apg
   cases hi:P.info? e with
   |none=>simp[hi]at bH
   |some i=>
    simp only[hi]at bH
    split at bH
    ·rename_i z hz
     cases hc:(aM i.size 1&&cK i.bytes 1024&&decide (z=0))with
     |false=>rw[hc]at bH;cases bH
     |true=>
      rw[hc]at bH
      simp only[cond_true,bb]at bH
      subst bH
      simp only[bw,decide_eq_true_eq]at hc
      have c1:=bR hc.1.1
      have bK:=fP hc.1.2
      have cy:=hc.2
      subst cy
      obtain⟨arw,hx,gf⟩:=afC h.t apf
      obtain⟨arx,hy,Gf⟩:=afC h.t apg
      obtain⟨VX,ae⟩:=ae
      have VX:0<=rh.den ρ/\rh.den ρ<=qy.den ρ/\qy.den ρ<=1073741824:=VX
      obtain⟨bm,cb,cJ⟩:=VX
      have e4:0<=qy.den ρ:=by omega
      have kb:∀r∈e9 (rh.den ρ).toNat [(0:Int)],cF jJ r:=λr hr=>by
       rw[ajc hr]
       exact⟨⟨by simp[aN.ga],by simp[aN.ga]⟩,trivial⟩
      have iA:rc (e9 (rh.den ρ).toNat [(0:Int)])<=bU:=EW (sh:=jJ) (by decide) (by simp;omega) kb
      have hf:bE 26 ([rh,I.const 0].map (·.den ρ))=rc (e9 (rh.den ρ).toNat [(0:Int)]):=by
       simp only[c5,fD,bE,I.br]
      obtain⟨aa,n',code,hn,ha,⟨g1,g2⟩,ae⟩:=iP (S:=S) (L:=L) (n:=n) (op:=26) (args:=[rh,.const 0]) (lo:=0) (hi:=bU) (by rw[hf];exact jR _) (by rw[hf];exact iA) G _ ae
      rw[hf]at g2
      have hR:=h.later hn ha
      have d1:rh.den aa=rh.den ρ:=I.b5 ha gf
      have jC:=run_make (P:=P) w t e i (.int .u8 0) (iT hd) hi hz arw arx (rh.den ρ) (qy.den ρ) bm cb (by
       have h0:(i.bytes:Int)<=1024:=by omega
       have h2:(i.bytes:Int)*qy.den ρ<=1024*1073741824:=Int.mul_le_mul h0 cJ e4 (by decide)
       omega) (by omega)
      have aeW:(madeCells (zD .u8 0).cells ((qy.den ρ).toNat*i.size)).toList=e9 (qy.den ρ).toNat (.int .u8 0):=by
       rw[c1,Ba]
       refine ZA λj=>?_
       simp only[madeCells,Value.cells,zG,Zz]
       rw[sr,List.getElem?_replicate]
       by_cases aK:j<(qy.den ρ).toNat
       ·rw[if_pos aK,ai6 aK]
        simp[Nat.mod_one]
       ·rw[if_neg aK,ZB (by simp;omega)];rfl
      have hsz:(madeCells (zD .u8 0).cells ((qy.den ρ).toNat*i.size)).size=(qy.den ρ).toNat:=by
       have:=congrArg qa aeW
       simpa using this
      have BK:(w.alloc (.cells (madeCells (zD .u8 0).cells ((qy.den ρ).toNat*i.size)) e)).heap[w.heap.size]?=some (.cells (madeCells (zD .u8 0).cells ((qy.den ρ).toNat*i.size)) e (0,0)):=by simp[JY,-RY]
      have FX:w.Extends (w.alloc (.cells (madeCells (zD .u8 0).cells ((qy.den ρ).toNat*i.size)) e)):=by
       have hb:∀j:Nat,j<w.heap.size->(w.alloc (.cells (madeCells (zD .u8 0).cells ((qy.den ρ).toNat*i.size)) e)).heap[j]?=w.heap[j]?:=λj aK=>by
        simp only[JY]
        rw[aBT aK,Ni aK]
       exact⟨rfl,rfl,rfl,by simp[JY,-RY],λy hy=>by simp only[o3,hb y.block hy],λy hy=>by simp only[CK,hb y.block hy],hb⟩
      generalize BB:w.alloc (.cells (madeCells (zD .u8 0).cells ((qy.den ρ).toNat*i.size)) e)=W at*
      have FO:R w0 n' aa m tm bl a W:=⟨hR.t,hR.d,hR.b,hR.bF.grow FX⟩
      unfold qc
      simp only[execOp,ax,jg,hx,hy,jC,jv,kk]
      have om:nL S L w0 k n' bl.length aa m G K:=ab.later ⟨hn,ha,bO _,λ_ _=>rfl⟩ (fm.refl _ _)
      have key:=XO (kd:=2) (c:=qy.den ρ) (g:=w.heap.size) (bO _) FO g1 (gf.mono hn) (by rw[g2];exact⟨jR _,iA⟩) ⟨by omega,by omega⟩ (by rw[d1];exact⟨⟨by omega,by omega,by omega,by omega⟩,⟨by omega,by omega⟩,λh=>by omega,λ_=>by omega⟩) (λh=>by omega)
       (λ_=>⟨_,_,⟨BK,.inl ⟨rfl,rfl⟩⟩,by
         rw[g2,kh]
         refine⟨kb,[],e9 ((qy.den ρ).toNat-(rh.den ρ).toNat) (.int .u8 0),?_,rfl⟩
         rw[aeW,gp]
         have aw:ca jJ (e9 (rh.den ρ).toNat [(0:Int)])=e9 (rh.den ρ).toNat (.int .u8 0):=by
          generalize (rh.den ρ).toNat=q
          induction q with
          |zero=>rfl
          |succ q ih=>
           rw[CP,CP]
           simp only[ca,uY]at ih⊢
           rw[ih];rfl
         rw[aw,List.replicate_append_replicate]
         congr 1;omega,by rw[hsz];simp[jJ],h.bF.ext.size,.inr h.bF.gF⟩) (λj p aK he=>by
         by_cases nQ:bM aa p.1=0
         ·exact .inl nQ
         ·have:=hR.bF.lt aK nQ;omega) ae om
      rw[if_neg (by omega),d1]at key
      have key:K (a.put o.dst (.slice (some ⟨w.heap.size,0,none⟩) (rh.den ρ).toNat (qy.den ρ).toNat)) W:=key
      exact key
    ·cases bH
  ·cases bH
 ·rename_i c ax
  split at bH
  ·rename_i f hc
   split at bH
   ·rename_i fn x hf ta
    split at bH
    ·rename_i y t hx pR
     split at bH
     ·rename_i e hd
      split at bH
      ·rename_i he
       cases hm:Qb fn with
       |false=>rw[hm]at bH;cases bH
       |true=>
        rw[hm]at bH
        simp only[cond_true,bb]at bH
        subst bH
        obtain⟨gW,fj,Gt,AE⟩:=amF hm
        have gf:=cM h.t x
        rw[hx]at gf
        have Gf:y.l.bG n:=gf.1.1
        obtain⟨VW,ae⟩:=ae
        have VW:0<=y.l.den ρ/\y.l.den ρ<=1073741824:=VW
        obtain⟨bm,cb⟩:=VW
        obtain⟨N,cT⟩:∃N:Nat,y.l.den ρ=N:=⟨(y.l.den ρ).toNat,by omega⟩
        have dp:a.eval x= .int .i64 (N:Int):=by rw[<-cT];exact gf.2
        have apI:fn.resultTypes=#[t]:=RU (by rw[pR])
        obtain⟨oK,Fl,jC,hle,F3⟩:=awk (P:=P) w fn.params t e (iT hd) N (by omega)
        have F3:=F3 (by unfold maxLen;omega)
        unfold maxLen at F3
        obtain⟨l,l1,l2,qx⟩:=ac2 oK Fl #[]
        have VD:(execOp a.eval o).run P w= .ok (.value (.slice (some ⟨w.heap.size,0,none⟩) N oK)) (w.drew.drew.alloc (.cells (Be oK Fl #[]) e)):=by
         rw[Yj hc o ax,run_callFunc_extern hf fj gW Gt AE]
         have:c.args.map a.eval=#[.int .i64 (N:Int)]:=RU (by rw[zG,ta];simp[dp])
         rw[this,apI,jC]
         rfl
        have LS:∀r∈l.take N,cF jJ r:=λr hr=>l2 r (oc hr)
        have q8:(l.take N).length=N:=by rw[su,l1];omega
        have afk:rc (l.take N)<=bU:=EW (sh:=jJ) (by decide) (by rw[q8];omega) LS
        have ae:=ae (rc (l.take N)) (jR _) afk
        have fe:agree n ρ (dm ρ n (rc (l.take N))):=agree.dm _ _ _
        have aZ:y.l.den (dm ρ n (rc (l.take N)))=N:=by rw[I.b5 fe Gf,cT]
        have Ut:(I.var n).den (dm ρ n (rc (l.take N)))=rc (l.take N):=by simp[I.cS,nG]
        have ae:=ae (by
         show y.l.den (dm ρ n (rc (l.take N)))=((ak ((I.var n).den (dm ρ n (rc (l.take N))))).length:Int)
         rw[aZ,Ut,kh,q8])
        have ae:=ae (oK:Int) (by omega) (by omega)
        have ae:=ae (by
         have eb:agree (n+1) (dm ρ n (rc (l.take N))) (dm (dm ρ n (rc (l.take N))) (n+1) (oK:Int)):=agree.dm _ _ _
         show y.l.den (dm (dm ρ n (rc (l.take N))) (n+1) (oK:Int))<=(I.var (n+1)).den (dm (dm ρ n (rc (l.take N))) (n+1) (oK:Int))
         rw[I.b5 eb (Gf.mono (tx _)),aZ]
         simp only[I.cS,nG]
         omega)
        have hR:=h.later (tx n) fe
        have BK:(w.drew.drew.alloc (.cells (Be oK Fl #[]) e)).heap[w.heap.size]?=some (.cells (Be oK Fl #[]) e (0,0)):=by simp[JY,ZH,-RY,-ajb]
        have FX:w.Extends (w.drew.drew.alloc (.cells (Be oK Fl #[]) e)):=by
         have hb:∀j:Nat,j<w.heap.size->(w.drew.drew.alloc (.cells (Be oK Fl #[]) e)).heap[j]?=w.heap[j]?:=λj aK=>by
          simp only[JY,ZH]
          rw[aBT aK,Ni aK]
         exact⟨rfl,rfl,rfl,by simp[JY,ZH,-RY,-ajb],λy hy=>by simp only[o3,hb y.block hy],λy hy=>by simp only[CK,hb y.block hy],hb⟩
        generalize BB:w.drew.drew.alloc (.cells (Be oK Fl #[]) e)=W at*
        have FO:R w0 (n+1) (dm ρ n (rc (l.take N))) m tm bl a W:=⟨hR.t,hR.d,hR.b,hR.bF.grow FX⟩
        unfold qc
        simp only[VD]
        have om:nL S L w0 k (n+1) bl.length (dm ρ n (rc (l.take N))) m G K:=ab.later ⟨tx n,fe,bO _,λ_ _=>rfl⟩ (fm.refl _ _)
        have key:=ag2 (kd:=2) (c:=(oK:Int)) (g:=w.heap.size) (code:= .var n) (len:=y.l) (e:=e) (d:=o.dst) (sh:=jJ) (bO _) FO (I.fW (zE n)) (Gf.mono (tx _)) (by rw[Ut];exact⟨jR _,afk⟩) ⟨by omega,by omega⟩ (by rw[aZ];exact⟨⟨by omega,by omega,by omega,by omega⟩,⟨by omega,by omega⟩,λh=>by omega,λ_=>by omega⟩) (λh=>by omega)
         (λ_=>⟨_,_,⟨BK,.inl ⟨rfl,rfl⟩⟩,by
           rw[Ut,kh]
           refine⟨LS,[],ca jJ (l.drop N),?_,rfl⟩
           rw[qx]
           show ca jJ l=ca jJ (l.take N)++ca jJ (l.drop N)
           rw[<-yK,o2],by
           have aw:=congrArg qa qx
           simp only[fQ,qY l2,l1]at aw
           simpa [jJ]using aw,h.bF.ext.size,.inr h.bF.gF⟩) (λj p aK he=>by
           by_cases nQ:bM (dm ρ n (rc (l.take N))) p.1=0
           ·exact .inl nQ
           ·have:=hR.bF.lt aK nQ;omega) ae om
        rw[if_neg (by omega),aZ]at key
        have key:K (a.put o.dst (.slice (some ⟨w.heap.size,0,none⟩) N oK)) W:=by simpa using key
        exact key
      ·cases bH
     ·cases bH
    ·cases bH
   ·cases bH
  ·cases bH
 ·cases bH
end
end Go.ch
namespace Go.ch
open M
theorem av0 {α:Type} (f:Nat->α) (s k:Nat):(fY ((k+1)*s)).map (λi=>f (i% s))=(fY s).map (λi=>f (i% s))++(fY (k*s)).map (λi=>f (i% s)):=by
 rw[zF,Nat.add_comm (k*s) s,List.range_add,jf,p8]
 congr 1
 refine kD λi _=>?_
 simp only[Nh,Nat.add_mod_left]
theorem aiI (Z:Array aV):∀k:Nat,(qd Z k).toList=(e9 k Z.toList).flatten
 |0=>by simp[qd]
 |k+1=>by
  have ih:=aiI Z k
  simp only[qd,zG,Zz]at ih⊢
  rw[av0 (λi=>Z[i]!) Z.size k,ih,CP,uT]
  congr 1
  refine List.ext_getElem (by simp) λi h1 h2=>?_
  simp only[qM,List.length_range]at h1
  simp[Zl h1,h1]
theorem adz (sh:List aN) (row:List Int):∀k:Nat,ca sh (e9 k row)=(e9 k (dr sh row)).flatten
 |0=>rfl
 |k+1=>by
  have ih:=adz sh row k
  rw[CP,CP,uT,<-ih];rfl
section
variable {S:Nat->List Int->List Int->Prop} {L:V->Env->Prop} {n:Nat} {ρ:Env} {m:Nat->Nat} {bl:List aE} {gl:fa} {w0:eG} {P:bV}
theorem Mem.rewrite {w:aC} {b:Nat} {sh:List aN} {off code cap code':I} {kind:Nat} {dJ:bp×Bool} (h:Mem w0 ρ m bl w) (aX:bl[b]?=some ([.rows sh off code cap kind],dJ)) (ab:2<=kind) (df:0<=cap.den ρ)
 (tN:∀r∈ak (code'.den ρ),cF sh r) (hlen:(ak (code'.den ρ)).length=(ak (code.den ρ)).length):
 ∃(cells:Array aV) (post:List aV) (fz:Nat×Nat),w.heap[m b]?=some (.cells cells dJ.1 fz)/\Bh kind fz cells.size/\off.den ρ=0/\(∀r∈ak (code.den ρ),cF sh r)/\cells.toList=ca sh (ak (code.den ρ))++post/\cells.size=(cap.den ρ).toNat*sh.length/\
  Mem w0 ρ m (dN bl b ([.rows sh off code' cap kind],dJ)) (w.setRow (m b) (ca sh (ak (code'.den ρ))++post).toArray):=by
 obtain⟨e4,cells,nq,fz,bm,⟨cb,cJ⟩,et⟩:=(h.rws b sh off code cap kind dJ aX (by omega)).2 df
 obtain⟨r0,r1,r2,gI,n2,av⟩:=et ab
 subst r0
 obtain⟨AQ,pre,post,I6,Mr⟩:=cJ
 rw[r1]at Mr
 have rS:pre=[]:=zI (by simpa using Mr)
 subst rS
 rw[gp]at I6
 have hsz:(ca sh (ak (code'.den ρ))++post).length=cells.size:=by
  have aw:=congrArg qa I6
  simp only[fQ,qY tN,qY AQ,CO,hlen]at aw⊢
  omega
 refine⟨cells,post,fz,bm,r2,r1,AQ,I6,gI,?_⟩
 exact h.put (kd:=kind) (cells:=cells) (fz:=fz) (code':=code') ab aX df (row:=(ca sh (ak (code'.den ρ))++post).toArray) (λ_=>⟨λdZ=>by omega,λ_=>⟨e4,_,_,fz,Nu w (m b) _ _ _ _ bm,⟨by rw[r1];exact cW _,by
  rw[r1]
  exact⟨tN,[],post,by simp,rfl⟩⟩,λ_=>⟨rfl,r1,by simp only[Bc,hsz];exact r2,by simp only[Bc,hsz];exact gI,n2,av⟩⟩⟩)
theorem af6 {sh:List aN} {rows mid:List (List Int)} {post:List aV} {cells:List aV} {a:Nat} (hr:∀r∈rows,cF sh r) (hm:∀r∈mid,cF sh r) (hc:cells=ca sh rows++post) (ha:a+mid.length<=rows.length):
 cells.take (a*sh.length)++ca sh mid++cells.drop (a*sh.length+(ca sh mid).length)=ca sh (rows.take a++mid++rows.drop (a+mid.length))++post:=by
 have h1:ca sh rows=ca sh (rows.take a)++ca sh (rows.drop a):=by rw[<-yK,o2]
 have h2:ca sh rows=ca sh (rows.take (a+mid.length))++ca sh (rows.drop (a+mid.length)):=by rw[<-yK,o2]
 have l1:(ca sh (rows.take a)).length=a*sh.length:=by rw[qY λr h=>hr r (oc h),su,EM (by omega)]
 have l2:(ca sh (rows.take (a+mid.length))).length=a*sh.length+(ca sh mid).length:=by rw[qY λr h=>hr r (oc h),qY hm,su,EM (by omega),zH]
 have aw:cells.take (a*sh.length)=ca sh (rows.take a):=by
  rw[hc,h1,nI,Nk (by omega),uU (by omega)]
 have aD:cells.drop (a*sh.length+(ca sh mid).length)=ca sh (rows.drop (a+mid.length))++post:=by
  rw[hc,h2,nI,<-l2,EN]
 rw[aw,aD,yK,yK]
 simp only[nI]
theorem Qs {sh:List aN} {rows mid:List (List Int)} {a k:Nat} (hr:∀r∈rows,cF sh r) (hm:∀r∈mid,cF sh r):∀r∈rows.take a++mid++rows.drop k,cF sh r:=λr h=>by
 rcases List.mem_append.1 h with h|h
 ·rcases List.mem_append.1 h with h|h
  ·exact hr r (oc h)
  ·exact hm r h
 ·exact hr r (rD h)
theorem Xb {rows mid:List (List Int)} {a:Nat} (ha:a+mid.length<=rows.length):(rows.take a++mid++rows.drop (a+mid.length)).length=rows.length:=by
 simp only[fQ,su,rA];omega
theorem Q5 {w:aC} {b:Nat} {sh:List aN} {off code cap:I} {kind:Nat} {dJ:bp×Bool} (h:Mem w0 ρ m bl w) (aX:bl[b]?=some ([.rows sh off code cap kind],dJ)) (ab:2<=kind) (df:0<=cap.den ρ) (DR:cap.den ρ<=9223372036854775807) (rR:0<sh.length):(ak (code.den ρ)).length<=maxLen/\∀r∈ak (code.den ρ),cF sh r:=by
 obtain⟨e4,cells,nq,fz,bm,⟨cb,cJ⟩,et⟩:=(h.rws b sh off code cap kind dJ aX (by omega)).2 df
 obtain⟨_,_,_,h5,_⟩:=et ab
 obtain⟨AQ,pre,post,cz,cw⟩:=cJ
 refine⟨?_,AQ⟩
 have h4:=congrArg qa cz
 simp only[fQ,qY AQ,CO]at h4
 rw[h5]at h4
 have h6:(ak (code.den ρ)).length*sh.length<=(cap.den ρ).toNat*sh.length:=by omega
 have h7:=aBS h6 rR
 unfold maxLen;omega
theorem ahU {sh:List aN} (h:qC sh=true):0<sh.length:=by
 unfold qC at h
 simp only[bw]at h
 exact vh h.1.2
theorem awh {w:aC} {b:Nat} {sh:List aN} {off code cap:I} {kind:Nat} {dJ:bp×Bool} (h:Mem w0 ρ m bl w) (aX:bl[b]?=some ([.rows sh off code cap kind],dJ)) (ab:2<=kind) (DR:cap.den ρ<=9223372036854775807) (rR:0<sh.length):(ak (code.den ρ)).length<=maxLen/\∀r∈ak (code.den ρ),cF sh r:=by
 rcases od (cap.den ρ) 0 with hc|hc
 ·rw[(h.rws b sh off code cap kind dJ aX (by omega)).1 hc]
  exact⟨Nat.zero_le _,λr hr=>by simp at hr⟩
 ·exact Q5 h aX ab hc DR rR
theorem Mem.av2 {w:aC} {b:Nat} {sh:List aN} {off code cap code':I} {kind:Nat} {dJ:bp×Bool} (h:Mem w0 ρ m bl w) (aX:bl[b]?=some ([.rows sh off code cap kind],dJ)) (he:ak (code'.den ρ)=ak (code.den ρ)):Mem w0 ρ m (dN bl b ([.rows sh off code' cap kind],dJ)) w:=by
 rw[np]
 have hlt:=(List.getElem?_eq_some_iff.1 aX).1
 have hg:∀(i:Nat) (p:aE),(bl.set b ([.rows sh off code' cap kind],dJ))[i]?=some p->(i=b/\p=([.rows sh off code' cap kind],dJ))∨(i≠b/\bl[i]?=some p):=λi p hi=>by
  rw[uV]at hi
  by_cases kK:b=i
  ·subst kK
   rw[if_pos rfl,if_pos hlt]at hi
   exact .inl ⟨rfl,(jd hi).symm⟩
  ·rw[if_neg kK]at hi
   exact .inr ⟨λe=>kK e.symm,hi⟩
 have jb:∀(i:Nat) (p:aE),(bl.set b ([.rows sh off code' cap kind],dJ))[i]?=some p->∃q:aE,bl[i]?=some q/\bM ρ p.1=bM ρ q.1:=λi p hi=>by
  rcases hg i p hi with⟨rfl,rfl⟩|⟨_,h2⟩
  ·exact⟨_,aX,rfl⟩
  ·exact⟨_,h2,rfl⟩
 refine⟨h.ext,h.jN,h.m6,h.kV,h.gF,h.jB,λi cs t hi ax=>?_,λi fX kf jA j8 sL t hi=>?_,λi j p q hi aK hm=>?_⟩
 ·rcases hg i _ hi with⟨_,h2⟩|⟨_,h2⟩
  ·cases h2;exact absurd ax (by simp[cc])
  ·exact h.fT i cs t h2 ax
 ·rcases hg i _ hi with⟨rfl,h2⟩|⟨_,h2⟩
  ·cases h2
   have:=h.rws _ sh off code cap kind dJ aX
   unfold u0 at this⊢
   rw[he];exact this
  ·exact h.rws i _ _ _ _ _ t h2
 ·obtain⟨dj,hp,ep⟩:=jb i p hi
  obtain⟨e3,ah,eq⟩:=jb j q aK
  rw[ep,eq]
  exact h.inj i j dj e3 hp ah hm
theorem axq {tm:List V} {a:Act} {w:aC} {G:e2} {o:Oper} {K:Act->aC->Prop} {Q:Exit->Act->aC->Prop} {k:iI} {ui:T}
 (h:R w0 n ρ m tm bl a w) (bH:YM P o n tm bl k=some ui) (ae:ui.holds S L G ρ) (ab:nL S L w0 k n bl.length ρ m G K):o.wp P a w K Q:=by
 unfold YM at bH
 split at bH
 rotate_left
 ·cases bH
 rename_i c ax
 split at bH
 ·rename_i oO
  split at bH
  rotate_left
  ·cases bH
  rename_i x t gf pf
  have hx:=cM h.t x
  split at bH
  rotate_left
  ·cases bH
  rename_i b bz cD ro len cap e hv he
  rw[hv]at hx
  split at bH
  rotate_left
  ·cases bH
  rename_i sh off code e5 kind dJ z aX hz
  cases hc:(cK 2 kind&&I.beq cD off&&aM bz sh.length&&qC sh&&aM z.length sh.length)with
  |false=>rw[hc]at bH;cases bH
  |true=>
   rw[hc]at bH
   simp only[cond_true,bb]at bH
   subst bH
   simp only[bw]at hc
   obtain⟨⟨⟨⟨c1,bK⟩,cy⟩,c3⟩,fh⟩:=hc
   have c1:=fP c1;have bK:=I.beq_eq bK;have cy:=bR cy;have fh:=bR fh
   subst bK;subst cy
   obtain⟨inf,o5,hi,jZ,tI⟩:=JE hz
   have b2:c.args=#[x]:=by rw[<-lN (xs:=c.args),gf]
   have a2:c.argTypes=#[t]:=by rw[<-lN (xs:=c.argTypes),pf]
   have rT:(A.sl b sh.length cD ro len cap).ok n bl.length ρ:=hx.1
   obtain⟨ptr,aw,aD,cj⟩:=wj (m:=m) rT
   have dp:a.eval x=(A.sl b sh.length cD ro len cap).den ρ m:=hx.2
   rw[aw]at dp
   obtain⟨ag,⟨ad,ao,cZ,iV⟩,⟨jG,n7,n8,n9⟩,⟨oA,n6⟩,gX,jF⟩:=rT
   have gD:(A.rows sh cD code e5 kind).ok n bl.length ρ:=h.b _ (e8 aX) _ (by simp)
   have rR:=ahU c3
   have db:az S L (bind (gS 65 [code,ro,len]) λ_=>bind (Cu sh z) λls=>bind (fV 61 (code::ro::len::ls) 0 bU) λcode'=>pure code') n ρ λaa n' code'=>code'.bG n'/\(0<=code'.den aa/\code'.den aa<=bU)/\(0<=ro.den ρ/\0<len.den ρ/\ro.den ρ+len.den ρ<=(ak (code.den ρ)).length)/\0<=e5.den ρ/\
    ∃row:List Int,cF sh row/\dr sh row=o5.cells.toList/\ak (code'.den aa)=(ak (code.den ρ)).take (ro.den ρ).toNat++e9 (len.den ρ).toNat row++(ak (code.den ρ)).drop ((ro.den ρ).toNat+(len.den ρ).toNat):=by
    refine jL λnR=>?_
    have nR:0<=ro.den ρ/\0<len.den ρ/\ro.den ρ+len.den ρ<=(ak (code.den ρ)).length:=nR
    have IG:=Bx tI n bl.length ρ m
    refine(Jn (nb:=bl.length) (m:=m) IG.1).bind λaQ a1 ls gE fe ⟨g1,g2,g3⟩=>?_
    rw[IG.2]at g3
    have df:0<=e5.den ρ:=by
     rcases od (e5.den ρ) 0 with jX|jX
     ·have:=(h.bF.rws b sh cD code e5 kind dJ aX (by omega)).1 jX
      rw[this]at nR;simp at nR;omega
     ·exact jX
    obtain⟨F3,m5⟩:=Q5 h.bF aX c1 df gD.2.2.2 rR
    have hf:bE 61 ((code::ro::len::ls).map (·.den aQ))=rc ((ak (code.den ρ)).take (ro.den ρ).toNat++e9 (len.den ρ).toNat (ls.map (·.den aQ))++(ak (code.den ρ)).drop ((ro.den ρ).toNat+(len.den ρ).toNat)):=by
     simp only[c5,bE,I.b5 fe gD.1.2.1,I.b5 fe ao,I.b5 fe cZ]
    have b0:∀r∈(ak (code.den ρ)).take (ro.den ρ).toNat++e9 (len.den ρ).toNat (ls.map (·.den aQ))++(ak (code.den ρ)).drop ((ro.den ρ).toNat+(len.den ρ).toNat),cF sh r:=Qs m5 λr hr=>by rw[ajc hr];exact g2
    have iA:=uh (l:=(ak (code.den ρ)).take (ro.den ρ).toNat++e9 (len.den ρ).toNat (ls.map (·.den aQ))++(ak (code.den ρ)).drop ((ro.den ρ).toNat+(len.den ρ).toNat)) (by simp only[fQ,su,rA,R2];omega) λr hr=>(b0 r hr).row c3
    refine(iP (by rw[hf];exact jR _) (by rw[hf];exact iA)).bind λbW ff code' fo eb ⟨k1,k2⟩=>az.pure ?_
    rw[hf]at k2
    exact⟨k1,by rw[k2];exact⟨jR _,iA⟩,nR,df,ls.map (·.den aQ),g2,g3,by rw[k2,kh]⟩
   obtain⟨aa,n',code',hn,ha,⟨g1,g2,g3,df,row,g4,g5,g6⟩,ae⟩:=db G _ ae
   have hR:=h.later hn ha
   have d1:code.den aa=code.den ρ:=I.b5 ha gD.1.2.1
   have d2:e5.den aa=e5.den ρ:=I.b5 ha gD.1.2.2
   have Ga:(e9 (len.den ρ).toNat row).length=(len.den ρ).toNat:=R2
   have tK:∀r∈e9 (len.den ρ).toNat row,cF sh r:=λr hr=>by rw[ajc hr];exact g4
   have hle:(ro.den ρ).toNat+(e9 (len.den ρ).toNat row).length<=(ak (code.den ρ)).length:=by rw[Ga];omega
   have tN:∀r∈ak (code.den ρ),cF sh r:=(Q5 h.bF aX c1 df gD.2.2.2 rR).2
   obtain⟨cells,post,fz,cz,cw,dc,fC,fN,gH,pW⟩:=hR.bF.rewrite (code':=code') aX c1 (by rw[d2];exact df) (by rw[g6];exact Qs tN tK) (by
    rw[g6,d1]
    have:=Xb hle
    rw[Ga]at this;exact this)
   rw[d1]at fC fN
   have dc:cD.den ρ=0:=by rw[<-I.b5 ha ad];exact dc
   have Ld:0<=cap.den ρ:=by
    rcases od (cap.den ρ) 0 with jX|jX
    ·have:=gX jX;omega
    ·exact jX
   have b3:a.eval x= .slice (some ⟨m b,(ro.den ρ).toNat*sh.length,none⟩) (len.den ρ).toNat (cap.den ρ).toNat:=by
    rw[dp,cj Ld,if_neg (by omega),dc];simp
   have q8:(qd o5.cells (len.den ρ).toNat).toList=ca sh (e9 (len.den ρ).toNat row):=by rw[aiI,adz,g5]
   have aqr:(qd o5.cells (len.den ρ).toNat).toList.length=(len.den ρ).toNat*sh.length:=by rw[q8,qY tK,Ga]
   have VF:=congrArg qa fN
   simp only[fQ,CO,qY fC]at VF
   have Aq:(ro.den ρ).toNat*sh.length+0+(qd o5.cells (len.den ρ).toNat).toList.length<=cells.size:=by
    rw[aqr]
    have:((ro.den ρ).toNat+(len.den ρ).toNat)*sh.length<=(ak (code.den ρ)).length*sh.length:=ZF _ (by omega)
    rw[zH]at this
    omega
   have oP:=Q6 (P:=P) (m b) ((ro.den ρ).toNat*sh.length) dJ.1 fz kind (qd o5.cells (len.den ρ).toNat).toList 0 cells w cw cz Aq (by rw[q8];exact U1)
   rw[pE,q8,af6 fC tK fN hle]at oP
   rw[Ga]at oP
   rw[<-g6]at oP
   obtain⟨q,ah⟩:∃q,(len.den ρ).toNat=q+1:=⟨(len.den ρ).toNat-1,by omega⟩
   have LS:∀w:aC,(zeroValue e).run P w= .ok o5 w:=λw=>by simp[zeroValue,typeInfo,hi,jZ]
   have jC:(ajf #[t] o.type #[.slice (some ⟨m b,(ro.den ρ).toNat*sh.length,none⟩) (q+1) (cap.den ρ).toNat]).run P w= .ok (.tuple #[]) (w.setRow (m b) (ca sh (ak (code'.den aa))++post).toArray):=by
    rw[ah]at oP q8
    have apT:(storeCells ⟨m b,(ro.den ρ).toNat*sh.length,none⟩ (qd o5.cells (q+1)).toList 0).run P w= .ok () (w.setRow (m b) (ca sh (ak (code'.den aa))++post).toArray):=by rw[q8];exact oP
    simp[ajf,fx (iT he),LS,apT]
   rw[ah]at b3
   unfold qc
   have hex:execOp a.eval o=(do pure (nJ (<-ajf #[t] o.type #[a.eval x]))):=by
    simp[execOp,ax,resolve,oO,b2,a2,invoke,builtin]
   simp only[hex,b3,jg,jC,jv,kk]
   refine ab n' aa m _ _ G _ _ ⟨hn,ha,by rw[kQ];exact bO _,λ_ _=>rfl⟩ (fm.refl _ _) ⟨?_,by rw[put_defers];exact h.d,hR.b.set (λy hy=>by
    simp at hy;subst hy
    exact⟨⟨gD.1.1.mono hn,g1,gD.1.2.2.mono hn⟩,g2,by rw[d2];exact gD.2.2⟩),pW⟩ ae
   rw[kQ]
   exact eY.put hR.t o.dst (by intro x hx;simp at hx) rfl
 ·rename_i oO
  split at bH
  rotate_left
  ·cases bH
  rename_i x y t t' gf pf
  have hx:=cM h.t x
  have hy:=cM h.t y
  split at bH
  rotate_left
  ·rename_i b bz cD ro len cap e hv nT he
   rw[hv]at hx
   rw[nT]at hy
   split at bH
   rotate_left
   ·cases bH
   rename_i s hs
   simp only[bb]at bH
   subst bH
   have b2:c.args=#[x,y]:=by rw[<-lN (xs:=c.args),gf]
   have a2:c.argTypes=#[t,t']:=by rw[<-lN (xs:=c.argTypes),pf]
   have rT:(A.sl b bz cD ro len cap).ok n bl.length ρ:=hx.1
   obtain⟨ptr,aw,aD,cj⟩:=wj (m:=m) rT
   have dp:a.eval x=(A.sl b bz cD ro len cap).den ρ m:=hx.2
   rw[aw]at dp
   have y0:a.eval y= .slice none 0 0:=hy.2
   obtain⟨Bg,ZO,SC,b3⟩:∃A B C,a.eval x= .slice A B C:=⟨_,_,_,dp⟩
   have jC:(zJ #[t,t'] o.type #[.slice Bg ZO SC,.slice none 0 0]).run P w= .ok (goInt 0) w:=by
    cases Bg<;>simp[zJ,fx (iT he),RW,ki hs,JX,storeCells]
   unfold qc
   have hex:execOp a.eval o=(do pure (nJ (<-zJ #[t,t'] o.type #[a.eval x,a.eval y]))):=by
    simp[execOp,ax,resolve,oO,b2,a2,invoke,builtin]
   simp only[hex,b3,y0,jg,jC,jv,kk]
   exact ab n ρ m _ _ G _ _ (eX.refl _ _ _ _) (fm.refl _ _) ⟨eY.put (v:= .w (.one (.int .i64 ⟨.const 0,0,0⟩))) h.t o.dst ⟨I.dd _ _,by simp[I.br],by simp[I.br]⟩ rfl,by rw[put_defers];exact h.d,h.b,h.bF⟩ ae
  ·cases bH
  rename_i b bz cD ro len cap b9 YS vE iG iD Aa e hv nT he
  rw[hv]at hx
  rw[nT]at hy
  split at bH
  rotate_left
  ·cases bH
  rename_i sh off code e5 kind dJ Yz Cb jA Bv B7 Oc s aX BD hs
  cases hc:(cK 2 kind&&dP 0 B7&&I.beq cD off&&I.beq vE Cb&&tp sh Yz&&aM bz sh.length&&aM YS sh.length&&aM s sh.length&&qC sh)with
  |false=>rw[hc]at bH;cases bH
  |true=>
   rw[hc]at bH
   simp only[cond_true,bb]at bH
   subst bH
   simp only[bw]at hc
   obtain⟨⟨⟨⟨⟨⟨⟨⟨c1,bK⟩,cy⟩,c3⟩,fh⟩,hH⟩,qi⟩,pN⟩,s4⟩:=hc
   have c1:=fP c1;have bK:0<B7:=fP bK;have cy:=I.beq_eq cy;have c3:=I.beq_eq c3;have fh:=Ex fh;have hH:=bR hH;have qi:=bR qi;have pN:=bR pN
   subst cy;subst c3;subst fh;subst hH;subst qi;subst pN
   have b2:c.args=#[x,y]:=by rw[<-lN (xs:=c.args),gf]
   have a2:c.argTypes=#[t,t']:=by rw[<-lN (xs:=c.argTypes),pf]
   have rT:(A.sl b sh.length cD ro len cap).ok n bl.length ρ:=hx.1
   have afj:(A.sl b9 sh.length vE iG iD Aa).ok n bl.length ρ:=hy.1
   obtain⟨ptr,aw,aD,cj⟩:=wj (m:=m) rT
   obtain⟨avf,f1,f2,f3⟩:=wj (m:=m) afj
   have dp:a.eval x=(A.sl b sh.length cD ro len cap).den ρ m:=hx.2
   have y0:a.eval y=(A.sl b9 sh.length vE iG iD Aa).den ρ m:=hy.2
   rw[aw]at dp
   rw[f1]at y0
   obtain⟨ag,⟨ad,ao,cZ,iV⟩,⟨jG,n7,n8,n9⟩,⟨oA,n6⟩,gX,jF⟩:=rT
   obtain⟨an,⟨aj,ay,pz,Y3⟩,⟨Y4,Y5,Y6,Y7⟩,⟨Y0,Y2⟩,Rt,Y1⟩:=afj
   have gD:(A.rows sh cD code e5 kind).ok n bl.length ρ:=h.b _ (e8 aX) _ (by simp)
   have anW:(A.rows sh vE jA Bv B7).ok n bl.length ρ:=h.b _ (e8 BD) _ (by simp)
   have rR:=ahU s4
   have db:az S L (bind (gS 80 [code,ro,len]) λ_=>bind (gS 22 [jA,iG,iG.add iD]) λ_=>bind (fV 62 [iD,len] 0 9223372036854775807) λq=>bind (fV 22 [jA,iG,iG.add q] 0 bU) λsrc=>bind (fV 63 [code,ro,src] 0 bU) λcode'=>pure (q,code')) n ρ λaa n' p=>(p.1.bG n'/\p.2.bG n')/\(0<=p.2.den aa/\p.2.den aa<=bU)/\(0<=ro.den ρ/\0<=len.den ρ/\ro.den ρ+len.den ρ<=(ak (code.den ρ)).length)/\
    p.1.den aa=min (iD.den ρ) (len.den ρ)/\(0<=iG.den ρ/\iG.den ρ+iD.den ρ<=(ak (jA.den ρ)).length)/\ak (p.2.den aa)=(ak (code.den ρ)).take (ro.den ρ).toNat++((ak (jA.den ρ)).drop (iG.den ρ).toNat).take (min (iD.den ρ) (len.den ρ)).toNat++(ak (code.den ρ)).drop ((ro.den ρ).toNat+(((ak (jA.den ρ)).drop (iG.den ρ).toNat).take (min (iD.den ρ) (len.den ρ)).toNat).length)/\∀r∈ak (jA.den ρ),cF sh r:=by
    refine jL λnR=>jL λrP=>?_
    have nR:0<=ro.den ρ/\0<=len.den ρ/\ro.den ρ+len.den ρ<=(ak (code.den ρ)).length:=nR
    have rP:0<=iG.den ρ/\iG.den ρ<=(iG.add iD).den ρ/\(iG.add iD).den ρ<=(ak (jA.den ρ)).length:=rP
    rw[I.den_add]at rP
    obtain⟨F3,m5⟩:=awh h.bF aX c1 gD.2.2.2 rR
    have LF:∀r∈ak (jA.den ρ),cF sh r:=by
     rcases od (Bv.den ρ) 0 with jX|jX
     ·have:=(h.bF.rws b9 sh vE jA Bv B7 Oc BD (by omega)).1 jX
      rw[this];intro _ h;simp at h
     ·obtain⟨_,_,_,_,_,⟨_,cJ⟩,_⟩:=(h.bF.rws b9 sh vE jA Bv B7 Oc BD (by omega)).2 jX
      exact cJ.1
    have V5:bE 62 ([iD,len].map (·.den ρ))=min (iD.den ρ) (len.den ρ):=rfl
    refine(iP (by rw[V5];omega) (by rw[V5];omega)).bind λaQ a1 q gE fe ⟨bm,cb⟩=>?_
    rw[V5]at cb
    have b8:jA.den aQ=jA.den ρ:=I.b5 fe anW.1.2.1
    have yC:iG.den aQ=iG.den ρ:=I.b5 fe ay
    have hf:bE 22 ([jA,iG,iG.add q].map (·.den aQ))=rc (((ak (jA.den ρ)).drop (iG.den ρ).toNat).take (min (iD.den ρ) (len.den ρ)).toNat):=by
     simp only[c5,fD,bE,I.den_add,b8,yC,cb]
     congr 2;omega
    have iA:rc (((ak (jA.den ρ)).drop (iG.den ρ).toNat).take (min (iD.den ρ) (len.den ρ)).toNat)<=bU:=uh (by
     simp only[su,rA]
     have:(ak (code.den ρ)).length<=maxLen:=F3
     omega) λr hr=>(LF r (rD (oc hr))).row s4
    refine(iP (by rw[hf];exact jR _) (by rw[hf];exact iA)).bind λbW ff src fo eb ⟨s1,s2⟩=>?_
    rw[hf]at s2
    have aef:=fe.trans eb gE
    have VL:bE 63 ([code,ro,src].map (·.den bW))=rc ((ak (code.den ρ)).take (ro.den ρ).toNat++((ak (jA.den ρ)).drop (iG.den ρ).toNat).take (min (iD.den ρ) (len.den ρ)).toNat++(ak (code.den ρ)).drop ((ro.den ρ).toNat+(((ak (jA.den ρ)).drop (iG.den ρ).toNat).take (min (iD.den ρ) (len.den ρ)).toNat).length)):=by
     simp only[c5,fD,bE,I.b5 aef gD.1.2.1,I.b5 aef ao,s2,kh]
    have tK:∀r∈((ak (jA.den ρ)).drop (iG.den ρ).toNat).take (min (iD.den ρ) (len.den ρ)).toNat,cF sh r:=λr hr=>LF r (rD (oc hr))
    have aem:rc ((ak (code.den ρ)).take (ro.den ρ).toNat++((ak (jA.den ρ)).drop (iG.den ρ).toNat).take (min (iD.den ρ) (len.den ρ)).toNat++(ak (code.den ρ)).drop ((ro.den ρ).toNat+(((ak (jA.den ρ)).drop (iG.den ρ).toNat).take (min (iD.den ρ) (len.den ρ)).toNat).length))<=bU:=uh (by
     rw[Xb (by simp only[su,rA];omega)];exact F3) λr hr=>(Qs m5 tK r hr).row s4
    refine(iP (by rw[VL];exact jR _) (by rw[VL];exact aem)).bind λjw uB code' F4 yN ⟨k1,k2⟩=>az.pure ?_
    rw[VL]at k2
    refine⟨⟨bm.mono (oE fo F4),k1⟩,by rw[k2];exact⟨jR _,aem⟩,nR,?_,⟨rP.1,rP.2.2⟩,by rw[k2,kh],LF⟩
    rw[I.b5 (eb.trans yN fo) bm,cb]
   obtain⟨aa,n',p,hn,ha,⟨⟨g1,oM⟩,g2,g3,g4,g5,g6,LF⟩,ae⟩:=db G (λp n=>k n (gx tm o.dst (.w (.one (.int .i64 ⟨p.1,0,9223372036854775807⟩)))) (dN bl b ([.rows sh cD p.2 e5 kind],dJ))) ae
   have hR:=h.later hn ha
   have d1:code.den aa=code.den ρ:=I.b5 ha gD.1.2.1
   have d2:e5.den aa=e5.den ρ:=I.b5 ha gD.1.2.2
   rcases od 0 (len.den ρ)with apz|apz
   rotate_left
   ·have pQ:len.den ρ=0:=by omega
    have yW:p.1.den aa=0:=by rw[g4];omega
    have qq:min (iD.den ρ) (len.den ρ)=0:=by omega
    have apM:ak (p.2.den aa)=ak (code.den aa):=by
     rw[g6,qq,d1];simp
    obtain⟨Bg,ZO,SC,b3⟩:∃A B C,a.eval x= .slice A B C/\B=0:=⟨_,_,_,dp,by rw[pQ];rfl⟩
    obtain⟨b3,rfl⟩:=b3
    obtain⟨R5,ZP,aab,hY⟩:∃A B C,a.eval y= .slice A B C:=⟨_,_,_,y0⟩
    have Is:(JX sh.length 0 (.slice R5 ZP aab)).run P w= .ok #[] w:=by
     cases R5<;>simp[JX,loadCells,loadCellsFrom]
    have jC:(zJ #[t,t'] o.type #[.slice Bg 0 SC,.slice R5 ZP aab]).run P w= .ok (goInt 0) w:=by
     cases Bg<;>simp[zJ,fx (iT he),RW,ki hs,Is,storeCells]
    unfold qc
    have hex:execOp a.eval o=(do pure (nJ (<-zJ #[t,t'] o.type #[a.eval x,a.eval y]))):=by
     simp[execOp,ax,resolve,oO,b2,a2,invoke,builtin]
    simp only[hex,b3,hY,jg,jC,jv,kk]
    refine ab n' aa m _ _ G _ _ ⟨hn,ha,by rw[kQ];exact bO _,λ_ _=>rfl⟩ (fm.refl _ _) ⟨?_,by rw[put_defers];exact h.d,hR.b.set (λy hy=>by
     simp at hy;subst hy
     exact⟨⟨gD.1.1.mono hn,oM,gD.1.2.2.mono hn⟩,g2,by rw[d2];exact gD.2.2⟩),hR.bF.av2 aX apM⟩ ae
    rw[kQ]
    refine eY.put hR.t o.dst ⟨g1,by show(0:Int)<=p.1.den aa;omega,by show p.1.den aa<=9223372036854775807;omega⟩ ?_
    show goInt 0=zD .i64 (p.1.den aa)
    rw[yW];rfl
   have df:0<=e5.den ρ:=by
    rcases od (e5.den ρ) 0 with jX|jX
    ·have:=(h.bF.rws b sh cD code e5 kind dJ aX (by omega)).1 jX
     rw[this]at g3;simp at g3;omega
    ·exact jX
   generalize ah:(min (iD.den ρ) (len.den ρ)).toNat=q at*
   have tK:∀r∈((ak (jA.den ρ)).drop (iG.den ρ).toNat).take q,cF sh r:=λr hr=>LF r (rD (oc hr))
   have IB:(((ak (jA.den ρ)).drop (iG.den ρ).toNat).take q).length=q:=by simp only[su,rA];omega
   have hle:(ro.den ρ).toNat+(((ak (jA.den ρ)).drop (iG.den ρ).toNat).take q).length<=(ak (code.den ρ)).length:=by rw[IB];omega
   have tN:∀r∈ak (code.den ρ),cF sh r:=(Q5 h.bF aX c1 df gD.2.2.2 rR).2
   obtain⟨cells,post,fz,cz,cw,dc,fC,fN,gH,pW⟩:=hR.bF.rewrite (code':=p.2) aX c1 (by rw[d2];exact df) (by rw[g6];exact Qs tN tK) (by rw[g6,d1];exact Xb hle)
   rw[d1]at fC fN
   have dc:cD.den ρ=0:=by rw[<-I.b5 ha ad];exact dc
   have Ld:0<=cap.den ρ:=by
    rcases od (cap.den ρ) 0 with jX|jX
    ·have:=gX jX;omega
    ·exact jX
   have b3:a.eval x= .slice (some ⟨m b,(ro.den ρ).toNat*sh.length,none⟩) (len.den ρ).toNat (cap.den ρ).toNat:=by
    rw[dp,cj Ld,if_neg (by omega),dc];simp
   have kU:(ca sh (((ak (jA.den ρ)).drop (iG.den ρ).toNat).take q)).length=q*sh.length:=by rw[qY tK,IB]
   have VF:=congrArg qa fN
   simp only[fQ,CO,qY fC]at VF
   have Aq:(ro.den ρ).toNat*sh.length+0+(ca sh (((ak (jA.den ρ)).drop (iG.den ρ).toNat).take q)).length<=cells.size:=by
    rw[kU]
    have:((ro.den ρ).toNat+q)*sh.length<=(ak (code.den ρ)).length*sh.length:=ZF _ (by omega)
    rw[zH]at this
    omega
   have oP:=Q6 (P:=P) (m b) ((ro.den ρ).toNat*sh.length) dJ.1 fz kind (ca sh (((ak (jA.den ρ)).drop (iG.den ρ).toNat).take q)) 0 cells w cw cz Aq U1
   rw[pE,af6 fC tK fN hle]at oP
   rw[<-g6]at oP
   have Wg:JV (iD.den ρ).toNat (len.den ρ).toNat=q:=by show min _ _=q;omega
   have Is:(JX sh.length q (a.eval y)).run P w= .ok (ca sh (((ak (jA.den ρ)).drop (iG.den ρ).toNat).take q)).toArray w:=by
    rcases od (Aa.den ρ) 0 with jX|jX
    ·have h0:=Rt jX
     have yW:q=0:=by omega
     rw[y0,f2 jX,yW,qN]
     have:=run_firstCells_none (P:=P) w sh.length 0 (iD.den ρ).toNat (if Aa.den ρ<0 then 0 else(Aa.den ρ).toNat)
     simpa [ca]using this
    ·rw[y0,f3 jX]
     have BF:0<=Bv.den ρ∨q=0:=by
      rcases od (Bv.den ρ) 0 with DR|DR
      ·have:=(h.bF.rws b9 sh vE jA Bv B7 Oc BD (by omega)).1 DR
       rw[this]at g5;simp at g5;right;omega
      ·exact .inl DR
     refine RV w sh.length q _ _ _ _ kU λj v aK=>?_
     rcases BF with BF|BF
     ·obtain⟨_,aC3,nq,aDf,bm,⟨cb,cJ⟩,_⟩:=(h.bF.rws b9 sh vE jA Bv B7 Oc BD (by omega)).2 BF
      have:=(cJ.sub (iG.den ρ).toNat q (by omega)).flat aK
      rw[kF]
      simp only[o3,bm,yl,ym,if_false]
      exact this
     ·rw[BF,qN]at aK;simp[ca]at aK
   obtain⟨arL,aC2,hY⟩:∃B C,a.eval y= .slice avf B C:=⟨_,_,y0⟩
   have Lx:arL=(iD.den ρ).toNat:=by rw[y0]at hY;injection hY with _ h2 _;exact h2.symm
   subst Lx
   have jC:(zJ #[t,t'] o.type #[.slice (some ⟨m b,(ro.den ρ).toNat*sh.length,none⟩) (len.den ρ).toNat (cap.den ρ).toNat,a.eval y]).run P w= .ok (goInt q) (w.setRow (m b) (ca sh (ak (p.2.den aa))++post).toArray):=by
    rw[hY]at Is⊢
    simp[zJ,fx (iT he),RW,ki hs,Wg,Is,oP]
   unfold qc
   have hex:execOp a.eval o=(do pure (nJ (<-zJ #[t,t'] o.type #[a.eval x,a.eval y]))):=by
    simp[execOp,ax,resolve,oO,b2,a2,invoke,builtin]
   simp only[hex,b3,jg,jC,jv,kk]
   refine ab n' aa m _ _ G _ _ ⟨hn,ha,by rw[kQ];exact bO _,λ_ _=>rfl⟩ (fm.refl _ _) ⟨?_,by rw[put_defers];exact h.d,hR.b.set (λy hy=>by
    simp at hy;subst hy
    exact⟨⟨gD.1.1.mono hn,oM,gD.1.2.2.mono hn⟩,g2,by rw[d2];exact gD.2.2⟩),pW⟩ ae
   rw[kQ]
   refine eY.put hR.t o.dst ⟨g1,by show(0:Int)<=p.1.den aa;rw[g4];omega,by show p.1.den aa<=9223372036854775807;rw[g4];omega⟩ ?_
   show goInt q=zD .i64 (p.1.den aa)
   have rJ:((q:Nat):Int)=p.1.den aa:=by rw[g4,<-ah];omega
   rw[<-rJ];rfl
 ·cases bH
theorem axr {tm:List V} {a:Act} {w:aC} {G:e2} {o:Oper} {K:Act->aC->Prop} {Q:Exit->Act->aC->Prop} {k:iI} {ui:T}
 (h:R w0 n ρ m tm bl a w) (bH:YN P o n tm bl k=some ui) (ae:ui.holds S L G ρ) (ab:nL S L w0 k n bl.length ρ m G K):o.wp P a w K Q:=by
 unfold YN at bH
 split at bH
 rotate_left
 ·cases bH
 rename_i c ax
 split at bH
 rotate_left
 ·cases bH
 rename_i oO
 split at bH
 rotate_left
 ·cases bH
 rename_i x y t t' gf pf
 have hx:=cM h.t x
 have hy:=cM h.t y
 split at bH
 rotate_left
 ·cases bH
 rename_i b off len cap b9 Cb iD Aa e hv nT he
 rw[hv]at hx
 rw[nT]at hy
 split at bH
 rotate_left
 ·cases bH
 rename_i C dJ l s aX hl hs
 cases hc:(aM s 1&&cK (off+l.length) C.length&&cc C&&cc (C.take off++l++C.drop (off+l.length)))with
 |false=>rw[hc]at bH;cases bH
 |true=>
  rw[hc]at bH
  simp only[cond_true,bb]at bH
  subst bH
  simp only[bw]at hc
  obtain⟨⟨⟨c1,bK⟩,tM⟩,te⟩:=hc
  have c1:=bR c1
  have bK:=fP bK
  subst c1
  have b2:c.args=#[x,y]:=by rw[<-lN (xs:=c.args),gf]
  have a2:c.argTypes=#[t,t']:=by rw[<-lN (xs:=c.argTypes),pf]
  have b3:a.eval x= .slice (some ⟨m b,off,none⟩) len cap:=hx.2
  have hY:a.eval y= .slice (some ⟨m b9,Cb,none⟩) iD Aa:=hy.2
  obtain⟨l1,l2,qx⟩:=Im h.bF h.b hl
  obtain⟨w',oP,BN⟩:=h.bF.storeCells (P:=P) h.b l2 aX bK tM te
  have Is:(JX 1 (JV iD len) (.slice (some ⟨m b9,Cb,none⟩) iD Aa)).run P w= .ok (l.map (A.den ρ m)).toArray w:=
   RV w 1 _ _ _ _ _ (by rw[qM,l1,Ba]) qx
  have jC:(zJ #[t,t'] o.type #[.slice (some ⟨m b,off,none⟩) len cap,.slice (some ⟨m b9,Cb,none⟩) iD Aa]).run P w= .ok (goInt (JV iD len)) w':=by
   simp[zJ,fx (iT he),RW,ki hs,Is,oP]
  have b0:∀a∈C.take off++l++C.drop (off+l.length),A.ok n bl.length ρ a:=λa ha=>by
   have db:=h.b _ (e8 aX)
   rcases List.mem_append.1 ha with ha|ha
   ·rcases List.mem_append.1 ha with ha|ha
    ·exact db a (oc ha)
    ·exact l2 a ha
   ·exact db a (rD ha)
  unfold qc
  have hex:execOp a.eval o=(do pure (nJ (<-zJ #[t,t'] o.type #[a.eval x,a.eval y]))):=by
   simp[execOp,ax,resolve,oO,b2,a2,invoke,builtin]
  simp only[hex,b3,hY,jg,jC,jv,kk]
  refine ab n ρ m _ _ G _ w' ⟨bO _,agree.refl _ _,by rw[kQ];exact bO _,λ_ _=>rfl⟩ (fm.refl _ _) ⟨?_,by rw[put_defers];exact h.d,h.b.set b0,BN⟩ ae
  rw[kQ]
  refine eY.put (v:= .w (.one (.int .i64 (bQ.const (JV iD len:Nat))))) h.t o.dst (bQ.qW _ _ _) ?_
  show goInt (JV iD len)=_
  simp[W.den,A.den,bQ.const,I.br,goInt]
end
end Go.ch
namespace Go.ch
open M
section
variable {S:Nat->List Int->List Int->Prop} {L:V->Env->Prop} {w0:eG} {P:bV} {gl:fa} {cal:fy} {inl:m1}
theorem cond_holds {c:Bool} {t:T} {G:e2} {ρ:Env} (h:(cond c t .stuck).holds S L G ρ):c=true/\t.holds S L G ρ:=by
 cases c with
 |true=>exact⟨rfl,h⟩
 |false=>exact h.elim
theorem axm {n:Nat} {ρ:Env} {m:Nat->Nat} {tm:List V} {bl:List aE} {a:Act} {w:aC} {G:e2} {o:Oper} {K:Act->aC->Prop} {Q:Exit->Act->aC->Prop} {k:iI}
 (c6:h8 S P gl w0 cal) (hg:fA gl w0) (oj:rE S L w0 P inl) (h:R w0 n ρ m tm bl a w) (ae:(YK P gl cal inl o n tm bl k).holds S L G ρ) (ab:nL S L w0 k n bl.length ρ m G K):o.wp P a w K Q:=by
 unfold YK at ae
 split at ae
 ·rename_i t ax
  cases hz:qI P t with
  |none=>simp[hz,T.holds]at ae
  |some cs=>
   simp only[hz]at ae
   unfold qI at hz
   cases hi:P.info? t with
   |none=>simp[hi]at hz
   |some i=>
    cases jZ:i.zero with
    |none=>simp[hi,jZ]at hz
    |some z=>
     simp only[hi,jZ]at hz
     have hc:=Bx hz n bl.length ρ m
     obtain⟨pe,ae⟩:=cond_holds ae
     have hw:=ab n ρ _ _ _ G _ _ (eX.alloc n ρ m bl (cs,(t,false)) w.heap.size) (fm.refl _ _) (h.alloc (t:=t) hc.1 o.dst pe) ae
     unfold qc
     simp only[execOp,ax,aBO,jg,zeroValue,typeInfo,run_program,jv,hi,jZ,kk,newVar,newRow,run_newObj]
     have e:(cs.map (A.den ρ m)).toArray=z.cells:=by rw[hc.2]
     rw[e]at hw
     exact hw
 ·rename_i t x ax
  have hx:=cM h.t x
  split at ae
  ·rename_i u hu
   rw[hu]at hx
   have dp:a.eval x=u.den ρ m:=hx.2
   obtain⟨pe,ae⟩:=cond_holds ae
   have hw:=ab n ρ _ _ _ G _ _ (eX.alloc n ρ m bl (u.cells,(t,false)) w.heap.size) (fm.refl _ _) (h.alloc (t:=t) (W.HL hx.1) o.dst pe) ae
   unfold qc
   simp only[execOp,ax,Instr.box,jg,jv,kk,newVar,newRow,run_newObj,dp]
   rw[<-W.OU u hx.1]at hw
   exact hw
  ·exact ae.elim
 ·rename_i t len parts ax
  split at ae
  ·rename_i cs e tH
   obtain⟨g1,g2⟩:=ak7 (m:=m) (vals:=parts.map λ(i,x)=>(i,a.eval x)) tH (by
    rw[zG]
    generalize parts.toList=kq
    induction kq with
    |nil=>exact trivial
    |cons p r ih=>exact⟨⟨rfl,cM h.t p.2⟩,ih⟩)
   obtain⟨pe,ae⟩:=cond_holds ae
   have hR:=R.row (t:=e) (cs:=cs) (ex:=[]) (open_:=false) h g1 (λ_=>rfl) pe o.dst (v:= .w (.one (.slc bl.length 0 len len))) (x:= .slice (some ⟨w.heap.size,0,none⟩) len len) (by simp[V.ok,W.ok,A.ok]) (by
    show Nl (some ⟨w.heap.size,0,none⟩) _ _=_
    simp[W.den,A.den,p3])
   have hw:=ab n ρ _ _ _ G _ _ (eX.alloc n ρ m bl (cs,(e,false)) w.heap.size) (fm.refl _ _) hR ae
   rw[gZ]at hw
   unfold qc
   simp only[execOp,ax,jg,g2,jv,kk]
   exact hw
  ·exact ae.elim
 ·rename_i t p x ax
  have hp:=cM h.t p
  have hx:=cM h.t x
  split at ae
  ·rename_i b off u Wf BS
   rw[Wf]at hp
   rw[BS]at hx
   have We:a.eval p= .pointer (some ⟨m b,off,none⟩):=hp.2
   have dp:a.eval x=u.den ρ m:=hx.2
   split at ae
   ·rename_i cs dJ s aX hs
    cases hc:(aM u.cells.length s&&cK (off+s) cs.length&&dP 0 s&&cc cs&&cc (cs.take off++u.cells++cs.drop (off+s)))with
    |false=>rw[hc]at ae;exact ae.elim
    |true=>
     simp only[hc,cond_true]at ae
     simp only[bw]at hc
     obtain⟨⟨hc,tM⟩,te⟩:=hc
     have aw:=bR hc.1.1
     have aD:=fP hc.1.2
     have cj:=vh hc.2
     subst aw
     obtain⟨w',jC,BN⟩:=h.bF.store h.b (W.HL hx.1) aX aD cj tM te t hs (u.den ρ m) (W.OU u hx.1)
     have b0:∀a∈cs.take off++u.cells++cs.drop (off+u.cells.length),A.ok n bl.length ρ a:=λa ha=>by
      have db:=h.b _ (e8 aX)
      rcases List.mem_append.1 ha with ha|ha
      ·rcases List.mem_append.1 ha with ha|ha
       ·exact db a (oc ha)
       ·exact W.HL hx.1 a ha
      ·exact db a (rD ha)
     unfold qc
     simp only[execOp,ax,jg,We,dp,jC,jv,kk]
     refine ab n ρ m _ _ G _ w' ⟨bO _,agree.refl _ _,by rw[kQ];exact bO _,λ_ _=>rfl⟩ (fm.refl _ _) ⟨?_,by rw[put_defers];exact h.d,h.b.set b0,BN⟩ ae
     rw[kQ]
     exact eY.put h.t o.dst (by intro x hx;simp at hx) rfl
   ·exact ae.elim
  ·exact ae.elim
 ·rename_i c ax
  split at ae
  ·rename_i f hc
   split at ae
   ·exact QU c6 hg h ae ab
   ·have ta:∀v∈c.args.toList.map (cl tm),V.ok n bl.length ρ v:=λv hv=>by
     obtain⟨x,_,rfl⟩:=List.mem_map.1 hv
     exact(cM h.t x).1
    have hr:=oj f n _ bl _ G ρ m w _ (λe sR=>match e with
     | .returned v=>K (a.put o.dst v) sR
     | .panicked chain=>Q (.panic chain) a sR
     | .outgrown=>LetsOut Q) h.b h.bF ta (NI (xs:=c.args.toList) h.t) ae (by
     intro n' v bq eP aa m' w' val h1 h2 h3 h4 h5 h6 h7
     exact ab n' aa m' _ bq eP _ w' h1 h2 ⟨eY.put (h.t.ext h1.ha h1.hn h1.hb h1.hm) o.dst h3 h4,by rw[put_defers];exact h.d,h5,h6⟩ h7)
    have ha:(c.args.toList.map a.eval).toArray=c.args.map a.eval:=by rw[<-zG]
    rw[ha]at hr
    unfold qc
    rw[Yj hc o ax,hr.1]
    refine hr.2.mono λe sR he=>?_
    cases e<;>exact he
  ·rename_i x hc
   split at ae
   ·exact QU c6 hg h ae ab
   split at ae
   ·rename_i f kH aoF
    have hx:=cM h.t (.tmp x)
    obtain⟨tf,dp⟩:(∀y∈kH,A.ok n bl.length ρ y)/\a.eval (.tmp x)= .func (.func f) #[] (kH.map (A.den ρ m)).toArray:=alM aoF hx.1 hx.2
    have ta:∀v∈c.args.toList.map (cl tm)++kH.map (λy=>V.w (.one y)),V.ok n bl.length ρ v:=λv hv=>by
     rcases List.mem_append.1 hv with hv|hv
     ·obtain⟨x,_,rfl⟩:=List.mem_map.1 hv
      exact(cM h.t x).1
     ·obtain⟨y,hy,rfl⟩:=List.mem_map.1 hv
      exact tf y hy
    have hrel:fb ρ m (c.args.toList.map (cl tm)++kH.map λy=>V.w (.one y)) (c.args.toList.map a.eval++kH.map (A.den ρ m)):=by
     generalize c.args.toList=l
     induction l with
     |nil=>
      simp only[fD,gp]
      generalize kH=q
      induction q with
      |nil=>trivial
      |cons y r ih=>exact⟨rfl,ih⟩
     |cons x r ih=>exact⟨(cM h.t x).2,ih⟩
    have hr:=oj f n _ bl _ G ρ m w _ (λe sR=>match e with
     | .returned v=>K (a.put o.dst v) sR
     | .panicked chain=>Q (.panic chain) a sR
     | .outgrown=>LetsOut Q) h.b h.bF ta hrel ae (by
     intro n' v bq eP aa m' w' val h1 h2 h3 h4 h5 h6 h7
     exact ab n' aa m' _ bq eP _ w' h1 h2 ⟨eY.put (h.t.ext h1.ha h1.hn h1.hb h1.hm) o.dst h3 h4,by rw[put_defers];exact h.d,h5,h6⟩ h7)
    have hex:execOp a.eval o=callFunc f (c.args.toList.map a.eval++kH.map (A.den ρ m)).toArray:=by
     have e:(c.args.toList.map a.eval++kH.map (A.den ρ m)).toArray=#[]++c.args.map a.eval++(kH.map (A.den ρ m)).toArray:=by
      apply RU
      simp
     rw[e]
     simp only[execOp,ax,resolve,hc,dp,Deferred.ofValue,pure_bind,invoke]
    unfold qc
    rw[hex,hr.1]
    refine hr.2.mono λe sR he=>?_
    cases e<;>exact he
   ·exact ae.elim
  ·rename_i hc
   split at ae
   ·rename_i s x t t' gf pf
    exact akD h ax hc gf pf ae ab
   ·exact ae.elim
  ·exact QU c6 hg h ae ab
 ·exact QU c6 hg h ae ab
theorem ah4 {n:Nat} {ρ:Env} {m:Nat->Nat} {tm:List V} {bl:List aE} {a:Act} {w:aC} {G:e2} {o:Oper} {K:Act->aC->Prop} {Q:Exit->Act->aC->Prop} {k:iI}
 (c6:h8 S P gl w0 cal) (hg:fA gl w0) (oj:rE S L w0 P inl) (h:R w0 n ρ m tm bl a w) (ae:(Ri P gl cal inl o n tm bl k).holds S L G ρ) (ab:nL S L w0 k n bl.length ρ m G K):o.wp P a w K Q:=by
 unfold Ri at ae
 split at ae
 ·rename_i t aA
  exact axn h aA ae ab
 ·split at ae
  ·rename_i t aA
   exact axp h aA ae ab
  ·split at ae
   ·rename_i t aA
    exact axq h aA ae ab
   ·split at ae
    ·rename_i t aA
     exact axr h aA ae ab
    ·exact axm c6 hg oj h ae ab
theorem ab8 {ρ:Env}:∀{b:bC} {v:Bool} {r:I×Option Int×Option Int},b.den ρ=v->xa b v=some r->(∀c,r.2.1=some c->c<=r.1.den ρ)/\(∀c,r.2.2=some c->r.1.den ρ<=c)
 | .le p q,true,r,hb,h| .le p q,false,r,hb,h| .lt p q,true,r,hb,h| .lt p q,false,r,hb,h=>by
  simp only[bC.den,decide_eq_true_eq,decide_eq_false_iff_not]at hb
  simp only[xa]at h
  split at h
  ·rename_i c h1 h2
   have e:=I.km h1 (ρ:=ρ)
   simp only[bb]at h
   subst h
   constructor<;>intro eR hc<;>simp only[bb,reduceCtorEq]at hc<;>subst hc<;>simp only<;>omega
  ·rename_i c h1 h2
   have e:=I.km h2 (ρ:=ρ)
   simp only[bb]at h
   subst h
   constructor<;>intro eR hc<;>simp only[bb,reduceCtorEq]at hc<;>subst hc<;>simp only<;>omega
  ·cases h
 | .not b,v,r,hb,h=>by
  simp only[xa]at h
  refine ab8 (b:=b) (v:= !v) ?_ h
  simp only[bC.den]at hb
  rw[<-hb,Bool.not_not]
 | .lit _,_,_,_,h=>by simp[xa]at h
 | .eq _ _,_,_,_,h=>by simp[xa]at h
 | .and _ _,_,_,_,h=>by simp[xa]at h
 | .iff _ _,_,_,_,h=>by simp[xa]at h
theorem alR {n nb:Nat} {ρ:Env} {m:Nat->Nat} {b:bC} {v:Bool} (hb:b.den ρ=v) (u:V) (hu:u.ok n nb ρ):(O0 b v (xa b v) u).ok n nb ρ/\∀x,u.rel ρ m x->(O0 b v (xa b v) u).rel ρ m x:=by
 unfold O0
 split
 ·rename_i e
  cases hc:bC.beq e b with
  |false=>simp only[cond_false];exact⟨hu,λ_ h=>h⟩
  |true=>
   have:=bC.beq_eq hc
   subst this
   simp only[cond_true]
   refine⟨trivial,λx hx=>?_⟩
   simp only[V.rel,W.den,A.den,bC.den]at hx⊢
   rw[hx,hb]
 ·rename_i k y
  cases hr:xa b v with
  |none=>exact⟨hu,λ_ h=>h⟩
  |some r=>
   obtain⟨l,lo,hi⟩:=r
   simp only
   cases hc:I.beq y.l l with
   |false=>simp only[cond_false];exact⟨hu,λ_ h=>h⟩
   |true=>
    have:=I.beq_eq hc
    have hs:=ab8 hb hr
    have hy:y.ok n ρ:=hu
    simp only[cond_true]
    have b8:IM y.lo lo<=y.l.den ρ:=by
     unfold IM
     cases lo with
     |none=>exact hy.2.1
     |some c=>
      simp only
      have:=hs.1 c rfl
      have:=hy.2.1
      cases decide (y.lo<=c)with
      |true=>simp only[cond_true];rw[‹y.l=l›];assumption
      |false=>simp only[cond_false];assumption
    have b9:y.l.den ρ<=L6 y.hi hi:=by
     unfold L6
     cases hi with
     |none=>exact hy.2.2
     |some c=>
      simp only
      have:=hs.2 c rfl
      have:=hy.2.2
      cases decide (c<=y.hi)with
      |true=>simp only[cond_true];rw[‹y.l=l›];assumption
      |false=>simp only[cond_false];assumption
    cases hd:decide (IM y.lo lo=L6 y.hi hi)with
    |true=>
     simp only[cond_true]
     have hd:=of_decide_eq_true hd
     refine⟨bQ.qW _ _ _,λx h=>?_⟩
     have h:x= .int k (y.l.den ρ):=h
     rw[h]
     simp only[V.rel,W.den,A.den,bQ.const,I.br]
     congr 1;omega
    |false=>simp only[cond_false];exact⟨⟨hy.1,b8,b9⟩,λx h=>h⟩
 ·exact⟨hu,λ_ h=>h⟩
theorem Jx {n nb:Nat} {ρ:Env} {m:Nat->Nat} {b:bC} {v:Bool} (hb:b.den ρ=v) {tm:List V} {xs:Array aV} (h:eY n nb ρ m tm xs):eY n nb ρ m (wo b v tm) xs:=by
 refine⟨by simp[wo,h.1],λi u hu=>?_⟩
 simp only[wo,sr,Option.map_eq_some_iff]at hu
 obtain⟨uO,h0,rfl⟩:=hu
 obtain⟨h1,x,h2,h3⟩:=h.2 i uO h0
 have:=alR (m:=m) hb uO h1
 exact⟨this.1,x,h2,this.2 x h3⟩
theorem KW {n nb:Nat} {ρ:Env} {m:Nat->Nat} {tm:List V} {a:Act} {G:e2} {ops:Array Oper} {o:Oper} {yes no:List V->T} (aA:eY n nb ρ m tm a.tmps) (h:(FG ops tm o yes no).holds S L G ρ):
 ∃cC,eY n nb ρ m cC a.tmps/\((Bd o (yielded ops a.tmps)=true/\(yes cC).holds S L G ρ)∨(Bd o (yielded ops a.tmps)=false/\(no cC).holds S L G ρ)):=by
 unfold FG at h
 unfold Bd
 cases ja:o.guard with
 |none=>simp only[ja]at h;exact⟨tm,aA,.inl ⟨rfl,h⟩⟩
 |some Va=>
  obtain⟨g,want⟩:=Va
  simp only[ja]at h⊢
  unfold yielded
  cases hd:(ops[g]?).bind (·.dst)with
  |none=>simp[hd,T.holds]at h
  |some d=>
   simp only[hd]at h
   simp only[Option.bind_some]
   cases Wo:tm[d]? with
   |none=>simp[Wo,T.holds]at h
   |some v=>
    obtain⟨_,x,hx,hr⟩:=aA.2 d v Wo
    simp only[Wo]at h
    revert hr h
    cases v with
    |any=>intro hr h;exact h.elim
    |sN _ _ _=>intro hr h;exact h.elim
    |s6 _ _=>intro hr h;exact h.elim
    |iU l=>
     cases l with
     |nil=>
      intro hr h
      have hr:x= .tuple #[]:=hr
      subst hr
      simp only[hx]
      exact⟨tm,aA,.inr ⟨by simp,h⟩⟩
     |cons _ _=>intro hr h;exact h.elim
    |w y=>
     cases y with
     |agg l=>intro hr h;exact h.elim
     |one c=>
      cases c with
      |bool b=>
       intro hr h
       have hr:x= .bool (b.den ρ):=hr
       subst hr
       simp only[hx]
       have key:∀b:bC,(T.uq b (cond want (yes (wo b true tm)) (no (wo b true tm))) (cond want (no (wo b false tm)) (yes (wo b false tm)))).holds S L G ρ->∃cC,eY n nb ρ m cC a.tmps/\(((some (b.den ρ)==some want)=true/\(yes cC).holds S L G ρ)∨((some (b.den ρ)==some want)=false/\(no cC).holds S L G ρ)):=λb hb=>by
        simp only[T.holds]at hb
        cases ah:b.den ρ with
        |true=>
         have:=hb.1 ah
         cases want with
         |true=>exact⟨_,Jx ah aA,.inl ⟨by simp,this⟩⟩
         |false=>exact⟨_,Jx ah aA,.inr ⟨by simp,this⟩⟩
        |false=>
         have:=hb.2 ah
         cases want with
         |true=>exact⟨_,Jx ah aA,.inr ⟨by simp,this⟩⟩
         |false=>exact⟨_,Jx ah aA,.inl ⟨by simp,this⟩⟩
       cases b with
       |lit v=>
        simp only[bC.den]
        cases hv:(v==want)with
        |true=>simp only[hv,cond_true]at h;exact⟨tm,aA,.inl ⟨by simpa using hv,h⟩⟩
        |false=>simp only[hv,cond_false]at h;exact⟨tm,aA,.inr ⟨by simpa using hv,h⟩⟩
       |eq _ _=>exact key _ h
       |lt _ _=>exact key _ h
       |le _ _=>exact key _ h
       |not _=>exact key _ h
       |and _ _=>exact key _ h
       |iff _ _=>exact key _ h
      |_=>intro hr h;exact h.elim
theorem R.skip {n:Nat} {ρ:Env} {m:Nat->Nat} {tm:List V} {bl:List aE} {a:Act} {w:aC} (h:R w0 n ρ m tm bl a w) (d:Option Tmp):R w0 n ρ m (gx tm d (.iU [])) bl (a.put d undef) w:=
 ⟨eY.put h.t d (by intro x hx;simp at hx) rfl,by rw[put_defers];exact h.d,h.b,h.bF⟩
theorem QG {ops:Array Oper} {Q:Exit->Act->aC->Prop} (c6:h8 S P gl w0 cal) (hg:fA gl w0) (oj:rE S L w0 P inl):∀(l:List Oper) {n:Nat} {ρ:Env} {m:Nat->Nat} {tm:List V} {bl:List aE} {a:Act} {w:aC} {G:e2} {k:iI},
 R w0 n ρ m tm bl a w->(I0 P gl cal inl ops l n tm bl k).holds S L G ρ->nL S L w0 k n bl.length ρ m G (Q .normal)->wpList P ops Q l a w
 |[],n,ρ,m,tm,bl,a,w,G,k,h,ae,ab=>ab n ρ m tm bl G a w (eX.refl _ _ _ _) (fm.refl _ _) h ae
 |o::r,n,ρ,m,tm,bl,a,w,G,k,h,ae,ab=>by
  unfold I0 at ae
  unfold wpList
  obtain⟨cC,tP,ja⟩:=KW h.t ae
  have h:R w0 n ρ m cC bl a w:=⟨tP,h.d,h.b,h.bF⟩
  rcases ja with⟨hw,ae⟩|⟨hw,ae⟩
  ·rw[if_pos hw]
   refine .inl (ah4 c6 hg oj h ae λn' aa m' cC bq eP du w' h1 h2 h3 h4=>?_)
   exact QG c6 hg oj r h3 h4 (ab.later h1 h2)
  ·rw[if_neg (by simp[hw])]
   exact QG c6 hg oj r (h.skip o.dst) ae ab
theorem allT_holds {g:Nat->T} {L:V->Env->Prop} {G:e2} {ρ:Env}:∀{l:List Nat},(TK g l).holds S L G ρ->∀i∈l,(g i).holds S L G ρ
 |[],ae,_,hi=>by cases hi
 |[j],ae,i,hi=>by simp at hi;subst hi;exact ae
 |j::WN::r,ae,i,hi=>by
  rcases List.mem_cons.1 hi with rfl|hi
  ·exact ae.1
  ·exact allT_holds (l:=WN::r) ae.2 i hi
theorem PD {ops:Array Oper} {bl:List aE} {m:Nat->Nat} {jt:Nat} {cu:Env} (c6:h8 S P gl w0 cal) (hg:fA gl w0) (rO:cY jt bl.length cu bl) (hex:∃w,Mem w0 cu m bl w) {F:Act->Prop} {G:e2}:∀(l:List Oper) {n:Nat} {ρ:Env} {tm:List V} {a:Act} {k:Nat->List V->T},
 jt<=n->agree jt cu ρ->eY n bl.length ρ m tm a.tmps->a.defers=w0.ds->(Io P gl cal ops l n tm bl k).holds S L G ρ->
 (∀n' aa cC du,n<=n'->agree n ρ aa->eY n' bl.length aa m cC du.tmps->du.defers=w0.ds->(k n' cC).holds S L G aa->F du)->ET P ops (λw=>Mem w0 cu m bl w) F l a
 |[],n,ρ,tm,a,k,hn,ha,aA,hd,ae,ab=>ab n ρ tm a (bO _) (agree.refl _ _) aA hd ae
 |o::r,n,ρ,tm,a,k,hn,ha,aA,hd,ae,ab=>by
  unfold Io at ae
  unfold ET
  obtain⟨A2,xt⟩:=hex
  cases fr:hQ o with
  |true=>
   simp only[fr,cond_true]at ae⊢
   exact PD c6 hg rO ⟨A2,xt⟩ r hn ha aA hd ae ab
  |false=>
   simp only[fr,cond_false]at ae⊢
   obtain⟨cC,aA,ja⟩:=KW aA ae
   rcases ja with⟨hw,ae⟩|⟨hw,ae⟩
   ·have hb:cY n bl.length ρ bl:=rO.ext ha hn (bO _)
    obtain⟨aa,n',v,At,oi,⟨hv,val,hr,ah⟩,Iu⟩:=X6 (L:=L) c6 hb hg ⟨A2,xt.sP rO ha⟩ aA o G _ ae
    refine⟨val,.inl ⟨hw,λw aqi=>ah w (aqi.sP rO ha)⟩,?_⟩
    exact PD c6 hg rO ⟨A2,xt⟩ r (oE hn At) (ha.trans oi hn) (eY.put (aA.ext oi At (bO _) (λ_ _=>rfl)) o.dst hv hr) (by rw[put_defers];exact hd) Iu
     λIU ys aie aar h1 h2 h3 h4 h5=>ab IU ys aie aar (oE At h1) (oi.trans h2 At) h3 h4 h5
   ·exact⟨undef,.inr ⟨hw,rfl⟩,PD c6 hg rO ⟨A2,xt⟩ r hn ha (eY.put (v:= .iU []) aA o.dst (by intro x hx;simp at hx) rfl) (by rw[put_defers];exact hd) ae ab⟩
def JF (P:bV) (ops:Array Oper) (j:Nat):Obj:=
 match ops[j]? with
 |some o=>match o.op with
  | .alloc t=>match P.info? t with
   |some i=>match i.zero with
    |some z=> .cells z.cells t
    |none=>default
   |none=>default
  |_=>default
 |none=>default
theorem aAU {l:List Oper} {h j:Nat} {o:Oper} (hz:Ry P (l.take h)=true) (aK:j<h) (ax:l.toArray[j]?=some o) (fr:hQ o=true) (b:Act) (w:aC):
 (execOp b.eval o).run P w= .ok (.value (.pointer (some ⟨w.heap.size,0,none⟩))) (w.alloc (JF P l.toArray j)):=by
 have jY:l[j]?=some o:=by simpa using ax
 have hm:o∈l.take h:=e8 (i:=j) (by rw[tw,if_pos aK];exact jY)
 have h1:=List.all_eq_true.1 hz o hm
 simp only[fr,je,Bool.false_or]at h1
 unfold JF
 simp only[ax]
 cases fG:o.op with
 |alloc t=>
  simp only[fG]at h1
  obtain⟨cs,db⟩:=Option.isSome_iff_exists.1 h1
  obtain⟨i,z,hi,jZ,_⟩:=JE db
  simp only[execOp,fG,aBO,jg,zeroValue,typeInfo,run_program,jv,hi,jZ,kk,newVar,newRow,run_newObj]
  rfl
 |_=>simp[fG]at h1
theorem TL {ops:Array Oper} {h:Nat} {u9 b:Act} {gL:Nat->Nat} {bz:Nat} {w:aC} {n:Nat} {ρ:Env} {G:e2} {k:iI} {K:Act->aC->Prop} (BH:Fin ops h u9 b gL) (xl:CU ops h (λ_=>True) (JF P ops) gL bz w) (hsz:w0.b.heap.size<=bz) (afc:w0.r.heap.size<=bz):
 ∀(l:List Oper) (i:Nat) {m:Nat->Nat} {tm:List V} {bl:List aE} {c:Act},(∀j,j<l.length->ops[i+j]?=l[j]?)->i+l.length=h->R w0 n ρ m tm bl c w->
  (∀(ot:Nat) (p:aE),bl[ot]?=some p->bM ρ p.1≠0->m ot<bz∨∃j,j<i/\u5 ops j=true/\m ot=gL j)->c.tmps.size=u9.tmps.size->
  (∀t:Nat,((∃j o,j<i/\ops[j]?=some o/\hQ o=true/\o.dst=some t)->c.tmps[t]?=b.tmps[t]?)/\((∀j o,j<i->ops[j]?=some o->hQ o=true->o.dst≠some t)->c.tmps[t]?=u9.tmps[t]?))->
  (Kb P l n tm bl k).holds S L G ρ->nL S L w0 k n bl.length ρ m G K->u9.defers=w0.ds->K b w
 |[],i,m,tm,bl,c,hl,hi,hR,hm,db,hc,ae,ab,hd=>by
  simp only[qL,pE]at hi
  subst hi
  have oN:c=b:=akn (by rw[hR.d,BH.d,hd]) λt=>by
   by_cases aA:∃j o,j<i/\ops[j]?=some o/\hQ o=true/\o.dst=some t
   ·exact(hc t).1 aA
   ·have m4:∀j o,j<i->ops[j]?=some o->hQ o=true->o.dst≠some t:=λj o h1 h2 h3 h4=>aA ⟨j,o,h1,h2,h3,h4⟩
    rw[(hc t).2 m4,BH.no t m4]
  subst oN
  exact ab n ρ m tm bl G c w (eX.refl _ _ _ _) (fm.refl _ _) hR ae
 |o::r,i,m,tm,bl,c,hl,hi,hR,hm,db,hc,ae,ab,hd=>by
  have ax:ops[i]?=some o:=by have:=hl 0 (by simp);simpa using this
  have hr:∀j,j<r.length->ops[i+1+j]?=r[j]?:=λj aK=>by
   have:=hl (j+1) (by simp;omega)
   rw[show i+1+j=i+(j+1) by omega,this];simp
  have q2:i+1+r.length=h:=by simp at hi;omega
  unfold Kb at ae
  cases fr:hQ o with
  |false=>
   simp only[fr,cond_false]at ae
   refine TL BH xl hsz afc r (i+1) hr q2 hR (λot p q4 hp=>(hm ot p q4 hp).imp id λ⟨j,h1,h2⟩=>⟨j,by omega,h2⟩) db (λt=>⟨λ⟨j,cD,h1,h2,h3,h4⟩=>?_,λm4=>(hc t).2 λj cD h1=>m4 j cD (by omega)⟩) ae ab hd
   by_cases qp:j=i
   ·subst qp
    have:cD=o:=jd (h2.symm.trans ax)
    subst this
    rw[fr]at h3;cases h3
   ·exact(hc t).1 ⟨j,cD,by omega,h2,h3,h4⟩
  |true=>
   simp only[fr,cond_true]at ae
   cases fG:o.op with
   |alloc ty=>
    simp only[fG]at ae
    cases hz:qI P ty with
    |none=>simp[hz,T.holds]at ae
    |some cs=>
     simp only[hz]at ae
     obtain⟨pe,ae⟩:=cond_holds ae
     obtain⟨inf,z,ao1,jZ,oO⟩:=JE hz
     have VG:=Bx oO n bl.length ρ m
     have kK:u5 ops i=true:=by simp[u5,ax,fr]
     have VT:i<h:=by simp at hi;omega
     obtain⟨g1,g2⟩:=xl.1 i VT trivial kK
     have aqt:JF P ops i= .cells (cs.map (A.den ρ m)).toArray ty (0,0):=by
      unfold JF
      simp only[ax,fG,ao1,jZ,VG.2]
     rw[aqt]at g2
     have c7:∀(ot:Nat) (p:aE),bl[ot]?=some p->bM ρ p.1≠0->m ot≠gL i:=λot p q4 hp e=>by
      rcases hm ot p q4 hp with h1|⟨j,h1,h2,h3⟩
      ·omega
      ·have:=xl.2 j i (by omega) VT trivial trivial h2 kK (h3.symm.trans e)
       omega
     have pO:=hR.bF.push (x:=(cs,(ty,false))) hR.b VG.1 (λ_=>⟨by omega,.inr (by omega),[],λ_=>rfl,by rw[gZ];exact g2⟩) (λsh off code cap kind e=>by simp only at e;subst e;cases pe) λi p hi he=> .inr (.inl (Zm λab=>c7 i p hi ab he))
     have dL:=eX.alloc n ρ m bl (cs,(ty,false)) (gL i)
     have vq:R w0 n ρ (oz m bl.length (gL i)) (gx tm o.dst (.w (.one (.ptr bl.length 0)))) (bl++[(cs,(ty,false))]) (c.put o.dst (.pointer (some ⟨gL i,0,none⟩))) w:=
      ⟨eY.put (hR.t.ext dL.ha dL.hn dL.hb dL.hm) o.dst (by simp[V.ok,W.ok,A.ok]) (by simp[V.rel,W.den,A.den,p3]),by rw[put_defers];exact hR.d,hR.b.alloc VG.1,pO⟩
     refine TL BH xl hsz afc r (i+1) hr q2 vq (λot p q4 hp=>?_) ((GJ _ _ _).trans db) (λt=>⟨λ⟨j,cD,h1,h2,h3,h4⟩=>?_,λm4=>?_⟩) ae (ab.later dL (fm.refl _ _)) hd
     ·by_cases pP:ot<bl.length
      ·rw[py pP]
       rw[zB pP]at q4
       exact(hm ot p q4 hp).imp id λ⟨j,h1,h2⟩=>⟨j,by omega,h2⟩
      ·have:ot=bl.length:=by have:=(List.getElem?_eq_some_iff.1 q4).1;simp at this;omega
       subst this
       rw[p3]
       exact .inr ⟨i,by omega,kK,rfl⟩
     ·by_cases aA:o.dst=some t
      ·rw[aA]
       simp only[Act.put]
       rcases Nat.lt_or_ge t c.tmps.size with h5|h5
       ·have tH:t<b.tmps.size:=by rw[BH.bz,<-db];exact h5
        rw[BH.al t i o VT ax fr aA tH]
        simp[h5]
       ·rw[RT (by simpa using h5),RT (by rw[BH.bz,<-db];exact h5)]
      ·rw[AO aA]
       by_cases qp:j=i
       ·subst qp
        have:cD=o:=jd (h2.symm.trans ax)
        subst this
        exact absurd h4 aA
       ·exact(hc t).1 ⟨j,cD,by omega,h2,h3,h4⟩
     ·have aA:o.dst≠some t:=m4 i o (by omega) ax fr
      rw[AO aA]
      exact(hc t).2 λj cD h1=>m4 j cD (by omega)
   |_=>simp[fG,T.holds]at ae
end
end Go.ch
namespace Go.ch
open M
theorem alN {a b:aV} (h:Up a b=true):a=b:=by
 unfold Up at h
 split at h
 ·rfl
 ·rfl
 ·rename_i f a b s8 du b'
  simp only[bw]at h
  obtain⟨⟨⟨⟨h1,h2⟩,h3⟩,h4⟩,h5⟩:=h
  rw[bR h1,CN (bR h2),CN (bR h3),CN (bR h4),CN (bR h5)]
 ·cases h
theorem A.beq_eq {a b:A} (h:A.beq a b=true):a=b:=by
 cases a<;>cases b<;>simp only[A.beq]at h<;>(try(cases h;done))
 case int.int k x bD y=>
  simp only[bw,decide_eq_true_eq,beq_iff_eq]at h
  obtain⟨⟨⟨h1,h2⟩,h3⟩,h4⟩:=h
  cases x;cases y
  simp only at h2 h3 h4
  rw[h1,I.beq_eq h2,h3,h4]
 case bool.bool x y=>
  rw[bC.beq_eq h]
 case con.con=>rw[alN h]
 case ptr.ptr=>simp only[bw]at h;rw[bR h.1,bR h.2]
 case gptr.gptr=>simp only[bw]at h;rw[bR h.1,bR h.2]
 case slc.slc=>
  simp only[bw]at h
  rw[bR h.1.1.1,bR h.1.1.2,bR h.1.2,bR h.2]
 case str.str=>rw[I.beq_eq h]
 case rows.rows=>
  simp only[bw]at h
  rw[Ex h.1.1.1.1,I.beq_eq h.1.1.1.2,I.beq_eq h.1.1.2,I.beq_eq h.1.2,bR h.2]
 case sl.sl=>
  simp only[bw]at h
  rw[bR h.1.1.1.1.1,bR h.1.1.1.1.2,I.beq_eq h.1.1.1.2,I.beq_eq h.1.1.2,I.beq_eq h.1.2,I.beq_eq h.2]
 case ep.ep=>
  simp only[bw]at h
  rw[bR h.1.1.1.1,bR h.1.1.1.2,I.beq_eq h.1.1.2,I.beq_eq h.1.2,bR h.2]
theorem Fi:∀{a b:List A},rG a b=true->a=b
 |[],[],_=>rfl
 |x::r,y::s,h=>by
  simp only[rG,bw]at h
  rw[A.beq_eq h.1,Fi h.2]
 |[],_::_,h=>by simp[rG]at h
 |_::_,[],h=>by simp[rG]at h
theorem V.beq_eq {a b:V} (h:V.beq a b=true):a=b:=by
 cases a with
 |any=>cases b<;>simp[V.beq]at h
 |iU l=>cases l<;>cases b<;>simp[V.beq]at h;rename_i l';cases l'<;>simp[V.beq]at h;rfl
 |w x=>
  cases b with
  |w y=>cases x<;>cases y<;>simp[V.beq]at h;rw[A.beq_eq h];rw[Fi h]
  |_=>cases x<;>simp[V.beq]at h
 |sN _ _ _=>simp[V.beq]at h
 |s6 f l=>
  cases b with
  |s6 s8 l'=>
   simp only[V.beq,bw]at h
   rw[bR h.1,Fi h.2]
  |_=>simp[V.beq]at h
theorem JB:∀(zs:List Int) (n:Nat) (ρ:Env) (j:Nat),j<zs.length->bL ρ n zs (n+j)=zs.getD j 0
 |[],_,_,_,h=>by simp at h
 |z::zs,n,ρ,0,_=>by
  show bL (dm ρ n z) (n+1) zs (n+0)=z
  rw[agree.bL zs (n+1) _ (n+0) (by omega)]
  exact nG ρ n z
 |z::zs,n,ρ,j+1,h=>by
  show bL (dm ρ n z) (n+1) zs (n+(j+1))=_
  rw[show n+(j+1)=n+1+j by omega,JB zs (n+1) _ j (by simpa using h)]
  rfl
def EU (n nb:Nat) (ρ:Env) (m:Nat->Nat):List V->List aV->Prop
 |[],[]=>True
 |v::r,x::s=>v.ok n nb ρ/\v.rel ρ m x/\EU n nb ρ m r s
 |_,_=>False
theorem aaj {n nb:Nat} {ρ:Env} {m:Nat->Nat}:∀{tm:List V} {xs:List aV},eY n nb ρ m tm xs.toArray->EU n nb ρ m tm xs
 |[],[],_=>trivial
 |v::r,x::s,h=>by
  have h0:=h.2 0 v rfl
  obtain⟨h1,y,h2,h3⟩:=h0
  simp at h2;subst h2
  refine⟨h1,h3,aaj (tm:=r) (xs:=s) ⟨by simpa using h.1,λi u hu=>?_⟩⟩
  have:=h.2 (i+1) u (by simpa using hu)
  simpa using this
 |[],_::_,h=>by have:=h.1;simp at this
 |_::_,[],h=>by have:=h.1;simp at this
theorem NS {n nb:Nat} {ρ:Env} {m:Nat->Nat}:∀{tm:List V} {xs:List aV},EU n nb ρ m tm xs->eY n nb ρ m tm xs.toArray
 |[],[],_=>⟨rfl,λi v h=>by simp at h⟩
 |v::r,x::s,h=>by
  have ih:=NS h.2.2
  refine⟨by simpa using ih.1,λi u hu=>?_⟩
  cases i with
  |zero=>simp at hu;subst hu;exact⟨h.1,x,by simp,h.2.1⟩
  |succ i=>have:=ih.2 i u (by simpa using hu);simpa using this
 |[],_::_,h=>h.elim
 |_::_,[],h=>h.elim
theorem qt:∀{b b':List (Int×Int)} {l l':List Int},af b l->af b' l'->af (b++b') (l++l')
 |[],_,[],_,_,h=>h
 |_::_,_,_::_,_,h,bd=>⟨h.1,h.2.1,qt h.2.2 bd⟩
 |[],_,_::_,_,h,_=>h.elim
 |_::_,_,[],_,h,_=>h.elim
theorem agree.symm {n:Nat} {ρ aa:Env} (h:agree n ρ aa):agree n aa ρ:=λi hi=>(h i hi).symm
theorem V.back {n nb:Nat} {cu aa bW:Env} {m0 m':Nat->Nat} {v:V} {x:aV} (h0:v.ok n nb cu) (ha:agree n cu aa) (h2:agree n cu bW) (hm:∀b,b<nb->m' b=m0 b) (hr:v.rel aa m' x):v.ok n nb bW/\v.rel bW m0 x:=by
 have apr:v.ok n nb aa:=h0.ext ha (bO _) (bO _)
 exact⟨h0.ext h2 (bO _) (bO _),hr.ext apr (ha.symm.trans h2 (bO _)) λb hb=>(hm b hb).symm⟩
section
variable {gu:List Nat} {ints:List (Nat×Int×Int)}
theorem IE:∀{tm:List V} {i s:Nat} {t:List V} {l:List I} {b:List (Int×Int)},hs gu ints i s tm=some (t,l,b)->l.length=b.length/\t.length=tm.length
 |[],i,s,t,l,b,h=>by simp[hs]at h;obtain⟨rfl,rfl,rfl⟩:=h;exact⟨rfl,rfl⟩
 |v::r,i,s,t,l,b,h=>by
  unfold hs at h
  cases ab:gu.any (aM i)with
  |true=>
   simp only[ab,cond_true]at h
   cases hr:hs gu ints (i+1) s r with
   |none=>simp[hr]at h
   |some q=>
    obtain⟨t',l',b'⟩:=q
    simp only[hr,bb,eW]at h
    obtain⟨rfl,rfl,rfl⟩:=h
    have:=IE hr
    simp[this]
  |false=>
   simp only[ab,cond_false]at h
   cases hf:DI i ints with
   |none=>
    simp only[hf]at h
    cases hr:hs gu ints (i+1) s r with
    |none=>simp[hr]at h
    |some q=>
     obtain⟨t',l',b'⟩:=q
     simp only[hr,bb,eW]at h
     obtain⟨rfl,rfl,rfl⟩:=h
     have:=IE hr
     simp[this]
   |some q=>
    obtain⟨lo,hi⟩:=q
    simp only[hf]at h
    split at h
    ·rename_i k x
     cases hc:(decide (lo<=x.lo)&&decide (x.hi<=hi))with
     |false=>simp[hc]at h
     |true=>
      simp only[hc,cond_true]at h
      cases hr:hs gu ints (i+1) (s+1) r with
      |none=>simp[hr]at h
      |some q=>
       obtain⟨t',l',b'⟩:=q
       simp only[hr,bb,eW]at h
       obtain⟨rfl,rfl,rfl⟩:=h
       have:=IE hr
       simp[this]
    ·cases hr:hs gu ints (i+1) (s+1) r with
     |none=>simp[hr]at h
     |some q=>
      obtain⟨t',l',b'⟩:=q
      simp only[hr,bb,eW]at h
      obtain⟨rfl,rfl,rfl⟩:=h
      have:=IE hr
      simp[this]
    ·cases h
theorem LI {n nb N:Nat} {cu aa bW:Env} {m0 m':Nat->Nat} {n' ov:Nat} (ha:agree n cu aa) (h2:agree n cu bW) (hm:∀b,b<nb->m' b=m0 b) (td:n<=N):
 ∀{tm cC:List V} {xs:List aV} {i s:Nat} {t t':List V} {l l':List I} {b b':List (Int×Int)},
 (∀v∈tm,V.ok n nb cu v)->EU n' ov aa m' cC xs->hs gu ints i s tm=some (t,l,b)->hs gu ints i s cC=some (t',l',b')->qm t t'=true->
 (∀j,j<l'.length->bW (s+j)=(l'.getD j (.const 0)).den aa)->s+l'.length<=N->EU N nb bW m0 t xs/\af b (l'.map (·.den aa))/\l'.length=l.length
 |[],[],[],i,s,t,t',l,l',b,b',h0,hr,aw,aD,hf,hv,cT=>by
  simp[hs]at aw aD
  obtain⟨rfl,rfl,rfl⟩:=aw
  obtain⟨rfl,rfl,rfl⟩:=aD
  exact⟨trivial,trivial,rfl⟩
 |v::r,v'::r',x::xs,i,s,t,t',l,l',b,b',h0,hr,aw,aD,hf,hv,cT=>by
  obtain⟨b0,hrel,Gb⟩:=hr
  have FH:∀v∈r,V.ok n nb cu v:=λu hu=>h0 u (eB _ hu)
  unfold hs at aw aD
  cases ab:gu.any (aM i)with
  |true=>
   simp only[ab,cond_true]at aw aD
   cases gm:hs gu ints (i+1) s r with
   |none=>simp[gm]at aw
   |some bm=>
    obtain⟨t1,l1,b8⟩:=bm
    cases js:hs gu ints (i+1) s r' with
    |none=>simp[js]at aD
    |some cb=>
     obtain⟨t2,l2,b9⟩:=cb
     simp only[gm,bb,eW]at aw
     simp only[js,bb,eW]at aD
     obtain⟨rfl,rfl,rfl⟩:=aw
     obtain⟨rfl,rfl,rfl⟩:=aD
     have q6:=h0 v (by simp)
     have key:qm t1 t2=true/\(v= .any∨v=v'):=by
      unfold qm at hf
      split at hf
      ·rename_i heq _;cases heq
      ·rename_i h1 h2;cases h1;cases h2;exact⟨hf,.inl rfl⟩
      ·rename_i h1 h2;cases h1;cases h2
       simp only[bw]at hf
       exact⟨hf.2,.inr (V.beq_eq hf.1)⟩
      ·cases hf
     obtain⟨cz,cw,dc⟩:=LI ha h2 hm td FH Gb gm js key.1 hv cT
     refine⟨⟨?_,?_,cz⟩,cw,dc⟩
     ·exact q6.ext h2 td (bO _)
     ·rcases key.2 with rfl|rfl
      ·trivial
      ·exact(V.back q6 ha h2 hm hrel).2
  |false=>
   simp only[ab,cond_false]at aw aD
   cases lQ:DI i ints with
   |none=>
    simp only[lQ]at aw aD
    cases gm:hs gu ints (i+1) s r with
    |none=>simp[gm]at aw
    |some bm=>
     obtain⟨t1,l1,b8⟩:=bm
     cases js:hs gu ints (i+1) s r' with
     |none=>simp[js]at aD
     |some cb=>
      obtain⟨t2,l2,b9⟩:=cb
      simp only[gm,bb,eW]at aw
      simp only[js,bb,eW]at aD
      obtain⟨rfl,rfl,rfl⟩:=aw
      obtain⟨rfl,rfl,rfl⟩:=aD
      obtain⟨cz,cw,dc⟩:=LI ha h2 hm td FH Gb gm js (by simpa [qm]using hf) hv cT
      exact⟨⟨trivial,trivial,cz⟩,cw,dc⟩
   |some q=>
    obtain⟨lo,hi⟩:=q
    simp only[lQ]at aw aD
    split at aw
    ·rename_i k y
     split at aD
     ·rename_i bD oB
      cases hL:(decide (lo<=y.lo)&&decide (y.hi<=hi))with
      |false=>simp[hL]at aw
      |true=>
       cases hc2:(decide (lo<=oB.lo)&&decide (oB.hi<=hi))with
       |false=>simp[hc2]at aD
       |true=>
        simp only[hL,cond_true]at aw
        simp only[hc2,cond_true]at aD
        cases gm:hs gu ints (i+1) (s+1) r with
        |none=>simp[gm]at aw
        |some bm=>
         obtain⟨t1,l1,b8⟩:=bm
         cases js:hs gu ints (i+1) (s+1) r' with
         |none=>simp[js]at aD
         |some cb=>
          obtain⟨t2,l2,b9⟩:=cb
          simp only[gm,bb,eW]at aw
          simp only[js,bb,eW]at aD
          obtain⟨rfl,rfl,rfl⟩:=aw
          obtain⟨rfl,rfl,rfl⟩:=aD
          simp only[qm,bw]at hf
          have q4:=V.beq_eq hf.1
          simp only[V.w.injEq,W.one.injEq,A.int.injEq]at q4
          simp only[bw,decide_eq_true_eq]at hc2
          obtain⟨cz,cw,dc⟩:=LI ha h2 hm td FH Gb gm js hf.2 (λj aK=>by
           have:=hv (j+1) (by simpa using aK)
           rw[show s+1+j=s+(j+1) by omega];simpa using this) (by simp at cT;omega)
          have q6:=hv 0 (by simp)
          simp only[pE,jH]at q6
          have hb:=b0.2
          simp only[V.rel,W.den,A.den]at hrel
          refine⟨⟨⟨I.fW (by simp at cT;omega),?_,?_⟩,?_,cz⟩,⟨?_,?_,cw⟩,by simp[dc]⟩
          ·simp only[I.cS,q6];omega
          ·simp only[I.cS,q6];omega
          ·simp only[V.rel,W.den,A.den,I.cS,q6,q4.1];exact hrel
          ·simp only;omega
          ·simp only;omega
     ·cases gm:hs gu ints (i+1) (s+1) r' with
      |none=>simp[gm]at aD
      |some cb=>
       obtain⟨t2,l2,b9⟩:=cb
       simp only[gm,bb,eW]at aD
       obtain⟨rfl,rfl,rfl⟩:=aD
       cases hL:(decide (lo<=y.lo)&&decide (y.hi<=hi))with
       |false=>simp[hL]at aw
       |true=>
        simp only[hL,cond_true]at aw
        cases js:hs gu ints (i+1) (s+1) r with
        |none=>simp[js]at aw
        |some bm=>
         obtain⟨t1,l1,b8⟩:=bm
         simp only[js,bb,eW]at aw
         obtain⟨rfl,rfl,rfl⟩:=aw
         simp[qm,V.beq,A.beq]at hf
     ·cases aD
    ·rename_i y
     split at aD
     ·rename_i bD oB
      cases gm:hs gu ints (i+1) (s+1) r with
      |none=>simp[gm]at aw
      |some bm=>
       obtain⟨t1,l1,b8⟩:=bm
       simp only[gm,bb,eW]at aw
       obtain⟨rfl,rfl,rfl⟩:=aw
       cases hc2:(decide (lo<=oB.lo)&&decide (oB.hi<=hi))with
       |false=>simp[hc2]at aD
       |true=>
        simp only[hc2,cond_true]at aD
        cases js:hs gu ints (i+1) (s+1) r' with
        |none=>simp[js]at aD
        |some cb=>
         obtain⟨t2,l2,b9⟩:=cb
         simp only[js,bb,eW]at aD
         obtain⟨rfl,rfl,rfl⟩:=aD
         simp[qm,V.beq,A.beq]at hf
     ·rename_i oB
      cases gm:hs gu ints (i+1) (s+1) r with
      |none=>simp[gm]at aw
      |some bm=>
       obtain⟨t1,l1,b8⟩:=bm
       cases js:hs gu ints (i+1) (s+1) r' with
       |none=>simp[js]at aD
       |some cb=>
        obtain⟨t2,l2,b9⟩:=cb
        simp only[gm,bb,eW]at aw
        simp only[js,bb,eW]at aD
        obtain⟨rfl,rfl,rfl⟩:=aw
        obtain⟨rfl,rfl,rfl⟩:=aD
        simp only[qm,bw]at hf
        obtain⟨cz,cw,dc⟩:=LI ha h2 hm td FH Gb gm js hf.2 (λj aK=>by
         have:=hv (j+1) (by simpa using aK)
         rw[show s+1+j=s+(j+1) by omega];simpa using this) (by simp at cT;omega)
        have q6:=hv 0 (by simp)
        simp only[pE,jH]at q6
        have hb:0<=oB.den aa/\oB.den aa<=qR:=b0.2
        have hrel:x= .string (dY (bx (oB.den aa))):=hrel
        refine⟨⟨⟨I.fW (by simp at cT;omega),?_⟩,?_,cz⟩,⟨hb.1,hb.2,cw⟩,by simp[dc]⟩
        ·simp only[I.cS,q6];exact hb
        ·simp only[V.rel,W.den,A.den,I.cS,q6];exact hrel
     ·cases aD
    ·cases aw
 |[],_::_,_,i,s,t,t',l,l',b,b',h0,hr,aw,aD,hf,hv,cT=>by
  simp[hs]at aw
  obtain⟨rfl,_,_⟩:=aw
  have:=(IE aD).2
  cases t' with
  |nil=>simp at this
  |cons _ _=>simp[qm]at hf
 |_::_,[],_,i,s,t,t',l,l',b,b',h0,hr,aw,aD,hf,hv,cT=>by
  simp[hs]at aD
  obtain⟨rfl,_,_⟩:=aD
  have:=(IE aw).2
  cases t with
  |nil=>simp at this
  |cons y z=>cases y<;>simp[qm]at hf
 |_::_,_::_,[],i,s,t,t',l,l',b,b',h0,hr,aw,aD,hf,hv,cT=>hr.elim
 |[],[],_::_,i,s,t,t',l,l',b,b',h0,hr,aw,aD,hf,hv,cT=>hr.elim
end
def J3 (n nb:Nat) (ρ:Env) (m:Nat->Nat):List A->List aV->Prop
 |[],[]=>True
 |a::r,x::s=>A.ok n nb ρ a/\x=a.den ρ m/\J3 n nb ρ m r s
 |_,_=>False
theorem aag {n nb:Nat} {ρ:Env} {m:Nat->Nat}:∀{l:List A},(∀a∈l,A.ok n nb ρ a)->J3 n nb ρ m l (l.map (A.den ρ m))
 |[],_=>trivial
 |a::r,h=>⟨h a (by simp),rfl,aag λx hx=>h x (eB _ hx)⟩
theorem aah {n nb:Nat} {ρ:Env} {m:Nat->Nat}:∀{l:List A} {xs:List aV},J3 n nb ρ m l xs->(∀a∈l,A.ok n nb ρ a)/\xs=l.map (A.den ρ m)
 |[],[],_=>⟨by simp,rfl⟩
 |a::r,x::s,h=>by
  have ih:=aah h.2.2
  exact⟨λy hy=>by rcases List.mem_cons.1 hy with rfl|hy;exact h.1;exact ih.1 y hy,by rw[h.2.1,ih.2];rfl⟩
 |[],_::_,h=>h.elim
 |_::_,[],h=>h.elim
theorem A.back {n nb:Nat} {cu aa bW:Env} {m0 m':Nat->Nat} {v:A} (h0:v.ok n nb cu) (ha:agree n cu aa) (h2:agree n cu bW) (hm:∀b,b<nb->m' b=m0 b):v.den aa m'=v.den bW m0:=by
 rw[A.oL h0 ha hm,A.oL (m':=m0) h0 h2 (λ_ _=>rfl)]
section
variable {ints:List (Nat×Int×Int)}
theorem Ii:∀{cs:List A} {i s:Nat} {t:List A} {l:List I} {b:List (Int×Int)},ha ints i s cs=some (t,l,b)->l.length=b.length/\t.length=cs.length
 |[],i,s,t,l,b,h=>by simp[ha]at h;obtain⟨rfl,rfl,rfl⟩:=h;exact⟨rfl,rfl⟩
 |v::r,i,s,t,l,b,h=>by
  unfold ha at h
  cases hf:DI i ints with
  |none=>
   simp only[hf]at h
   cases hr:ha ints (i+1) s r with
   |none=>simp[hr]at h
   |some q=>
    obtain⟨t',l',b'⟩:=q
    simp only[hr,bb,eW]at h
    obtain⟨rfl,rfl,rfl⟩:=h
    have:=Ii hr
    simp[this]
  |some q=>
   obtain⟨lo,hi⟩:=q
   simp only[hf]at h
   cases hc:nN lo hi s v with
   |none=>simp[hc]at h
   |some p=>
    obtain⟨a,x,ga⟩:=p
    simp only[hc]at h
    cases hr:ha ints (i+1) (s+1) r with
    |none=>simp[hr]at h
    |some q=>
     obtain⟨t',l',b'⟩:=q
     simp only[hr,bb,eW]at h
     obtain⟨rfl,rfl,rfl⟩:=h
     have:=Ii hr
     simp[this]
theorem alD {n nb N:Nat} {cu aa bW:Env} {m0 m':Nat->Nat} {n' ov:Nat} {lo hi:Int} {s:Nat} {v v' a du:A} {x gg:I} {ga akV:Int×Int} (iR:agree n cu aa) (h2:agree n cu bW) (td:n<=N)
 (h0:v.ok n nb cu) (bd:v'.ok n' ov aa) (aw:nN lo hi s v=some (a,x,ga)) (aD:nN lo hi s v'=some (du,gg,akV)) (hf:a=du) (hv:bW s=gg.den aa) (cT:s<N):
 a.ok N nb bW/\a.den bW m0=v'.den aa m'/\ga.1<=gg.den aa/\gg.den aa<=ga.2:=by
 subst hf
 have tO:(I.var s).den bW=gg.den aa:=by rw[I.cS,hv]
 cases v with
 |int k y=>
  simp only[nN]at aw
  cases hL:(decide (lo<=y.lo)&&decide (y.hi<=hi))with
  |false=>simp[hL]at aw
  |true=>
   simp only[hL,cond_true,bb,eW]at aw
   obtain⟨rfl,rfl,rfl⟩:=aw
   cases v' with
   |int bD oB=>
    simp only[nN]at aD
    cases hc2:(decide (lo<=oB.lo)&&decide (oB.hi<=hi))with
    |false=>simp[hc2]at aD
    |true=>
     simp only[hc2,cond_true,bb,eW,A.int.injEq]at aD
     obtain⟨⟨rfl,_⟩,rfl,rfl⟩:=aD
     simp only[bw,decide_eq_true_eq]at hc2
     have bd:oB.ok n' aa:=bd
     have hb:=bd.2
     refine⟨⟨I.fW cT,by simp only[tO];omega,by simp only[tO];omega⟩,by simp only[A.den,tO],by simp only;omega,by simp only;omega⟩
   |str _=>simp[nN]at aD
   |rows _ _ _ _ _=>simp[nN]at aD
   |_=>simp[nN]at aD
 |str y=>
  simp only[nN,bb,eW]at aw
  obtain⟨rfl,rfl,rfl⟩:=aw
  cases v' with
  |str oB=>
   simp only[nN,bb,eW]at aD
   obtain⟨_,rfl,rfl⟩:=aD
   have hb:0<=oB.den aa/\oB.den aa<=qR:=bd.2
   exact⟨⟨I.fW cT,by rw[tO];exact hb⟩,by simp only[A.den,tO],hb.1,hb.2⟩
  |int bD oB=>
   simp only[nN]at aD
   cases hc2:(decide (lo<=oB.lo)&&decide (oB.hi<=hi))<;>simp[hc2]at aD
  |rows _ _ _ _ _=>simp[nN]at aD
  |_=>simp[nN]at aD
 |rows sh off code cap k=>
  simp only[nN,bb,eW]at aw
  obtain⟨rfl,rfl,rfl⟩:=aw
  cases v' with
  |rows fX kf code' j8 bD=>
   simp only[nN,bb,eW,A.rows.injEq]at aD
   obtain⟨_,rfl,rfl⟩:=aD
   obtain⟨⟨s1,s2,bS⟩,_,de⟩:=h0
   obtain⟨_,b9,_⟩:=bd
   refine⟨⟨⟨s1.mono td,I.fW cT,bS.mono td⟩,by rw[tO];exact b9,by rw[I.b5 h2 bS];exact de⟩,by simp only[A.den,tO],b9.1,b9.2⟩
  |int bD oB=>
   simp only[nN]at aD
   cases hc2:(decide (lo<=oB.lo)&&decide (oB.hi<=hi))<;>simp[hc2]at aD
  |str _=>simp[nN]at aD
  |_=>simp[nN]at aD
 |_=>simp[nN]at aw
theorem Vx {n nb N:Nat} {cu aa bW:Env} {m0 m':Nat->Nat} {n' ov:Nat} (iR:agree n cu aa) (h2:agree n cu bW) (hm:∀b,b<nb->m' b=m0 b) (td:n<=N):
 ∀{cs kI:List A} {xs:List aV} {i s:Nat} {t t':List A} {l l':List I} {b b':List (Int×Int)},
 (∀v∈cs,A.ok n nb cu v)->J3 n' ov aa m' kI xs->ha ints i s cs=some (t,l,b)->ha ints i s kI=some (t',l',b')->rG t t'=true->
 (∀j,j<l'.length->bW (s+j)=(l'.getD j (.const 0)).den aa)->s+l'.length<=N->J3 N nb bW m0 t xs/\af b (l'.map (·.den aa))/\l'.length=l.length
 |[],[],[],i,s,t,t',l,l',b,b',h0,hr,aw,aD,hf,hv,cT=>by
  simp[ha]at aw aD
  obtain⟨rfl,rfl,rfl⟩:=aw
  obtain⟨rfl,rfl,rfl⟩:=aD
  exact⟨trivial,trivial,rfl⟩
 |v::r,v'::r',x::xs,i,s,t,t',l,l',b,b',h0,hr,aw,aD,hf,hv,cT=>by
  obtain⟨b0,hrel,Gb⟩:=hr
  have FH:∀v∈r,A.ok n nb cu v:=λu hu=>h0 u (eB _ hu)
  unfold ha at aw aD
  cases lQ:DI i ints with
  |none=>
   simp only[lQ]at aw aD
   cases gm:ha ints (i+1) s r with
   |none=>simp[gm]at aw
   |some bm=>
    obtain⟨t1,l1,b8⟩:=bm
    cases js:ha ints (i+1) s r' with
    |none=>simp[js]at aD
    |some cb=>
     obtain⟨t2,l2,b9⟩:=cb
     simp only[gm,bb,eW]at aw
     simp only[js,bb,eW]at aD
     obtain⟨rfl,rfl,rfl⟩:=aw
     obtain⟨rfl,rfl,rfl⟩:=aD
     simp only[rG,bw]at hf
     have aqf:=A.beq_eq hf.1
     subst aqf
     have q6:=h0 v (by simp)
     obtain⟨cz,cw,dc⟩:=Vx iR h2 hm td FH Gb gm js hf.2 hv cT
     exact⟨⟨q6.ext h2 td (bO _),by rw[hrel,A.back q6 iR h2 hm],cz⟩,cw,dc⟩
  |some q=>
   obtain⟨lo,hi⟩:=q
   simp only[lQ]at aw aD
   cases hL:nN lo hi s v with
   |none=>simp[hL]at aw
   |some cz=>
    obtain⟨b2,ag,d1⟩:=cz
    cases hc2:nN lo hi s v' with
    |none=>simp[hc2]at aD
    |some cw=>
     obtain⟨a2,ad,d2⟩:=cw
     simp only[hL]at aw
     simp only[hc2]at aD
     cases gm:ha ints (i+1) (s+1) r with
     |none=>simp[gm]at aw
     |some bm=>
      obtain⟨t1,l1,b8⟩:=bm
      cases js:ha ints (i+1) (s+1) r' with
      |none=>simp[js]at aD
      |some cb=>
       obtain⟨t2,l2,b9⟩:=cb
       simp only[gm,bb,eW]at aw
       simp only[js,bb,eW]at aD
       obtain⟨rfl,rfl,rfl⟩:=aw
       obtain⟨rfl,rfl,rfl⟩:=aD
       simp only[rG,bw]at hf
       obtain⟨cz,cw,dc⟩:=Vx iR h2 hm td FH Gb gm js hf.2 (λj aK=>by
        have:=hv (j+1) (by simpa using aK)
        rw[show s+1+j=s+(j+1) by omega];simpa using this) (by simp at cT;omega)
       have q6:=hv 0 (by simp)
       simp only[pE,jH]at q6
       obtain⟨c1,bK,cy,c3⟩:=alD (m0:=m0) (m':=m') iR h2 td (h0 v (by simp)) b0 hL hc2 (A.beq_eq hf.1) q6 (by simp at cT;omega)
       exact⟨⟨c1,by rw[hrel,bK],cz⟩,⟨cy,c3,cw⟩,by simp[dc]⟩
 |[],_::_,_,i,s,t,t',l,l',b,b',h0,hr,aw,aD,hf,hv,cT=>by
  simp[ha]at aw
  obtain⟨rfl,_,_⟩:=aw
  have:=(Ii aD).2
  cases t' with
  |nil=>simp at this
  |cons _ _=>simp[rG]at hf
 |_::_,[],_,i,s,t,t',l,l',b,b',h0,hr,aw,aD,hf,hv,cT=>by
  simp[ha]at aD
  obtain⟨rfl,_,_⟩:=aD
  have:=(Ii aw).2
  cases t with
  |nil=>simp at this
  |cons y z=>simp[rG]at hf
 |_::_,_::_,[],i,s,t,t',l,l',b,b',h0,hr,aw,aD,hf,hv,cT=>hr.elim
 |[],[],_::_,i,s,t,t',l,l',b,b',h0,hr,aw,aD,hf,hv,cT=>hr.elim
end
section
variable {cells:List (Nat×Nat×Int×Int)}
theorem La:∀{bl:List aE} {i s:Nat} {t:List aE} {l:List I} {b:List (Int×Int)},hb cells i s bl=some (t,l,b)->l.length=b.length/\t.length=bl.length
 |[],i,s,t,l,b,h=>by simp[hb]at h;obtain⟨rfl,rfl,rfl⟩:=h;exact⟨rfl,rfl⟩
 |(cs,ty)::r,i,s,t,l,b,h=>by
  unfold hb at h
  cases hc:ha (cellsOf i cells) 0 s cs with
  |none=>simp[hc]at h
  |some q=>
   obtain⟨c,l1,b8⟩:=q
   simp only[hc]at h
   cases hr:hb cells (i+1) (s+l1.length) r with
   |none=>simp[hr]at h
   |some q=>
    obtain⟨t',l',b'⟩:=q
    simp only[hr,bb,eW]at h
    obtain⟨rfl,rfl,rfl⟩:=h
    have h1:=Ii hc
    have h2:=La hr
    simp[h1,h2]
theorem adQ {l l':List I} {j:Nat} (h:j<l.length) (d:I):(l++l').getD j d=l.getD j d:=by
 simp[U,zB h]
theorem adR {l l':List I} {j:Nat} (d:I):(l++l').getD (l.length+j) d=l'.getD j d:=by
 simp only[U];rw[JL (by omega)];simp
theorem aek {n nb N:Nat} {cu aa bW:Env} {m0 m':Nat->Nat} {n' ov:Nat} (iR:agree n cu aa) (h2:agree n cu bW) (hm:∀b,b<nb->m' b=m0 b) (td:n<=N):
 ∀{bl bq:List aE} {i s:Nat} {t t':List aE} {l l':List I} {b b':List (Int×Int)},
 cY n nb cu bl->cY n' ov aa bq->hb cells i s bl=some (t,l,b)->hb cells i s bq=some (t',l',b')->ql t t'=true->
 (∀j,j<l'.length->bW (s+j)=(l'.getD j (.const 0)).den aa)->s+l'.length<=N->
 cY N nb bW t/\af b (l'.map (·.den aa))/\l'.length=l.length/\∀(j:Nat) (c:List A) (ty:bp×Bool),t[j]?=some (c,ty)->∃eR:List A,bq[j]?=some (eR,ty)/\c.map (A.den bW m0)=eR.map (A.den aa m')
 |[],[],i,s,t,t',l,l',b,b',h0,hr,aw,aD,hf,hv,cT=>by
  simp[hb]at aw aD
  obtain⟨rfl,rfl,rfl⟩:=aw
  obtain⟨rfl,rfl,rfl⟩:=aD
  exact⟨λp hp=>by simp at hp,trivial,rfl,λj c ty h=>by simp at h⟩
 |(cs,ty)::r,(kI,ax7)::r',i,s,t,t',l,l',b,b',h0,hr,aw,aD,hf,hv,cT=>by
  unfold hb at aw aD
  cases hL:ha (cellsOf i cells) 0 s cs with
  |none=>simp[hL]at aw
  |some bm=>
   obtain⟨c1,l1,b8⟩:=bm
   cases hc2:ha (cellsOf i cells) 0 s kI with
   |none=>simp[hc2]at aD
   |some cb=>
    obtain⟨bK,l2,b9⟩:=cb
    simp only[hL]at aw
    simp only[hc2]at aD
    cases gm:hb cells (i+1) (s+l1.length) r with
    |none=>simp[gm]at aw
    |some bm=>
     obtain⟨t1,afK,Hu⟩:=bm
     cases js:hb cells (i+1) (s+l2.length) r' with
     |none=>simp[js]at aD
     |some cb=>
      obtain⟨t2,afL,yC⟩:=cb
      simp only[gm,bb,eW]at aw
      simp only[js,bb,eW]at aD
      obtain⟨rfl,rfl,rfl⟩:=aw
      obtain⟨rfl,rfl,rfl⟩:=aD
      simp only[ql,bw]at hf
      have LK:ty=ax7:=Na (bR hf.1.1.2) (by simpa using hf.1.2)
      subst LK
      have Vo:s+l2.length+afL.length<=N:=by simp at cT;omega
      obtain⟨cz,cw,dc⟩:=Vx iR h2 hm td (λv hv=>h0 (cs,ty) (by simp) v hv) (aag (m:=m') λv hv=>hr (kI,ty) (by simp) v hv) hL hc2 hf.1.1.1 (λj aK=>by
       have:=hv j (by simp;omega)
       rwa [adQ aK]at this) (by omega)
      rw[<-dc]at gm
      obtain⟨bm,cb,cJ,et⟩:=aek iR h2 hm td (λp hp=>h0 p (eB _ hp)) (λp hp=>hr p (eB _ hp)) gm js hf.2 (λj aK=>by
       have:=hv (l2.length+j) (by simp;omega)
       rw[adR]at this
       rw[<-this];congr 1;omega) Vo
      have hp:=aah cz
      refine⟨λp Wd a aei=>?_,by rw[jf];exact qt cw cb,by simp[dc,cJ],λj c ax8 aK=>?_⟩
      ·rcases List.mem_cons.1 Wd with rfl|Wd
       ·exact hp.1 a aei
       ·exact bm p Wd a aei
      ·cases j with
       |zero=>simp at aK;obtain⟨rfl,rfl⟩:=aK;exact⟨kI,rfl,hp.2.symm⟩
       |succ j=>simp at aK;obtain⟨eR,h1,h2⟩:=et j c ax8 aK;exact⟨eR,by simpa using h1,h2⟩
 |[],_::_,i,s,t,t',l,l',b,b',h0,hr,aw,aD,hf,hv,cT=>by
  simp[hb]at aw
  obtain⟨rfl,_,_⟩:=aw
  have:=(La aD).2
  cases t' with
  |nil=>simp at this
  |cons _ _=>simp[ql]at hf
 |_::_,[],i,s,t,t',l,l',b,b',h0,hr,aw,aD,hf,hv,cT=>by
  simp[hb]at aD
  obtain⟨rfl,_,_⟩:=aD
  have:=(La aw).2
  cases t with
  |nil=>simp at this
  |cons y z=>simp[ql]at hf
def Jv (p q:List A):Prop:=∃sh off code code' cap k,p=[.rows sh off code cap k]/\q=[.rows sh off code' cap k]
theorem Jv.refl {p:List A} (h:cc p=false):Jv p p:=by
 unfold cc at h
 split at h
 ·exact⟨_,_,_,_,_,_,rfl,rfl⟩
 ·cases h
theorem alC {lo hi:Int} {s:Nat} {v a:A} {x:I} {ga:Int×Int} (h:nN lo hi s v=some (a,x,ga)):cc [a]=cc [v]/\(cc [a]=false->Jv [a] [v]):=by
 unfold nN at h
 split at h
 ·rename_i k x
  cases hc:(decide (lo<=x.lo)&&decide (x.hi<=hi))with
  |false=>simp[hc]at h
  |true=>
   simp only[hc,cond_true,bb,eW]at h
   obtain⟨rfl,_,_⟩:=h
   exact⟨rfl,λh=>by cases h⟩
 ·simp only[bb,eW]at h
  obtain⟨rfl,_,_⟩:=h
  exact⟨rfl,λh=>by cases h⟩
 ·simp only[bb,eW]at h
  obtain⟨rfl,_,_⟩:=h
  exact⟨rfl,λ_=>⟨_,_,_,_,_,_,rfl,rfl⟩⟩
 ·cases h
theorem WM (a b:A) (l:List A):cc (a::b::l)=true:=by cases a<;>rfl
theorem aol {ints:List (Nat×Int×Int)} {i s:Nat} {cs:List A} {l:List I} {b:List (Int×Int)} {t:List A} (h:ha ints i s cs=some (t,l,b)):(cc t=cc cs)/\(cc t=false->Jv t cs):=by
 have hl:=(Ii h).2
 match cs,t,hl with
 |[],[],_=>exact⟨rfl,λh=>by cases h⟩
 |a::b::r,du::b'::r',_=>exact⟨by rw[WM,WM],λh=>by rw[WM]at h;cases h⟩
 |[v],[a],_=>
  unfold ha at h
  cases hf:DI i ints with
  |none=>
   simp[hf,ha]at h
   obtain⟨rfl,_,_⟩:=h
   exact⟨rfl,λh=>Jv.refl h⟩
  |some q=>
   obtain⟨lo,hi⟩:=q
   simp only[hf]at h
   cases hc:nN lo hi s v with
   |none=>simp[hc]at h
   |some p=>
    obtain⟨du,x,ga⟩:=p
    simp[hc,ha]at h
    obtain⟨rfl,_,_⟩:=h
    exact alC hc
theorem VA:∀{bl:List aE} {i s:Nat} {t:List aE} {l:List I} {b:List (Int×Int)},hb cells i s bl=some (t,l,b)->∀(k:Nat) (p:aE),t[k]?=some p->∃q:aE,bl[k]?=some q/\cc p.1=cc q.1/\p.2=q.2/\(cc p.1=false->Jv p.1 q.1)
 |[],i,s,t,l,b,h=>by simp[hb]at h;obtain⟨rfl,rfl,rfl⟩:=h;intro k p hp;simp at hp
 |(cs,ty)::r,i,s,t,l,b,h=>by
  unfold hb at h
  cases hL:ha (cellsOf i cells) 0 s cs with
  |none=>simp[hL]at h
  |some bm=>
   obtain⟨c1,l1,b8⟩:=bm
   simp only[hL]at h
   cases gm:hb cells (i+1) (s+l1.length) r with
   |none=>simp[gm]at h
   |some bm=>
    obtain⟨t1,afK,Hu⟩:=bm
    simp only[gm,bb,eW]at h
    obtain⟨rfl,rfl,rfl⟩:=h
    intro k p hp
    cases k with
    |zero=>
     simp only[wJ,bb]at hp
     subst hp
     have:=aol hL
     exact⟨(cs,ty),rfl,this.1,rfl,this.2⟩
    |succ k=>obtain⟨q,h1,h2⟩:=VA gm k p (by simpa using hp);exact⟨q,by simpa using h1,h2⟩
theorem adn:∀{a b:List aE},ql a b=true->∀(k:Nat) (p:aE),a[k]?=some p->b[k]?=some p
 |[],[],_,k,p,h=>by simp at h
 |(c,t)::r,(eR,t')::s,hf,k,p,h=>by
  simp only[ql,bw]at hf
  have LK:t=t':=Na (bR hf.1.1.2) (by simpa using hf.1.2)
  have hc:=Fi hf.1.1.1
  subst LK;subst hc
  cases k with
  |zero=>simpa using h
  |succ k=>have:=adn hf.2 k p (by simpa using h);simpa using this
 |[],_::_,h,_,_,_=>by simp[ql]at h
 |_::_,[],h,_,_,_=>by simp[ql]at h
end
end Go.ch
namespace Go.ch
variable {P:bV} {rd:Option Nat}
def uZ (rd:Option Nat):Fence:={Hf with round:=rd}
def ub (Q:Exit->Act->aC->Prop):Exit->Act->aC->Prop
 | .normal,a,w=>Q .normal a w
 |_,_,_=>False
theorem ub.imp {Q:Exit->Act->aC->Prop}:∀(e:Exit) (a:Act) (w:aC),calm (ub Q) e a w->Q e a w:=λe a w h=>by
 cases e<;>first|exact h|exact(h:False).elim
theorem ub.let {Q:Exit->Act->aC->Prop}:¬LetsOut (ub Q):=λ⟨a,w,h⟩=>h
theorem ub.arM {Q:Exit->Act->aC->Prop}:¬LetsOut (calm (ub Q)):=λ⟨a,w,h⟩=>h
def y7 (o:Oper):Bool:=match o.op with| .defer _=>false|_=>true
def pV:Code->Bool
 | .region _ ops _=>ops.toList.all y7
 | .seq a b=>pV a&&pV b
 | .cond _ a b=>pV a&&pV b
 | .block _ c=>pV c
 | .loop c=>pV c
 |_=>true
theorem asv {o:Oper} (h:y7 o=true):∀c,o.op≠ .defer c:=λc e=>by simp[y7,e]at h
theorem aln {n:Nat} {f:dt} {args:Array aV} {w:aC} {R:Ending->aC->Prop} (h:oD P f args w R):CallsIn (uZ rd) n P f args w R:=callsIn_wide.2 h
theorem awf {n:Nat} {row:String} {args:Array aV} {w:aC} {R:aV->aC->Prop} (h:Rows P row args w R):RowsIn (uZ rd) n P row args w R:=
 λc cs _=>let⟨v,w',r,s⟩:=h c cs;⟨v,w',r,stepsIn_wide.2 s⟩
theorem agN {o:Oper} {a:Act} {w:aC} {K:Act->aC->Prop} {Q:Exit->Act->aC->Prop} (hd:rd=none∨y7 o=true) (h:o.wp P a w K Q):o.wpIn (uZ rd) 0 P a w K Q:=by
 refine⟨λ_ _=>trivial,?_⟩
 have e:o.semAt (uZ rd).round a.eval=execOp a.eval o:=by
  rcases hd with h|h
  ·subst h;rfl
  ·exact o.semAt_eq _ _ (asv h)
 rw[e]
 unfold qc at h
 generalize (execOp a.eval o).run P w=r at*
 cases r with
 |ok n w'=>
  cases n<;>simp only[Oper.upon,aBZ]at h⊢
  case value u=>exact h
  case skip=>exact h
  case defer d=>exact h
  case enter f args=>exact⟨λhs=>by simp[uZ,Hf]at hs,aln h⟩
  case row row args=>exact⟨λhs=>by simp[uZ,Hf]at hs,awf h⟩
 |halt x w'=>
  cases x<;>simp only[Oper.upon,aBZ]at h⊢
  case panic u=>exact h
variable {ops:Array Oper} {Q:Exit->Act->aC->Prop}
theorem YX (dL:¬LetsOut Q):∀{l:List Oper} {a:Act} {w:aC},(rd=none∨l.all y7=true)->wpList P ops Q l a w->wpListIn (uZ rd) 0 P ops Q l a w
 |[],_,_,_,h=>h
 |o::r,a,w,hd,h=>by
  have h1:rd=none∨y7 o=true:=hd.imp id λh=>by simp only[ai9,bw]at h;exact h.1
  have h2:rd=none∨r.all y7=true:=hd.imp id λh=>by simp only[ai9,bw]at h;exact h.2
  unfold wpList at h
  unfold wpListIn
  split
  ·rename_i hw
   rw[if_pos hw]at h
   rcases h with h|h
   ·exact aB0 (λa w h=>YX dL h2 h) (agN h1 h)
   ·exact absurd h.2 dL
  ·rename_i hw
   rw[if_neg hw]at h
   exact⟨λ_ _=>trivial,YX dL h2 h⟩
theorem Rr {md:Region.Mode} (hd:rd=none∨ops.toList.all y7=true) (dL:¬LetsOut Q):∀{f:Nat} {listed:Array Bool} {a:Act} {w:aC},wpAny P md ops Q f listed a w->wpAnyIn (uZ rd) 0 P md ops Q f listed a w
 |0,_,_,_,h=>h
 |f+1,listed,a,w,h=>by
  refine⟨h.1,λi hi=>?_⟩
  have h2:=h.2 i hi
  unfold wpOp at h2
  unfold wpOpIn
  cases ax:ops[i]? with
  |none=>simp only[ax]at h2⊢;exact Rr hd dL h2
  |some o=>
   simp only[ax]at h2⊢
   have h1:rd=none∨y7 o=true:=hd.imp id λh=>List.all_eq_true.1 h o (by simpa using Array.mem_of_getElem? ax)
   split
   ·rename_i hw
    rw[if_pos hw]at h2
    rcases h2 with h2|h2
    ·exact aB0 (λa w h=>Rr hd dL h) (agN h1 h2)
    ·exact absurd h2.2 dL
   ·rename_i hw
    rw[if_neg hw]at h2
    exact⟨λ_ _=>trivial,Rr hd dL h2⟩
theorem av4 {id:Nat} {a:Act} {w:aC} (hd:rd=none∨ops.toList.all y7=true) (h:wpList P ops (ub Q) ops.toList a w):(aB1 id ops false).wpIn (uZ rd) 0 P Q a w:=
 wpIn_mono (wpIn_region_list (YX ub.let hd h)) λe a w h=>ub.imp e a w (by cases e<;>first|exact h|exact(h:False).elim)
theorem ahc {id:Nat} {a:Act} {w:aC} (hm:P.follows .mixedOrders=true) (hd:rd=none∨ops.toList.all y7=true)
 (h:wpAny P .any ops (calm (ub Q)) ops.size (Bb ops.size false) a {w with drawn:=w.drawn+1}):(aB1 id ops true).wpIn (uZ rd) 0 P Q a w:=
 wpIn_mono (wpIn_region_any hm (Rr hd ub.arM h)) ub.imp
end Go.ch
namespace Go.ch
open M
section
variable {S:Nat->List Int->List Int->Prop} {L:V->Env->Prop} {w0:eG} {P:bV} {gl:fa} {cal:fy} {rd:Option Nat}
def Hk (S:Nat->List Int->List Int->Prop) (L:V->Env->Prop) (w0:eG) (k:wM) (n nb:Nat) (ρ:Env) (m:Nat->Nat) (G:e2) (Q:Exit->Act->aC->Prop):Prop:=
 ∀x n' aa m' cC bq eP du w',eX n nb ρ m n' (qa bq) aa m'->fm n G eP->R w0 n' aa m' cC bq du w'->(k x n' cC bq).holds S L eP aa->Q x.to du w'
theorem Hk.later {k:wM} {n nb a1 D9:Nat} {ρ aQ:Env} {m gW:Nat->Nat} {G G1:e2} {Q:Exit->Act->aC->Prop} (h:Hk S L w0 k n nb ρ m G Q) (hl:eX n nb ρ m a1 D9 aQ gW) (aU:fm n G G1):Hk S L w0 k a1 D9 aQ gW G1 Q:=
 λx n' aa m' cC bq eP du w' h1 h2 h3 h4=>h x n' aa m' cC bq eP du w' (hl.trans h1) (aU.trans h2 hl.hn) h3 h4
def SA (rd:Option Nat) (S:Nat->List Int->List Int->Prop) (L:V->Env->Prop) (w0:eG) (P:bV) (c:Code) (e:Nat->List V->List aE->wM->T):Prop:=(rd=none∨pV c=true)->
 ∀n tm bl k G ρ m a w Q,R w0 n ρ m tm bl a w->(e n tm bl k).holds S L G ρ->Hk S L w0 k n bl.length ρ m G Q->c.wpIn (uZ rd) 0 P Q a w
theorem ahl {c:Code} {e:Nat->List V->List aE->wM->T} (hd:rd=none∨pV c=true) (he:SA rd S L w0 P c e) {Q:Exit->Act->aC->Prop}:∀(r:Nat) {n:Nat} {ρ:Env} {m:Nat->Nat} {tm:List V} {bl:List aE} {a:Act} {w:aC} {G:e2} {k:wM},
 R w0 n ρ m tm bl a w->(Yc e r n tm bl k).holds S L G ρ->Hk S L w0 k n bl.length ρ m G Q->Code.roundsIn (uZ rd) 0 P c Q r a w
 |0,_,_,_,_,_,_,_,_,_,_,ae,_=>ae.elim
 |r+1,n,ρ,m,tm,bl,a,w,G,k,h,ae,ab=>by
  rw[roundsIn_succ]
  refine he hd n tm bl _ G ρ m a w _ h ae λx n' aa m' cC bq eP du w' h1 h2 h3 h4=>?_
  cases x with
  |normal=>exact ahl hd he r h3 h4 (ab.later h1 h2)
  |exit id=>exact ab (.exit id) n' aa m' cC bq eP du w' h1 h2 h3 h4
  |ret=>exact ab .ret n' aa m' cC bq eP du w' h1 h2 h3 h4
theorem aj0 {n nb:Nat} {ρ:Env} {m:Nat->Nat} {tm:List V} {xs:Array aV} (h:eY n nb ρ m tm xs):EU n nb ρ m tm xs.toList:=aaj (by simpa using h)
theorem aeA {li:gB} {n:Nat} {cu aa:Env} {m0 m':Nat->Nat} {tm cC px Cy:List V} {bl bq fg sD:List aE} {l1 l2 v1 v2 ext:List I} {b8 b9 Hu yC:List (Int×Int)} {n':Nat} {a:Act} {w:aC}
 (hlen:bl.length<=bq.length)
 (ha:agree n cu aa) (hm:∀b,b<bl.length->m' b=m0 b) (aA:∀v∈tm,V.ok n bl.length cu v) (rO:cY n bl.length cu bl)
 (h:R w0 n' aa m' cC bq a w) (aw:hs li.gu li.ints 0 (n+1) tm=some (px,l1,b8)) (aD:hb li.cells 0 (n+1+l1.length) bl=some (fg,l2,b9))
 (cj:hs li.gu li.ints 0 (n+1) cC=some (Cy,v1,Hu)) (hV:hb li.cells 0 (n+1+v1.length) (bq.take bl.length)=some (sD,v2,yC))
 (f1:qm px Cy=true) (f2:ql fg sD=true):
 v1.length+v2.length=l1.length+l2.length/\af (b8++b9) ((v1++v2).map (·.den aa))/\R w0 (n+1+l1.length+l2.length+ext.length) (bL cu (n+1) ((v1++v2++ext).map (·.den aa))) m0 px fg a w/\fg.length=bl.length/\∀(i:Nat) (p:aE),fg[i]?=some p->i<bl.length/\∃dj:aE,bq[i]?=some dj/\bM (bL cu (n+1) ((v1++v2++ext).map (·.den aa))) p.1=bM aa dj.1:=by
 have Vy:agree n cu (bL cu (n+1) ((v1++v2++ext).map (·.den aa))):=(agree.bL _ (n+1) cu).mono (by omega)
 have It:∀j,j<(v1++v2).length->bL cu (n+1) ((v1++v2++ext).map (·.den aa)) (n+1+j)=((v1++v2).getD j (.const 0)).den aa:=λj aK=>by
  rw[JB _ _ _ j (by simp at aK⊢;omega)]
  have xk:j<(v1++v2++ext).length:=by simp at aK⊢;omega
  have e:(v1++v2++ext)[j]=(v1++v2)[j]:=List.getElem_append_left aK
  simp only[U,sr,qJ aK,qJ xk,zA,EL,e]
 have aFC:v1.length+v2.length=(v1++v2).length:=by simp
 obtain⟨cz,cw,dc⟩:=LI (N:=n+1+v1.length+v2.length+ext.length) ha Vy hm (by omega) aA (aj0 h.t) aw cj f1 (λj aK=>by
  rw[It j (by simp;omega),adQ aK]) (by omega)
 rw[<-dc]at aD
 have aou:cY n' bq.length aa (bq.take bl.length):=λp hp=>h.b p (oc hp)
 obtain⟨bm,cb,cJ,et⟩:=aek (N:=n+1+v1.length+v2.length+ext.length) ha Vy hm (by omega) rO aou aD hV f2 (λj aK=>by
  rw[show n+1+v1.length+j=n+1+(v1.length+j) by omega,It (v1.length+j) (by simp;omega),adR]) (by omega)
 have aX:fg.length=bl.length:=(La aD).2
 refine⟨by omega,by rw[jf];exact qt cw cb,?_⟩
 rw[<-dc,<-cJ]
 have FM:∀(i:Nat) (p:aE),fg[i]?=some p->i<bl.length/\∃dj:aE,bq[i]?=some dj/\cc p.1=cc dj.1/\p.2=dj.2/\(cc p.1=false->∃sh off code code' cap k,p.1=[.rows sh off code cap k]/\dj.1=[.rows sh off code' cap k]/\off.bG n/\cap.bG n):=λi p hi=>by
  have kK:i<bl.length:=by rw[<-aX];exact(List.getElem?_eq_some_iff.1 hi).1
  obtain⟨dj,h1,h2,FI,h3⟩:=VA hV i p (adn f2 i p hi)
  rw[tw,if_pos kK]at h1
  obtain⟨p0,g1,_,_,g3⟩:=VA aD i p hi
  refine⟨kK,dj,h1,h2,FI,λax=>?_⟩
  obtain⟨sh,off,code,code',cap,k,s1,s2⟩:=h3 ax
  obtain⟨fX,kf,c1,bK,j8,bD,bS,dg⟩:=g3 ax
  rw[s1]at bS
  cases bS
  have b0:A.ok n bl.length cu (.rows sh off bK cap k):=rO _ (e8 g1) _ (by rw[dg];simp)
  exact⟨sh,off,code,code',cap,k,s1,s2,b0.1.1,b0.1.2.2⟩
 have Vz:agree n aa (bL cu (n+1) ((v1++v2++ext).map (·.den aa))):=ha.sym.trans Vy (bO _)
 have rP:∀(p dj:aE),cc p.1=cc dj.1->(cc p.1=false->∃sh off code code' cap k,p.1=[.rows sh off code cap k]/\dj.1=[.rows sh off code' cap k]/\off.bG n/\cap.bG n)->bM (bL cu (n+1) ((v1++v2++ext).map (·.den aa))) p.1=bM aa dj.1:=λp dj h1 h2=>by
  cases ax:cc p.1 with
  |true=>rw[oq ax,oq (h1▸ax)]
  |false=>
   obtain⟨sh,off,code,code',cap,k,s1,s2,bS,dg⟩:=h2 ax
   rw[s1,s2]
   simp only[bM]
   rw[I.b5 Vz dg]
 refine⟨?_,aX,λi p hi=>by
  obtain⟨g1,dj,g2,g3,_,g4⟩:=FM i p hi
  exact⟨g1,dj,g2,rP p dj g3 g4⟩⟩
 refine⟨?_,h.d,by rw[aX];exact bm,⟨h.bF.ext,h.bF.jN,h.bF.m6,h.bF.kV,h.bF.gF,h.bF.jB,λi cs t hi ax=>?_,λi sh off code cap kind t hi=>?_,λi j p q hi aK he=>?_⟩⟩
 ·rw[aX]
  have:=NS cz
  simpa using this
 ·obtain⟨eR,h1,h2⟩:=et i cs t hi
  obtain⟨kK,dj,k1,k2,_⟩:=FM i _ hi
  rw[tw,if_pos kK,k1]at h1
  have h1:=jd h1
  subst h1
  obtain⟨g1,oM,r,hr,g2⟩:=h.bF.fT i eR t k1 (k2▸ax)
  rw[<-hm i kK]
  exact⟨g1,oM,r,hr,by rw[h2];exact g2⟩
 ·obtain⟨kK,dj,k1,_,k2,k3⟩:=FM i _ hi
  obtain⟨fX,kf,c1,bK,j8,bD,s1,s2,bS,dg⟩:=k3 rfl
  cases s1
  obtain⟨C,t'⟩:=dj
  simp only at s2 k2
  subst s2;subst k2
  obtain⟨eR,h1,h2⟩:=et i _ t hi
  rw[tw,if_pos kK,k1]at h1
  cases h1
  simp only[c5,fD,A.den,qK,aIc,and_true,true_and]at h2
  rw[<-hm i kK]
  have hR:=h.bF.rws i sh off bK cap kind t k1
  unfold u0 at hR⊢
  rw[I.b5 Vz bS,I.b5 Vz dg,h2]
  exact hR
 ·obtain⟨kK,dj,k1,k2,_,k3⟩:=FM i p hi
  obtain⟨F1,e3,l1,l2,_,qx⟩:=FM j q aK
  rw[rP p dj k2 k3,rP q e3 l2 qx]
  rw[<-hm i kK,<-hm j F1]at he
  exact h.bF.inj i j dj e3 k1 l1 he
theorem eY.set {n nb:Nat} {ρ:Env} {m:Nat->Nat} {tm:List V} {xs:Array aV} {s:Nat} {v:V} (h:eY n nb ρ m tm xs) (hv:v.ok n nb ρ) (hr:∀x,xs[s]?=some x->v.rel ρ m x):eY n nb ρ m (wi tm s v) xs:=by
 rw[Yy]
 refine⟨by simp[h.1],λi u hu=>?_⟩
 rw[uV]at hu
 split at hu
 ·rename_i apR
  subst apR
  split at hu
  ·rename_i hlt
   cases hu
   rw[h.1]at hlt
   exact⟨hv,_,Ni hlt,hr _ (Ni hlt)⟩
  ·cases hu
 ·exact h.2 i u hu
def Hj (tmps:Array aV):List Nat->List Int->Prop
 |[],[]=>True
 |s::r,z::zs=>(0<=z/\z<=1)/\(∀x,tmps[s]?=some x->x= .bool (decide (z=1)))/\Hj tmps r zs
 |_,_=>False
def ER (w0:eG) (w:aC) (tmps:Array aV) (F:Nat->Prop):List (Nat×List aN×bp)->List Int->Prop
 |[],[]=>True
 |(s,sh,e)::r,code::len::cap::zs=>∃g:Nat,(∀x,tmps[s]?=some x->x=if cap<0 then .slice none 0 0 else .slice (some ⟨g,0,none⟩) len.toNat cap.toNat)/\G0 0 0 len cap/\(0<=code/\code<=bU)/\(cap<0->ak code=[])/\
    (0<=cap->∃cells:Array aV,w.heap[g]?=some (.cells cells e (0,0))/\pK cells 0 sh (ak code)/\cells.size=cap.toNat*sh.length/\w0.b.heap.size<=g/\(w0.ex g∨w0.r.heap.size<=g))/\
    (0<=cap->F g)/\ER w0 w tmps (λoh=>F oh/\(0<=cap->oh≠g)) r zs
 |_,_=>False
theorem T8 {nb:Nat} {tm:List V} {m:Nat->Nat} {tmps:Array aV}:∀{l:List Nat} {n:Nat} {ρ:Env},eY n nb ρ m tm tmps->az S L (Kj tm l) n ρ λaa n' ls=>(∀x∈ls,I.bG n' x)/\ls.length=l.length/\Hj tmps l (ls.map (·.den aa))
 |[],n,ρ,aA=>az.pure ⟨λ_ h=>by simp at h,rfl,trivial⟩
 |s::r,n,ρ,aA=>by
  unfold Kj
  split
  ·rename_i e hs
   obtain⟨h1,x,h2,h3⟩:=aA.2 s _ hs
   have h3:x= .bool (e.den ρ):=h3
   have key:az S L (match e with| .lit v=>pure (I.const (cond v 1 0))|e=>Gi e) n ρ λaa n' l=>l.bG n'/\(0<=l.den aa/\l.den aa<=1)/\e.den ρ=decide (l.den aa=1):=by
    cases e with
    |lit v=>cases v<;>exact az.pure ⟨I.dd _ _,by simp only[I.br];decide,by simp only[I.br,bC.den];rfl⟩
    |_=>exact Qa
   refine key.bind λaQ a1 l hn ha ⟨g1,g2,g3⟩=>(T8 (l:=r) (aA.ext ha hn (bO _) (λ_ _=>rfl))).bind λbW ff ls fo eb ⟨k1,k2,k3⟩=>az.pure ⟨λy hy=>?_,by simp[k2],?_⟩
   ·rcases List.mem_cons.1 hy with rfl|hy
    ·exact g1.mono fo
    ·exact k1 y hy
   ·have aw:=I.b5 eb g1
    simp only[c5,Hj,aw]
    refine⟨g2,λy hy=>?_,k3⟩
    rw[h2]at hy
    cases hy
    rw[h3,g3]
  ·exact az.fail
theorem KR {nb:Nat} {m:Nat->Nat} {tmps:Array aV}:∀{l:List (Nat×Int×Int)} {tm:List V} {n:Nat} {ρ:Env},eY n nb ρ m tm tmps->az S L (FC l tm) n ρ λaa n' cC=>eY n' nb aa m cC tmps
 |[],tm,n,ρ,aA=>az.pure aA
 |(s,lo,hi)::r,tm,n,ρ,aA=>by
  unfold FC
  split
  ·rename_i k x hs
   cases hc:(decide (lo<=x.lo)&&decide (x.hi<=hi))with
   |true=>simp only[cond_true];exact KR aA
   |false=>
    simp only[cond_false]
    refine jL λab=>?_
    simp only[c5,fD,ar,I.br]at ab
    obtain⟨h1,y,h2,h3⟩:=aA.2 s _ hs
    have h1:x.ok n ρ:=h1
    exact KR (aA.set (v:= .w (.one (.int k ⟨x.l,lo,hi⟩))) ⟨h1.1,ab.1,ab.2⟩ λz hz=>by
     rw[h2]at hz;cases hz;exact h3)
  ·exact KR aA
theorem NU {n lo:Nat} {ρ:Env} {m:Nat->Nat} {tm:List V} {bl:List aE} {a:Act} {w:aC} (h:R w0 n ρ m tm bl a w):∀{l:List (Nat×List aN×bp)} {used:List Nat} {ls:List I} {u:List Nat},zV lo l tm bl used=some (ls,u)->
 (∀x∈ls,I.bG n x)/\ls.length=(E6 l).length/\(∀b∈used,b∈u)/\(∀b∈u,b∈used∨lo<=b)/\∀F:Nat->Prop,(∀(b:Nat) (p:aE),b∈u->b∉used->bl[b]?=some p->bM ρ p.1=2->cc p.1=false->F (m b))->ER w0 w a.tmps F l (ls.map (·.den ρ))
 |[],used,ls,u,he=>by
  simp only[zV,bb,eW]at he
  obtain⟨rfl,rfl⟩:=he
  exact⟨λ_ h=>by simp at h,rfl,λ_ h=>h,λ_ h=> .inl h,λ_ _=>trivial⟩
 |(s,sh,e)::r,used,ls,u,he=>by
  unfold zV at he
  split at he
  ·rename_i hs
   split at he
   ·rename_i l1 qD hr
    simp only[bb,eW]at he
    obtain⟨rfl,rfl⟩:=he
    obtain⟨g1,g2,g3,g4,g5⟩:=NU h hr
    refine⟨λx hx=>?_,by simp[E6]at g2⊢;omega,g3,g4,λF hF=>⟨0,λx hx=>?_,?_,?_,?_,?_,?_,?_⟩⟩
    ·simp only[pD]at hx
     rcases hx with rfl|rfl|rfl|hx
     ·exact I.dd _ _
     ·exact I.dd _ _
     ·exact I.dd _ _
     ·exact g1 x hx
    ·obtain⟨_,y,h2,h3⟩:=h.t.2 s _ hs
     rw[h2]at hx;cases hx
     have rJ:(I.const (-1)).den ρ<0:=by rw[I.br];decide
     simp only[rJ,if_true]
     exact h3
    ·simp only[I.br];exact⟨⟨by omega,by omega,by omega,by omega⟩,⟨by omega,by omega⟩,λ_=>rfl,λh=>by omega⟩
    ·simp only[I.br];exact⟨cW _,CI (jR []) (uh (l:=[]) (by simp) (by simp))⟩
    ·intro _;simp only[I.br];exact oW
    ·simp only[I.br];intro h;omega
    ·simp only[I.br];intro h;omega
    ·refine g5 _ λb p hb hu aX ab ax=>⟨hF b p hb hu aX ab ax,?_⟩
     simp only[I.br];intro h;omega
   ·cases he
  ·rename_i b bz o ro len cap hs
   split at he
   ·rename_i fX off code e5 kind t aX
    cases hc:(tp sh fX&&aM kind 2&&I.beq o (.const 0)&&I.beq off (.const 0)&&I.beq ro (.const 0)&&I.beq cap e5&&aM t.1 e&&aM bz sh.length&&cK lo b&& !(used.any (aM b)))with
    |false=>rw[hc]at he;cases he
    |true=>
     rw[hc]at he
     simp only[cond_true]at he
     split at he
     ·rename_i l1 qD hr
      simp only[bb,eW]at he
      obtain⟨rfl,rfl⟩:=he
      simp only[bw]at hc
      obtain⟨⟨⟨⟨⟨⟨⟨⟨⟨c1,bK⟩,cy⟩,c3⟩,fh⟩,hH⟩,qi⟩,pN⟩,s4⟩,ur⟩:=hc
      have c1:=Ex c1;have bK:=bR bK;have cy:=I.beq_eq cy;have c3:=I.beq_eq c3;have fh:=I.beq_eq fh;have hH:=I.beq_eq hH
      have qi:=bR qi;have pN:=bR pN;have s4:=fP s4
      have apn:b∉used:=λhb=>by
       have:used.any (aM b)=true:=List.any_eq_true.2 ⟨b,hb,G9 b⟩
       rw[this]at ur;cases ur
      subst c1;subst bK;subst cy;subst c3;subst fh;subst hH;subst qi;subst pN
      obtain⟨g1,g2,g3,g4,g5⟩:=NU h hr
      obtain⟨b0,y,h2,h3⟩:=h.t.2 s _ hs
      have b0:(A.sl b sh.length (.const 0) (.const 0) len cap).ok n bl.length ρ:=b0
      obtain⟨ag,⟨ad,ao,cZ,iV⟩,jG⟩:=b0
      simp only[I.br]at jG
      have gD:(A.rows sh (.const 0) code cap 2).ok n bl.length ρ:=h.b _ (e8 aX) _ (by simp)
      obtain⟨⟨r1,r2,gI⟩,n2,av⟩:=gD
      have pS:=h.bF.rws b sh (.const 0) code cap 2 t aX (by decide)
      refine⟨λx hx=>?_,by simp[E6]at g2⊢;omega,λb' pc=>g3 b' (eB _ pc),λb' pc=>?_,λF hF=>⟨m b,λx hx=>?_,jG,n2,pS.1,λh0=>?_,λh0=>?_,?_⟩⟩
      ·simp only[pD]at hx
       rcases hx with rfl|rfl|rfl|hx
       ·exact r2
       ·exact cZ
       ·exact iV
       ·exact g1 x hx
      ·rcases g4 b' pc with h5|h5
       ·rcases List.mem_cons.1 h5 with rfl|h5
        ·exact .inr s4
        ·exact .inl h5
       ·exact .inr h5
      ·have Wx:y=x:=jd (h2.symm.trans hx)
       subst Wx
       have h3:y=(A.sl b sh.length (.const 0) (.const 0) len cap).den ρ m:=h3
       rw[h3]
       simp only[A.den,I.br]
       split<;>simp
      ·obtain⟨_,cells,nq,fz,k1,⟨k2,k3⟩,k4⟩:=pS.2 h0
       obtain⟨D4,ux,y2,Qd,arn,aro⟩:=k4 (by decide)
       subst D4
       have y2:=y2.two
       subst y2
       rw[I.br]at k3
       exact⟨cells,k1,k3,Qd,arn,aro⟩
      ·exact hF b _ (g3 b (by simp)) apn aX (vB (by decide) h0) rfl
      ·refine g5 _ λb' p pc hu aeo ab ax=>⟨hF b' p pc (λh=>hu (eB _ h)) aeo ab ax,λh0=>?_⟩
       have pP:bM ρ [A.rows sh (.const 0) code cap 2]=2:=vB (by decide) h0
       exact h.bF.ne aeo aX (by rw[ab];exact bO 2) (by simp only[pP];decide) λe=>hu (by simp[e])
     ·cases he
   ·cases he
  ·cases he
theorem QI {c:List A} (h:cc c=false):∃sh off code cap k,c=[.rows sh off code cap k]:=by
 unfold cc at h
 split at h
 ·exact⟨_,_,_,_,_,rfl⟩
 ·cases h
theorem WR {n:Nat} {ρ:Env} {m:Nat->Nat} {tm:List V} {a:Act} {w:aC}:∀{us:List Nat} {bl:List aE},R w0 n ρ m tm bl a w->R w0 n ρ m tm (qw us bl) a w/\(qw us bl).length=bl.length/\∀(i:Nat) (p:aE),(qw us bl)[i]?=some p->(bl[i]?=some p/\(i∈us->cc p.1=true∨bM ρ p.1=0))∨bM ρ p.1=0
 |[],bl,h=>⟨h,rfl,λi p hp=> .inl ⟨hp,λh=>by simp at h⟩⟩
 |b::r,bl,h=>by
  unfold qw
  split
  ·rename_i sh off code cap k t aX
   obtain⟨g1,g2,g3⟩:=WR (us:=r) (h.kill aX)
   refine⟨g1,by rw[g2,kQ],λi p hp=>?_⟩
   rcases g3 i p hp with⟨g4,g5⟩|g4
   ·by_cases kK:i=b
    ·subst kK
     rw[np,aiS (List.getElem?_eq_some_iff.1 aX).1]at g4
     cases g4
     exact .inr (by simp[bM])
    ·rw[np,Zn (λe=>kK e.symm)]at g4
     exact .inl ⟨g4,λhi=>g5 (by simpa [kK]using hi)⟩
   ·exact .inr g4
  ·rename_i m4
   obtain⟨g1,g2,g3⟩:=WR (us:=r) h
   refine⟨g1,g2,λi p hp=>?_⟩
   rcases g3 i p hp with⟨g4,g5⟩|g4
   ·refine .inl ⟨g4,λhi=>?_⟩
    rcases List.mem_cons.1 hi with rfl|hi
    ·cases ax:cc p.1 with
     |true=>exact .inl rfl
     |false=>
      exfalso
      obtain⟨c,t⟩:=p
      obtain⟨sh,off,code,cap,k,rfl⟩:=QI ax
      exact m4 _ _ _ _ _ _ g4
    ·exact g5 hi
   ·exact .inr g4
theorem aey {N:Nat} {bW:Env} {m:Nat->Nat} {bl:List aE} {a:Act} {w:aC}:∀{l:List Nat} {zs:List Int} {v:Nat} {tm:List V},R w0 N bW m tm bl a w->Hj a.tmps l zs->(∀j,j<zs.length->bW (v+j)=zs.getD j 0)->v+zs.length<=N->R w0 N bW m (yT l v tm) bl a w
 |[],[],v,tm,h,_,_,_=>h
 |s::r,z::zs,v,tm,h,hb,hv,cT=>by
  unfold yT
  have h0:=hv 0 (by simp)
  simp only[pE,jH]at h0
  simp only[jS]at cT
  refine aey (l:=r) (zs:=zs) ⟨eY.set h.t ?_ λx hx=>?_,h.d,h.b,h.bF⟩ hb.2.2 (λj aK=>by
   have:=hv (j+1) (by simpa using aK)
   rw[show v+1+j=v+(j+1) by omega];simpa using this) (by omega)
  ·exact⟨I.fW (by omega),I.dd _ _⟩
  ·rw[hb.2.1 x hx]
   simp[V.rel,W.den,A.den,bC.den,I.cS,I.br,h0]
 |[],_::_,_,_,_,h,_,_=>h.elim
 |_::_,[],_,_,_,h,_,_=>h.elim
theorem aex {N:Nat} {bW:Env} {a:Act} {w:aC}:∀{l:List (Nat×List aN×bp)} {zs:List Int} {v:Nat} {tm:List V} {bl:List aE} {m:Nat->Nat} {F:Nat->Prop},R w0 N bW m tm bl a w->ER w0 w a.tmps F l zs->(∀g,F g->∀(i:Nat) (p:aE),bl[i]?=some p->m i=g->bM bW p.1=0)->
 (∀j,j<zs.length->bW (v+j)=zs.getD j 0)->v+zs.length<=N->∃fj,(∀b,b<bl.length->fj b=m b)/\bl.length<=(vt l v tm bl).2.length/\R w0 N bW fj (vt l v tm bl).1 (vt l v tm bl).2 a w
 |[],[],v,tm,bl,m,F,h,_,_,_,_=>⟨m,λ_ _=>rfl,bO _,h⟩
 |(s,sh,e)::r,code::len::cap::zs,v,tm,bl,m,F,h,hf,hF,hv,cT=>by
  obtain⟨g,f1,f2,f3,f4,f5,f6,f7⟩:=hf
  have v0:=hv 0 (by simp)
  have v1:=hv 1 (by simp)
  have v2:=hv 2 (by simp)
  simp only[jH,kS,pE]at v0 v1 v2
  simp only[jS]at cT
  have hc:(-1:Int)<=cap/\cap<=9223372036854775807:=⟨f2.2.1.1,by have:=f2.2.1.2;omega⟩
  have aU:(A.rows sh (.const 0) (.var v) (.var (v+2)) 2).ok N bl.length bW:=⟨⟨I.dd _ _,I.fW (by omega),I.fW (by omega)⟩,by rw[I.cS,v0];exact f3,by rw[I.cS,v2];exact hc⟩
  have pO:=h.bF.push (x:=([.rows sh (.const 0) (.var v) (.var (v+2)) 2],(e,false))) (g:=g) h.b (λy hy=>by simp at hy;subst hy;exact aU) (λax=>by cases ax) (λfX kf code' j8 sL he=>by
   cases he
   intro _
   simp only[I.cS,v0,v2,I.br]
   refine⟨f4,λh0=>?_⟩
   obtain⟨cells,k1,k2,k3,k4,ux⟩:=f5 h0
   exact⟨ux.elim .inl λh=> .inr (.inr h),cells,e,(0,0),k1,⟨cW _,k2⟩,λ_=>⟨rfl,by trivial,.L7,k3,k4,ux⟩⟩) (λi p hi he=>by
   rcases od cap 0 with h0|h0
   ·refine .inr (.inr ?_)
    simp only[bM,I.cS,v2]
    rw[if_pos h0]
   ·exact .inr (.inl (hF g (f6 h0) i p hi he)))
  have dL:=eX.alloc N bW m bl ([A.rows sh (.const 0) (.var v) (.var (v+2)) 2],(e,false)) g
  have hR:R w0 N bW (oz m bl.length g) (wi tm s (.w (.one (.sl bl.length sh.length (.const 0) (.const 0) (.var (v+1)) (.var (v+2)))))) (bl++[([.rows sh (.const 0) (.var v) (.var (v+2)) 2],(e,false))]) a w:=by
   refine⟨eY.set (h.t.ext dL.ha dL.hn dL.hb dL.hm) ?_ λx hx=>?_,h.d,h.b.alloc (λy hy=>by simp at hy;subst hy;exact aU),pO⟩
   ·refine⟨by simp,⟨I.dd _ _,I.dd _ _,I.fW (by omega),I.fW (by omega)⟩,?_⟩
    simp only[I.br,I.cS,v1,v2];exact f2
   ·rw[f1 x hx]
    simp only[V.rel,W.den,A.den,I.br,I.cS,v1,v2,p3]
    split<;>simp
  obtain⟨fj,bm,cb,cJ⟩:=aex (l:=r) (zs:=zs) (v:=v+3) hR f7 (λoh Ar i p hi he=>by
   rw[Nj]at hi
   split at hi
   ·rename_i ko
    rw[py ko]at he
    exact hF oh Ar.1 i p hi he
   ·have ko:=(List.getElem?_eq_some_iff.1 hi).1
    have:i=bl.length:=by simp at ko;omega
    subst this
    simp only[Nat.sub_self,wJ,bb]at hi
    subst hi
    rw[p3]at he
    rcases od cap 0 with h0|h0
    ·simp only[bM,I.cS,v2]
     rw[if_pos h0]
    ·exact absurd he.symm (Ar.2 h0)) (λj aK=>by
   have:=hv (j+3) (by simp only[jS];omega)
   rw[show v+3+j=v+(j+3) by omega];simpa using this) (by omega)
  simp only[fQ,jS,qL]at bm cb
  exact⟨fj,λb hb=>by rw[bm b (by omega)];exact py hb,by unfold vt;omega,by unfold vt;exact cJ⟩
 |[],_::_,_,_,_,_,_,_,h,_,_,_=>h.elim
 |_::_,[],_,_,_,_,_,_,h,_,_,_=>h.elim
 |_::_,[_],_,_,_,_,_,_,h,_,_,_=>h.elim
 |_::_,[_,_],_,_,_,_,_,_,h,_,_,_=>h.elim
theorem afy {tmps:Array aV}:∀{l:List Nat} {zs:List Int},Hj tmps l zs->af (Oa l) zs
 |[],[],_=>trivial
 |s::r,z::zs,h=>⟨h.1.1,h.1.2,afy h.2.2⟩
 |[],_::_,h=>h.elim
 |_::_,[],h=>h.elim
theorem afx {w:aC} {tmps:Array aV}:∀{l:List (Nat×List aN×bp)} {zs:List Int} {F:Nat->Prop},ER w0 w tmps F l zs->af (E6 l) zs
 |[],[],_,_=>trivial
 |(s,sh,e)::r,code::len::cap::zs,F,⟨g,f1,f2,f3,f4,f5,f6,f7⟩=>⟨f3.1,f3.2,f2.1.2.2.1,f2.1.2.2.2,f2.2.1.1,by have:=f2.2.1.2;omega,afx f7⟩
 |[],_::_,_,h=>h.elim
 |_::_,[],_,h=>h.elim
 |_::_,[_],_,h=>h.elim
 |_::_,[_,_],_,h=>h.elim
theorem Mem.Yh {n:Nat} {ρ:Env} {m:Nat->Nat} {bl:List aE} {w:aC} {b c:Nat} {C:List A} {sh:List aN} {code:I} {t:bp×Bool} (h:Mem w0 ρ m bl w) (aX:bl[b]?=some (C,t)) (ax:cc C=true) (aA:t.2=false)
 (m5:∀row∈ak (code.den ρ),cF sh row) (kU:ca sh (ak (code.den ρ))=C.map (A.den ρ m)) (hlen:C.length=c*sh.length):Mem w0 ρ m (dN bl b ([.rows sh (.const 0) code (.const c) 2],t)) w:=by
 have tF:b<bl.length:=(List.getElem?_eq_some_iff.1 aX).1
 obtain⟨bm,cb,r,hr,cJ⟩:=h.fT b C t aX ax
 have hr:=hr aA
 subst hr
 rw[gZ]at cJ
 have er:∀(i:Nat) (p:aE),(dN bl b ([.rows sh (.const 0) code (.const c) 2],t))[i]?=some p->(i=b/\p=([.rows sh (.const 0) code (.const c) 2],t))∨(i≠b/\bl[i]?=some p):=λi p hi=>by
  rw[np,uV]at hi
  split at hi
  ·rename_i hW
   subst hW
   simp only[tF,if_true,bb]at hi
   exact .inl ⟨rfl,hi.symm⟩
  ·rename_i hW;exact .inr ⟨λe=>hW e.symm,hi⟩
 have rP:bM ρ [.rows sh (.const 0) code (.const c) 2]=2:=vB (by decide) (by rw[I.br];omega)
 refine⟨h.ext,h.jN,h.m6,h.kV,h.gF,h.jB,λi kI t' hi jY=>?_,λi fX kf code' j8 sL t' hi=>?_,λi j p q hi aK he=>?_⟩
 ·rcases er i _ hi with⟨rfl,ec⟩|⟨c7,hi⟩
  ·cases ec;cases jY
  ·exact h.fT i kI t' hi jY
 ·rcases er i _ hi with⟨rfl,ec⟩|⟨c7,hi⟩
  ·cases ec
   intro _
   simp only[I.br]
   refine⟨λh0=>by omega,λ_=>⟨cb.elim .inl λh=> .inr (.inr h),_,_,_,cJ,⟨cW _,m5,[],[],by simp[kU],rfl⟩,λ_=>⟨rfl,by trivial,.L7,by simp[hlen],bm,cb⟩⟩⟩
  ·exact h.rws i fX kf _ j8 sL t' hi
 ·have ab:∀(i:Nat) (p:aE),(dN bl b ([.rows sh (.const 0) code (.const c) 2],t))[i]?=some p->∃dj,bl[i]?=some dj/\bM ρ dj.1=bM ρ p.1:=λi p hi=>by
   rcases er i _ hi with⟨rfl,ec⟩|⟨c7,hi⟩
   ·exact⟨_,aX,by rw[ec];simp only[rP,oq ax]⟩
   ·exact⟨p,hi,rfl⟩
  obtain⟨dj,hp,ep⟩:=ab i p hi
  obtain⟨e3,ah,eq⟩:=ab j q aK
  rw[<-ep,<-eq]
  exact h.inj i j dj e3 hp ah he
theorem Yi {m:Nat->Nat} {tm:List V} {a:Act} {w:aC}:∀{l:List (Nat×List aN×Nat)} {bl:List aE} {n:Nat} {ρ:Env},R w0 n ρ m tm bl a w->az S L (MS l bl) n ρ λaa n' bq=>R w0 n' aa m tm bq a w/\bq.length=bl.length
 |[],bl,n,ρ,h=>az.pure ⟨h,rfl⟩
 |(b,sh,c)::r,bl,n,ρ,h=>by
  unfold MS
  split
  ·rename_i C t aX
   cases ax:cc C with
   |false=>simp only[cond_false];exact Yi h
   |true=>
    simp only[cond_true]
    refine eI λhc=>?_
    simp only[bw]at hc
    obtain⟨⟨⟨c1,bK⟩,cy⟩,c3⟩:=hc
    have c1:t.2=false:=by simpa using c1
    have bK:=bR bK
    have c3:=fP c3
    have b0:∀x∈C,A.ok n bl.length ρ x:=h.b _ (e8 aX)
    have pd:=Kr (w:=sh.length) (k:=c) bK
    have fF:ak ((I.const 0).den ρ)=[]:=by rw[I.br];exact oW
    have hz:(0:Int)<=bU:=CI (jR []) (uh (l:=[]) (by simp) (by simp))
    refine(Kc (nb:=bl.length) (m:=m) cy (rs:=rI sh.length c C) (c:= .const 0) (λrow hr x hx=>b0 x (Ks row hr x hx)) (I.dd _ _) (by rw[I.br];exact⟨cW _,hz⟩) (by rw[fF];intro _ h;simp at h) (by rw[fF,pd.1];simp;omega)).bind λaQ a1 code gE fe ⟨cz,cw,eA,dc,fC,fN,gH⟩=>?_
    rw[fF,gp]at dc
    have h1:=h.later gE fe
    have V4:C.map (A.den aQ m)=C.map (A.den ρ m):=xz b0 fe (λ_ _=>rfl)
    have pO:=h1.bF.Yh (n:=a1) (c:=c) (sh:=sh) (code:=code) aX ax c1 (by rw[dc];exact fN) (by rw[dc,gH,pd.2,V4]) bK
    have qn:cY a1 (dN bl b ([.rows sh (.const 0) code (.const c) 2],t)).length aQ (dN bl b ([.rows sh (.const 0) code (.const c) 2],t)):=h1.b.set (λy hy=>by
     have hy:y= .rows sh (.const 0) code (.const c) 2:=by simpa using hy
     subst hy
     exact⟨⟨I.dd _ _,cz,I.dd _ _⟩,cw,by rw[I.br];omega⟩)
    have hR:R w0 a1 aQ m tm (dN bl b ([.rows sh (.const 0) code (.const c) 2],t)) a w:=⟨by rw[kQ];exact h1.t,h1.d,qn,pO⟩
    exact(Yi (l:=r) hR).mono λbW ff sC _ _ ⟨g1,g2⟩=>⟨g1,by rw[g2,kQ]⟩
  ·exact az.fail
theorem natsM_holds {G:e2} {Hg:Unit->Nat->T}:∀{k n:Nat} {ρ:Env} {offs:List Int},(Qw k n Hg).holds S L G ρ->offs.length=k->(∀z∈offs,0<=z)->(Hg () (n+k)).holds S L G (bL ρ n offs)
 |0,n,ρ,[],h,_,_=>h
 |k+1,n,ρ,z::zs,h,hl,h0=>by
  have h1:(Qw k (n+1) Hg).holds S L G (dm ρ n z):=h z (h0 z (by simp))
  have:=natsM_holds (offs:=zs) h1 (by simpa using hl) λy hy=>h0 y (eB _ hy)
  rw[show n+(k+1)=n+1+k by omega];exact this
 |0,_,_,_::_,_,hl,_=>by simp at hl
 |_+1,_,_,[],_,hl,_=>by simp at hl
def u1 (w0:eG) (w:aC) (tmps:Array aV) (F:Nat->Prop):List (Nat×List aN)->List Nat->List Int->List Int->Prop
 |[],[],[],[]=>True
 |(s,sh)::r,g::gs,o::os,code::len::cap::zs=>(∀x,tmps[s]?=some x->x=if cap<0 then .slice none 0 0 else .slice (some ⟨g,o.toNat,none⟩) len.toNat cap.toNat)/\G0 o 0 len cap/\(0<=code/\code<=bU)/\(cap<0->ak code=[])/\
    (0<=cap->(w0.ex g∨w0.ro g∨w0.r.heap.size<=g)/\∃(cells:Array aV) (t:bp) (fz:Nat×Nat),w.heap[g]?=some (.cells cells t fz)/\pK cells o.toNat sh (ak code))/\
    (0<=cap->F g)/\u1 w0 w tmps F r gs os zs
 |_,_,_,_=>False
theorem u1.len {w:aC} {tmps:Array aV} {F:Nat->Prop}:∀{l:List (Nat×List aN)} {gs:List Nat} {os zs:List Int},u1 w0 w tmps F l gs os zs->os.length=l.length/\∀z∈os,0<=z
 |[],[],[],[],_=>⟨rfl,λ_ h=>by simp at h⟩
 |(s,sh)::r,g::gs,o::os,code::len::cap::zs,h=>by
  obtain⟨_,h2,_,_,_,_,h7⟩:=h
  obtain⟨i1,i2⟩:=u1.len h7
  exact⟨by simp[i1],λz hz=>by
   rcases List.mem_cons.1 hz with rfl|hz
   ·exact h2.1.1
   ·exact i2 z hz⟩
 |_::_,[],_,_,h=>h.elim
 |_::_,_::_,[],_,h=>h.elim
 |_::_,_::_,_::_,[],h=>h.elim
 |_::_,_::_,_::_,[_],h=>h.elim
 |_::_,_::_,_::_,[_,_],h=>h.elim
 |[],_::_,_,_,h=>h.elim
 |[],[],_::_,_,h=>h.elim
 |[],[],[],_::_,h=>h.elim
theorem afz {w:aC} {tmps:Array aV} {F:Nat->Prop}:∀{l:List (Nat×List aN)} {gs:List Nat} {os zs:List Int},u1 w0 w tmps F l gs os zs->af (GN l) zs
 |[],[],[],[],_=>trivial
 |(s,sh)::r,g::gs,o::os,code::len::cap::zs,⟨f1,f2,f3,f4,f5,f6,f7⟩=>⟨f3.1,f3.2,f2.1.2.2.1,f2.1.2.2.2,f2.2.1.1,by have:=f2.2.1.2;omega,afz f7⟩
 |_::_,[],_,_,h=>h.elim
 |_::_,_::_,[],_,h=>h.elim
 |_::_,_::_,_::_,[],h=>h.elim
 |_::_,_::_,_::_,[_],h=>h.elim
 |_::_,_::_,_::_,[_,_],h=>h.elim
 |[],_::_,_,_,h=>h.elim
 |[],[],_::_,_,h=>h.elim
 |[],[],[],_::_,h=>h.elim
theorem QX {n:Nat} {ρ:Env} {m:Nat->Nat} {tm:List V} {bl:List aE} {a:Act} {w:aC} (h:R w0 n ρ m tm bl a w):∀{l:List (Nat×List aN)} {ls:List I},GO l tm bl=some ls->
 (∀x∈ls,I.bG n x)/\ls.length=(GN l).length/\∃gs os,u1 w0 w a.tmps (λg=>∃(i:Nat) (p:aE),bl[i]?=some p/\m i=g/\bM ρ p.1=1) l gs os (ls.map (·.den ρ))
 |[],ls,he=>by
  simp only[GO,bb]at he
  subst he
  exact⟨λ_ h=>by simp at h,rfl,[],[],trivial⟩
 |(s,sh)::r,ls,he=>by
  unfold GO at he
  split at he
  ·rename_i hs
   split at he
   ·rename_i l1 hr
    simp only[bb]at he
    subst he
    obtain⟨g1,g2,gs,os,g3⟩:=QX h hr
    refine⟨λx hx=>?_,by simp[GN]at g2⊢;omega,0::gs,0::os,λx hx=>?_,?_,?_,?_,?_,?_,g3⟩
    ·simp only[pD]at hx
     rcases hx with rfl|rfl|rfl|hx
     ·exact I.dd _ _
     ·exact I.dd _ _
     ·exact I.dd _ _
     ·exact g1 x hx
    ·obtain⟨_,y,h2,h3⟩:=h.t.2 s _ hs
     rw[h2]at hx;cases hx
     have rJ:(I.const (-1)).den ρ<0:=by rw[I.br];decide
     simp only[rJ,if_true]
     exact h3
    ·simp only[I.br];exact⟨⟨by omega,by omega,by omega,by omega⟩,⟨by omega,by omega⟩,λ_=>rfl,λh=>by omega⟩
    ·simp only[I.br];exact⟨cW _,CI (jR []) (uh (l:=[]) (by simp) (by simp))⟩
    ·intro _;simp only[I.br];exact oW
    ·simp only[I.br];intro h;omega
    ·simp only[I.br];intro h;omega
   ·cases he
  ·rename_i b bz o ro len cap hs
   split at he
   ·rename_i fX off code e5 kind t aX
    cases hc:(tp sh fX&&aM kind 1&&I.beq o off&&I.beq ro (.const 0)&&I.beq cap e5&&aM bz sh.length)with
    |false=>rw[hc]at he;cases he
    |true=>
     rw[hc]at he
     simp only[cond_true]at he
     split at he
     ·rename_i l1 hr
      simp only[bb]at he
      subst he
      simp only[bw]at hc
      obtain⟨⟨⟨⟨⟨c1,bK⟩,cy⟩,c3⟩,fh⟩,hH⟩:=hc
      have c1:=Ex c1;have bK:=bR bK;have cy:=I.beq_eq cy;have c3:=I.beq_eq c3;have fh:=I.beq_eq fh;have hH:=bR hH
      subst c1;subst bK;subst cy;subst c3;subst fh;subst hH
      obtain⟨g1,g2,gs,os,g3⟩:=QX h hr
      obtain⟨b0,y,h2,h3⟩:=h.t.2 s _ hs
      have b0:(A.sl b sh.length o (.const 0) len cap).ok n bl.length ρ:=b0
      obtain⟨ag,⟨ad,ao,cZ,iV⟩,jG⟩:=b0
      simp only[I.br]at jG
      have gD:(A.rows sh o code cap 1).ok n bl.length ρ:=h.b _ (e8 aX) _ (by simp)
      obtain⟨⟨r1,r2,gI⟩,n2,av⟩:=gD
      have pS:=h.bF.rws b sh o code cap 1 t aX (by decide)
      refine⟨λx hx=>?_,by simp[GN]at g2⊢;omega,m b::gs,o.den ρ::os,λx hx=>?_,jG,n2,pS.1,λh0=>?_,λh0=>?_,g3⟩
      ·simp only[pD]at hx
       rcases hx with rfl|rfl|rfl|hx
       ·exact r2
       ·exact cZ
       ·exact iV
       ·exact g1 x hx
      ·have Wx:y=x:=jd (h2.symm.trans hx)
       subst Wx
       have h3:y=(A.sl b sh.length o (.const 0) len cap).den ρ m:=h3
       rw[h3]
       simp only[A.den,I.br]
       split<;>simp
      ·obtain⟨e4,cells,nq,fz,k1,⟨k2,k3⟩,k4⟩:=pS.2 h0
       exact⟨e4,cells,nq,fz,k1,k3⟩
      ·exact⟨b,_,aX,rfl,vB (by decide) h0⟩
     ·cases he
   ·cases he
  ·cases he
theorem u1.mono {w:aC} {tmps:Array aV} {F CS:Nat->Prop} (hF:∀g,F g->CS g):∀{l:List (Nat×List aN)} {gs:List Nat} {os zs:List Int},u1 w0 w tmps F l gs os zs->u1 w0 w tmps CS l gs os zs
 |[],[],[],[],_=>trivial
 |(s,sh)::r,g::gs,o::os,code::len::cap::zs,⟨f1,f2,f3,f4,f5,f6,f7⟩=>⟨f1,f2,f3,f4,f5,λh=>hF g (f6 h),u1.mono hF f7⟩
 |_::_,[],_,_,h=>h.elim
 |_::_,_::_,[],_,h=>h.elim
 |_::_,_::_,_::_,[],h=>h.elim
 |_::_,_::_,_::_,[_],h=>h.elim
 |_::_,_::_,_::_,[_,_],h=>h.elim
 |[],_::_,_,_,h=>h.elim
 |[],[],_::_,_,h=>h.elim
 |[],[],[],_::_,h=>h.elim
theorem TB {lo:Nat} {tm:List V} {bl:List aE}:∀{l:List (Nat×List aN×bp)} {used:List Nat} {ls:List I} {u:List Nat},zV lo l tm bl used=some (ls,u)->∀b∈u,b∈used∨∃sh off code cap t,bl[b]?=some ([.rows sh off code cap 2],t)
 |[],used,ls,u,he=>by
  simp only[zV,bb,eW]at he
  obtain⟨rfl,rfl⟩:=he
  exactλb hb=> .inl hb
 |(s,sh,e)::r,used,ls,u,he=>by
  unfold zV at he
  split at he
  ·split at he
   ·rename_i l1 qD hr
    simp only[bb,eW]at he
    obtain⟨rfl,rfl⟩:=he
    exact TB hr
   ·cases he
  ·rename_i b bz o ro len cap hs
   split at he
   ·rename_i fX off code e5 kind t aX
    cases hc:(tp sh fX&&aM kind 2&&I.beq o (.const 0)&&I.beq off (.const 0)&&I.beq ro (.const 0)&&I.beq cap e5&&aM t.1 e&&aM bz sh.length&&cK lo b&& !(used.any (aM b)))with
    |false=>rw[hc]at he;cases he
    |true=>
     rw[hc]at he
     simp only[cond_true]at he
     split at he
     ·rename_i l1 qD hr
      simp only[bb,eW]at he
      obtain⟨rfl,rfl⟩:=he
      simp only[bw]at hc
      obtain⟨⟨⟨⟨⟨⟨⟨⟨⟨c1,bK⟩,cy⟩,c3⟩,fh⟩,hH⟩,qi⟩,pN⟩,s4⟩,ur⟩:=hc
      have bK:=bR bK
      subst bK
      intro b' pc
      rcases TB hr b' pc with h5|h5
      ·rcases List.mem_cons.1 h5 with rfl|h5
       ·exact .inr ⟨_,_,_,_,_,aX⟩
       ·exact .inl h5
      ·exact .inr h5
     ·cases he
   ·cases he
  ·cases he
theorem WQ {i:Nat} {p:aE}:∀{us:List Nat} {bl:List aE},bl[i]?=some p->i∉us->(qw us bl)[i]?=some p
 |[],bl,h,_=>h
 |b::r,bl,h,hi=>by
  unfold qw
  split
  ·refine WQ ?_ λh=>hi (eB _ h)
   rw[np,Zn (λe=>hi (by simp[e]))];exact h
  ·exact WQ h λh=>hi (eB _ h)
theorem aez {N:Nat} {bW:Env} {a:Act} {w:aC} {F:Nat->Prop}:∀{l:List (Nat×List aN)} {gs:List Nat} {os zs:List Int} {v u:Nat} {tm:List V} {bl:List aE} {m:Nat->Nat},R w0 N bW m tm bl a w->u1 w0 w a.tmps F l gs os zs->(∀g,F g->∀(i:Nat) (p:aE),bl[i]?=some p->m i=g->bM bW p.1<=1)->
 (∀j,j<zs.length->bW (v+j)=zs.getD j 0)->(∀j,j<os.length->bW (u+j)=os.getD j 0)->v+zs.length<=N->u+os.length<=N->
 ∃fj,(∀b,b<bl.length->fj b=m b)/\bl.length<=(headD l v u tm bl).2.length/\R w0 N bW fj (headD l v u tm bl).1 (headD l v u tm bl).2 a w/\∀(i:Nat) (p:aE),(headD l v u tm bl).2[i]?=some p->(i<bl.length/\bl[i]?=some p)∨(bM bW p.1≠0->F (fj i))
 |[],[],[],[],v,u,tm,bl,m,h,_,_,_,_,_,_=>⟨m,λ_ _=>rfl,bO _,h,λi p hp=> .inl ⟨(List.getElem?_eq_some_iff.1 hp).1,hp⟩⟩
 |(s,sh)::r,g::gs,o::os,code::len::cap::zs,v,u,tm,bl,m,h,hf,hF,hv,hu,cT,Vo=>by
  obtain⟨f1,f2,f3,f4,f5,f6,f7⟩:=hf
  have v0:=hv 0 (by simp)
  have v1:=hv 1 (by simp)
  have v2:=hv 2 (by simp)
  have uO:=hu 0 (by simp)
  simp only[jH,kS,pE]at v0 v1 v2 uO
  simp only[jS]at cT Vo
  have hc:(-1:Int)<=cap/\cap<=9223372036854775807:=⟨f2.2.1.1,by have:=f2.2.1.2;omega⟩
  have aU:(A.rows sh (.var u) (.var v) (.var (v+2)) 1).ok N bl.length bW:=⟨⟨I.fW (by omega),I.fW (by omega),I.fW (by omega)⟩,by rw[I.cS,v0];exact f3,by rw[I.cS,v2];exact hc⟩
  have aeR:bM bW [A.rows sh (.var u) (.var v) (.var (v+2)) 1]<=1:=by
   simp only[bM]
   split<;>omega
  have pO:=h.bF.push (x:=([.rows sh (.var u) (.var v) (.var (v+2)) 1],(0,false))) (g:=g) h.b (λy hy=>by simp at hy;subst hy;exact aU) (λax=>by cases ax) (λfX kf code' j8 sL he=>by
   cases he
   intro _
   simp only[I.cS,v0,v2,uO]
   refine⟨f4,λh0=>?_⟩
   obtain⟨D4,cells,t,fz,k1,k2⟩:=f5 h0
   exact⟨D4,cells,t,fz,k1,⟨f2.1.1,k2⟩,λdZ=>by omega⟩) (λi p hi he=>by
   rcases od cap 0 with h0|h0
   ·refine .inr (.inr ?_)
    simp only[bM,I.cS,v2]
    rw[if_pos h0]
   ·exact .inl ⟨hF g (f6 h0) i p hi he,aeR⟩)
  have dL:=eX.alloc N bW m bl ([A.rows sh (.var u) (.var v) (.var (v+2)) 1],(0,false)) g
  have hR:R w0 N bW (oz m bl.length g) (wi tm s (.w (.one (.sl bl.length sh.length (.var u) (.const 0) (.var (v+1)) (.var (v+2)))))) (bl++[([.rows sh (.var u) (.var v) (.var (v+2)) 1],(0,false))]) a w:=by
   refine⟨eY.set (h.t.ext dL.ha dL.hn dL.hb dL.hm) ?_ λx hx=>?_,h.d,h.b.alloc (λy hy=>by simp at hy;subst hy;exact aU),pO⟩
   ·refine⟨by simp,⟨I.fW (by omega),I.dd _ _,I.fW (by omega),I.fW (by omega)⟩,?_⟩
    simp only[I.br,I.cS,v1,v2,uO];exact f2
   ·rw[f1 x hx]
    simp only[V.rel,W.den,A.den,I.br,I.cS,v1,v2,uO,p3]
    split<;>simp
  obtain⟨fj,bm,cb,cJ,et⟩:=aez (F:=F) (l:=r) (gs:=gs) (os:=os) (zs:=zs) (v:=v+3) (u:=u+1) hR f7 (λoh Ar i p hi he=>by
   rw[Nj]at hi
   split at hi
   ·rename_i ko
    rw[py ko]at he
    exact hF oh Ar i p hi he
   ·have ko:=(List.getElem?_eq_some_iff.1 hi).1
    have:i=bl.length:=by simp at ko;omega
    subst this
    simp only[Nat.sub_self,wJ,bb]at hi
    subst hi
    exact aeR) (λj aK=>by
   have:=hv (j+3) (by simp only[jS];omega)
   rw[show v+3+j=v+(j+3) by omega];simpa using this) (λj aK=>by
   have:=hu (j+1) (by simp only[jS];omega)
   rw[show u+1+j=u+(j+1) by omega];simpa using this) (by omega) (by omega)
  simp only[fQ,jS,qL]at bm cb
  refine⟨fj,λb hb=>by rw[bm b (by omega)];exact py hb,by unfold headD;omega,by unfold headD;exact cJ,λi p hp=>?_⟩
  unfold headD at hp
  rcases et i p hp with⟨kg,oS⟩|kg
  ·simp only[fQ,jS,qL]at kg
   rw[Nj]at oS
   split at oS
   ·rename_i ko;exact .inl ⟨ko,oS⟩
   ·rename_i ko
    have hi:i=bl.length:=by omega
    subst hi
    simp only[Nat.sub_self,wJ,bb]at oS
    subst oS
    refine .inr λh0=>?_
    rw[bm bl.length (by omega),p3]
    refine f6 ?_
    rcases od cap 0 with h1|h1
    ·refine absurd ?_ h0
     simp only[bM,I.cS,v2]
     rw[if_pos h1]
    ·exact h1
  ·exact .inr kg
 |_::_,[],_,_,_,_,_,_,_,_,h,_,_,_,_,_=>h.elim
 |_::_,_::_,[],_,_,_,_,_,_,_,h,_,_,_,_,_=>h.elim
 |_::_,_::_,_::_,[],_,_,_,_,_,_,h,_,_,_,_,_=>h.elim
 |_::_,_::_,_::_,[_],_,_,_,_,_,_,h,_,_,_,_,_=>h.elim
 |_::_,_::_,_::_,[_,_],_,_,_,_,_,_,h,_,_,_,_,_=>h.elim
 |[],_::_,_,_,_,_,_,_,_,_,h,_,_,_,_,_=>h.elim
 |[],[],_::_,_,_,_,_,_,_,_,h,_,_,_,_,_=>h.elim
 |[],[],[],_::_,_,_,_,_,_,_,h,_,_,_,_,_=>h.elim
theorem aeB {li:gB} {n:Nat} {cu aa:Env} {m0 m':Nat->Nat} {tm cC px Cy:List V} {bl bq fg sD:List aE} {l1 l2 v1 v2 fB gv gV:List I} {b8 b9 Hu yC:List (Int×Int)} {n':Nat} {a:Act} {w:aC} {NA ND NN:Nat} {gs:List Nat} {os:List Int}
 (hlen:bl.length<=bq.length)
 (ha:agree n cu aa) (hm:∀b,b<bl.length->m' b=m0 b) (aA:∀v∈tm,V.ok n bl.length cu v) (rO:cY n bl.length cu bl)
 (h:R w0 n' aa m' cC bq a w) (aw:hs li.gu li.ints 0 (n+1) tm=some (px,l1,b8)) (aD:hb li.cells 0 (n+1+l1.length) bl=some (fg,l2,b9))
 (cj:hs li.gu li.ints 0 (n+1) cC=some (Cy,v1,Hu)) (hV:hb li.cells 0 (n+1+v1.length) (bq.take bl.length)=some (sD,v2,yC))
 (f1:qm px Cy=true) (f2:ql fg sD=true) (aen:Hj a.tmps li.uo (fB.map (·.den aa))) (PA:ER w0 w a.tmps (λg=>(∀(i:Nat) (p:aE),i<bl.length->bq[i]?=some p->m' i=g->bM aa p.1=0)/\¬∃(i:Nat) (p:aE),bq[i]?=some p/\m' i=g/\bM aa p.1=1) li.tB (gv.map (·.den aa)))
 (ID:u1 w0 w a.tmps (λg=>∃(i:Nat) (p:aE),bq[i]?=some p/\m' i=g/\bM aa p.1=1) li.p1 gs os (gV.map (·.den aa)))
 (ad4:NA=n+1+l1.length+l2.length+fB.length) (ad5:ND=n+1+l1.length+l2.length+(fB++gv).length) (ad6:NN=n+1+l1.length+l2.length+(fB++gv++gV).length):
 af (b8++b9++(Oa li.uo++E6 li.tB++GN li.p1)) ((v1++v2++(fB++gv++gV)).map (·.den aa))/\∃fj,(∀b,b<bl.length->fj b=m0 b)/\bl.length<=(vt li.tB NA (headD li.p1 ND NN (yT li.uo (n+1+l1.length+l2.length) px) fg).1 (headD li.p1 ND NN (yT li.uo (n+1+l1.length+l2.length) px) fg).2).2.length/\
  R w0 (NN+li.p1.length) (bL (bL cu (n+1) ((v1++v2++(fB++gv++gV)).map (·.den aa))) NN os) fj (vt li.tB NA (headD li.p1 ND NN (yT li.uo (n+1+l1.length+l2.length) px) fg).1 (headD li.p1 ND NN (yT li.uo (n+1+l1.length+l2.length) px) fg).2).1 (vt li.tB NA (headD li.p1 ND NN (yT li.uo (n+1+l1.length+l2.length) px) fg).1 (headD li.p1 ND NN (yT li.uo (n+1+l1.length+l2.length) px) fg).2).2 a w:=by
 obtain⟨aqd,i1,i2,i3,i4⟩:=aeA (ext:=fB++gv++gV) hlen ha hm aA rO h aw aD cj hV f1 f2
 obtain⟨apu,aFE⟩:=ID.len
 subst ad4;subst ad5;subst ad6
 have It:∀j,j<(fB++gv++gV).length->bL cu (n+1) ((v1++v2++(fB++gv++gV)).map (·.den aa)) (n+1+l1.length+l2.length+j)=((fB++gv++gV).map (·.den aa)).getD j 0:=λj aK=>by
  rw[show n+1+l1.length+l2.length+j=n+1+(v1.length+v2.length+j) by omega,JB _ _ _ _ (by simp at aK⊢;omega)]
  rw[jf (l₁:=v1++v2),yr,JL (by simp),yr]
  congr 2
  simp
 generalize afl:bL cu (n+1) ((v1++v2++(fB++gv++gV)).map (·.den aa))=bW at*
 have yN:agree (n+1+l1.length+l2.length+(fB++gv++gV).length) bW (bL bW (n+1+l1.length+l2.length+(fB++gv++gV).length) os):=agree.bL os _ bW
 have aqF:=i2.later (JM _ li.p1.length) yN
 have VO:∀j,j<(fB++gv++gV).length->bL bW (n+1+l1.length+l2.length+(fB++gv++gV).length) os (n+1+l1.length+l2.length+j)=((fB++gv++gV).map (·.den aa)).getD j 0:=λj aK=>by
  rw[<-It j aK]
  exact(yN _ (by omega))
 have PI:∀(i:Nat) (p:aE),fg[i]?=some p->bM (bL bW (n+1+l1.length+l2.length+(fB++gv++gV).length) os) p.1=bM bW p.1:=λi p hi=>xw (i2.b p (e8 hi)) yN
 generalize aqu:bL bW (n+1+l1.length+l2.length+(fB++gv++gV).length) os=jw at*
 have ea:=aey (v:=n+1+l1.length+l2.length) aqF aen (λj aK=>by
  simp only[qM]at aK
  rw[VO j (by simp;omega),nI,jf,yr,zB (by simpa using aK),yr]) (by simp;omega)
 obtain⟨gW,cz,cw,dc,fC⟩:=aez (v:=n+1+l1.length+l2.length+(fB++gv).length) (u:=n+1+l1.length+l2.length+(fB++gv++gV).length) ea ID (λg hg i p hi he=>by
  obtain⟨g1,dj,g2,g3⟩:=i4 i p hi
  rw[PI i p hi,g3]
  obtain⟨j,q,bm,cb,cJ⟩:=hg
  rcases h.bF.inj i j dj q g2 bm (by rw[cb,<-he,hm i g1])with dZ|dZ|dZ|dZ
  ·subst dZ
   rw[g2]at bm;cases bm
   omega
  ·exact dZ.1
  ·omega
  ·omega) (λj aK=>by
  simp only[qM]at aK
  rw[show n+1+l1.length+l2.length+(fB++gv).length+j=n+1+l1.length+l2.length+((fB++gv).length+j) by omega,VO _ (by simp at aK⊢;omega),jf (l₁:=fB++gv),yr,JL (by simp),yr]
  congr 2
  simp) (λj aK=>by rw[<-aqu,JB _ _ _ _ aK]) (by simp only[qM,fQ];omega) (by rw[apu];exact bO _)
 obtain⟨fj,bm,cb,cJ⟩:=aex (v:=n+1+l1.length+l2.length+fB.length) dc PA (λg hg i p hi he=>by
  rcases fC i p hi with⟨g0,g1⟩|g1
  ·obtain⟨oM,dj,g2,g3⟩:=i4 i p g1
   rw[PI i p g1,g3]
   exact hg.1 i dj oM g2 (by rw[hm i oM,<-cz i g0];exact he)
  ·by_cases h0:bM jw p.1=0
   ·exact h0
   ·have:=g1 h0
    rw[he]at this
    exact absurd this hg.2) (λj aK=>by
  simp only[qM]at aK
  rw[show n+1+l1.length+l2.length+fB.length+j=n+1+l1.length+l2.length+(fB.length+j) by omega,VO _ (by simp;omega),nI,jf,yr,JL (by simp),jf,zB (by simp;omega),yr]
  congr 2
  simp) (by simp;omega)
 refine⟨?_,fj,λb hb=>by rw[bm b (by rw[i3]at cw;omega),cz b (by rw[i3];exact hb)],by rw[i3]at cw;omega,cJ⟩
 rw[jf,jf (l₁:=fB++gv),jf (l₁:=fB)]
 exact qt i1 (qt (qt (afy aen) (afx PA)) (afz ID))
theorem T7 {a b c:Nat} (h:a=c) (bd:b=c):b=a:=bd.trans h.symm
theorem arX {li:gB} {c:Code} {e:Nat->List V->List aE->wM->T} (hd:rd=none∨pV c=true) (he:SA rd S L w0 P c e) {Q:Exit->Act->aC->Prop} {n:Nat} {ρ:Env} {m:Nat->Nat} {tm:List V} {bl:List aE} {a:Act} {w:aC} {G:e2} {k:wM}
 (h:R w0 n ρ m tm bl a w) (ae:(W6 li e n tm bl k).holds S L G ρ) (ab:Hk S L w0 k n bl.length ρ m G Q):(Code.loop c).wpIn (uZ rd) 0 P Q a w:=by
 unfold W6 at ae
 obtain⟨aju,Gw,ab7,F6,aej,⟨hz1,P4⟩,ae⟩:=Yi (S:=S) (L:=L) h G _ ae
 have ab:=ab.later (⟨F6,aej,by rw[P4];exact bO _,λ_ _=>rfl⟩:eX n bl.length ρ m Gw ab7.length aju m) (fm.refl _ G)
 clear h
 have h:=hz1
 clear hz1 P4 F6 aej
 revert h ab ae
 generalize Gw=n
 generalize aju=ρ
 generalize ab7=bl
 intro ae ab h
 obtain⟨cu,jt,tm,tL,BC,Wl,ae⟩:=KR (S:=S) (L:=L) h.t G _ ae
 have KZ:=h.later tL BC
 have h:R w0 jt cu m tm bl a w:=⟨Wl,KZ.d,KZ.b,KZ.bF⟩
 have ab:=ab.later (⟨tL,BC,bO _,λ_ _=>rfl⟩:eX n bl.length ρ m jt bl.length cu m) (fm.refl _ G)
 obtain⟨aQ,a1,fB,gE,fe,⟨s1,s2,bS⟩,ae⟩:=T8 (S:=S) (L:=L) h.t G _ ae
 have h1:=h.later gE fe
 have ab:=ab.later (⟨gE,fe,bO _,λ_ _=>rfl⟩:eX jt bl.length cu m a1 bl.length aQ m) (fm.refl _ G)
 split at ae
 rotate_left
 ·exact ae.elim
 rename_i px l1 b8 gv us gV aw Pa amh
 obtain⟨b2,a2,_,_,a5⟩:=NU h1 Pa
 obtain⟨k1,k2,k3⟩:=WR (us:=us) h1
 obtain⟨r1,r2,gs,os,gI⟩:=QX h1 amh
 cases aD:hb li.cells 0 (a1+1+l1.length) (qw us bl)with
 |none=>rw[aD]at ae;exact ae.elim
 |some cb=>
  obtain⟨fg,l2,b9⟩:=cb
  rw[aD]at ae
  simp only at ae
  cases hf:(qm px px&&ql fg fg)with
  |false=>rw[hf]at ae;exact ae.elim
  |true=>
   rw[hf]at ae
   simp only[je,cond_false,T.holds]at ae
   simp only[bw]at hf
   obtain⟨mZ,pH,Vi,ea⟩:=ae
   have P2:∀v∈tm,V.ok a1 (qw us bl).length aQ v:=λv hv=>by
    obtain⟨i,hi⟩:=List.getElem?_of_mem hv
    exact(k1.t.2 i v hi).1
   have Ux:hb li.cells 0 (a1+1+l1.length) ((qw us bl).take (qw us bl).length)=some (fg,l2,b9):=by rw[Zo];exact aD
   have aom:ER w0 w a.tmps (λg=>(∀(i:Nat) (p:aE),i<(qw us bl).length->(qw us bl)[i]?=some p->m i=g->bM aQ p.1=0)/\¬∃(i:Nat) (p:aE),(qw us bl)[i]?=some p/\m i=g/\bM aQ p.1=1) li.tB (gv.map (·.den aQ)):=by
    refine a5 _ λb p hb _ aX pP pe=>?_
    have key:∀(i:Nat) (q:aE),(qw us bl)[i]?=some q->m i=m b->bM aQ q.1=0:=λi q hi he=>by
     rcases k3 i q hi with⟨g1,g2⟩|g1
     ·by_cases kK:i=b
      ·subst kK
       rw[aX]at g1;cases g1
       rcases g2 hb with g2|g2
       ·rw[pe]at g2;cases g2
       ·exact g2
      ·rcases h1.bF.inj i b q p g1 aX he with g3|g3|g3|g3
       ·exact absurd g3 kK
       ·omega
       ·exact g3
       ·omega
     ·exact g1
    exact⟨λi q _ hi he=>key i q hi he,λ⟨i,q,hi,he,ab⟩=>by have:=key i q hi he;omega⟩
   have ID:u1 w0 w a.tmps (λg=>∃(i:Nat) (p:aE),(qw us bl)[i]?=some p/\m i=g/\bM aQ p.1=1) li.p1 gs os (gV.map (·.den aQ)):=by
    refine gI.mono λg ⟨i,p,hi,he,ab⟩=>⟨i,p,WQ hi λhu=>?_,he,ab⟩
    rcases TB Pa i hu with dZ|⟨sh,off,code,cap,t,dZ⟩
    ·simp at dZ
    ·rw[hi]at dZ
     cases dZ
     simp only[bM]at ab
     split at ab<;>omega
   obtain⟨i1,fj,i2,i3,i4⟩:=aeB (bO _) (agree.refl a1 aQ) (λ_ _=>rfl) P2 k1.b k1 aw aD aw Ux hf.1 hf.2 bS aom ID rfl rfl rfl
   generalize ad6:a1+1+l1.length+l2.length+(fB++gv++gV).length=NN at*
   generalize ad5:a1+1+l1.length+l2.length+(fB++gv).length=ND at*
   generalize ad4:a1+1+l1.length+l2.length+fB.length=NA at*
   generalize aoG:headD li.p1 ND NN (yT li.uo (a1+1+l1.length+l2.length) px) fg=d at*
   refine wpIn_loop_ghost (λN du w'=>∃zs os fj,af (b8++b9++(Oa li.uo++E6 li.tB++GN li.p1)) zs/\mZ zs/\pH zs=N/\(os.length=li.p1.length/\∀z∈os,0<=z)/\(∀b,b<(qw us bl).length->fj b=m b)/\
    R w0 (NN+li.p1.length) (bL (bL aQ (a1+1) zs) NN os) fj (vt li.tB NA d.1 d.2).1 (vt li.tB NA d.1 d.2).2 du w') (pH ((l1++l2++(fB++gv++gV)).map (·.den aQ))) ⟨_,os,fj,i1,Vi,rfl,ID.len,i2,i4⟩ ?_
   rintro N b2 eJ ⟨zs,XC,fj,hz1,P4,rfl,⟨aqp,aqq⟩,aqn,aqo⟩
   have BE:=natsM_holds (oG ea hz1 P4) aqp aqq
   refine he hd _ _ _ _ _ _ _ b2 eJ _ aqo BE λx n' aa m' cC bq eP du w' h1 h2 h3 h4=>?_
   have FR:agree a1 aQ (bL aQ (a1+1) zs):=(agree.bL _ (a1+1) aQ).mono (by omega)
   have aoo:agree a1 aQ (bL (bL aQ (a1+1) zs) NN XC):=FR.trans (agree.bL XC NN _) (by omega)
   have Vk:eX a1 bl.length aQ m (NN+li.p1.length) (vt li.tB NA d.1 d.2).2.length (bL (bL aQ (a1+1) zs) NN XC) fj:=⟨by omega,aoo,by rw[k2]at i3;exact i3,λb hb=>aqn b (by rw[k2];exact hb)⟩
   have DO:fm a1 G (G.set a1 λvs=>mZ vs/\pH vs<pH zs):=λl hl=>by
    unfold e2.set
    cases hb:aM l a1 with
    |true=>have:=bR hb;omega
    |false=>rfl
   have dL:=Vk.trans h1
   have Vh:eP a1=λvs=>mZ vs/\pH vs<pH zs:=by
    rw[h2 a1 (by omega)]
    unfold e2.set
    have:aM a1 a1=true:=G9 a1
    rw[this];rfl
   cases x with
   |exit id=>exact ab (.exit id) n' aa m' cC bq eP du w' dL (DO.trans h2 (by omega)) h3 h4
   |ret=>exact ab .ret n' aa m' cC bq eP du w' dL (DO.trans h2 (by omega)) h3 h4
   |normal=>
    simp only at h4
    obtain⟨ZK,Xk,cC,aeX,aeg,Wn,h4⟩:=KR (S:=S) (L:=L) h3.t eP _ h4
    have rM:=h3.later aeX aeg
    have h3:R w0 Xk ZK m' cC bq du w':=⟨Wn,rM.d,rM.b,rM.bF⟩
    have dL:=dL.trans (⟨aeX,aeg,bO _,λ_ _=>rfl⟩:eX n' bq.length aa m' Xk bq.length ZK m')
    obtain⟨ys,IU,afO,fo,eb,⟨t1,t2,t3⟩,h4⟩:=T8 (S:=S) (L:=L) h3.t eP _ h4
    have h3:=h3.later fo eb
    split at h4
    rotate_left
    ·exact h4.elim
    rename_i Cy v1 Hu WV p4 afX cj amg ami
    obtain⟨c1,bK,_,c3,fh⟩:=NU h3 amg
    obtain⟨d1,d2,aEX,agO,d3⟩:=QX h3 ami
    cases hV:hb li.cells 0 (a1+1+v1.length) (bq.take bl.length)with
    |none=>rw[hV]at h4;exact h4.elim
    |some et=>
     obtain⟨sD,v2,yC⟩:=et
     rw[hV]at h4
     simp only at h4
     cases lQ:(qm px Cy&&ql fg sD)with
     |false=>rw[lQ]at h4;exact h4.elim
     |true=>
      rw[lQ]at h4
      simp only[cond_true,T.holds,Vh]at h4
      simp only[bw]at lQ
      have Vl:=dL.trans (⟨fo,eb,bO _,λ_ _=>rfl⟩:eX Xk bq.length ZK m' IU bq.length ys m')
      have aon:ER w0 w' du.tmps (λg=>(∀(i:Nat) (p:aE),i<(qw us bl).length->bq[i]?=some p->m' i=g->bM ys p.1=0)/\¬∃(i:Nat) (p:aE),bq[i]?=some p/\m' i=g/\bM ys p.1=1) li.tB (WV.map (·.den ys)):=by
       refine fh _ λb p hb _ aX pP pe=>⟨λi q ko hi he=>?_,λ⟨i,q,hi,he,ab⟩=>?_⟩
       ·have Lc:bl.length<=b:=by
         rcases c3 b hb with h|h
         ·simp at h
         ·exact h
        rw[k2]at ko
        rcases h3.bF.inj i b q p hi aX he with g3|g3|g3|g3
        ·omega
        ·omega
        ·exact g3
        ·omega
       ·rcases h3.bF.inj i b q p hi aX he with g3|g3|g3|g3
        ·subst g3
         rw[hi]at aX;cases aX
         omega
        ·omega
        ·omega
        ·omega
      obtain⟨iS,Gt,qu,rV,ti⟩:=aeB (NA:=NA) (ND:=ND) (NN:=NN) (by rw[k2];exact Vl.hb) Vl.ha (λb hb=>Vl.hm b (by rw[k2]at hb;exact hb)) P2 k1.b h3 aw aD cj (by rw[k2];exact hV) lQ.1 lQ.2 t3 aon d3 (by have:=t2;have:=T7 s2 t2;omega) (by have:=T7 s2 t2;simp only[fQ]at*;omega) (by have:=T7 s2 t2;simp only[fQ]at*;omega)
      rw[aoG]at ti
      exact⟨_,h4.2,_,agO,Gt,iS,h4.1,rfl,d3.len,qu,ti⟩
theorem toL {ops:Array Oper}:ops.toList.toArray=ops:=lN
theorem U6 (N:Nat):∀(i:Nat) (bl:List aE),(jM N i bl).length=bl.length
 |_,[]=>rfl
 |i,_::r=>by simp[jM,U6 N (i+1) r]
theorem H8 (N:Nat):∀(i:Nat) (bl:List aE) (k:Nat) (p:aE),(jM N i bl)[k]?=some p->p=gd∨(i+k<N/\(cc p.1||Az p.1)=true/\bl[k]?=some p)
 |_,[],k,p,h=>by simp[jM]at h
 |i,q::r,0,p,h=>by
  simp only[jM,wJ,bb]at h
  cases hc:(dP i N&&(cc q.1||Az q.1))with
  |false=>rw[hc]at h;exact .inl h.symm
  |true=>
   rw[hc]at h
   simp only[cond_true]at h
   subst h
   simp only[bw]at hc
   exact .inr ⟨by simpa using vh hc.1,hc.2,rfl⟩
 |i,q::r,k+1,p,h=>by
  rcases H8 N (i+1) r k p (by simpa [jM]using h)with h1|⟨h1,h2,h3⟩
  ·exact .inl h1
  ·exact .inr ⟨by omega,h2,by simpa using h3⟩
theorem ag1:∀{a b:List aE},preB a b=true->∀(k:Nat) (p:aE),a[k]?=some p->b[k]?=some p
 |[],_,_,_,_,h=>by simp at h
 |(c,t)::r,(eR,t')::s,hf,k,p,h=>by
  simp only[preB,bw]at hf
  obtain⟨⟨⟨h1,h2⟩,h3⟩,h4⟩:=hf
  cases k with
  |zero=>
   have aw:=Fi h1;have aD:=bR h2;have cj:t.2=t'.2:=by simpa using h3
   have:t=t':=Na aD cj
   subst aw;subst this
   simpa using h
  |succ k=>have:=ag1 h4 k p (by simpa using h);simpa using this
 |_::_,[],h,_,_,_=>by simp[preB]at h
theorem aq4 {c:List A} (h:Az c=true):∃sh off code cap,c=[.rows sh off code cap 1]:=by
 unfold Az at h
 split at h
 ·rename_i sh off code cap k
  have:=bR h
  subst this
  exact⟨sh,off,code,cap,rfl⟩
 ·cases h
def Q4 (ρ bW:Env) (c:List A):Prop:=∀sh off code cap k,c=[.rows sh off code cap k]->off.den bW=off.den ρ/\code.den bW=code.den ρ/\cap.den bW=cap.den ρ
theorem afJ {ρ bW:Env} {c:List A} (h:(cc c||Az c)=true) (hr:Q4 ρ bW c):bM bW c=bM ρ c:=by
 rcases CJ _ _▸h with h|h
 ·rw[oq h,oq h]
 ·obtain⟨sh,off,code,cap,rfl⟩:=aq4 h
  simp only[bM,(hr sh off code cap 1 rfl).2.2]
theorem Mem.sub {ρ bW:Env} {m fj:Nat->Nat} {bl sC:List aE} {w:aC} (h:Mem w0 ρ m bl w) (hs:∀(i:Nat) (p:aE),sC[i]?=some p->p=gd∨(bl[i]?=some p/\(cc p.1||Az p.1)=true/\fj i=m i/\p.1.map (A.den bW fj)=p.1.map (A.den ρ m)/\Q4 ρ bW p.1)):Mem w0 bW fj sC w:=by
 have nQ:bM bW gd.1=0:=by simp[gd,bM]
 refine⟨h.ext,h.jN,h.m6,h.kV,h.gF,h.jB,λi cs t hi ax=>?_,λi sh off code cap kind t hi=>?_,λi j p q hi aK he=>?_⟩
 ·rcases hs i _ hi with h1|⟨h1,_,h3,h4,_⟩
  ·cases h1;simp[cc]at ax
  ·rw[h3,h4];exact h.fT i cs t h1 ax
 ·rcases hs i _ hi with h1|⟨h1,h2,h3,_,h5⟩
  ·cases h1;intro ab;exact absurd rfl ab
  ·obtain⟨aw,aD,cj⟩:=h5 sh off code cap kind rfl
   have:=h.rws i sh off code cap kind t h1
   unfold u0 at this⊢
   rw[aw,aD,cj,h3];exact this
 ·rcases hs i _ hi with h1|⟨h1,h2,h3,_,h5⟩
  ·subst h1;exact .inr (.inr (.inl nQ))
  ·rcases hs j _ aK with g1|⟨g1,g2,g3,_,g5⟩
   ·subst g1;exact .inr (.inr (.inr nQ))
   ·rw[afJ h2 h5,afJ g2 g5]
    exact h.inj i j p q h1 g1 (by rw[<-h3,<-g3];exact he)
theorem cY.jM {n nb:Nat} {ρ:Env} {bl:List aE} (h:cY n nb ρ bl) (N:Nat):cY n nb ρ (Go.ch.jM N 0 bl):=λp hp=>by
 obtain⟨i,hi⟩:=List.mem_iff_getElem?.1 hp
 rcases H8 N 0 bl i p hi with h1|⟨_,_,h3⟩
 ·subst h1
  intro a ha
  simp only[gd,List.mem_singleton]at ha
  subst ha
  exact⟨⟨I.dd _ _,I.dd _ _,I.dd _ _⟩,⟨by simp[I.br],by rw[I.br];exact CI (jR []) (uh (by simp) (λ_ h=>by cases h))⟩,by simp[I.br]⟩
 ·exact h p (e8 h3)
theorem ahr {n nb:Nat} {ρ aa:Env} {c:List A} (b0:∀a∈c,A.ok n nb ρ a) (ha:agree n ρ aa) (back:Bool):cond back (Q4 aa ρ c) (Q4 ρ aa c):=by
 have key:∀sh off code cap k,c=[.rows sh off code cap k]->off.den aa=off.den ρ/\code.den aa=code.den ρ/\cap.den aa=cap.den ρ:=λsh off code cap k hc=>by
  have:=b0 _ (by rw[hc];exact List.mem_singleton.2 rfl)
  obtain⟨⟨h1,h2,h3⟩,_⟩:=this
  exact⟨I.b5 ha h1,I.b5 ha h2,I.b5 ha h3⟩
 cases back with
 |true=>exactλsh off code cap k hc=>by obtain⟨h1,h2,h3⟩:=key sh off code cap k hc;exact⟨h1.symm,h2.symm,h3.symm⟩
 |false=>exact key
theorem aoM {N:Nat} {tm:List V} {bl:List aE} {o:Oper} {a:Act} {w:aC} {v:aV} (ax:PF N tm bl o=true) (h:EV P o a w v):(execOp a.eval o).run P w= .ok (.value v) w:=by
 rcases h with h|⟨f,args,h,_⟩
 ·exact h
 ·exfalso
  have key:∀s:Sem aV,(do pure (nJ (<-s)):Sem Next).run P w= .ok (.enter f args) w->False:=λs hs=>by
   simp only[jg]at hs
   cases hx:s.run P w with
   |ok u w'=>rw[hx]at hs;simp at hs
   |halt x w'=>rw[hx]at hs;simp at hs
  unfold PF at ax
  split at ax
  ·rename_i op t x y u fG;exact key (eqGuard op t x y (a.eval x) (a.eval y) >>= λ_=>binOp op t (a.eval x) (a.eval y)) (by simpa [execOp,fG]using h)
  ·rename_i t x i fG;exact key (Instr.indexAt t (a.eval x) (a.eval i)) (by simpa [execOp,fG]using h)
  ·rename_i t x lo hi ft fG;exact key (ue t (a.eval x) (lo.map a.eval) (hi.map a.eval) (ft.map a.eval)) (by simpa [execOp,fG]using h)
  ·rename_i t p fG;exact key (ss t (a.eval p)) (by simpa [execOp,fG]using h)
  ·cases ax
theorem aoL {tm:List V} {o:Oper} {a:Act} {w:aC} {v:aV} (ax:Ll tm o=true) (h:EV P o a w v):(execOp a.eval o).run P w= .ok (.value v) w:=by
 rcases h with h|⟨f,args,h,_⟩
 ·exact h
 ·exfalso
  have key:∀s:Sem aV,(do pure (nJ (<-s)):Sem Next).run P w= .ok (.enter f args) w->False:=λs hs=>by
   simp only[jg]at hs
   cases hx:s.run P w with
   |ok u w'=>rw[hx]at hs;simp at hs
   |halt x w'=>rw[hx]at hs;simp at hs
  unfold Ll at ax
  split at ax
  ·rename_i t x lo hi ft fG;exact key (ue t (a.eval x) (lo.map a.eval) (hi.map a.eval) (ft.map a.eval)) (by simpa [execOp,fG]using h)
  ·cases ax
theorem aoN {ops:Array Oper} {N:Nat} {tm:List V} {bl:List aE} {o:Oper} {a:Act} {w:aC} {v:aV} (ax:PE N tm bl o=true) (h:EV P o a w v):(execOp a.eval o).run P w= .ok (.value v) w:=by
 rcases h with h|⟨f,args,h,_⟩
 ·exact h
 ·exfalso
  have key:∀s:Sem aV,(do pure (nJ (<-s)):Sem Next).run P w= .ok (.enter f args) w->False:=λs hs=>by
   simp only[jg]at hs
   cases hx:s.run P w with
   |ok u w'=>rw[hx]at hs;simp at hs
   |halt x w'=>rw[hx]at hs;simp at hs
  unfold PE at ax
  split at ax
  ·rename_i x fG;simp[execOp,fG]at h
  ·rename_i x fG;simp[execOp,fG]at h
  ·rename_i x i fG;exact key (Instr.extract (a.eval x) i) (by simpa [execOp,fG]using h)
  ·rename_i s x i fG;exact key (Instr.fieldAt s (a.eval x) i) (by simpa [execOp,fG]using h)
  ·rename_i t p fG;exact key (ss t (a.eval p)) (by simpa [execOp,fG]using h)
  ·rename_i t x lo hi ft fG;exact key (ue t (a.eval x) (lo.map a.eval) (hi.map a.eval) (ft.map a.eval)) (by simpa [execOp,fG]using h)
  ·cases ax
theorem akC {ops:Array Oper} {Q:Exit->Act->aC->Prop} {inl:m1} (c6:h8 S P gl w0 cal) (hg:fA gl w0) (oj:rE S L w0 P inl) (vp:∀c a w,¬Q (.panic c) a w)
 {N jt:Nat} {qh:List aE} {cu:Env} {m0:Nat->Nat} (cT:N<=qh.length) (rO:cY jt qh.length cu qh):∀(f:Nat) {listed:Array Bool} {n:Nat} {ρ:Env} {m:Nat->Nat} {tm:List V} {bl:List aE} {a:Act} {w:aC} {G:e2} {k:iI},
 R w0 n ρ m tm bl a w->eX jt qh.length cu m0 n bl.length ρ m->(∀(k:Nat) (p:aE),(jM N 0 qh)[k]?=some p->(jM N 0 bl)[k]?=some p)->(Bo P gl cal inl ops N (jM N 0 qh) f listed n tm bl k).holds S L G ρ->nL S L w0 k n bl.length ρ m G (Q .normal)->wpAnyH P .any ops Q (λw=>Mem w0 cu m0 (jM N 0 qh) w) f listed a w:=by
 have down:∀{n:Nat} {ρ:Env} {m:Nat->Nat} {bl:List aE} {w:aC},eX jt qh.length cu m0 n bl.length ρ m->(∀(k:Nat) (p:aE),(jM N 0 qh)[k]?=some p->(jM N 0 bl)[k]?=some p)->Mem w0 ρ m bl w->Mem w0 cu m0 (jM N 0 qh) w:=λhl hp hm=>by
  refine hm.sub λi p hi=>?_
  rcases H8 N 0 qh i p hi with h1|⟨h1,h2,h3⟩
  ·exact .inl h1
  ·refine .inr ?_
   rcases H8 N 0 _ i p (hp i p hi)with g1|⟨_,_,g3⟩
   ·subst g1;simp[gd,cc,Az]at h2
   ·exact⟨g3,h2,(hl.hm i (by omega)).symm,(xz (rO p (e8 h3)) hl.ha hl.hm).symm,ahr (rO p (e8 h3)) hl.ha true⟩
 have up:∀{n:Nat} {ρ:Env} {m:Nat->Nat} {bl:List aE} {w:aC},eX jt qh.length cu m0 n bl.length ρ m->(∀(k:Nat) (p:aE),(jM N 0 qh)[k]?=some p->(jM N 0 bl)[k]?=some p)->Mem w0 cu m0 (jM N 0 qh) w->Mem w0 ρ m (jM N 0 bl) w:=λ{n ρ m bl w} hl hp hm=>by
  refine hm.sub λi p hi=>?_
  rcases H8 N 0 bl i p hi with h1|⟨h1,h2,h3⟩
  ·exact .inl h1
  ·refine .inr ?_
   have hlt:i<(jM N 0 qh).length:=by rw[U6];omega
   have ah:=hp i _ (qJ hlt)
   rw[hi]at ah
   have ah:p=(jM N 0 qh)[i]:=jd ah
   have h0:(jM N 0 qh)[i]?=some p:=by rw[qJ hlt,ah]
   rcases H8 N 0 qh i p h0 with g1|⟨_,_,g3⟩
   ·subst g1;simp[gd,cc,Az]at h2
   ·exact⟨h0,h2,hl.hm i (by omega),xz (rO p (e8 g3)) hl.ha hl.hm,ahr (rO p (e8 g3)) hl.ha false⟩
 intro f
 induction f with
 |zero=>
  intro listed n ρ m tm bl a w G k h hl hp ae ab
  unfold Bo at ae
  unfold wpAnyH
  split at ae
  ·rename_i hr
   exact⟨hr,ab n ρ m tm bl G a w (eX.refl _ _ _ _) (fm.refl _ _) h ae⟩
  ·exact ae.elim
 |succ f ih=>
  intro listed n ρ m tm bl a w G k h hl hp ae ab
  unfold Bo at ae
  split at ae
  ·rename_i hr
   exact⟨λ_=>ab n ρ m tm bl G a w (eX.refl _ _ _ _) (fm.refl _ _) h ae,λi hi=>by rw[hr]at hi;cases hi⟩
  ·rename_i l pQ
   split at ae
   ·rename_i i hi
    unfold aeC at hi
    cases xm:RF ops with
    |false=>rw[xm]at hi;cases hi
    |true=>
    rw[xm,cond_true]at hi
    have ec:=RG hi
    have BL:=Ha hi
    simp only[bw]at ec
    cases ax:ops[i]? with
    |none=>simp only[ax]at ae;exact ae.elim
    |some o=>
     simp only[ax]at ae
     have kU:PE N tm bl o=true∨PF N tm bl o=true∨Ll tm o=true:=by
      have:=ec.1;simp only[ax,CJ,bw]at this
      rcases this with(h|h)|h
      ·exact .inl h
      ·exact .inr h.2
      ·exact .inr (.inr h.2)
     obtain⟨cC,tP,ja⟩:=KW h.t ae
     have h:R w0 n ρ m cC bl a w:=⟨tP,h.d,h.b,h.bF⟩
     have hK:=down hl hp h.bF
     rcases ja with⟨hw,ae⟩|⟨hw,ae⟩
     ·have hlen:(jM N 0 bl).length=bl.length:=U6 N 0 bl
      obtain⟨aa,n',v,At,oi,⟨hv,val,hr,ah⟩,Iu⟩:=X6 (L:=L) (bl:=jM N 0 bl) c6 (by rw[hlen];exact h.b.jM N) hg ⟨w,up hl hp hK⟩ (by rw[hlen];exact tP) o G _ ae
      rw[hlen]at hv
      have hy:YieldsIf P ops (λw=>Mem w0 cu m0 (jM N 0 qh) w) o val a:= .inl ⟨hw,λw' xr=>kU.elim (λhf=>aoN (ops:=ops) hf (ah w' (up hl hp xr))) (λhf=>hf.elim (λhf=>aoM hf (ah w' (up hl hp xr))) (λhf=>aoL hf (ah w' (up hl hp xr))))⟩
      refine wpAnyH_take ax xm ec.2 (by simpa using BL) (λc a w hp=>absurd hp (vp _ _ _)) hy hK ?_
      have hlt:eX n bl.length ρ m n' bl.length aa m:=⟨At,oi,bO _,λ_ _=>rfl⟩
      exact ih ⟨eY.put (tP.ext oi At (bO _) (λ_ _=>rfl)) o.dst hv hr,by rw[put_defers];exact h.d,h.b.ext oi At (bO _),h.bF.sP h.b oi⟩ (hl.trans hlt) hp Iu (ab.later hlt (fm.refl _ _))
     ·refine wpAnyH_take ax xm ec.2 (by simpa using BL) (λc a w hp=>absurd hp (vp _ _ _)) (.inr ⟨hw,rfl⟩) hK ?_
      exact ih (h.skip o.dst) hl hp ae ab
   split at ae
   ·rename_i i hi
    unfold agG at hi
    cases xm:RF ops with
    |false=>rw[xm]at hi;cases hi
    |true=>
    rw[xm,cond_true]at hi
    have ec:=RG hi
    have BL:=Ha hi
    simp only[bw]at ec
    cases ax:ops[i]? with
    |none=>simp only[ax]at ae;exact ae.elim
    |some o=>
     simp only[ax]at ae
     obtain⟨cC,tP,ja⟩:=KW h.t ae
     have h:R w0 n ρ m cC bl a w:=⟨tP,h.d,h.b,h.bF⟩
     have hK:=down hl hp h.bF
     rcases ja with⟨_,ae⟩|⟨hw,ae⟩
     ·exact ae.elim
     ·refine wpAnyH_take ax xm ec.2 (by simpa using BL) (λc a w hp=>absurd hp (vp _ _ _)) (.inr ⟨hw,rfl⟩) hK ?_
      exact ih (h.skip o.dst) hl hp ae ab
   unfold wpAnyH
   refine⟨λhr=>absurd hr pQ,λi hi=>?_⟩
   have ec:=allT_holds ae i hi
   unfold wpOp
   cases ax:ops[i]? with
   |none=>simp only[ax]at ec;exact ec.elim
   |some o=>
    simp only[ax]at ec⊢
    obtain⟨cC,tP,ja⟩:=KW h.t ec
    have h:R w0 n ρ m cC bl a w:=⟨tP,h.d,h.b,h.bF⟩
    rcases ja with⟨hw,Ls⟩|⟨hw,Ls⟩
    ·rw[if_pos hw]
     refine .inl (ah4 c6 hg oj h Ls λn' aa m' cC bq eP du w' h1 h2 h3 h4=>?_)
     cases hf:preB (jM N 0 qh) (jM N 0 bq)with
     |false=>rw[hf]at h4;exact h4.elim
     |true=>
      rw[hf,cond_true]at h4
      have DW:=hl.trans h1
      have hf:=ag1 hf
      exact⟨down DW hf h3.bF,ih h3 DW hf h4 (ab.later h1 h2)⟩
    ·rw[if_neg (by simp[hw])]
     exact⟨down hl hp h.bF,ih (h.skip o.dst) hl hp Ls ab⟩
theorem HM {inl:m1} {li:Nat->Option gB} {rounds:Nat} (hm:P.follows .mixedOrders=true) (c6:h8 S P gl w0 cal) (hg:fA gl w0) (oj:rE S L w0 P inl):∀(c:Code),SA rd S L w0 P c (qj P gl cal inl li rounds c):=by
 intro c
 induction c with
 |skip=>intro hd n tm bl k G ρ m a w Q h ae ab;exact wpIn_skip (ab .normal n ρ m tm bl G a w (eX.refl _ _ _ _) (fm.refl _ _) h ae)
 |exit id=>intro hd n tm bl k G ρ m a w Q h ae ab;exact wpIn_exit (ab (.exit id) n ρ m tm bl G a w (eX.refl _ _ _ _) (fm.refl _ _) h ae)
 |ret=>intro hd n tm bl k G ρ m a w Q h ae ab;exact wpIn_ret (ab .ret n ρ m tm bl G a w (eX.refl _ _ _ _) (fm.refl _ _) h ae)
 |region id ops draw=>
  intro hd n tm bl k G ρ m a w Q h ae ab
  have Vq:nL S L w0 (k .normal) n bl.length ρ m G (ub Q .normal):=λn' aa m' cC bq eP du w' h1 h2 h3 h4=>ab .normal n' aa m' cC bq eP du w' h1 h2 h3 h4
  cases draw with
  |false=>
   simp only[qj,cond_false]at ae
   refine av4 hd ?_
   exact QG c6 hg oj ops.toList h ae Vq
  |true=>
   simp only[qj,cond_true]at ae
   cases aA:(Jy ops (Lj P cal ops)&&Ry P (ops.toList.take (Lj P cal ops)))with
   |false=>
    simp only[aA,cond_false]at ae
    cases hsz:cK (ops.toList.filter λo=> !W7 o).length 12 with
    |false=>simp only[hsz,cond_false]at ae;exact ae.elim
    |true=>
     simp only[hsz,cond_true]at ae
     have vr:R w0 n ρ m tm bl a w.drew:=⟨h.t,h.d,h.b,h.bF.grow (RH (sT w))⟩
     refine ahc hm hd (wpAny_of_held (S:=λw=>Mem w0 ρ m (jM (Lk ops tm bl) 0 bl) w) _ _ _ _ ?_)
     exact akC c6 hg oj (λc a w h=>h) (N:=Lk ops tm bl) (by unfold Lk;cases W9 ops<;>cases ops.toList.any Qc<;>simp<;>exact Nat.min_le_left _ _) h.b ops.size vr (eX.refl _ _ _ _) (λ_ _ h=>h) ae Vq
   |true=>
    simp only[aA,cond_true]at ae
    simp only[bw]at aA
    have hle:Lj P cal ops<=ops.toList.length:=by
     have h1:=aA.1
     simp only[Jy,bw]at h1
     simpa using fP h1.1.1.2
    generalize Lj P cal ops=pQ at*
    have vr:R w0 n ρ m tm bl a w.drew:=⟨h.t,h.d,h.b,h.bF.grow (RH (sT w))⟩
    have key:=azs (P:=P) (Q:=ub Q) (a:=a) (w:=w) (l:=ops.toList) (C:=λw'=>Mem w0 ρ m bl w') pQ (JF P ops) hm (by rw[toL];exact aA.1) (λw' xr=>vr.bF.grow xr) (λj o aK ax fr b w'=>by
     have:=aAU (l:=ops.toList) (P:=P) aA.2 aK ax fr b w'
     rw[toL]at this;exact this) (by
     rw[toL]
     refine PD c6 hg h.b ⟨_,h.bF⟩ _ (bO _) (agree.refl _ _) h.t h.d ae λn' aa cC u9 h1 h2 h3 h4 h5 gL b w' BH xh Lz=>?_
     have hl:eX n bl.length ρ m n' bl.length aa m:=⟨h1,h2,bO _,λ_ _=>rfl⟩
     have an2:=(vr.bF.grow xh).sP h.b h2
     refine TL (S:=S) (L:=L) (w0:=w0) (P:=P) (K:=λb w'=>wpList P ops (calm (ub Q)) (ops.toList.drop pQ) b w') BH Lz vr.bF.ext.size vr.bF.gF (ops.toList.take pQ) 0 (λj aK=>?_) (by simp;exact EM (by simpa using hle)) ⟨h3,h4,h.b.ext h2 h1 (bO _),an2⟩ (λot p q4 hp=> .inl ?_) rfl (λt=>⟨λ⟨j,o,aK,_⟩=>by omega,λ_=>rfl⟩) h5 (λIU ys aGa aie aCV SG aar sR k1 k2 k3 k4=>QG c6 hg oj _ k3 k4 ((Vq.later hl (fm.refl _ _)).later k1 k2)) h4
     ·have ao3:j<pQ:=by simp at aK;omega
      rw[tw,if_pos ao3];simp
     ·rw[xw (h.b _ (e8 q4)) h2]at hp
      exact vr.bF.lt q4 hp)
    rw[toL]at key
    exact ahc hm hd key
 |seq x y aqU P7=>
  intro hd n tm bl k G ρ m a w Q h ae ab
  have DT:rd=none∨pV x=true:=hd.imp id λh=>by simp only[pV,bw]at h;exact h.1
  have yP:rd=none∨pV y=true:=hd.imp id λh=>by simp only[pV,bw]at h;exact h.2
  refine wpIn_seq (aqU DT n tm bl _ G ρ m a w _ h ae λx n' aa m' cC bq eP du w' h1 h2 h3 h4=>?_)
  cases x with
  |normal=>exact P7 yP n' cC bq k eP aa m' du w' Q h3 h4 (ab.later h1 h2)
  |exit id=>exact ab (.exit id) n' aa m' cC bq eP du w' h1 h2 h3 h4
  |ret=>exact ab .ret n' aa m' cC bq eP du w' h1 h2 h3 h4
 |cond x y z P7 afw=>
  intro hd n tm bl k G ρ m a w Q h ae ab
  simp only[qj]at ae
  have hx:=cM h.t x
  split at ae
  ·rename_i b hb
   rw[hb]at hx
   have dp:a.eval x= .bool (b.den ρ):=hx.2
   have DT:rd=none∨pV y=true:=hd.imp id λh=>by simp only[pV,bw]at h;exact h.1
   have yP:rd=none∨pV z=true:=hd.imp id λh=>by simp only[pV,bw]at h;exact h.2
   refine wpIn_cond dp ?_
   split at ae
   ·rename_i v
    cases v with
    |true=>simp only[cond_true]at ae;exact P7 DT n tm bl k G ρ m a w Q h ae ab
    |false=>simp only[cond_false]at ae;exact afw yP n tm bl k G ρ m a w Q h ae ab
   ·simp only[T.holds]at ae
    cases hd:bC.den ρ b with
    |true=>exact P7 DT n _ bl k G ρ m a w Q ⟨Jx hd h.t,h.d,h.b,h.bF⟩ (ae.1 (by simpa using hd)) ab
    |false=>exact afw yP n _ bl k G ρ m a w Q ⟨Jx hd h.t,h.d,h.b,h.bF⟩ (ae.2 (by simpa using hd)) ab
  ·exact ae.elim
 |block id x ih=>
  intro hd n tm bl k G ρ m a w Q h ae ab
  refine wpIn_block (ih hd n tm bl _ G ρ m a w _ h ae λx n' aa m' cC bq eP du w' h1 h2 h3 h4=>?_)
  cases x with
  |normal=>exact ab .normal n' aa m' cC bq eP du w' h1 h2 h3 h4
  |ret=>exact ab .ret n' aa m' cC bq eP du w' h1 h2 h3 h4
  |exit D3=>
   simp only at h4
   simp only[X.to,Exit.inBlock]
   cases hb:aM D3 id with
   |true=>
    simp only[hb,cond_true]at h4
    rw[if_pos (bR hb)]
    exact ab .normal n' aa m' cC bq eP du w' h1 h2 h3 h4
   |false=>
    simp only[hb,cond_false]at h4
    rw[if_neg (λe=>by subst e;rw[show aM D3 D3=true from G9 D3]at hb;cases hb)]
    exact ab (.exit D3) n' aa m' cC bq eP du w' h1 h2 h3 h4
 |loop x ih=>
  intro hd n tm bl k G ρ m a w Q h ae ab
  simp only[qj]at ae
  split at ae
  ·exact arX (c:=x) hd ih h ae ab
  ·exact wpIn_loop_rounds rounds (ahl (c:=x) hd ih rounds h ae ab)
 |_=>intro hd n tm bl k G ρ m a w Q h ae ab;exact ae.elim
def GQ (a:Act):ResultVar->Sem aV
 | .tmp t=>RI (a.tmps.getD t undef)
 | .cell x t=>do loadVar t (<-asAddr (a.tmps.getD x undef))
theorem awb {n:Nat} {ρ:Env} {m:Nat->Nat} {bl:List aE} {tm:List V} {a:Act} {w:aC} {r:ResultVar} {u:W} (hg:fA gl w0) (h:R w0 n ρ m tm bl a w) (hr:MP P gl bl tm r=some u):
 u.ok n bl.length ρ/\(GQ a r).run P w= .ok (u.den ρ m) w:=by
 cases r with
 |tmp t=>
  simp only[MP]at hr
  cases aA:tm[t]? with
  |none=>simp[aA]at hr
  |some v=>
   obtain⟨h1,x,h2,h3⟩:=h.t.2 t v aA
   simp only[aA]at hr
   cases v with
   |w ayb=>
    simp only[bb]at hr
    subst hr
    refine⟨h1,?_⟩
    have:a.tmps.getD t undef=ayb.den ρ m:=by simp[h2];exact h3
    simp only[GQ,this];rfl
   |_=>simp at hr
 |cell x t=>
  simp only[MP]at hr
  cases aA:tm[x]? with
  |none=>simp[aA]at hr
  |some v=>
   obtain⟨h1,y,h2,h3⟩:=h.t.2 x v aA
   simp only[aA]at hr
   cases v with
   |iU l=>simp at hr
   |any=>simp at hr
   |sN _ _ _=>simp at hr
   |s6 _ _=>simp at hr
   |w q=>
    cases q with
    |agg l=>simp at hr
    |one p=>
     simp only at hr
     have hy:a.tmps.getD x undef=p.den ρ m:=by simp[h2];exact h3
     cases hc:HK bl gl p with
     |none=>simp[hc]at hr
     |some cs=>
      obtain⟨g,o,hp,b0,hcell⟩:=Ul h.bF h.b hg hc
      simp only[GQ,hy,hp]
      cases rN:kM P t with
      |none=>simp[hc,rN]at hr
      |some b=>
       cases b with
       |true=>
        cases hs:fO P t with
        |none=>simp[hc,rN,hs]at hr
        |some k=>
         simp only[hc,rN,hs]at hr
         cases ab:cK k cs.length with
         |false=>simp[ab]at hr
         |true=>
          simp only[ab,cond_true,bb]at hr
          subst hr
          have ab:=fP ab
          refine⟨λa h=>b0 a (oc h),?_⟩
          have hl:=run_loadCells_list (P:=P) w ⟨g,o,none⟩ ((cs.take k).map (A.den ρ m)) λj v aK=>by
           rw[kF]
           rw[sr]at aK
           cases ah:(cs.take k)[j]? with
           |none=>simp[ah]at aK
           |some a=>
            simp only[ah,zA,bb]at aK
            subst aK
            refine hcell j a ?_
            rw[tw]at ah
            split at ah
            ·exact ah
            ·cases ah
          simp only[qM,su,EM ab]at hl
          simp[asAddr,loadVar,tW rN,ki hs,hl,W.den]
       |false=>
        cases cs with
        |nil=>simp[hc,rN]at hr
        |cons z r=>
         simp only[hc,rN,bb]at hr
         subst hr
         refine⟨b0 z (by simp),?_⟩
         have:=hcell 0 z rfl
         simp only[pE]at this
         simp[asAddr,loadVar,tW rN,this,W.den]
theorem ahg {n:Nat} {ρ:Env} {m:Nat->Nat} {bl:List aE} {tm:List V} {a:Act} {w:aC} (hg:fA gl w0) (h:R w0 n ρ m tm bl a w):∀{rs:List ResultVar} {l:List W},GR P gl bl tm rs=some l->
 (∀u∈l,W.ok n bl.length ρ u)/\(rs.mapM (m:=Sem) (GQ a)).run P w= .ok (l.map (W.den ρ m)) w
 |[],l,hr=>by simp[GR]at hr;subst hr;exact⟨by simp,by simp⟩
 |r::s,l,hr=>by
  simp only[GR]at hr
  cases h1:MP P gl bl tm r with
  |none=>simp[h1]at hr
  |some u=>
   cases h2:GR P gl bl tm s with
   |none=>simp[h1,h2]at hr
   |some l'=>
    simp only[h1,h2,bb]at hr
    subst hr
    have aw:=awb hg h h1
    have aD:=ahg hg h h2
    refine⟨λx hx=>by rcases List.mem_cons.1 hx with rfl|hx;exact aw.1;exact aD.1 x hx,?_⟩
    rw[List.mapM_cons,jg]
    simp only[aw.2,aD.2,jv,jg,kk,c5]
theorem Ya {fn:Func} {n:Nat} {ρ:Env} {m:Nat->Nat} {bl:List aE} {tm:List V} {a:Act} {w:aC} {k:RK} {G:e2} (hg:fA gl w0) (h:R w0 n ρ m tm bl a w) (ae:(MN P gl fn n tm bl k).holds S L G ρ):
 ∃v val,V.ok n bl.length ρ v/\v.rel ρ m val/\(results fn a.tmps).run P w= .ok val w/\(k n v bl).holds S L G ρ:=by
 unfold MN at ae
 cases hr:GR P gl bl tm fn.results.toList with
 |none=>
  simp only[hr]at ae
  cases ax:Xx tm fn.results.toList with
  |none=>simp[ax,T.holds]at ae
  |some v=>
   simp only[ax]at ae
   obtain⟨t,e,hv⟩:∃t,fn.results.toList=[.tmp t]/\tm[t]?=some v:=by
    unfold Xx at ax
    split at ax
    ·rename_i t he
     refine⟨t,he,?_⟩
     split at ax<;>first|(cases ax;assumption)|cases ax
    ·cases ax
   obtain⟨h1,x,h2,h3⟩:=h.t.2 t v hv
   refine⟨v,x,h1,h3,?_,ae⟩
   have qX:fn.results=#[.tmp t]:=by rw[<-lN (xs:=fn.results),e]
   have ex:a.tmps.getD t undef=x:=by simp[h2]
   have e:results fn a.tmps=(do let vs<-fn.results.mapM (GQ a);RI (if h:vs.size=1 then vs[0]else .tuple vs)):=by
    unfold results
    congr 1
   rw[e,qX,aA9]
   simp[jg,Sem.run_map,jv,GQ,h2]
 |some l=>
  obtain⟨h1,h2⟩:=ahg hg h hr
  have jC:(results fn a.tmps).run P w= .ok (if h:(l.map (W.den ρ m)).toArray.size=1 then(l.map (W.den ρ m)).toArray[0]else .tuple (l.map (W.den ρ m)).toArray) w:=by
   have e:results fn a.tmps=(do let vs<-fn.results.mapM (GQ a);RI (if h:vs.size=1 then vs[0]else .tuple vs)):=by
    unfold results
    congr 1
   rw[e,aA9]
   simp only[jg,Sem.run_map,jv,h2,kk]
  simp only[hr]at ae
  split at ae
  ·rename_i u heq
   have heq:=jd heq
   subst heq
   exact⟨.w u,_,h1 u (by simp),rfl,by rw[jC];simp,ae⟩
  ·rename_i l' c7 heq
   have heq:=jd heq
   subst heq
   refine⟨.iU l,_,h1,rfl,?_,ae⟩
   rw[jC,dif_neg]
   intro hs
   simp at hs
   match l,hs,c7 with
   |[u],_,c7=>exact c7 u rfl
  ·rename_i heq;cases heq
theorem S2 {ρ:Env} {m:Nat->Nat}:∀{vs:List V} {xs:List aV},fb ρ m vs xs->vs.length=xs.length
 |[],[],_=>rfl
 |_::_,_::_,h=>by simp[S2 h.2]
 |[],_::_,h=>h.elim
 |_::_,[],h=>h.elim
theorem S0 {n nb:Nat} {ρ:Env} {m:Nat->Nat} (k:Nat):∀{vs:List V} {xs:List aV},(∀v∈vs,V.ok n nb ρ v)->fb ρ m vs xs->EU n nb ρ m (vs++Jk k) (xs++e9 k undef)
 |[],[],_,_=>by
  simp only[gp]
  induction k with
  |zero=>trivial
  |succ k ih=>exact⟨by intro x hx;simp at hx,rfl,ih⟩
 |v::r,x::s,h,hr=>⟨h v (by simp),hr.1,S0 k (λu hu=>h u (eB _ hu)) hr.2⟩
 |[],_::_,_,h=>h.elim
 |_::_,[],_,h=>h.elim
theorem ab9 (sH:w0.ds=[]) {li:dt->Nat->Option gB} {rounds:Nat} {inl:m1} (hm:P.follows .mixedOrders=true) (c6:h8 S P gl w0 cal) (hg:fA gl w0) (ih:rE S L w0 P inl):rE S L w0 P (N8 P gl cal inl li rounds):=by
 intro f n vs bl k G ρ m w xs R' hb nS kL hrel ae ab
 unfold N8 at ae
 cases hf:P.funcs[f]? with
 |none=>simp[hf,T.holds]at ae
 |some fn=>
  cases BE:fn.body with
  |none=>simp[hf,BE,T.holds]at ae
  |some c=>
   simp only[hf,BE]at ae
   cases hc:(!(fn.name== "runtime.NumGoroutine")&&cK vs.length fn.ntmps)with
   |false=>simp[hc,T.holds]at ae
   |true=>
    simp only[hc,cond_true]at ae
    simp only[bw,Bool.not_eq_true']at hc
    have hlen:=S2 hrel
    refine⟨?_,calls_of_wp hf BE ?_⟩
    ·have h1:¬fn.name= "runtime.NumGoroutine" :=by have:=hc.1;simpa using this
     simp[callFunc,hf,BE,h1]
    ·have hR:R w0 n ρ m (vs++Jk (fn.ntmps-vs.length)) bl {tmps:=xs.toArray++Bb (fn.ntmps-xs.toArray.size) undef,defers:=[]} w:=by
      refine⟨?_,sH.symm,hb,nS⟩
      have:=NS (S0 (fn.ntmps-vs.length) kL hrel)
      have e:(xs++e9 (fn.ntmps-vs.length) undef).toArray=xs.toArray++Bb (fn.ntmps-xs.toArray.size) undef:=by
       simp[hlen]
      rw[e]at this
      exact this
     refine wpIn_wide.1 (HM (rd:=none) hm c6 hg ih c (.inl rfl) n _ bl _ G ρ m _ w _ hR ae λx n' aa m' cC bq eP du w' h1 h2 h3 h4=>?_)
     cases x with
     |exit id=>exact h4.elim
     |normal=>
      obtain⟨v,val,cz,cw,dc,fC⟩:=Ya hg h3 h4
      exact⟨h3.d.trans sH,val,dc,ab n' v bq eP aa m' w' val h1 h2 cz cw h3.b h3.bF fC⟩
     |ret=>
      obtain⟨v,val,cz,cw,dc,fC⟩:=Ya hg h3 h4
      exact⟨h3.d.trans sH,val,dc,ab n' v bq eP aa m' w' val h1 h2 cz cw h3.b h3.bF fC⟩
theorem Uf (sH:w0.ds=[]) {li:dt->Nat->Option gB} {rounds:Nat} (hm:P.follows .mixedOrders=true) (c6:h8 S P gl w0 cal) (hg:fA gl w0):∀d,rE S L w0 P (Kp P gl cal li rounds d)
 |0=>λf n vs bl k G ρ m w xs R' _ _ _ _ ae _=>ae.elim
 |d+1=>ab9 sH hm c6 hg (Uf sH hm c6 hg d)
def wL (S:Nat->List Int->List Int->Prop) (L:V->Env->Prop) (w0:eG) (P:bV) (bc:qO):Prop:=
 ∀f g,bc f=some g->∀n vs bl k G ρ m w xs R',cY n (qa bl) ρ bl->Mem w0 ρ m bl w->(∀v∈vs,V.ok n bl.length ρ v)->fb ρ m vs xs->(g n vs bl k).holds S L G ρ->EY S L w0 k n bl.length ρ m G R'->
  (callFunc f xs.toArray).run P w= .ok (.enter f xs.toArray) w/\oD P f xs.toArray w R'
theorem atG {bc:qO} {inl:m1} (oN:wL S L w0 P bc) (h:rE S L w0 P inl):rE S L w0 P (Xz bc inl):=by
 intro f n vs bl k G ρ m w xs R' h1 h2 h3 h4 h5 h6
 unfold Xz at h5
 cases hf:bc f with
 |none=>rw[hf]at h5;exact h f n vs bl k G ρ m w xs R' h1 h2 h3 h4 h5 h6
 |some g=>rw[hf]at h5;exact oN f g hf n vs bl k G ρ m w xs R' h1 h2 h3 h4 h5 h6
theorem OQ (sH:w0.ds=[]) {bc:qO} {li:dt->Nat->Option gB} {rounds:Nat} (hm:P.follows .mixedOrders=true) (c6:h8 S P gl w0 cal) (hg:fA gl w0) (oN:wL S L w0 P bc):∀d,rE S L w0 P (HJ bc P gl cal li rounds d)
 |0=>λf n vs bl k G ρ m w xs R' _ _ _ _ ae _=>ae.elim
 |d+1=>ab9 sH hm c6 hg (atG oN (OQ sH hm c6 hg oN d))
theorem Mem.extends {b w w':aC} {ρ:Env} {m:Nat->Nat} {bl:List aE} (h:Mem ⟨b,w,λ_=>False,λ_=>False,[]⟩ ρ m bl w'):w.Extends w':=by
 have tG:∀i:Nat,i<w.heap.size->w'.heap[i]?=w.heap[i]?:=λi hi=>h.jB i hi id
 exact⟨h.jN,h.m6,h.kV,h.gF,λa ha=>by simp only[o3,tG a.block ha],λa ha=>by simp only[CK,tG a.block ha],tG⟩
theorem alo {b w:aC} {li:dt->Nat->Option gB} {rounds d:Nat} (hm:P.follows .mixedOrders=true) (c6:h8 S P gl ⟨b,w,λ_=>False,λ_=>False,[]⟩ cal) (hg:fA gl ⟨b,w,λ_=>False,λ_=>False,[]⟩) (f:dt) (n:Nat) (vs:List V) (ρ:Env) (xs:List aV) (he:b.Extends w)
 (kL:∀v∈vs,V.ok n 0 ρ v) (hrel:fb ρ (λ_=>0) vs xs) (ae:(Kp P gl cal li rounds d f n vs [] λn' v _=> .leaf v).holds S (λv aa=>L v aa) (λ_ _=>False) ρ):
 oD P f xs.toArray w λe w'=>∃v aa m val nb,e= .returned val/\v.rel aa m val/\(∃n',V.ok n' nb aa v)/\L v aa/\w.Extends w':=by
 have nS:Mem ⟨b,w,λ_=>False,λ_=>False,[]⟩ ρ (λ_=>0) [] w:=⟨he,rfl,rfl,rfl,bO _,λ_ _ _=>rfl,λi cs t h=>by simp at h,λi sh off code cap kind t h=>by simp at h,λi j p q h=>by simp at h⟩
 refine(Uf rfl (L:=L) (li:=li) (rounds:=rounds) hm c6 hg d f n vs [] (λn' v _=> .leaf v) (λ_ _=>False) ρ (λ_=>0) w xs _ (λp hp=>by simp at hp) nS kL hrel ae ?_).2
 intro n' v bq eP aa m' w' val h1 h2 h3 h4 h5 h6 h7
 exact⟨v,aa,m',val,_,rfl,h4,⟨n',h3⟩,h7,h6.extends⟩
end
end Go.ch
namespace Go.ch
open M
def aN.sym (s:Nat):aN->A
 |int k lo hi=> .int k ⟨.var s,lo,hi⟩
 |str=> .str (.var s)
 |bool=> .bool (.eq (.var s) (.const 1))
inductive D where
 |str
 |int (k:dO) (lo hi:Int)
 |bool
 |agg (k:dO) (n:Nat) (lo hi:Int)
 |mix (l:List aN)
 |ze (l:List UInt8)
 |ph (k:dO) (c:Int)
def au (lo hi:Int):Nat->List (Int×Int)
 |0=>[]
 |n+1=>(lo,hi)::au lo hi n
noncomputable def D.bds:D->List (Int×Int)
 |str=>[(0,qR)]
 |int _ lo hi=>[(lo,hi)]
 |bool=>[(0,1)]
 |agg _ n lo hi=>au lo hi n
 |mix l=>l.map aN.ga
 |ze _=>[]
 |ph .. =>[]
def D.num:D->Nat
 |str=>1
 |int .. =>1
 |bool=>1
 |agg _ n _ _=>n
 |mix l=>l.length
 |ze _=>0
 |ph .. =>0
def D.val:D->List Int->aV
 |str,zs=> .string (dY (bx (zs.getD 0 0)))
 |int k _ _,zs=> .int k (zs.getD 0 0)
 |bool,zs=> .bool (decide (zs.getD 0 0=1))
 |agg k n _ _,zs=> .agg ((zs.take n).map (.int k)).toArray
 |mix l,zs=> .agg (uW aN.val l zs).toArray
 |ze l,_=> .string (dY (xv l))
 |ph k c,_=> .int k c
def vZ (k:dO) (lo hi:Int):Nat->Nat->List A
 |_,0=>[]
 |s,n+1=> .int k ⟨.var s,lo,hi⟩::vZ k lo hi (s+1) n
def IS:Nat->List aN->List A
 |_,[]=>[]
 |s,c::r=>c.sym s::IS (s+1) r
def D.sym (s:Nat):D->W
 |str=> .one (.str (.var s))
 |int k lo hi=> .one (.int k ⟨.var s,lo,hi⟩)
 |bool=> .one (.bool (.eq (.var s) (.const 1)))
 |agg k n lo hi=> .agg (vZ k lo hi s n)
 |mix l=> .agg (IS s l)
 |ze l=> .one (.str (.const (j7 (xv l))))
 |ph k c=> .one (.int k (bQ.const c))
noncomputable def bk:List D->List (Int×Int)
 |[]=>[]
 |d::r=>d.bds++bk r
def p5:List D->List Int->List aV
 |[],_=>[]
 |d::r,zs=>d.val zs::p5 r (zs.drop d.num)
def uM:Nat->List D->List W
 |_,[]=>[]
 |s,d::r=>d.sym s::uM (s+d.num) r
theorem e7:∀{b:List (Int×Int)} {l:List Int},af b l->l.length=b.length
 |[],[],_=>rfl
 |_::_,_::_,h=>by simp[e7 h.2.2]
 |[],_::_,h=>h.elim
 |_::_,[],h=>h.elim
theorem GP (lo hi:Int):∀n,(au lo hi n).length=n
 |0=>rfl
 |n+1=>by simp[au,GP lo hi n]
theorem D.Kf (d:D):d.bds.length=d.num:=by cases d<;>simp[D.bds,D.num,GP]
theorem Ax:∀{b b':List (Int×Int)} {l:List Int},af (b++b') l->af b (l.take b.length)/\af b' (l.drop b.length)
 |[],_,_,h=>⟨trivial,h⟩
 |_::_,_,_::_,h=>by
  have ih:=Ax h.2.2
  exact⟨⟨h.1,h.2.1,ih.1⟩,ih.2⟩
 |_::_,_,[],h=>h.elim
def jT (ρ:Env) (s:Nat) (zs:List Int):Prop:=∀j,j<zs.length->ρ (s+j)=zs.getD j 0
theorem jT.bL (ρ:Env) (s:Nat) (zs:List Int):jT (bL ρ s zs) s zs:=λj aK=>JB zs s ρ j aK
theorem jT.tail {ρ:Env} {s:Nat} {z:Int} {zs:List Int} (h:jT ρ s (z::zs)):ρ s=z/\jT ρ (s+1) zs:=by
 refine⟨by simpa using h 0 (by simp),λj aK=>?_⟩
 have:=h (j+1) (by simpa using aK)
 rw[show s+1+j=s+(j+1) by omega,this];simp
theorem jT.drop {ρ:Env} {s:Nat} {zs:List Int} (h:jT ρ s zs) (k:Nat):jT ρ (s+k) (zs.drop k):=λj aK=>by
 have:=h (k+j) (by simp at aK;omega)
 rw[show s+k+j=s+(k+j) by omega,this]
 simp[U]
theorem X9 {ρ:Env} {m:Nat->Nat} {N nb:Nat} {k:dO} {lo hi:Int}:∀(n s:Nat) (zs:List Int),af (au lo hi n) (zs.take n)->jT ρ s zs->s+n<=N->
 (∀a∈vZ k lo hi s n,A.ok N nb ρ a)/\(vZ k lo hi s n).map (A.den ρ m)=(zs.take n).map (.int k)
 |0,s,zs,_,_,_=>by simp[vZ]
 |n+1,s,[],h,_,_=>by simp[au,af]at h
 |n+1,s,z::zs,h,ha,cT=>by
  have aA:=ha.tail
  simp only[au,o4,af]at h
  obtain⟨h1,h2⟩:=X9 (m:=m) (nb:=nb) (k:=k) (N:=N) n (s+1) zs h.2.2 aA.2 (by omega)
  refine⟨λa hm=>?_,by simp only[vZ,c5,A.den,I.cS,aA.1,h2,o4]⟩
  rcases List.mem_cons.1 hm with rfl|hm
  ·exact⟨I.fW (by omega),by simp only[I.cS,aA.1];exact h.1,by simp only[I.cS,aA.1];exact h.2.1⟩
  ·exact h1 a hm
theorem aN.MZ {ρ:Env} {m:Nat->Nat} {N nb:Nat} (c:aN) {s:Nat} {z:Int} (h0:c.ga.1<=z) (h1:z<=c.ga.2) (hz:ρ s=z) (cT:s<N):(c.sym s).ok N nb ρ/\(c.sym s).den ρ m=c.val z:=by
 cases c with
 |int k lo hi=>exact⟨⟨I.fW cT,by simp only[I.cS,hz];exact h0,by simp only[I.cS,hz];exact h1⟩,by simp[aN.sym,aN.val,A.den,I.cS,hz]⟩
 |str=>exact⟨⟨I.fW cT,by rw[I.cS,hz];exact h0,by rw[I.cS,hz];exact h1⟩,by simp[aN.sym,aN.val,A.den,I.cS,hz]⟩
 |bool=>exact⟨⟨I.fW cT,I.dd _ _⟩,by simp[aN.sym,aN.val,A.den,bC.den,I.cS,I.br,hz]⟩
theorem aga {ρ:Env} {m:Nat->Nat} {N nb:Nat}:∀(l:List aN) (s:Nat) (zs:List Int),af (l.map aN.ga) (zs.take l.length)->jT ρ s zs->s+l.length<=N->
 (∀a∈IS s l,A.ok N nb ρ a)/\(IS s l).map (A.den ρ m)=uW aN.val l zs
 |[],s,zs,_,_,_=>by simp[IS]
 |_::_,s,[],h,_,_=>by simp[af]at h
 |c::r,s,z::zs,h,ha,cT=>by
  have aA:=ha.tail
  simp only[c5,jS,o4,af]at h
  obtain⟨h1,h2⟩:=aga (m:=m) (nb:=nb) (N:=N) r (s+1) zs h.2.2 aA.2 (by simp at cT;omega)
  have hc:=c.MZ (m:=m) (nb:=nb) (N:=N) h.1 h.2.1 aA.1 (by simp at cT;omega)
  refine⟨λa hm=>?_,by simp only[IS,c5,hc.2,h2,RL]⟩
  rcases List.mem_cons.1 hm with rfl|hm
  ·exact hc.1
  ·exact h1 a hm
theorem D.MZ {ρ:Env} {m:Nat->Nat} {N nb:Nat} (d:D) {s:Nat} {zs:List Int} (h:af d.bds (zs.take d.num)) (ha:jT ρ s zs) (cT:s+d.num<=N):(d.sym s).ok N nb ρ/\(d.sym s).den ρ m=d.val zs:=by
 cases d with
 |str=>
  cases zs with
  |nil=>simp[D.bds,af]at h
  |cons z r=>
   have aA:=ha.tail
   simp only[D.bds,D.num,o4,af]at h
   simp only[D.num]at cT
   exact⟨⟨I.fW (by omega),by rw[I.cS,aA.1];exact h.1,by rw[I.cS,aA.1];exact h.2.1⟩,by simp[D.sym,W.den,A.den,D.val,I.cS,aA.1]⟩
 |int k lo hi=>
  cases zs with
  |nil=>simp[D.bds,af]at h
  |cons z r=>
   have aA:=ha.tail
   simp only[D.bds,D.num,o4,af]at h
   simp only[D.num]at cT
   exact⟨⟨I.fW (by omega),by simp only[I.cS,aA.1];exact h.1,by simp only[I.cS,aA.1];exact h.2.1⟩,by simp[D.sym,W.den,A.den,D.val,I.cS,aA.1]⟩
 |bool=>
  cases zs with
  |nil=>simp[D.bds,af]at h
  |cons z r=>
   have aA:=ha.tail
   simp only[D.num]at cT
   exact⟨⟨I.fW (by omega),I.dd _ _⟩,by simp[D.sym,W.den,A.den,D.val,bC.den,I.cS,I.br,aA.1]⟩
 |agg k n lo hi=>
  have:=X9 (m:=m) (nb:=nb) (k:=k) n s zs h ha cT
  exact⟨this.1,by simp only[D.sym,W.den,D.val,this.2]⟩
 |mix l=>
  have:=aga (m:=m) (nb:=nb) l s zs h ha cT
  exact⟨this.1,by simp only[D.sym,W.den,D.val,this.2]⟩
 |ze l=>exact⟨⟨I.dd _ _,by rw[I.br];exact arp l⟩,by simp[D.sym,W.den,A.den,D.val,I.br,AT]⟩
 |ph k c=>exact⟨bQ.qW _ _ c,by simp[D.sym,W.den,A.den,D.val,bQ.const,I.br]⟩
theorem Rk {ρ:Env} {m:Nat->Nat} {N nb:Nat}:∀(ds:List D) {s:Nat} {zs:List Int},af (bk ds) zs->jT ρ s zs->s+(bk ds).length<=N->(∀u∈uM s ds,W.ok N nb ρ u)/\(uM s ds).map (W.den ρ m)=p5 ds zs
 |[],s,zs,_,_,_=>by simp[uM,p5]
 |d::r,s,zs,h,ha,cT=>by
  have hs:=Ax h
  rw[D.Kf]at hs
  simp only[bk,fQ,D.Kf]at cT
  have h1:=d.MZ (m:=m) (nb:=nb) hs.1 ha (N:=N) (by omega)
  have h2:=Rk (m:=m) (nb:=nb) (N:=N) r hs.2 (ha.drop d.num) (by omega)
  exact⟨λu hu=>by rcases List.mem_cons.1 hu with rfl|hu;exact h1.1;exact h2.1 u hu,by simp[uM,p5,h1.2,h2.2]⟩
def GS (ds:List D) (s:Nat):V:=match uM s ds with|[u]=> .w u|l=> .iU l
def pw (ds:List D) (zs:List Int):aV:=match p5 ds zs with|[x]=>x|l=> .tuple l.toArray
def tD (lo hi:Int) (x:bQ):Bool:=decide (lo<=x.lo)&&decide (x.hi<=hi)
def pa (k:dO) (lo hi:Int):List A->Option (List I)
 |[]=>some []
 | .int bD x::r=>cond (decide (k=bD)&&tD lo hi x) (match pa k lo hi r with|some l=>some (x.l::l)|none=>none) none
 |_::_=>none
def aN.fit:aN->A->Option I
 |int k lo hi,.int bD x=>cond (decide (k=bD)&&tD lo hi x) (some x.l) none
 |str,.str l=>some l
 |bool,.bool (.lit b)=>some (.const (cond b 1 0))
 |_,_=>none
def uv:List aN->List A->Option (List I)
 |[],[]=>some []
 |c::r,a::s=>match c.fit a,uv r s with|some x,some l=>some (x::l)|_,_=>none
 |_,_=>none
def FE:D->V->Option (List I)
 | .int k lo hi,.w (.one (.int bD x))=>cond (decide (k=bD)&&tD lo hi x) (some [x.l]) none
 | .agg k n lo hi,.w (.agg l)=>cond (aM l.length n) (pa k lo hi l) none
 | .mix l,.w (.agg s)=>uv l s
 | .str,.w (.one (.str l))=>some [l]
 | .bool,.w (.one (.bool (.lit b)))=>some [.const (cond b 1 0)]
 | .ze l,.w (.one (.str x))=>match x.eN with|some c=>cond (decide (c=j7 (xv l))) (some []) none|none=>none
 | .ph k c,.w (.one (.int bD x))=>match x.l.eN with|some d=>cond (decide (k=bD)&&decide (d=c)) (some []) none|none=>none
 |_,_=>none
def tE:List D->List V->Option (List I)
 |[],[]=>some []
 |d::r,v::s=>match FE d v,tE r s with|some a,some b=>some (a++b)|_,_=>none
 |_,_=>none
theorem KQ {n:Nat} {ρ:Env} {lo hi:Int} {x:bQ} (h:tD lo hi x=true) (hx:x.ok n ρ):lo<=x.l.den ρ/\x.l.den ρ<=hi:=by
 simp only[tD,bw,decide_eq_true_eq]at h
 have:=hx.2;omega
theorem Pm {n nb:Nat} {ρ:Env} {m:Nat->Nat} {k:dO} {lo hi:Int}:∀{l:List A} {r:List I},pa k lo hi l=some r->(∀a∈l,A.ok n nb ρ a)->r.length=l.length/\af (au lo hi l.length) (r.map (·.den ρ))/\l.map (A.den ρ m)=(r.map (·.den ρ)).map (.int k)
 |[],r,h,_=>by simp[pa]at h;subst h;exact⟨rfl,trivial,rfl⟩
 | .int bD x::s,r,h,b0=>by
  simp only[pa]at h
  cases hc:(decide (k=bD)&&tD lo hi x)with
  |false=>simp[hc]at h
  |true=>
   simp only[hc,cond_true]at h
   simp only[bw,decide_eq_true_eq]at hc
   cases hr:pa k lo hi s with
   |none=>simp[hr]at h
   |some r'=>
    simp only[hr,bb]at h
    subst h
    obtain⟨h1,h2,h3⟩:=Pm (m:=m) hr λa ha=>b0 a (eB _ ha)
    have hx:x.ok n ρ:=b0 (.int bD x) (by simp)
    have hf:=KQ hc.2 hx
    exact⟨by simp[h1],⟨hf.1,hf.2,h2⟩,by simp only[c5,h3,A.den,hc.1]⟩
 | .bool _::_,_,h,_=>by simp[pa]at h
 | .ptr .. ::_,_,h,_=>by simp[pa]at h
 | .rk .. ::_,_,h,_=>by simp[pa]at h
 | .gptr .. ::_,_,h,_=>by simp[pa]at h
 | .slc .. ::_,_,h,_=>by simp[pa]at h
 | .con _::_,_,h,_=>by simp[pa]at h
 | .str _::_,_,h,_=>by simp[pa]at h
theorem aN.amG {n nb:Nat} {ρ:Env} {m:Nat->Nat} {c:aN} {a:A} {l:I} (h:c.fit a=some l) (b0:a.ok n nb ρ):(c.ga.1<=l.den ρ/\l.den ρ<=c.ga.2)/\a.den ρ m=c.val (l.den ρ):=by
 unfold aN.fit at h
 split at h
 ·rename_i k lo hi bD x
  cases hc:(decide (k=bD)&&tD lo hi x)with
  |false=>simp[hc]at h
  |true=>
   simp only[hc,cond_true,bb]at h
   subst h
   simp only[bw,decide_eq_true_eq]at hc
   exact⟨KQ hc.2 b0,by simp only[A.den,aN.val,hc.1]⟩
 ·simp only[bb]at h;subst h
  exact⟨b0.2,rfl⟩
 ·rename_i b
  simp only[bb]at h;subst h
  cases b<;>simp[aN.ga,aN.val,A.den,bC.den,I.br]
 ·cases h
theorem ady {n nb:Nat} {ρ:Env} {m:Nat->Nat}:∀{d:List aN} {l:List A} {r:List I},uv d l=some r->(∀a∈l,A.ok n nb ρ a)->r.length=d.length/\af (d.map aN.ga) (r.map (·.den ρ))/\l.map (A.den ρ m)=uW aN.val d (r.map (·.den ρ))
 |[],[],r,h,_=>by simp[uv]at h;subst h;exact⟨rfl,trivial,rfl⟩
 |c::d,a::s,r,h,b0=>by
  simp only[uv]at h
  cases hx:c.fit a with
  |none=>simp[hx]at h
  |some x=>
   cases hr:uv d s with
   |none=>simp[hx,hr]at h
   |some r'=>
    simp only[hx,hr,bb]at h
    subst h
    obtain⟨h1,h2,h3⟩:=ady (m:=m) hr λa ha=>b0 a (eB _ ha)
    have hf:=aN.amG (m:=m) hx (b0 a (by simp))
    exact⟨by simp[h1],⟨hf.1.1,hf.1.2,h2⟩,by simp only[c5,h3,hf.2,RL]⟩
 |[],_::_,_,h,_=>by simp[uv]at h
 |_::_,[],_,h,_=>by simp[uv]at h
theorem ah7 {n:Nat} {ρ:Env} {l:List UInt8} {x:I} {c:Int} (hc:x.eN=some c) (h:c=j7 (xv l)):bx (x.den ρ)=xv l:=by rw[I.km hc,h,AT]
theorem adv {n nb:Nat} {ρ:Env} {m:Nat->Nat} {d:D} {v:V} {r:List I} {x:aV} (h:FE d v=some r) (b0:v.ok n nb ρ) (hx:v.rel ρ m x):r.length=d.num/\af d.bds (r.map (·.den ρ))/\∀zs,d.val ((r.map (·.den ρ))++zs)=x:=by
 unfold FE at h
 split at h
 ·rename_i k lo hi bD y
  cases hc:(decide (k=bD)&&tD lo hi y)with
  |false=>simp[hc]at h
  |true=>
   simp only[hc,cond_true,bb]at h
   subst h
   simp only[bw,decide_eq_true_eq]at hc
   have hf:=KQ hc.2 b0
   simp only[V.rel,W.den,A.den]at hx
   exact⟨rfl,⟨hf.1,hf.2,trivial⟩,λzs=>by simp[D.val,hx,hc.1]⟩
 ·rename_i k n' lo hi l
  cases hc:aM l.length n' with
  |false=>simp[hc]at h
  |true=>
   simp only[hc,cond_true]at h
   have hl:=bR hc
   subst hl
   obtain⟨h1,h2,h3⟩:=Pm (m:=m) h b0
   simp only[V.rel,W.den]at hx
   exact⟨h1,h2,λzs=>by rw[hx,h3];simp only[D.val];rw[Nk (by simp[h1]),uU (by simp[h1])]⟩
 ·rename_i l s
  obtain⟨h1,h2,h3⟩:=ady (m:=m) h b0
  simp only[V.rel,W.den]at hx
  refine⟨h1,h2,λzs=>?_⟩
  rw[hx,h3]
  simp only[D.val]
  congr 2
  have key:∀(a:List aN) (b c:List Int),b.length=a.length->uW aN.val a (b++c)=uW aN.val a b:=by
   intro a
   induction a with
   |nil=>intro b c _;simp
   |cons p a ih=>
    intro b c hb
    cases b with
    |nil=>simp at hb
    |cons z b=>simp[ih b c (by simpa using hb)]
  exact key _ _ _ (by simp[h1])
 ·rename_i l
  simp only[bb]at h;subst h
  simp only[V.rel,W.den,A.den]at hx
  exact⟨rfl,⟨b0.2.1,b0.2.2,trivial⟩,λzs=>by rw[hx];rfl⟩
 ·rename_i b
  simp only[bb]at h;subst h
  simp only[V.rel,W.den,A.den,bC.den]at hx
  cases b<;>exact⟨rfl,by simp[D.bds,af,I.br],λzs=>by rw[hx];simp[D.val,I.br]⟩
 ·rename_i l y
  cases hc:y.eN with
  |none=>simp[hc]at h
  |some c=>
   simp only[hc]at h
   cases hd:decide (c=j7 (xv l))with
   |false=>simp[hd]at h
   |true=>
    simp only[hd,cond_true,bb]at h
    subst h
    have hd:c=j7 (xv l):=by simpa using hd
    refine⟨rfl,trivial,λzs=>?_⟩
    have hx:x= .string (dY (bx (y.den ρ))):=hx
    rw[hx,ah7 (n:=n) hc hd];rfl
 ·rename_i k c bD y
  cases hc:y.l.eN with
  |none=>simp[hc]at h
  |some d=>
   simp only[hc]at h
   cases hd:(decide (k=bD)&&decide (d=c))with
   |false=>simp[hd]at h
   |true=>
    simp only[hd,cond_true,bb]at h
    subst h
    simp only[bw,decide_eq_true_eq]at hd
    refine⟨rfl,trivial,λzs=>?_⟩
    have hx:x= .int bD (y.l.den ρ):=hx
    rw[hx,I.km hc,<-hd.1,hd.2];rfl
 ·cases h
theorem Pp {n nb:Nat} {ρ:Env} {m:Nat->Nat}:∀{ds:List D} {vs:List V} {r:List I} {xs:List aV},tE ds vs=some r->(∀v∈vs,V.ok n nb ρ v)->fb ρ m vs xs->af (bk ds) (r.map (·.den ρ))/\p5 ds (r.map (·.den ρ))=xs
 |[],[],r,[],h,_,_=>by simp[tE]at h;subst h;exact⟨trivial,rfl⟩
 |d::ds,v::vs,r,x::xs,h,b0,hr=>by
  simp only[tE]at h
  cases h1:FE d v with
  |none=>simp[h1]at h
  |some a=>
   cases h2:tE ds vs with
   |none=>simp[h1,h2]at h
   |some b=>
    simp only[h1,h2,bb]at h
    subst h
    obtain⟨cz,cw,dc⟩:=adv (m:=m) h1 (b0 v (by simp)) hr.1
    obtain⟨bm,cb⟩:=Pp h2 (λu hu=>b0 u (eB _ hu)) hr.2
    refine⟨by rw[jf];exact qt cw bm,?_⟩
    rw[jf]
    simp only[p5,dc]
    rw[show d.num=(a.map (·.den ρ)).length by simp[cz],EN,cb]
 |[],_::_,_,_,h,_,_=>by simp[tE]at h
 |_::_,[],_,_,h,_,_=>by simp[tE]at h
 |[],[],_,_::_,_,_,hr=>hr.elim
 |_::_,_::_,_,[],_,_,hr=>hr.elim
structure bZ where
 f:dt
 id:Nat
 args:List D
 res:List D
def bZ.b1 (P:bV) (wb:aC) (c:bZ) (spec:List Int->List Int->Prop):Prop:=
 (∀args w,(callFunc c.f args).run P w= .ok (.enter c.f args) w)/\
 ∀zs,af (bk c.args) zs->∃rs,af (bk c.res) rs/\spec zs rs/\∀w,wb.Extends w->oD P c.f (p5 c.args zs).toArray w λe w'=>e= .returned (pw c.res rs)/\w.Extends w'
noncomputable def UY (d:D) (v:V):M (List I):=
 match d,v with
 | .bool,.w (.one (.bool e))=>bind (Gi e) λl=>pure [l]
 | .mix l,.w (.agg s)=>Cu l s
 | .int k lo hi,.w (.one (.int bD x))=>cond (decide (k=bD)) (cond (tD lo hi x) (pure [x.l]) (bind (gS 39 [x.l,.const lo,.const hi]) λ_=>pure [x.l])) fail
 |d,v=>match FE d v with|some r=>pure r|none=>fail
noncomputable def Po:List D->List V->M (List I)
 |[],[]=>pure []
 |d::r,v::s=>bind (UY d v) λa=>bind (Po r s) λb=>pure (a++b)
 |_,_=>fail
noncomputable def bZ.M (c:bZ):List aE->List V->M V:=λ_ vs n k=>
 match tE c.args vs with
 |some l=> .call c.id l n (bk c.res) (k (GS c.res n) (n+(bk c.res).length))
 |none=>Po c.args vs n λl n=> .call c.id l n (bk c.res) (k (GS c.res n) (n+(bk c.res).length))
section
variable {S:Nat->List Int->List Int->Prop} {L:V->Env->Prop}
theorem UX {k:dO} {lo hi:Int} {n nb:Nat} {ρ:Env}:∀{l:List A} {r:List I},pa k lo hi l=some r->(∀a∈l,A.ok n nb ρ a)->∀x∈r,I.bG n x
 |[],r,h,_=>by simp[pa]at h;subst h;intro x hx;simp at hx
 |a::s,r,h,b0=>by
  cases a with
  |int bD x=>
   simp only[pa]at h
   cases hc:(decide (k=bD)&&tD lo hi x)with
   |false=>simp[hc]at h
   |true=>
    cases hr:pa k lo hi s with
    |none=>simp[hc,hr]at h
    |some r'=>
     simp only[hc,hr,cond_true,bb]at h
     subst h
     intro y hy
     rcases List.mem_cons.1 hy with hy|hy
     ·rw[hy]
      have h0:A.ok n nb ρ (.int bD x):=b0 _ (List.mem_cons_self ..)
      have h0:x.ok n ρ:=h0
      exact h0.1
     ·exact UX hr (λa ha=>b0 a (eB _ ha)) y hy
  |_=>simp[pa]at h
theorem adx {n nb:Nat} {ρ:Env}:∀{d:List aN} {l:List A} {r:List I},uv d l=some r->(∀a∈l,A.ok n nb ρ a)->∀x∈r,I.bG n x
 |[],[],r,h,_=>by simp[uv]at h;subst h;intro x hx;simp at hx
 |c::d,a::s,r,h,b0=>by
  simp only[uv]at h
  cases hx:c.fit a with
  |none=>simp[hx]at h
  |some x=>
   cases hr:uv d s with
   |none=>simp[hx,hr]at h
   |some r'=>
    simp only[hx,hr,bb]at h
    subst h
    intro y hy
    rcases List.mem_cons.1 hy with hy|hy
    ·subst hy
     have h0:=b0 a (by simp)
     unfold aN.fit at hx
     split at hx
     ·rename_i k lo hi bD z
      cases hc:(decide (k=bD)&&tD lo hi z)with
      |false=>simp[hc]at hx
      |true=>
       simp only[hc,cond_true,bb]at hx
       subst hx
       have h0:z.ok n ρ:=h0
       exact h0.1
     ·simp only[bb]at hx;subst hx
      exact h0.1
     ·simp only[bb]at hx;subst hx
      exact I.dd _ _
     ·cases hx
    ·exact adx hr (λa ha=>b0 a (eB _ ha)) y hy
 |[],_::_,_,h,_=>by simp[uv]at h
 |_::_,[],_,h,_=>by simp[uv]at h
theorem amK {n nb:Nat} {ρ:Env} {d:D} {v:V} {r:List I} (h:FE d v=some r) (b0:v.ok n nb ρ):∀x∈r,I.bG n x:=by
 unfold FE at h
 split at h
 ·rename_i k lo hi bD y
  cases hc:(decide (k=bD)&&tD lo hi y)with
  |false=>simp[hc]at h
  |true=>
   simp only[hc,cond_true,bb]at h
   subst h
   have h0:y.ok n ρ:=b0
   intro x hx
   simp at hx;subst hx
   exact h0.1
 ·rename_i k n' lo hi l
  cases hc:aM l.length n' with
  |false=>simp[hc]at h
  |true=>
   simp only[hc,cond_true]at h
   exact UX h b0
 ·exact adx h b0
 ·simp only[bb]at h;subst h
  intro x hx
  simp at hx;subst hx
  exact b0.1
 ·simp only[bb]at h;subst h
  intro x hx
  simp at hx;subst hx
  exact I.dd _ _
 ·rename_i l y
  cases hc:y.eN with
  |none=>simp[hc]at h
  |some c=>
   simp only[hc]at h
   cases hd:decide (c=j7 (xv l))with
   |false=>simp[hd]at h
   |true=>
    simp only[hd,cond_true,bb]at h
    subst h
    intro x hx;simp at hx
 ·rename_i k c bD y
  cases hc:y.l.eN with
  |none=>simp[hc]at h
  |some d=>
   simp only[hc]at h
   cases hd:(decide (k=bD)&&decide (d=c))with
   |false=>simp[hd]at h
   |true=>
    simp only[hd,cond_true,bb]at h
    subst h
    intro x hx;simp at hx
 ·cases h
theorem cF.WJ:∀{sh:List aN} {zs:List Int},cF sh zs->af (sh.map aN.ga) zs/\uW aN.val sh zs=dr sh zs
 |[],[],_=>⟨trivial,rfl⟩
 |c::sh,z::zs,h=>⟨⟨h.1.1,h.1.2,(cF.WJ h.2).1⟩,by simp[dr,(cF.WJ h.2).2]⟩
 |[],_::_,h=>h.elim
 |_::_,[],h=>h.elim
theorem aiM {f:aN->Int->aV}:∀(a:List aN) (b c:List Int),b.length=a.length->uW f a (b++c)=uW f a b
 |[],b,c,_=>by simp
 |_::a,[],c,h=>by simp at h
 |_::a,z::b,c,h=>by simp[aiM a b c (by simpa using h)]
theorem amI {d:D} {v:V} {X:aV} {n nb:Nat} {ρ:Env} {m:Nat->Nat} (hv:v.ok n nb ρ) (b3:v.rel ρ m X):az S L (UY d v) n ρ λaa n' ls=>(∀x∈ls,I.bG n' x)/\ls.length=d.num/\af d.bds (ls.map (·.den aa))/\∀zs,d.val ((ls.map (·.den aa))++zs)=X:=by
 unfold UY
 split
 ·rename_i e
  have b3:X= .bool (e.den ρ):=b3
  exact Qa.bind λaQ a1 l hn ha ⟨g1,g2,g3⟩=>az.pure ⟨λx hx=>by simp at hx;subst hx;exact g1,rfl,⟨g2.1,g2.2,trivial⟩,λzs=>by rw[b3,g3];rfl⟩
 ·rename_i l s
  have b3:X= .agg (s.map (A.den ρ m)).toArray:=b3
  refine(Jn (nb:=nb) (m:=m) hv).mono λaQ a1 ls hn ha ⟨g1,g2,g3⟩=>?_
  have h1:=cF.WJ g2
  have h2:=g2.len
  refine⟨g1,by simpa [D.num]using h2,h1.1,λzs=>?_⟩
  rw[b3,<-g3,<-h1.2]
  simp only[D.val]
  rw[aiM _ _ _ (by simpa using h2)]
 ·rename_i k lo hi bD x
  have b3:X= .int bD (x.l.den ρ):=b3
  have hv:x.ok n ρ:=hv
  refine eI λab=>?_
  have ab:=of_decide_eq_true ab
  subst ab
  cases hf:tD lo hi x with
  |true=>
   have:=KQ hf hv
   exact az.pure ⟨λy hy=>by simp at hy;subst hy;exact hv.1,rfl,⟨this.1,this.2,trivial⟩,λzs=>by rw[b3];rfl⟩
  |false=>
   refine jL λhc=>az.pure ?_
   simp only[c5,fD,ar,I.br]at hc
   exact⟨λy hy=>by simp at hy;subst hy;exact hv.1,rfl,⟨hc.1,hc.2,trivial⟩,λzs=>by rw[b3];rfl⟩
 ·split
  ·rename_i hf
   obtain⟨cz,cw,dc⟩:=adv (m:=m) hf hv b3
   exact az.pure ⟨amK hf hv,cz,cw,dc⟩
  ·exact az.fail
theorem fb.ext {n nb:Nat} {ρ aa:Env} {m m':Nat->Nat}:∀{vs:List V} {xs:List aV},fb ρ m vs xs->(∀v∈vs,V.ok n nb ρ v)->agree n ρ aa->(∀b,b<nb->m' b=m b)->fb aa m' vs xs
 |[],[],_,_,_,_=>trivial
 |v::vs,x::xs,h,b0,ha,hm=>⟨V.rel.ext h.1 (b0 v (by simp)) ha hm,fb.ext h.2 (λu hu=>b0 u (eB _ hu)) ha hm⟩
 |[],_::_,h,_,_,_=>h.elim
 |_::_,[],h,_,_,_=>h.elim
theorem adw {nb:Nat} {m:Nat->Nat}:∀{ds:List D} {vs:List V} {xs:List aV} {n:Nat} {ρ:Env},(∀v∈vs,V.ok n nb ρ v)->fb ρ m vs xs->az S L (Po ds vs) n ρ λaa n' ls=>(∀x∈ls,I.bG n' x)/\af (bk ds) (ls.map (·.den aa))/\p5 ds (ls.map (·.den aa))=xs
 |[],[],[],n,ρ,_,_=>az.pure ⟨λ_ h=>by simp at h,trivial,rfl⟩
 |d::ds,v::vs,x::xs,n,ρ,b0,hr=>by
  unfold Po
  refine(amI (nb:=nb) (b0 v (by simp)) hr.1).bind λaQ a1 a gE fe ⟨p0,cz,cw,dc⟩=>(adw (ds:=ds) (vs:=vs) (λu hu=>(b0 u (eB _ hu)).ext fe gE (bO _)) (fb.ext hr.2 (λu hu=>b0 u (eB _ hu)) fe (λ_ _=>rfl))).bind λbW ff b fo eb ⟨e4,bm,cb⟩=>az.pure ⟨λy hy=>?_,?_,?_⟩
  ·rcases List.mem_append.1 hy with hy|hy
   ·exact(p0 y hy).mono fo
   ·exact e4 y hy
  ·have e:a.map (·.den bW)=a.map (·.den aQ):=kD λy hy=>I.b5 eb (p0 y hy)
   rw[jf,e];exact qt cw bm
  ·have e:a.map (·.den bW)=a.map (·.den aQ):=kD λy hy=>I.b5 eb (p0 y hy)
   rw[jf,e]
   simp only[p5,dc]
   rw[show d.num=(a.map (·.den aQ)).length by simp[cz],EN,cb]
 |[],_::_,_,_,_,_,_=>az.fail
 |_::_,[],_,_,_,_,_=>az.fail
 |[],[],_::_,_,_,_,hr=>hr.elim
 |_::_,_::_,[],_,_,_,hr=>hr.elim
end
section
variable {S:Nat->List Int->List Int->Prop} {P:bV} {gl:fa} {w0:eG}
theorem OR {L:V->Env->Prop} {id:Nat} {l:List I} {n:Nat} {bds:List (Int×Int)} {r:T} {G:e2} {ρ:Env} (h:(T.call id l n bds r).holds S L G ρ) {rs:List Int} (hi:af bds rs) (hs:S id (l.map (·.den ρ)) rs):r.holds S L G (bL ρ n rs):=
 oG h hi hs
theorem Q1 {ρ:Env} {m:Nat->Nat} {N nb:Nat} {ds:List D} {s:Nat} {zs:List Int} (h:af (bk ds) zs) (ha:jT ρ s zs) (cT:s+(bk ds).length<=N):(GS ds s).ok N nb ρ/\(GS ds s).rel ρ m (pw ds zs):=by
 have hs:=Rk (m:=m) (nb:=nb) ds h ha cT
 unfold GS pw
 rw[<-hs.2]
 split
 ·rename_i u heq
  rw[heq]at hs
  rw[heq]
  exact⟨hs.1 u (by simp),rfl⟩
 ·rename_i l c7
  refine⟨hs.1,?_⟩
  split
  ·rename_i x heq
   have:∃u,uM s ds=[u]:=by
    cases hl:uM s ds with
    |nil=>rw[hl]at heq;simp at heq
    |cons u r=>
     cases r with
     |nil=>exact⟨u,rfl⟩
     |cons _ _=>rw[hl]at heq;simp at heq
   obtain⟨u,hu⟩:=this
   exact absurd hu (c7 u)
  ·rfl
def bZ.zL (P:bV) (wb:aC) (c:bZ) (spec:List Int->List Int->Prop):Prop:=
 ∀zs,af (bk c.args) zs->∃rs,af (bk c.res) rs/\spec zs rs/\∀w,wb.Extends w->wN P c.f (p5 c.args zs).toArray w (pw c.res rs)
theorem bZ.b1.f {wb:aC} {c:bZ} {spec:List Int->List Int->Prop} (h:c.b1 P wb spec):c.zL P wb spec:=λzs hz=>by
 obtain⟨rs,h1,h2,h3⟩:=h.2 zs hz
 exact⟨rs,h1,h2,λw hw=> .inr ⟨h.1 _ _,h3 w hw⟩⟩
theorem bZ.snd {c:bZ} {spec:List Int->List Int->Prop} (hc:c.zL P w0.b spec) (hK:∀zs rs,spec zs rs->S c.id zs rs) (L:V->Env->Prop) (n:Nat) (ρ:Env) (m:Nat->Nat) (bl:List aE) (vs:List V) (xs:List aV)
 (kL:∀v∈vs,V.ok n bl.length ρ v) (hr:fb ρ m vs xs):az S L (c.M bl vs) n ρ λaa n' v=>v.ok n' bl.length aa/\∃val,v.rel aa m val/\∀w,Mem w0 ρ m bl w->wN P c.f xs.toArray w val:=by
 intro G k ab
 unfold bZ.M at ab
 cases hl:tE c.args vs with
 |none=>
  simp only[hl]at ab
  obtain⟨aQ,a1,l,gE,fe,⟨_,h1,h2⟩,ab⟩:=adw (S:=S) (L:=L) (nb:=bl.length) kL hr G _ ab
  obtain⟨rs,r1,r2,gI⟩:=hc _ h1
  have ae:=OR ab r1 (hK _ _ r2)
  have hlen:=e7 r1
  have pR:=Q1 (m:=m) (nb:=bl.length) (N:=a1+(bk c.res).length) r1 (jT.bL aQ a1 rs) (bO _)
  refine⟨_,_,_,oE gE (JM _ _),fe.trans (agree.bL rs a1 aQ) gE,⟨pR.1,_,pR.2,λw hw=>?_⟩,ae⟩
  rw[h2]at gI
  exact gI w hw.ext
 |some l=>
  simp only[hl]at ab
  obtain⟨h1,h2⟩:=Pp hl kL hr
  obtain⟨rs,r1,r2,gI⟩:=hc _ h1
  have ae:=OR ab r1 (hK _ _ r2)
  have hlen:=e7 r1
  have pR:=Q1 (m:=m) (nb:=bl.length) (N:=n+(bk c.res).length) r1 (jT.bL ρ n rs) (bO _)
  refine⟨_,_,_,JM _ _,agree.bL rs n ρ,⟨pR.1,_,pR.2,λw hw=>?_⟩,ae⟩
  rw[h2]at gI
  exact gI w hw.ext
def Xe:List aE->List V->M V:=λ_ vs=>
 match vs with
 |[.w (.one (.int .u64 x)),.w (.one (.int .u64 y))]=>
  cond (decide (0<=x.lo)&&decide (x.hi<18446744073709551616)&&decide (0<=y.lo)&&decide (y.hi<18446744073709551616)) (bind (mulM x y) λp=>bind (Ae p 18446744073709551616) λq=>
   pure (.iU [.one (.int .u64 q),.one (.int .u64 ⟨p.l.sub (q.l.smul 18446744073709551616),0,18446744073709551615⟩)])) fail
 |_=>fail
def TC:List aE->List V->M V:=λ_ vs=>
 match vs with
 |[.w (.one (.int .u64 x)),.w (.one (.int .u64 y)),.w (.one (.int .u64 c))]=>
  cond (decide (0<=x.lo)&&decide (0<=y.lo)&&decide (0<=c.lo)&&decide (c.hi<=1)) (bind (Ae ⟨(x.l.add y.l).add c.l,x.lo+y.lo+c.lo,x.hi+y.hi+c.hi⟩ 18446744073709551616) λq=>
   pure (.iU [.one (.int .u64 ⟨((x.l.add y.l).add c.l).sub (q.l.smul 18446744073709551616),0,18446744073709551615⟩),.one (.int .u64 q)])) fail
 |_=>fail
def YQ:List aE->List V->M V:=λ_ vs=>
 match vs with
 |[.w (.one (.int .u64 x)),.w (.one (.int .u64 y)),.w (.one (.int .u64 c))]=>
  cond (decide (0<=x.lo)&&decide (x.hi<18446744073709551616)&&decide (0<=y.lo)&&decide (y.hi<18446744073709551616)&&decide (0<=c.lo)&&decide (c.hi<=1)) (bind (Ae ⟨(x.l.sub y.l).sub c.l,x.lo-y.hi-c.hi,x.hi-y.lo-c.lo⟩ 18446744073709551616) λq=>
   pure (.iU [.one (.int .u64 ⟨((x.l.sub y.l).sub c.l).sub (q.l.smul 18446744073709551616),0,18446744073709551615⟩),.one (.int .u64 ⟨q.l.smul (-1),0,1⟩)])) fail
 |_=>fail
def Hm (P:bV) (f:dt):Prop:=∀x y:Int,0<=x->x<18446744073709551616->0<=y->y<18446744073709551616->∀w,wN P f #[.int .u64 x,.int .u64 y] w (.tuple #[.int .u64 (x*y/18446744073709551616),.int .u64 (x*y% 18446744073709551616)])
def Hh (P:bV) (f:dt):Prop:=∀x y c:Int,0<=x->0<=y->0<=c->c<=1->∀w,wN P f #[.int .u64 x,.int .u64 y,.int .u64 c] w (.tuple #[.int .u64 ((x+y+c)% 18446744073709551616),.int .u64 ((x+y+c)/18446744073709551616)])
def Hn (P:bV) (f:dt):Prop:=∀x y c:Int,0<=x->x<18446744073709551616->0<=y->y<18446744073709551616->0<=c->c<=1->∀w,wN P f #[.int .u64 x,.int .u64 y,.int .u64 c] w (.tuple #[.int .u64 ((x-y-c)% 18446744073709551616),.int .u64 (-((x-y-c)/18446744073709551616))])
variable {L:V->Env->Prop} {n:Nat} {ρ:Env} {m:Nat->Nat} {bl:List aE} {vs:List V} {xs:List aV}
theorem afY {x y c:A} (hr:fb ρ m [.w (.one x),.w (.one y),.w (.one c)] xs):xs=[x.den ρ m,y.den ρ m,c.den ρ m]:=by
 match xs,hr with
 |[a,b,d],h=>obtain⟨rfl,rfl,rfl,_⟩:=h;rfl
 |[],h=>exact h.elim
 |[_],h=>exact h.2.elim
 |[_,_],h=>exact h.2.2.elim
 |_::_::_::_::_,h=>exact h.2.2.2.elim
theorem arY {x y:A} (hr:fb ρ m [.w (.one x),.w (.one y)] xs):xs=[x.den ρ m,y.den ρ m]:=by
 match xs,hr with
 |[a,b],h=>obtain⟨rfl,rfl,_⟩:=h;rfl
 |[],h=>exact h.elim
 |[_],h=>exact h.2.elim
 |_::_::_::_,h=>exact h.2.2.elim
theorem asd {f:dt} (hf:Hm P f) (kL:∀v∈vs,V.ok n bl.length ρ v) (hr:fb ρ m vs xs):az S L (Xe bl vs) n ρ λaa n' v=>v.ok n' bl.length aa/\∃val,v.rel aa m val/\∀w,Mem w0 ρ m bl w->wN P f xs.toArray w val:=by
 unfold Xe
 split
 ·rename_i x y
  refine eI λhc=>?_
  simp only[bw,decide_eq_true_eq]at hc
  have hx:x.ok n ρ:=kL (.w (.one (.int .u64 x))) (by simp)
  have hy:y.ok n ρ:=kL (.w (.one (.int .u64 y))) (by simp)
  have Br:=hx.2;have Kk:=hy.2
  refine(Xg hx hy).bind λaQ a1 p gE fe ⟨hp,ep⟩=>?_
  refine(Dm (by decide) hp).bind λbW ff q fo eb ⟨ah,eq,_⟩=>az.pure ?_
  have IC:=hp.agree eb fo
  have UP:p.l.den bW=x.l.den ρ*y.l.den ρ:=by rw[I.b5 eb hp.1,ep]
  have aD:(p.l.sub (q.l.smul 18446744073709551616)).den bW=x.l.den ρ*y.l.den ρ% 18446744073709551616:=by
   rw[I.lP,I.nO,UP,eq,ep];omega
  refine⟨λu hu=>?_,_,rfl,λw _=>?_⟩
  ·simp at hu
   rcases hu with rfl|rfl
   ·exact ah
   ·exact⟨I.wh IC.1 (I.wg ah.1),by simp only[aD];omega,by simp only[aD];omega⟩
  ·rw[arY hr]
   have:=hf (x.l.den ρ) (y.l.den ρ) (by omega) (by omega) (by omega) (by omega) w
   simpa [A.den,W.den,aD,eq,ep]using this
 ·exact az.fail
theorem ako {f:dt} (hf:Hh P f) (kL:∀v∈vs,V.ok n bl.length ρ v) (hr:fb ρ m vs xs):az S L (TC bl vs) n ρ λaa n' v=>v.ok n' bl.length aa/\∃val,v.rel aa m val/\∀w,Mem w0 ρ m bl w->wN P f xs.toArray w val:=by
 unfold TC
 split
 ·rename_i x y c
  refine eI λhc=>?_
  simp only[bw,decide_eq_true_eq]at hc
  have hx:x.ok n ρ:=kL (.w (.one (.int .u64 x))) (by simp)
  have hy:y.ok n ρ:=kL (.w (.one (.int .u64 y))) (by simp)
  have FV:c.ok n ρ:=kL (.w (.one (.int .u64 c))) (by simp)
  have Br:=hx.2;have Kk:=hy.2;have bc:=FV.2
  have hs:(bQ.mk ((x.l.add y.l).add c.l) (x.lo+y.lo+c.lo) (x.hi+y.hi+c.hi)).ok n ρ:=⟨I.xQ (I.xQ hx.1 hy.1) FV.1,by simp only[I.den_add];omega,by simp only[I.den_add];omega⟩
  refine(Dm (x:=⟨(x.l.add y.l).add c.l,x.lo+y.lo+c.lo,x.hi+y.hi+c.hi⟩) (by decide) hs).bind λbW ff q fo eb ⟨ah,eq,_⟩=>az.pure ?_
  have yZ:=hs.agree eb fo
  simp only[I.den_add]at eq
  have aD:(((x.l.add y.l).add c.l).sub (q.l.smul 18446744073709551616)).den bW=(x.l.den ρ+y.l.den ρ+c.l.den ρ)% 18446744073709551616:=by
   rw[I.lP,I.nO,I.b5 eb hs.1,I.den_add,I.den_add,eq];omega
  refine⟨λu hu=>?_,_,rfl,λw _=>?_⟩
  ·simp at hu
   rcases hu with rfl|rfl
   ·exact⟨I.wh yZ.1 (I.wg ah.1),by simp only[aD];omega,by simp only[aD];omega⟩
   ·exact ah
  ·rw[afY hr]
   have:=hf (x.l.den ρ) (y.l.den ρ) (c.l.den ρ) (by omega) (by omega) (by omega) (by omega) w
   simpa [A.den,W.den,aD,eq]using this
 ·exact az.fail
theorem axx {f:dt} (hf:Hn P f) (kL:∀v∈vs,V.ok n bl.length ρ v) (hr:fb ρ m vs xs):az S L (YQ bl vs) n ρ λaa n' v=>v.ok n' bl.length aa/\∃val,v.rel aa m val/\∀w,Mem w0 ρ m bl w->wN P f xs.toArray w val:=by
 unfold YQ
 split
 ·rename_i x y c
  refine eI λhc=>?_
  simp only[bw,decide_eq_true_eq]at hc
  have hx:x.ok n ρ:=kL (.w (.one (.int .u64 x))) (by simp)
  have hy:y.ok n ρ:=kL (.w (.one (.int .u64 y))) (by simp)
  have FV:c.ok n ρ:=kL (.w (.one (.int .u64 c))) (by simp)
  have Br:=hx.2;have Kk:=hy.2;have bc:=FV.2
  have hs:(bQ.mk ((x.l.sub y.l).sub c.l) (x.lo-y.hi-c.hi) (x.hi-y.lo-c.lo)).ok n ρ:=⟨I.wh (I.wh hx.1 hy.1) FV.1,by simp only[I.lP];omega,by simp only[I.lP];omega⟩
  refine(Dm (x:=⟨(x.l.sub y.l).sub c.l,x.lo-y.hi-c.hi,x.hi-y.lo-c.lo⟩) (by decide) hs).bind λbW ff q fo eb ⟨ah,eq,_⟩=>az.pure ?_
  have yZ:=hs.agree eb fo
  simp only[I.lP]at eq
  have aD:(((x.l.sub y.l).sub c.l).sub (q.l.smul 18446744073709551616)).den bW=(x.l.den ρ-y.l.den ρ-c.l.den ρ)% 18446744073709551616:=by
   rw[I.lP,I.nO,I.b5 eb hs.1,I.lP,I.lP,eq];omega
  have cj:(q.l.smul (-1)).den bW=-((x.l.den ρ-y.l.den ρ-c.l.den ρ)/18446744073709551616):=by
   rw[I.nO,eq];omega
  refine⟨λu hu=>?_,_,rfl,λw _=>?_⟩
  ·simp at hu
   rcases hu with rfl|rfl
   ·exact⟨I.wh yZ.1 (I.wg ah.1),by simp only[aD];omega,by simp only[aD];omega⟩
   ·exact⟨I.wg ah.1,by simp only[cj];omega,by simp only[cj];omega⟩
  ·rw[afY hr]
   have:=hf (x.l.den ρ) (y.l.den ρ) (c.l.den ρ) (by omega) (by omega) (by omega) (by omega) (by omega) (by omega) w
   simpa [A.den,W.den,aD,cj]using this
 ·exact az.fail
end
end Go.ch
