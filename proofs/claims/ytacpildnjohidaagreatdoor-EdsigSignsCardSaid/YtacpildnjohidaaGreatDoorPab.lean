/- The evaluator's soundness: operations and regions. -/
import Derived.Test.YtacpildnjohidaaGreatDoorPaa
import Derived.Laws.Append
import Derived.Deep.AppendSrc
import Derived.Deep.Upon
import Derived.Laws.MakeOwn
import Derived.Lib.MakeNoZero
import Derived.Laws.Externs
import Derived.KernelRfl
import Derived.Lib.ConvBytes
import Derived.ArgAppend
import Derived.OrdersIn
import Derived.TacticsIn
import Derived.LoopNIn
import Derived.Sort.LoopGhostIn
open Array renaming toArray_toList->l4,toList_map->AY,replicate->CJ,eq_empty_of_size_eq_zero->EL,length_toList->EM,getElem?_eq_getElem->Sj,getElem?_toList->Su,getElem?_eq_none->Yn,ext'->Yo,toList_range->ajf,size_append->aww,mapM_eq_mapM_toList->aWk,range->aWW,getElem?_modify->aW3,getElem?_push_lt->aW5
open Bool renaming and_eq_true->bI,not_true->dD,false_eq_true->xX,or_eq_true->EG
open Classical renaming byContradiction->ai2
open Eq renaming trans->gN
open Function renaming comp->Si
open Go renaming World->aC,Value->bf,TypeId->bE,Program->cc,FuncId->dv,IntKind->eB,run_underlying->gz,Calls->oo,Operand->rl,run_loadCells_list->Sl,setRow_other->Sv,setRow_heap->Sw,run_firstCells_some->Yp
open Go.Builtin renaming zeroCells->p1,copy_->AZ,append_->M9,firstCells->Na,lenOf->Yq,nextslicecap->awt,clear_->awC
open Go.Code renaming region->aXd
open Go.Extern renaming findNext->ai5,find->ai6
open Go.Extern.BytealgMakeNoZero renaming digits->CO,makeNoZero->ajk
open Go.Fence renaming wide->JU
open Go.Instr renaming sureAddr->pt,loadAt->pZ,sliceAt->uW,storeAt->aje,buildSlice->awu,alloc->aW1
open Go.Lib renaming bytesWorld->Sy,bytesCells->Sz
open Go.Next renaming value->mx
open Go.Oper renaming wp->pw,uponIn->aXb,wpIn_mono->aXc
open Go.Question renaming cut->aWX
open Go.Region renaming wanted->CN,noSelect->Yc
open Go.Result renaming andThen_ok->j6
open Go.Sem renaming run_bind->jS,run_pure->kZ
open Go.Value renaming int->AV,slice->So
open Go.Value.int renaming injEq->aY9
open Go.World renaming cell?->oq,frozen?->EH,alloc->Nb,freeze->Ys,alloc_eq->Yt,drew->ajl,drew_eq->awy
open Go.World.Extends renaming refl->sd,drew->Ye
open Int renaming le_refl->cn,toNat_natCast->hC,lt_or_le->mw,le_trans->y3,natCast_nonneg->JK
open List renaming getD->U,map_cons->df,replicate->dw,range->dP,nil_append->eQ,mem_cons_of_mem->e5,length_append->fq,mem_of_getElem?->fw,append_assoc->fS,getD_cons_zero->gp,map_nil->gr,append_nil->gO,getD_cons_succ->hq,map_append->hQ,cons_append->j4,map_congr_left->j5,length_cons->kx,getD_eq_getElem?_getD->ky,map_map->lz,getElem?_eq_getElem->lA,take_succ_cons->l5,take_of_length_le->mu,mem_of_mem_take->mv,mem_cons->m2,length_take->m4,flatten_cons->nH,take_append_drop->nI,length_drop->pq,length_nil->pr,length_map->ps,length->pY,getElem?_map->qw,mem_of_mem_drop->qx,take_zero->qy,getElem?_take->tF,zipWith->tG,eq_nil_of_length_eq_zero->uV,getElem?_set->wF,getElem?_append_left->wG,flatMap_cons->wH,getElem?_cons_zero->xU,replicate_succ->y8,drop_drop->CF,getElem_mem->CL,size_toArray->CM,drop_left->GX,mem_of_find?_eq_some->JN,length_replicate->JT,getElem?_append_right->MY,getElem?_eq_none->M8,getElem?_append->Sk,zipWith_cons_cons->Sm,take_append_of_le_length->Sn,mem_or_eq_of_mem_set->Sx,find?_some->Yd,getElem?_range->Ym,getElem?_set_ne->ai3,take_length->ai4,ext_getElem?->ajg,getElem?_set_self->awf,all_cons->awv,eq_of_mem_replicate->awz,drop_append_of_le_length->aWV,flatMap_map->aW0
open List.cons renaming injEq->hD
open Nat renaming beq->aU,le_refl->b1,eq_of_beq_eq_true->b8,ble->cV,blt->eC,le_of_ble_eq_true->gq,add_zero->m3,le_trans->nJ,le_succ->tH,zero_add->y4,add_mul->y6,zero_le->AS,lt_succ_self->AW,succ_mul->AX,mul_one->CH,min_eq_left->CI,lt_of_lt_of_le->JL,beq_refl->JM,mod_eq_of_lt->MS,mod_lt->MU,le_add_right->MZ,min->M7,mul_le_mul_right->Yr,mul_le_mul->awe,le_of_mul_le_mul_right->aW4
open Option renaming isSome_none->xW,map_some->AT,getD_some->EF
open Option.some renaming injEq->bu,inj->iI
open Prod renaming ext->Sd
open Prod.mk renaming injEq->fi
open Pure renaming pure->Yf
set_option linter.unusedVariables false
set_option linter.unusedSimpArgs false
namespace Go.bX
open M
structure ft (n nb:Nat) (ρ:Env) (m:Nat->Nat) (n' n9:Nat) (ae:Env) (m':Nat->Nat):Prop where
 hn:n<=n'
 ha:agree n ρ ae
 hb:nb<=n9
 hm:∀b,b<nb->m' b=m b
theorem ft.refl (n nb:Nat) (ρ:Env) (m:Nat->Nat):ft n nb ρ m n nb ρ m:=⟨b1 _,agree.refl _ _,b1 _,λ_ _=>rfl⟩
theorem ft.trans {n nb bh F2 fF asj:Nat} {ρ a6 cd:Env} {m gk eJ:Nat->Nat} (h:ft n nb ρ m bh F2 a6 gk) (aP:ft bh F2 a6 gk fF asj cd eJ):ft n nb ρ m fF asj cd eJ:=
 ⟨nJ h.hn aP.hn,h.ha.trans aP.ha h.hn,nJ h.hb aP.hb,λb hb=>(aP.hm b (JL hb h.hb)).trans (h.hm b hb)⟩
def ga (n:Nat) (G fm:fx):Prop:=∀l,l<n->fm l=G l
theorem ga.refl (n:Nat) (G:fx):ga n G G:=λ_ _=>rfl
theorem ga.trans {n n':Nat} {G fm ZT:fx} (h:ga n G fm) (aP:ga n' fm ZT) (hn:n<=n'):ga n G ZT:=λl hl=>(aP l (by omega)).trans (h l hl)
structure R (w0:fg) (n:Nat) (ρ:Env) (m:Nat->Nat) (tm:List V) (bl:List aM) (a:Act) (w:aC):Prop where
 t:fo n bl.length ρ m tm a.tmps
 d:a.defers=w0.ds
 b:dr n bl.length ρ bl
 bK:Mem w0 ρ m bl w
section
variable (S:Nat->List Int->List Int->Prop) (L:V->Env->Prop) (w0:fg)
def mz (k:iK) (n nb:Nat) (ρ:Env) (m:Nat->Nat) (G:fx) (K:Act->aC->Prop):Prop:=∀n' ae m' cR bF fm eE w',ft n nb ρ m n' (pY bF) ae m'->ga n G fm->R w0 n' ae m' cR bF eE w'->(k n' cR bF).holds S L fm ae->K eE w'
def G8 (k:RK) (n nb:Nat) (ρ:Env) (m:Nat->Nat) (G:fx) (R':Ending->aC->Prop):Prop:=∀n' v bF fm ae m' w' val,ft n nb ρ m n' (pY bF) ae m'->ga n G fm->V.ok n' bF.length ae v->v.rel ae m' val->dr n' bF.length ae bF->Mem w0 ae m' bF w'->(k n' v bF).holds S L fm ae->R' (.returned val) w'
def rn (P:cc) (inl:my):Prop:=∀f n vs bl k G ρ m w xs R',dr n (pY bl) ρ bl->Mem w0 ρ m bl w->(∀v∈vs,V.ok n bl.length ρ v)->fN ρ m vs xs->(inl f n vs bl k).holds S L G ρ->G8 S L w0 k n bl.length ρ m G R'->(callFunc f xs.toArray).run P w= .ok (.enter f xs.toArray) w/\oo P f xs.toArray w R'
end
section
variable {S:Nat->List Int->List Int->Prop} {L:V->Env->Prop} {w0:fg} {P:cc} {gl:fK} {cal:gb} {inl:my}
theorem mz.later {k:iK} {n nb bh F2:Nat} {ρ a6:Env} {m gk:Nat->Nat} {G G1:fx} {K:Act->aC->Prop} (h:mz S L w0 k n nb ρ m G K) (hl:ft n nb ρ m bh F2 a6 gk) (aV:ga n G G1):mz S L w0 k bh F2 a6 gk G1 K:=
 λn' ae m' cR bF fm eE w' h1 h2 h3 h4=>h n' ae m' cR bF fm eE w' (hl.trans h1) (aV.trans h2 hl.hn) h3 h4
def oe (m:Nat->Nat) (nb g:Nat):Nat->Nat:=λb=>if b=nb then g else m b
theorem pk {m:Nat->Nat} {nb g b:Nat} (h:b<nb):oe m nb g b=m b:=by simp[oe];omega
theorem pT (m:Nat->Nat) (nb g:Nat):oe m nb g nb=g:=by simp[oe]
theorem Mem.push {n:Nat} {ρ:Env} {m:Nat->Nat} {bl:List aM} {w:aC} {x:aM} {g:Nat} (h:Mem w0 ρ m bl w) (hb:dr n bl.length ρ bl) (hx:∀a∈x.1,A.ok n bl.length ρ a)
 (h1:cy x.1=true->w0.b.heap.size<=g/\(w0.ex g∨w0.r.heap.size<=g)/\∃r:List bf,(x.2.2=false->r=[])/\w.heap[g]?=some (.cells (x.1.map (A.den ρ m)++r).toArray x.2.1 (0,0)))
 (h2:∀sh off code cap kind,x.1=[.rows sh off code cap kind]->wL w0 ρ g sh off code cap kind x.2.1 w)
 (h3:∀(i:Nat) (p:aM),bl[i]?=some p->m i=g->(b2 ρ p.1<=1/\b2 ρ x.1<=1)∨b2 ρ p.1=0∨b2 ρ x.1=0):
 Mem w0 ρ (oe m bl.length g) (bl++[x]) w:=by
 have hold:∀(i:Nat) (p:aM),(bl++[x])[i]?=some p->(i<bl.length/\bl[i]?=some p)∨(i=bl.length/\p=x):=λi p hi=>by
  rw[Sk]at hi;split at hi
  ·rename_i ks;exact .inl ⟨ks,hi⟩
  ·have:i=bl.length:=by
    have:=(List.getElem?_eq_some_iff.1 hi).1;simp at this;omega
   subst this;simp only[Nat.sub_self,xU,bu]at hi;exact .inr ⟨rfl,hi.symm⟩
 refine⟨h.ext,h.kE,h.mE,h.lq,h.ia,h.kp,λi lD t' hi aA=>?_,λi sh off code cap kind t' hi=>?_,λi j p q hi aR he=>?_⟩
 ·rcases hold i _ hi with⟨ks,hi⟩|⟨rfl,eT⟩
  ·obtain⟨g1,oA,r,hr,g2⟩:=h.gP i lD t' hi aA;rw[pk ks];refine⟨g1,oA,r,hr,?_⟩;rw[yx (hb _ (fw hi)) (agree.refl n ρ) (λb hb=>pk hb)];exact g2
  ·subst eT;rw[pT];obtain⟨g1,oA,r,hr,g2⟩:=h1 aA;refine⟨g1,oA,r,hr,?_⟩;rw[yx hx (agree.refl n ρ) (λb hb=>pk hb)];exact g2
 ·rcases hold i _ hi with⟨ks,hi⟩|⟨rfl,eT⟩
  ·rw[pk ks];exact h.rws i sh off code cap kind t' hi
  ·subst eT;rw[pT];exact h2 sh off code cap kind rfl
 ·rcases hold i p hi with⟨ks,Dq⟩|⟨rfl,eT⟩<;>rcases hold j q aR with⟨apH,O8⟩|⟨rfl,yg⟩
  ·rw[pk ks,pk apH]at he;exact h.inj i j p q Dq O8 he
  ·rw[pk ks,pT]at he;subst yg;exact .inr (h3 i p Dq he)
  ·rw[pk apH,pT]at he;subst eT;rcases h3 j q O8 he.symm with h|h|h
   ·exact .inr (.inl ⟨h.2,h.1⟩)
   ·exact .inr (.inr (.inr h))
   ·exact .inr (.inr (.inl h))
  ·exact .inl rfl
theorem Mem.alloc {n:Nat} {ρ:Env} {m:Nat->Nat} {bl:List aM} {w:aC} {cs:List A} {t:bE} {ex:List bf} {open_:Bool} (h:Mem w0 ρ m bl w) (hb:dr n bl.length ρ bl) (hc:∀a∈cs,A.ok n bl.length ρ a) (gH:open_=false->ex=[]) (o2:cy cs=true):
 Mem w0 ρ (oe m bl.length w.heap.size) (bl++[(cs,(t,open_))]) (w.alloc (.cells (cs.map (A.den ρ m)++ex).toArray t)):=by
 refine(h.grow ((sd w).alloc _)).push hb hc (λ_=>⟨h.ext.size,.inr h.ia,ex,gH,heap_alloc_new w _⟩) (λsh off code cap kind e=>?_) λi p hi he=>?_
 ·simp only at e;subst e;cases o2
 ·by_cases ag:b2 ρ p.1=0
  ·exact .inr (.inl ag)
  ·have:=h.lt hi ag;omega
theorem Mem.put {kd:Nat} {ρ:Env} {m:Nat->Nat} {bl:List aM} {w:aC} {b:Nat} {sh:List a8} {off code cap code':I} {t:bE×Bool} {cells row:Array bf} {fz:Nat×Nat} (h:Mem w0 ρ m bl w) (jX:2<=kd) (bd:bl[b]?=some ([.rows sh off code cap kd],t)) (dR:0<=cap.den ρ)
 (hr:wL w0 ρ (m b) sh off code' cap kd t.1 (w.setRow (m b) row)):Mem w0 ρ m (eP bl b ([.rows sh off code' cap kd],t)) (w.setRow (m b) row):=by
 have tX:b<bl.length:=(List.getElem?_eq_some_iff.1 bd).1;have nj:∀c,b2 ρ [.rows sh off c cap kd]=kd:=λc=>vF (by omega) dR;obtain⟨_,hl⟩:=h.rws b sh off code cap kd t bd (by omega);obtain⟨_,cells,lM,fz,_,_,h5⟩:=hl dR;obtain⟨_,_,_,_,h1,Fq⟩:=h5 jX;have eZ:∀(i:Nat) (p:aM),(eP bl b ([.rows sh off code' cap kd],t))[i]?=some p->(i=b/\p=([.rows sh off code' cap kd],t))∨(i≠b/\bl[i]?=some p):=λi p hi=>by
  rw[mK,wF]at hi;split at hi
  ·rename_i iT;subst iT;simp only[tX,if_true,bu]at hi;exact .inl ⟨rfl,hi.symm⟩
  ·rename_i iT;exact .inr ⟨λe=>iT e.symm,hi⟩
 refine⟨h.ext.setRow (m b) _ h1,h.kE,h.mE,h.lq,by simp;exact h.ia,λi hi hx=>?_,λi lD t' hi aA=>?_,λi gC ld code' k6 sH t' hi=>?_,λi j p q hi aR he=>?_⟩
 ·rw[Sv w (m b) i _ (λe=>by
   subst e;rcases Fq with h3|h3
   ·exact hx h3
   ·omega)]
  exact h.kp i hi hx
 ·rcases eZ i _ hi with⟨rfl,eT⟩|⟨dE,hi⟩
  ·cases eT;cases aA
  ·obtain⟨g1,oA,g2⟩:=h.gP i lD t' hi aA;exact⟨g1,oA,by rw[Sv w (m b) (m i) _ (λe=>h.ne bd hi (by rw[nj];exact jX) (by rw[n5 aA];decide) (λe=>dE e.symm) (by first|exact e|exact e.symm))];exact g2⟩
 ·rcases eZ i _ hi with⟨rfl,eT⟩|⟨dE,hi⟩
  ·cases eT;exact hr
  ·exact(h.rws i gC ld _ k6 sH t' hi).grow λag hc=>Sv w (m b) (m i) _ (λe=>h.ne bd hi (by rw[nj];exact jX) (by simp only[vF ag hc];exact ag) (λe=>dE e.symm) (by first|exact e|exact e.symm))
 ·have ag:∀(i:Nat) (p:aM),(eP bl b ([.rows sh off code' cap kd],t))[i]?=some p->∃ed,bl[i]?=some ed/\b2 ρ ed.1=b2 ρ p.1:=λi p hi=>by
   rcases eZ i _ hi with⟨rfl,eT⟩|⟨dE,hi⟩
   ·exact⟨_,bd,by rw[eT];simp only[nj]⟩
   ·exact⟨p,hi,rfl⟩
  obtain⟨ed,hp,ep⟩:=ag i p hi;obtain⟨fG,an,eq⟩:=ag j q aR;rw[<-ep,<-eq];exact h.inj i j ed fG hp an he
theorem Mem.kill {ρ:Env} {m:Nat->Nat} {bl:List aM} {w:aC} {b k:Nat} {sh:List a8} {off code cap:I} {t:bE×Bool} (h:Mem w0 ρ m bl w) (bd:bl[b]?=some ([.rows sh off code cap k],t)):Mem w0 ρ m (eP bl b ([.rows sh off code cap 0],t)) w:=by
 have tX:b<bl.length:=(List.getElem?_eq_some_iff.1 bd).1;have eZ:∀(i:Nat) (p:aM),(eP bl b ([.rows sh off code cap 0],t))[i]?=some p->(i=b/\p=([.rows sh off code cap 0],t))∨(i≠b/\bl[i]?=some p):=λi p hi=>by
  rw[mK,wF]at hi;split at hi
  ·rename_i iT;subst iT;simp only[tX,if_true,bu]at hi;exact .inl ⟨rfl,hi.symm⟩
  ·rename_i iT;exact .inr ⟨λe=>iT e.symm,hi⟩
 have nh:b2 ρ [.rows sh off code cap 0]=0:=by simp[b2]
 refine⟨h.ext,h.kE,h.mE,h.lq,h.ia,h.kp,λi lD t' hi aA=>?_,λi gC ld code' k6 sH t' hi=>?_,λi j p q hi aR he=>?_⟩
 ·rcases eZ i _ hi with⟨rfl,eT⟩|⟨dE,hi⟩
  ·cases eT;cases aA
  ·exact h.gP i lD t' hi aA
 ·rcases eZ i _ hi with⟨rfl,eT⟩|⟨dE,hi⟩
  ·cases eT;exactλag=>absurd rfl ag
  ·exact h.rws i gC ld _ k6 sH t' hi
 ·rcases eZ i _ hi with⟨rfl,eT⟩|⟨dE,hi⟩
  ·exact .inr (.inr (.inl (by rw[eT];exact nh)))
  ·rcases eZ j _ aR with⟨rfl,yg⟩|⟨dE,aR⟩
   ·exact .inr (.inr (.inr (by rw[yg];exact nh)))
   ·exact h.inj i j p q hi aR he
theorem ft.alloc (n:Nat) (ρ:Env) (m:Nat->Nat) (bl:List aM) (x:aM) (g:Nat):ft n bl.length ρ m n (bl++[x]).length ρ (oe m bl.length g):=
 ⟨b1 _,agree.refl _ _,by simp,λb hb=>pk hb⟩
theorem dr.alloc {n:Nat} {ρ:Env} {bl:List aM} {cs:List A} {t:bE×Bool} (hb:dr n bl.length ρ bl) (hc:∀a∈cs,A.ok n bl.length ρ a):dr n (bl++[(cs,t)]).length ρ (bl++[(cs,t)]):=by
 intro p hp a ha;rcases List.mem_append.1 hp with hp|hp
 ·exact(hb p hp a ha).ext (agree.refl n ρ) (b1 _) (by simp)
 ·simp at hp;subst hp;exact(hc a ha).ext (agree.refl n ρ) (b1 _) (by simp)
theorem R.alloc {n:Nat} {ρ:Env} {m:Nat->Nat} {tm:List V} {bl:List aM} {a:Act} {w:aC} {cs:List A} {t:bE} (h:R w0 n ρ m tm bl a w) (hc:∀x∈cs,A.ok n bl.length ρ x) (dst:Option Tmp) (o2:cy cs=true):
 R w0 n ρ (oe m bl.length w.heap.size) (hj tm dst (.w (.one (.ptr bl.length 0)))) (bl++[(cs,(t,false))]) (a.put dst (.pointer (some ⟨w.heap.size,0,none⟩))) (w.alloc (.cells (cs.map (A.den ρ m)).toArray t)):=by
 have hl:=ft.alloc n ρ m bl (cs,(t,false)) w.heap.size;have nm:=h.bK.alloc (t:=t) (ex:=[]) (open_:=false) h.b hc (λ_=>rfl) o2;rw[gO]at nm;exact⟨fo.put (h.t.ext hl.ha hl.hn hl.hb hl.hm) dst (by simp[V.ok,W.ok,A.ok]) (by simp[V.rel,W.den,A.den,pT]),by rw[put_defers];exact h.d,h.b.alloc hc,nm⟩
theorem R.row {n:Nat} {ρ:Env} {m:Nat->Nat} {tm:List V} {bl:List aM} {a:Act} {w:aC} {cs:List A} {t:bE} {ex:List bf} {open_:Bool} (h:R w0 n ρ m tm bl a w) (hc:∀x∈cs,A.ok n bl.length ρ x) (gH:open_=false->ex=[]) (o2:cy cs=true) (dst:Option Tmp) {v:V} {x:bf}
 (hv:v.ok n (bl.length+1) ρ) (hx:v.rel ρ (oe m bl.length w.heap.size) x):
 R w0 n ρ (oe m bl.length w.heap.size) (hj tm dst v) (bl++[(cs,(t,open_))]) (a.put dst x) (w.alloc (.cells (cs.map (A.den ρ m)++ex).toArray t)):=by
 have hl:=ft.alloc n ρ m bl (cs,(t,open_)) w.heap.size;exact⟨fo.put (h.t.ext hl.ha hl.hn hl.hb hl.hm) dst (by simpa using hv) hx,by rw[put_defers];exact h.d,h.b.alloc hc,h.bK.alloc h.b hc gH o2⟩
theorem Mem.storeCells {n:Nat} {ρ:Env} {m:Nat->Nat} {bl:List aM} {w:aC} {b off:Nat} {cs l:List A} {ez:bE×Bool} (h:Mem w0 ρ m bl w) (hb:dr n bl.length ρ bl) (hl:∀a∈l,A.ok n bl.length ρ a)
 (bd:bl[b]?=some (cs,ez)) (BK:off+l.length<=cs.length) (uf:cy cs=true) (s7:cy (cs.take off++l++cs.drop (off+l.length))=true):
 ∃w',(Go.storeCells ⟨m b,off,none⟩ (l.map (A.den ρ m))).run P w= .ok () w'/\Mem w0 ρ m (eP bl b (cs.take off++l++cs.drop (off+l.length),ez)) w':=by
 obtain⟨h1,Fq,r,hr,h2⟩:=h.gP b cs ez bd uf;have nn:=run_storeCells_at P (m b) off ez.1 (l.map (A.den ρ m)) 0 (cs.map (A.den ρ m)++r).toArray w h2 (by simp;omega) (λx hx=>by
  obtain⟨a,ha,rfl⟩:=List.mem_map.1 hx;exact A.Wf (hl a ha))
 have UL:∀k,k<=cs.length->(cs.map (A.den ρ m)++r).take k=(cs.take k).map (A.den ρ m)/\(cs.map (A.den ρ m)++r).drop k=(cs.drop k).map (A.den ρ m)++r:=λk ag=>by
  refine⟨?_,?_⟩
  ·rw[Sn (by simpa using ag),List.map_take]
  ·rw[aWV (by simpa using ag),List.map_drop]
 refine⟨w.setRow (m b) ((cs.take off++l++cs.drop (off+l.length)).map (A.den ρ m)++r).toArray,?_,?_⟩
 ·simp only[m3,ps]at nn;rw[nn]
  congr 3
  simp only[hQ,fS];rw[(UL off (by omega)).1,(UL (off+l.length) (by omega)).2]
 ·have tX:b<bl.length:=(List.getElem?_eq_some_iff.1 bd).1;have eZ:∀(i:Nat) (p:aM),(eP bl b (cs.take off++l++cs.drop (off+l.length),ez))[i]?=some p->(i=b/\p=(cs.take off++l++cs.drop (off+l.length),ez))∨(i≠b/\bl[i]?=some p):=λi p hi=>by
   rw[mK,wF]at hi;split at hi
   ·rename_i iT;subst iT;simp only[tX,if_true,bu]at hi;exact .inl ⟨rfl,hi.symm⟩
   ·rename_i iT;exact .inr ⟨λe=>iT e.symm,hi⟩
  have nj:b2 ρ cs=2:=n5 uf;refine⟨h.ext.setRow (m b) _ h1,h.kE,h.mE,h.lq,by simp;exact h.ia,λi hi hx=>?_,λi lD t' hi aA=>?_,λi sh ld code cap kind t' hi=>?_,λi j p q hi aR he=>?_⟩
  ·rw[Sv w (m b) i _ (λe=>by
    subst e;rcases Fq with h3|h3
    ·exact hx h3
    ·omega)]
   exact h.kp i hi hx
  ·rcases eZ i _ hi with⟨rfl,eT⟩|⟨dE,hi⟩
   ·cases eT;exact⟨h1,Fq,r,hr,Sw w (m i) _ _ _ _ h2⟩
   ·obtain⟨g1,oA,g2⟩:=h.gP i lD t' hi aA;exact⟨g1,oA,by rw[Sv w (m b) (m i) _ (λe=>h.ne bd hi (by rw[nj];exact b1 2) (by rw[n5 aA];decide) (λe=>dE e.symm) (by first|exact e|exact e.symm))];exact g2⟩
  ·rcases eZ i _ hi with⟨rfl,eT⟩|⟨dE,hi⟩
   ·have hi:=(Prod.mk.inj eT).1;rw[<-hi]at s7;cases s7
   ·exact(h.rws i sh ld code cap kind t' hi).grow λag hc=>Sv w (m b) (m i) _ (λe=>h.ne bd hi (by rw[nj];exact b1 2) (by simp only[vF ag hc];exact ag) (λe=>dE e.symm) (by first|exact e|exact e.symm))
  ·have ag:∀(i:Nat) (p:aM),(eP bl b (cs.take off++l++cs.drop (off+l.length),ez))[i]?=some p->∃ed,bl[i]?=some ed/\b2 ρ ed.1=b2 ρ p.1:=λi p hi=>by
    rcases eZ i _ hi with⟨rfl,eT⟩|⟨dE,hi⟩
    ·exact⟨_,bd,by rw[eT];exact nj.trans (n5 s7).symm⟩
    ·exact⟨p,hi,rfl⟩
   obtain⟨ed,hp,ep⟩:=ag i p hi;obtain⟨fG,an,eq⟩:=ag j q aR;rw[<-ep,<-eq];exact h.inj i j ed fG hp an he
theorem Mem.store {n:Nat} {ρ:Env} {m:Nat->Nat} {bl:List aM} {w:aC} {b off:Nat} {cs l:List A} {ez:bE×Bool} (h:Mem w0 ρ m bl w) (hb:dr n bl.length ρ bl) (hl:∀a∈l,A.ok n bl.length ρ a)
 (bd:bl[b]?=some (cs,ez)) (BK:off+l.length<=cs.length) (rG:0<l.length) (uf:cy cs=true) (s7:cy (cs.take off++l++cs.drop (off+l.length))=true) (ty:bE) (hs:gI P ty=some l.length) (v:bf) (hv:v.cells=(l.map (A.den ρ m)).toArray):
 ∃w',(aje ty (.pointer (some ⟨m b,off,none⟩)) v).run P w= .ok () w'/\Mem w0 ρ m (eP bl b (cs.take off++l++cs.drop (off+l.length),ez)) w':=by
 obtain⟨w',jZ,Dt⟩:=h.storeCells (P:=P) hb hl bd BK uf s7;refine⟨w',?_,Dt⟩;simp only[aje,pt,jS,kZ,j6,storeVar,kW hs,hv];simp only[CM,ps,ne_eq,not_true_eq_false,if_false,kZ,j6];simp only[kZ,j6,jZ]
theorem lL (bl:List aM) (b:Nat) (x:aM):(eP bl b x).length=bl.length:=by rw[mK];simp
theorem dr.set {n:Nat} {ρ:Env} {bl:List aM} {b:Nat} {cs:List A} {t:bE×Bool} (hb:dr n bl.length ρ bl) (hc:∀a∈cs,A.ok n bl.length ρ a):dr n (eP bl b (cs,t)).length ρ (eP bl b (cs,t)):=by
 intro p hp a ha;rw[lL];rw[mK]at hp;rcases Sx hp with h|h
 ·exact hb p h a ha
 ·subst h;exact hc a ha
theorem MO {t:bE} {cs:List A} (h:qu P t=some cs):∃i z,P.info? t=some i/\i.zero=some z/\Dc z.cells.toList=some cs:=by
 unfold qu at h;cases hi:P.info? t with
 |none=>simp[hi]at h
 |some i=>
  cases hz:i.zero with
  |none=>simp[hi,hz]at h
  |some z=>simp only[hi,hz]at h;exact⟨i,z,rfl,hz,h⟩
theorem aox {Z:Array bf} {i:Nat} (h:i<Z.size):Z[i]! =Z[i]:=by simp[h]
theorem aPr {z:List A} {Z:Array bf} {n nb:Nat} {ρ:Env} {m:Nat->Nat} (hz:z.map (A.den ρ m)=Z.toList) (cm:∀a∈z,A.ok n nb ρ a) (h0:0<z.length) (len:Nat):
 (∀a∈RC z len,A.ok n nb ρ a)/\((RC z len).map (A.den ρ m)).toArray=(aWW (len*Z.size)).map λi=>Z[i% Z.size]! :=by
 have hl:Z.size=z.length:=by have:=congrArg pY hz;simpa using this.symm
 have hi:∀i,i% z.length<z.length:=λi=>MU _ h0;refine⟨λa ha=>?_,?_⟩
 ·obtain⟨i,_,rfl⟩:=List.mem_map.1 ha;rw[lA (hi i)];exact cm _ (CL _)
 ·apply Yo;rw[AY,ajf];simp only[RC,lz,hl];refine j5 λi _=>?_;simp only[Si];have h1:i% z.length<Z.size:=by rw[hl];exact hi i
  rw[aox h1,lA (hi i)];simp only[EF];have h2:=congrArg (λl=>l[i% z.length]?) hz;simp only[qw,lA (hi i),AT]at h2;rw[Su,Sj h1]at h2;simpa using h2
theorem azl {t:bE} {len n:Nat} {ρ:Env} {m:Nat->Nat} {bl:List aM} {parts:List (Nat×V)} {vals:Array (Nat×bf)} {cs:List A} {e:bE} (h:abk P t len parts=some (cs,e)) (hr:SP n bl.length ρ m parts vals.toList):
 (∀a∈cs,A.ok n bl.length ρ a)/\∀w,(awu t len vals).run P w= .ok (.slice (some ⟨w.heap.size,0,none⟩) len len) (w.alloc (.cells (cs.map (A.den ρ m)).toArray e)):=by
 unfold abk at h;cases h1:kX P t with
 |none=>simp[h1]at h
 |some c8=>
  simp only[h1]at h;cases h2:gI P c8 with
  |none=>simp[h2]at h
  |some s=>
   cases h3:qu P c8 with
   |none=>simp[h2,h3]at h
   |some z=>
    simp only[h2,h3]at h;cases hc:(aU z.length s&&eC 0 s&&cV (len*s) 16777216)with
    |false=>simp[hc]at h
    |true=>
     simp only[hc,cond_true]at h;simp only[bI]at hc;have c1:=b8 hc.1.1;have bQ:=vg hc.1.2;have cD:=gq hc.2;cases h4:BC (λi=>some (i*s,s)) (RC z len) parts with
     |none=>simp[h4]at h
     |some l=>
      simp only[h4,bu,fi]at h;obtain⟨rfl,rfl⟩:=h;obtain⟨inf,oR,hi,jn,lF⟩:=MO h3;have ua:=Dd lF n bl.length ρ m;have Io:=aPr (Z:=oR.cells) ua.2 ua.1 (by omega) len;have HX:oR.cells.size=s:=by have:=congrArg pY ua.2;simp at this;omega
      obtain⟨g1,g2⟩:=T2 (m:=m) h4 Io.1 hr;refine⟨g1,λw=>?_⟩;rw[Io.2,HX]at g2;have hn:¬(16777216<len*s):=by omega
      by_cases o0:len=0
      ·subst o0;have g3:Instr.fill (λi=>some (i*s,s)) ((aWW (0*s)).map λi=>(#[]:Array bf)[i% (#[]:Array bf).size]!) vals.toList=some (l.map (A.den ρ m)).toArray:=by
        rw[<-g2];congr 1;simp
       simp[awu,gz (jP h1),kW h2]at g3⊢;simp[g3,newRow]
      ·have dE:¬(len*s=0):=by
        intro h0;rcases Nat.mul_eq_zero.1 h0 with h0|h0<;>omega
       have Ib:¬(s=0):=by omega
       simp[awu,gz (jP h1),kW h2,hn,dE,o0,Ib,zeroValue,typeInfo,hi,jn,HX,g2,newRow]
theorem aV3 {Z:Array bf} {k:Nat} (h:0<Z.size):∃r:List bf,p1 Z (k+1)=(Z.toList++r).toArray:=by
 refine⟨(p1 Z (k+1)).toList.drop Z.size,?_⟩;apply Yo;have:(p1 Z (k+1)).toList.take Z.size=Z.toList:=by
  apply ajg;intro i;rw[tF];by_cases hi:i<Z.size
  ·have h1:i<(k+1)*Z.size:=JL hi (by rw[AX];omega);rw[if_pos hi];simp only[p1,AY,ajf,qw,Ym h1,AT,MS hi];rw[aox hi,Su,Sj hi]
  ·rw[if_neg hi,M8 (by simpa using hi)]
 conv=>lhs;rw[<-nI Z.size (p1 Z (k+1)).toList,this]
theorem K4 {w:aC} {n:Nat} {ρ:Env} {m:Nat->Nat} {bl:List aM} {b off k:Nat} {cs:List A} (hm:Mem w0 ρ m bl w) (hb:dr n bl.length ρ bl) (h:yf bl b off k=some cs):
 cs.length=k/\(∀a∈cs,A.ok n bl.length ρ a)/\∀j v,(cs.map (A.den ρ m))[j]?=some v->w.cell? ((⟨m b,off,none⟩:Addr).add j)=some v:=by
 unfold yf at h;cases bd:bl[b]? with
 |none=>simp[bd]at h
 |some q=>
  obtain⟨C,t⟩:=q;simp only[bd]at h;cases hc:(cV (off+k) C.length&&cy C)with
  |false=>simp[hc]at h
  |true=>
   simp only[hc,cond_true,bu]at h;simp only[bI]at hc;have hle:=gq hc.1;subst h;obtain⟨_,_,r,_,h2⟩:=hm.gP b C t bd hc.2;refine⟨by simp;omega,λa ha=>hb _ (fw bd) a (qx (mv ha)),λj v aR=>?_⟩;rw[lk];rw[qw,tF]at aR;split at aR
   ·rename_i aYf;rw[List.getElem?_drop]at aR;cases an:C[off+j]? with
    |none=>simp[an]at aR
    |some y=>
     simp only[an,AT,bu]at aR;have hlt:off+j<C.length:=(List.getElem?_eq_some_iff.1 an).1;simp only[oq,h2,xW,xX,if_false,List.getElem?_toArray];rw[wG (by simpa using hlt),qw,an];simp[aR]
   ·simp at aR
theorem aoF {n:Nat} {ρ:Env} {m:Nat->Nat} {tm:List V} {bl:List aM} {a:Act} {w:aC} {G:fx} {K:Act->aC->Prop} {k:iK} {i:TypeInfo} {e:bE} {z:List A} {d:Option Tmp} {ig tt len:Nat} {olds news:List A} {Z:Array bf}
 (h:R w0 n ρ m tm bl a w) (aA:∀a∈olds,A.ok n bl.length ρ a) (hn:∀a∈news,A.ok n bl.length ρ a) (hz:∀a∈z,A.ok n bl.length ρ a) (HX:z.map (A.den ρ m)=Z.toList) (ah:(T9 i e z d ig tt len olds news n tm bl k).holds S L G ρ) (ag:mz S L w0 k n bl.length ρ m G K):
 (ig+len<=1000000/\awt (ig+len) tt*i.bytes<=281474976710656/\tt<ig+len/\0<len)/\
 K (a.put d (.slice (some ⟨w.heap.size,0,none⟩) (ig+len) (grownCap w (ig+len) tt e))) (w.drew.alloc (.cells ((olds.map (A.den ρ m)).toArray++(news.map (A.den ρ m)).toArray++p1 Z (grownCap w (ig+len) tt e-(ig+len))) e)):=by
 unfold T9 at ah;cases hc:(cV (ig+len) 1000000&&cV (awt (ig+len) tt*i.bytes) 281474976710656&&eC tt (ig+len)&&eC 0 len&&aU z.length i.size&&eC 0 i.size&&cy (olds++news)&&cy (olds++news++z))with
 |false=>rw[hc]at ah;exact ah.elim
 |true=>
  simp only[hc,cond_true,T.holds]at ah;simp only[bI]at hc;obtain⟨⟨hc,uf⟩,s7⟩:=hc;have c1:=gq hc.1.1.1.1.1;have bQ:=gq hc.1.1.1.1.2;have cD:=vg hc.1.1.1.2;have dq:=vg hc.1.1.2;have fM:=b8 hc.1.2;have hI:=vg hc.2;refine⟨⟨c1,bQ,cD,dq⟩,?_⟩;have hsz:Z.size=z.length:=by have:=congrArg pY HX;simpa using this.symm
  have ng:ig+len<=grownCap w (ig+len) tt e:=by unfold grownCap aWX;exact MZ _ _
  generalize grownCap w (ig+len) tt e=c at ng⊢;have xb:R w0 n ρ m tm bl a w.drew:=⟨h.t,h.d,h.b,h.bK.grow (Ye (sd w))⟩;by_cases Ur:c=ig+len
  ·subst Ur;have aeu:p1 Z (ig+len-(ig+len))=#[]:=by simp[p1]
   rw[aeu];have hR:=R.row (t:=e) (cs:=olds++news) (ex:=[]) (open_:=false) xb (λx hx=>(List.mem_append.1 hx).elim (aA x) (hn x)) (λ_=>rfl) uf d (v:= .w (.one (.slc bl.length 0 (ig+len) (ig+len)))) (x:= .slice (some ⟨w.heap.size,0,none⟩) (ig+len) (ig+len)) (by simp[V.ok,W.ok,A.ok]) (by
    show So (some ⟨w.heap.size,0,none⟩) _ _=_;simp[W.den,A.den,pT])
   have:=ag n ρ _ _ _ G _ _ (ft.alloc n ρ m bl (olds++news,(e,false)) w.heap.size) (ga.refl _ _) hR ah.1;simpa [hQ]using this
  ·obtain⟨q,an⟩:∃q,c-(ig+len)=q+1:=⟨c-(ig+len)-1,by omega⟩;rw[an];obtain⟨r,hr⟩:=aV3 (Z:=Z) (k:=q) (by omega);rw[hr,<-HX];have hR:=R.row (t:=e) (cs:=olds++news++z) (ex:=r) (open_:=true) xb (λx hx=>(List.mem_append.1 hx).elim (λhx=>(List.mem_append.1 hx).elim (aA x) (hn x)) (hz x)) (λh=>by cases h) s7 d (v:= .sK bl.length (ig+len) (ig+len+1)) (x:= .slice (some ⟨w.heap.size,0,none⟩) (ig+len) c) (by simp[V.ok]) ⟨c,by omega,by
    rw[pT];rfl⟩
   have:=ag n ρ _ _ _ G _ _ (ft.alloc n ρ m bl (olds++news++z,(e,true)) w.heap.size) (ga.refl _ _) hR ah.2;simpa [hQ]using this
theorem ayQ {n:Nat} {ρ:Env} {m:Nat->Nat} {tm:List V} {bl:List aM} {a:Act} {w:aC} {G:fx} {o:Oper} {K:Act->aC->Prop} {Q:Exit->Act->aC->Prop} {k:iK} {c:Call} {s x:rl} {t t':bE}
 (h:R w0 n ρ m tm bl a w) (gH:o.op= .call c) (lF:c.callee= .builtin .append) (gY:c.args.toList=[s,x]) (o4:c.argTypes.toList=[t,t'])
 (ah:(aaU P o.dst t t' (cB tm s) (cB tm x) n tm bl k).holds S L G ρ) (ag:mz S L w0 k n bl.length ρ m G K):o.wp P a w K Q:=by
 have bR:c.args=#[s,x]:=by rw[<-l4 (xs:=c.args),gY]
 have a2:c.argTypes=#[t,t']:=by rw[<-l4 (xs:=c.argTypes),o4]
 have hex:execOp a.eval o=(do pure (mx (<-M9 #[t,t'] o.type #[a.eval s,a.eval x]))):=by
  simp[execOp,gH,resolve,lF,bR,a2,invoke,builtin]
 have Dx:∀v w',(M9 #[t,t'] o.type #[a.eval s,a.eval x]).run P w= .ok v w'->K (a.put o.dst v) w'->o.wp P a w K Q:=λv w' h1 h2=>by
  unfold pw;simp only[hex,jS,h1,j6,kZ];exact h2
 have hs:=c4 h.t s;have hx:=c4 h.t x;unfold aaU at ah;split at ah
 ·rename_i b' ld q2 k6 e Dz Dw;rw[Dz]at hx;have et:a.eval x= .slice (some ⟨m b',ld,none⟩) q2 k6:=hx.2;split at ah
  ·rename_i i z hi hz;split at ah
   ·rename_i news aE9;obtain⟨bh,fF,sJ⟩:=K4 h.bK h.b aE9;cases UO:aU t t' with
    |false=>simp[UO,T.holds]at ah
    |true=>
     have UO:=b8 UO;subst UO;simp only[JM,dD,cond_false]at ah;obtain⟨inf,oR,qN,jn,ua⟩:=MO hz;rw[hi]at qN;simp only[bu]at qN;subst qN;have ua:=Dd ua n bl.length ρ m;cases rF:aeE (cB tm s)with
     |true=>
      simp only[rF,cond_true]at ah;have vu:a.eval s= .slice none 0 0:=by
       unfold aeE at rF;split at rF
       ·rename_i hv;rw[hv]at hs;exact hs.2
       ·cases rF
      obtain⟨⟨c1,bQ,cD,dq⟩,fM⟩:=aoF (Z:=oR.cells) h (λ_ h=>by simp at h) fF ua.1 ua.2 ah ag;simp only[y4]at c1 bQ cD dq fM;refine Dx _ _ ?_ fM;rw[vu,et,run_append_nil w t _ e i oR (jP Dw) hi jn ⟨m b',ld,none⟩ q2 k6 (news.map (A.den ρ m)) (by simpa using bh) sJ dq (by omega) (by rw[nextslicecap_zero dq]at bQ;exact bQ)];simp
     |false=>
      simp only[rF,cond_false]at ah;split at ah
      ·rename_i b off len cap uh;rw[uh]at hs;have vu:a.eval s= .slice (some ⟨m b,off,none⟩) len cap:=hs.2;split at ah
       ·rename_i olds hold;obtain⟨o1,kG,pc⟩:=K4 h.bK h.b hold;obtain⟨⟨c1,bQ,cD,dq⟩,fM⟩:=aoF (Z:=oR.cells) h kG fF ua.1 ua.2 ah ag;refine Dx _ _ ?_ fM;rw[vu,et,run_append_grow w t _ e i oR (jP Dw) hi jn ⟨m b,off,none⟩ len cap (olds.map (A.den ρ m)) (by simpa using o1) pc ⟨m b',ld,none⟩ q2 k6 (news.map (A.den ρ m)) (by simpa using bh) sJ cD (by omega) bQ]
       ·exact ah.elim
      ·rename_i b len lo uh;rw[uh]at hs;obtain⟨oy,FA,vu⟩:=hs.2;split at ah
       ·rename_i cs ty bd;cases hc:(cV (len+q2) lo&&cV ((len+q2)*i.size) cs.length&&eC 0 (q2*i.size)&&cy cs&&cy (cs.take (len*i.size)++news++cs.drop (len*i.size+news.length)))with
        |false=>rw[hc]at ah;exact ah.elim
        |true=>
         simp only[hc,cond_true]at ah;simp only[bI]at hc;obtain⟨⟨hc,uf⟩,s7⟩:=hc;have c1:=gq hc.1.1;have bQ:=gq hc.1.2;have cD:=vg hc.2;obtain⟨w',jZ,Dt⟩:=h.bK.storeCells (P:=P) (off:=len*i.size) (l:=news) h.b fF bd (by rw[bh,<-y6];exact bQ) uf s7;have cm:∀a∈cs.take (len*i.size)++news++cs.drop (len*i.size+news.length),A.ok n bl.length ρ a:=λa ha=>by
          have dS:=h.b _ (fw bd);rcases List.mem_append.1 ha with ha|ha
          ·rcases List.mem_append.1 ha with ha|ha
           ·exact dS a (mv ha)
           ·exact fF a ha
          ·exact dS a (qx ha)
         have ON:b<bl.length:=(List.getElem?_eq_some_iff.1 bd).1;refine Dx (.slice (some ⟨m b,0,none⟩) (len+q2) oy) w' ?_ (ag n ρ m _ _ G _ w' ⟨b1 _,agree.refl _ _,by rw[lL];exact b1 _,λ_ _=>rfl⟩ (ga.refl _ _) ⟨?_,by rw[put_defers];exact h.d,h.b.set cm,Dt⟩ ah)
         ·have FD:=Yp (P:=P) w i.size q2 ⟨m b',ld,none⟩ q2 k6 (news.map (A.den ρ m)) (by simpa using bh) sJ;have hle:len+q2<=oy:=by omega
          rw[vu,et];simp[M9,gz (jP Dw),sizeOf,typeInfo,hi,Yq,hle,FD,lk,jZ]
         ·rw[lL];exact fo.put h.t o.dst ON ⟨oy,by omega,rfl⟩
       ·exact ah.elim
      ·exact ah.elim
   ·exact ah.elim
  ·exact ah.elim
 ·exact ah.elim
theorem Wx {n:Nat} {ρ:Env} {m:Nat->Nat} {tm:List V} {bl:List aM} {a:Act} {w:aC} {G:fx} {o:Oper} {K:Act->aC->Prop} {Q:Exit->Act->aC->Prop} {k:iK}
 (di:im S P gl w0 cal) (hg:fJ gl w0) (h:R w0 n ρ m tm bl a w) (ah:(Eb P cal gl bl tm o n λv n'=>k n' (hj tm o.dst v) bl).holds S L G ρ) (ag:mz S L w0 k n bl.length ρ m G K):o.wp P a w K Q:=by
 obtain⟨ae,n',v,hn,ha,⟨hv,val,hr,an⟩,Lb⟩:=ag5 (L:=L) di h.b hg ⟨w,h.bK⟩ h.t o G _ ah;have hl:ft n bl.length ρ m n' bl.length ae m:=⟨hn,ha,b1 _,λ_ _=>rfl⟩;have hR:∀w',w.Extends w'->R w0 n' ae m (hj tm o.dst v) bl (a.put o.dst val) w':=λw' he=>
  ⟨fo.put (h.t.ext ha hn (b1 _) (λ_ _=>rfl)) o.dst hv hr,by rw[put_defers];exact h.d,h.b.ext ha hn (b1 _),(h.bK.grow he).sP h.b ha⟩
 unfold pw;rcases an w h.bK with an|⟨f,args,an,hc⟩
 ·rw[an];exact ag n' ae m _ bl G _ w hl (ga.refl _ _) (hR w (sd w)) Lb
 ·rw[an];refine hc.mono λe sR ⟨he,hx⟩=>?_;subst he;exact ag n' ae m _ bl G _ sR hl (ga.refl _ _) (hR sR hx) Lb
theorem aAx {n nb:Nat} {ρ:Env} {m:Nat->Nat} {v:V} {f:Nat} {lC:List A} {x:bf} (h:abM v=some (f,lC)) (hv:v.ok n nb ρ) (hr:v.rel ρ m x):
 (∀y∈lC,A.ok n nb ρ y)/\x= .func (.func f) #[] (lC.map (A.den ρ m)).toArray:=by
 unfold abM at h;split at h
 ·simp only[bu,fi]at h;obtain⟨rfl,rfl⟩:=h;exact⟨hv,hr⟩
 ·rename_i nQ a b;cases hc:(aU a.size 0&&aU b.size 0)with
  |false=>simp[hc]at h
  |true=>
   simp only[hc,cond_true,bu,fi]at h;obtain⟨rfl,rfl⟩:=h;simp only[bI]at hc;have av:=EL (b8 hc.1);have aH:=EL (b8 hc.2);subst av;subst aH;have hr:x= .func (.func nQ) #[] #[]:=hr;exact⟨λy hy=>by simp at hy,by rw[hr];rfl⟩
 ·cases h
end
end Go.bX
namespace Go.bX
open M
theorem cX.row {sh:List a8} {row:List Int} (hs:qq sh=true) (h:cX sh row):ahg row:=by
 unfold qq at hs;simp only[bI]at hs;obtain⟨⟨h0,Oy⟩,h2⟩:=hs;refine⟨by rw[h.len];exact gq h0,?_⟩;have hp:=ZW;clear h0 Oy;induction sh generalizing row with
 |nil=>
  cases row with
  |nil=>intro z hz;simp at hz
  |cons _ _=>exact h.elim
 |cons c sh ih=>
  cases row with
  |nil=>exact h.elim
  |cons x r=>
   simp only[awv,bI]at h2;intro z hz;rcases List.mem_cons.1 hz with rfl|hz
   ·have h3:=h.1;cases c with
    |int k lo hi=>
     have h4:=h2.1;simp only[bI,decide_eq_true_eq]at h4;simp only[a8.gu]at h3;omega
    |str=>simp only[a8.gu]at h3;omega
    |bool=>simp only[a8.gu]at h3;omega
   ·exact ih h.2 h2.2 z hz
theorem G6 {sh:List a8} {rows:List (List Int)} (hs:qq sh=true) (hl:rows.length<=1073741824) (h:∀row∈rows,cX sh row):rc rows<=cP:=
 u1 (by unfold maxLen;omega) λrow hr=>(h row hr).row hs
theorem a8.val_one (c:a8) (z:Int):(c.val z).oneCell'=true:=by cases c<;>rfl
theorem ati:∀{sh:List a8} {row:List Int},∀u∈eA sh row,u.oneCell'=true
 |[],_,u,h=>by simp[eA]at h
 |_::_,[],u,h=>by simp[eA]at h
 |c::sh,z::r,u,h=>by
  simp only[eA,m2]at h;rcases h with rfl|h
  ·exact a8.val_one c z
  ·exact ati u h
theorem acE {sh:List a8} {rows:List (List Int)}:∀u∈ct sh rows,u.oneCell'=true:=λu h=>by
 obtain⟨row,_,h⟩:=List.mem_flatMap.1 h;exact ati u h
theorem pz.flat {cells:Array bf} {off:Nat} {sh:List a8} {rows:List (List Int)} (h:pz cells off sh rows) {j:Nat} {v:bf} (aR:(ct sh rows)[j]?=some v):cells[off+j]?=some v:=by
 obtain⟨h1,pre,post,h2,h3⟩:=h;have hlt:=(List.getElem?_eq_some_iff.1 aR).1;rw[<-Su,h2,fS,MY (by omega),wG (by omega)];rw[show off+j-pre.length=j by omega];exact aR
theorem pz.sub {cells:Array bf} {off:Nat} {sh:List a8} {rows:List (List Int)} (h:pz cells off sh rows) (a k:Nat) (ha:a<=rows.length):pz cells (off+a*sh.length) sh ((rows.drop a).take k):=by
 obtain⟨h1,pre,post,h2,h3⟩:=h;refine⟨λrow hr=>h1 row (qx (mv hr)),pre++ct sh (rows.take a),ct sh ((rows.drop a).drop k)++post,?_,?_⟩
 ·rw[h2];have:rows=rows.take a++((rows.drop a).take k++(rows.drop a).drop k):=by rw[nI,nI]
  conv=>lhs;rw[this]
  simp only[zI,fS]
 ·rw[fq,h3,qK λrow hr=>h1 row (mv hr),m4,CI ha]
section
variable {S:Nat->List Int->List Int->Prop} {L:V->Env->Prop} {n:Nat} {ρ:Env} {m:Nat->Nat} {bl:List aM} {gl:fK} {w0:fg} {P:cc}
theorem UW {e:bO}:aE S L (IB e) n ρ λae n' l=>l.bU n'/\(0<=l.den ae/\l.den ae<=1)/\e.den ρ=decide (l.den ae=1):=by
 intro A k ag;cases h:e.den ρ with
 |true=>exact⟨_,n+1,_,tH _,agree.eg _ _ _,⟨I.gU (AW n),by simp[I.de,mL],by simp[I.de,mL]⟩,ag 1 (by decide) (by decide) (by simp[h])⟩
 |false=>exact⟨_,n+1,_,tH _,agree.eg _ _ _,⟨I.gU (AW n),by simp[I.de,mL],by simp[I.de,mL]⟩,ag 0 (by decide) (by decide) (by simp[h])⟩
theorem aAo {nb:Nat} {c:a8} {a:A} (ha:a.ok n nb ρ):aE S L (abB c a) n ρ λae n' l=>l.bU n'/\(c.gu.1<=l.den ae/\l.den ae<=c.gu.2)/\c.val (l.den ae)=a.den ρ m:=by
 unfold abB;split
 ·refine fe λhc=>aE.pure ?_;simp only[bI,decide_eq_true_eq]at hc;obtain⟨⟨h1,h2⟩,h3⟩:=hc;have h4:=ha.2;refine⟨ha.1,⟨?_,?_⟩,?_⟩
  ·simp only[a8.gu];omega
  ·simp only[a8.gu];omega
  ·simp only[a8.val,A.den,h1]
 ·exact aE.pure ⟨ha.1,ha.2,rfl⟩
 ·split
  ·rename_i v;refine aE.pure ⟨I.dX _ _,?_,?_⟩
   ·simp only[a8.gu,I.bC];cases v<;>decide
   ·simp only[a8.val,A.den,bO.den,I.bC];cases v<;>rfl
  ·rename_i e _;exact UW.mono λae n' l _ _ ⟨h1,h2,h3⟩=>⟨h1,h2,by simp only[a8.val,A.den,h3]⟩
 ·exact aE.fail
theorem Mn {nb:Nat}:∀{sh:List a8} {l:List A} {n:Nat} {ρ:Env},(∀a∈l,A.ok n nb ρ a)->aE S L (Ei sh l) n ρ λae n' ls=>(∀x∈ls,I.bU n' x)/\cX sh (ls.map (·.den ae))/\eA sh (ls.map (·.den ae))=l.map (A.den ρ m)
 |[],[],n,ρ,_=>aE.pure ⟨λ_ h=>by simp at h,trivial,rfl⟩
 |c::sh,a::r,n,ρ,h=>by
  have h0:=h a (by simp);refine(aAo (m:=m) h0).bind λa6 bh x hn ha ⟨g1,g2,g3⟩=>(Mn (nb:=nb) (sh:=sh) (l:=r) λb hb=>(h b (e5 _ hb)).ext ha hn (b1 _)).bind λcd fF ls fX eI ⟨k1,k2,k3⟩=>aE.pure ⟨λy hy=>?_,?_,?_⟩
  ·rcases List.mem_cons.1 hy with rfl|hy
   ·exact g1.mono fX
   ·exact k1 y hy
  ·simp only[df];exact⟨by rw[I.cq eI g1];exact g2,k2⟩
  ·simp only[df,eA,I.cq eI g1,g3,k3];rw[yx (λb hb=>h b (e5 _ hb)) ha (λ_ _=>rfl)]
 |[],_::_,_,_,_=>aE.fail
 |_::_,[],_,_,_=>aE.fail
theorem NZ {w:Nat}:∀{k:Nat} {l:List A},l.length=k*w->(rA w k l).length=k/\(rA w k l).flatten=l
 |0,l,h=>by
  have:l=[]:=uV (by omega);subst this;exact⟨rfl,rfl⟩
 |k+1,l,h=>by
  rw[AX]at h;have ih:=NZ (w:=w) (k:=k) (l:=l.drop w) (by simp;omega);exact⟨by simp[rA,ih.1],by simp[rA,ih.2]⟩
theorem N0 {w:Nat}:∀{k:Nat} {l:List A},∀row∈rA w k l,∀a∈row,a∈l
 |0,l,row,h,a,ha=>by simp[rA]at h
 |k+1,l,row,h,a,ha=>by
  simp only[rA,m2]at h;rcases h with rfl|h
  ·exact mv ha
  ·exact qx (N0 row h a ha)
theorem Nx {nb:Nat} {sh:List a8} (mc:qq sh=true):∀{rs:List (List A)} {n:Nat} {ρ:Env} {c:I},(∀row∈rs,∀a∈row,A.ok n nb ρ a)->c.bU n->(0<=c.den ρ/\c.den ρ<=cP)->(∀row∈af (c.den ρ),cX sh row)->(af (c.den ρ)).length+rs.length<=1073741824->
 aE S L (E1 sh rs c) n ρ λae n' ek=>ek.bU n'/\(0<=ek.den ae/\ek.den ae<=cP)/\∃e2,af (ek.den ae)=af (c.den ρ)++e2/\e2.length=rs.length/\(∀row∈e2,cX sh row)/\ct sh e2=rs.flatten.map (A.den ρ m)
 |[],n,ρ,c,_,h1,h2,_,_=>aE.pure ⟨h1,h2,[],by simp,rfl,λ_ h=>by simp at h,rfl⟩
 |row::rs,n,ρ,c,h0,h1,h2,h3,h4=>by
  refine(Mn (nb:=nb) (m:=m) (sh:=sh) (l:=row) (h0 row (by simp))).bind λa6 bh ls hn ha ⟨g1,g2,g3⟩=>?_;have av:c.den a6=c.den ρ:=I.cq ha h1;have hf:cu 23 ((c::ls).map (·.den a6))=rc (af (c.den ρ)++[ls.map (·.den a6)]):=by
   simp only[df,cu,av]
  simp only[kx]at h4;have ug:∀r∈af (c.den ρ)++[ls.map (·.den a6)],cX sh r:=λr hr=>by
   rcases List.mem_append.1 hr with hr|hr
   ·exact h3 r hr
   ·simp at hr;subst hr;exact g2
  have hb:rc (af (c.den ρ)++[ls.map (·.den a6)])<=cP:=G6 mc (by simp;omega) ug;refine(iR (by rw[hf];exact kh _) (by rw[hf];exact hb)).bind λcd fF ek fX eI ⟨k1,k2⟩=>?_;rw[hf]at k2;have aH:af (ek.den cd)=af (c.den ρ)++[ls.map (·.den a6)]:=by rw[k2,jO]
  have aV:=ha.trans eI hn;refine(Nx (nb:=nb) (rs:=rs) (c:=ek) mc (λr hr a H2=>(h0 r (e5 _ hr) a H2).ext aV (nJ hn fX) (b1 _)) k1 (by rw[k2];exact⟨kh _,hb⟩) (by rw[aH];exact ug) (by rw[aH];simp;omega)).mono λjb sJ cD Du w9 ⟨bw,bz,e2,cY,fa,fv,hB⟩=>⟨bw,bz,ls.map (·.den a6)::e2,?_,by simp[fa],λr hr=>?_,?_⟩
  ·rw[cY,aH];simp
  ·rcases List.mem_cons.1 hr with rfl|hr
   ·exact g2
   ·exact fv r hr
  ·show eA sh (ls.map (·.den a6))++ct sh e2=_;rw[hB,g3,nH,hQ]
   congr 1
   refine j5 λa Up=>A.oz (n:=n) (nb:=nb) ?_ aV (λ_ _=>rfl);obtain⟨r,hr,H2⟩:=List.mem_flatten.1 Up;exact h0 r (e5 _ hr) a H2
def axU (P:cc) (tv:bE) (sh:List a8) (X:bf) (w:aC) (old:List (List Int)) (ae:Env) (n':Nat) (p:I×I):Prop:=p.1.bU n'/\p.2.bU n'/\(0<=p.1.den ae/\p.1.den ae<=cP)/\∃e2,af (p.1.den ae)=old++e2/\p.2.den ae=e2.length/\(∀row∈e2,cX sh row)/\old.length+e2.length<=1073741824/\Src P sh.length tv X e2.length (ct sh e2) w
theorem at7 {sh:List a8} (mc:qq sh=true) {w:aC} (hb:dr n bl.length ρ bl) (hw:Mem w0 ρ m bl w) {tv:bE} {x:V} {X:bf} (hx:x.ok n bl.length ρ) (cb:x.rel ρ m X) {base:I} (tZ:base.bU n)
 (apa:0<=base.den ρ/\base.den ρ<=cP) (zL:∀row∈af (base.den ρ),cX sh row):aE S L (Xd P tv sh bl x base) n ρ (axU P tv sh X w (af (base.den ρ))):=by
 unfold Xd;split
 ·rename_i b off len cap;split
  ·rename_i cs c8 dS Lk;obtain⟨c1,bQ,cD⟩:=K4 hw hb dS;refine kb λag=>?_;simp only[df,gr,aj,I.bC]at ag;have nU:=NZ (w:=sh.length) (k:=len) c1;refine(Nx (nb:=bl.length) (m:=m) mc (rs:=rA sh.length len cs) (c:=base) (λrow hr a ha=>bQ a (N0 row hr a ha)) tZ apa zL (by rw[nU.1];omega)).bind λa6 bh ek hn ha ⟨bw,bz,e2,cY,fa,fv,hB⟩=>aE.pure ⟨bw,I.dX _ _,bz,e2,cY,?_,fv,by rw[fa,nU.1];omega,?_⟩
   ·rw[I.bC,fa,nU.1]
   ·have cb:X= .slice (some ⟨m b,off,none⟩) len cap:=cb;rw[nU.2]at hB;rw[cb,hB,fa,nU.1];exact Src.ofSlice w (jP Lk) _ _ _ _ (by simpa using c1) cD (λu hu=>by
     obtain⟨a,ha,rfl⟩:=List.mem_map.1 hu;exact A.Wf (bQ a ha))
  ·exact aE.fail
 ·rename_i b bL o ro len cap;split
  ·rename_i gC off code e8 kind ez c8 bd Lk;refine fe λhc=>kb λni=>kb λrE=>?_;simp only[bI]at hc;obtain⟨⟨⟨c1,bQ⟩,cD⟩,dq⟩:=hc;have c1:0<kind:=gq c1;have bQ:=Ek bQ;have cD:=I.beq_eq cD;have dq:=b8 dq;subst bQ;subst cD;subst dq;simp only[df,gr,aj,I.den_add]at ni rE;have rI:(A.sl b sh.length o ro len cap).ok n bl.length ρ:=hx;obtain⟨ptr,av,aH,ca⟩:=xI (m:=m) rI;have cb:X=(A.sl b sh.length o ro len cap).den ρ m:=cb;rw[av]at cb;obtain⟨ak,⟨ai,aw,dk,jz⟩,⟨jR,lW,mW,mX⟩,⟨nE,mP⟩,ik,ki⟩:=rI;have pH:=hw.rws b sh o code e8 kind ez bd (by omega);have lQ:∀row∈af (code.den ρ),cX sh row:=λrow hr=>by
    rcases mw (e8.den ρ) 0 with h|h
    ·rw[pH.1 h]at hr;simp at hr
    ·obtain⟨_,cells,lM,fz,_,⟨_,g3⟩,_⟩:=pH.2 h;exact g3.1 row hr
   have Pp:∀row∈(((af (code.den ρ)).drop (ro.den ρ).toNat).take (len.den ρ).toNat),cX sh row:=λrow hr=>lQ row (qx (mv hr));have hlen:(((af (code.den ρ)).drop (ro.den ρ).toNat).take (len.den ρ).toNat).length=(len.den ρ).toNat:=by simp;omega
   have uc:cu 22 ([code,ro,ro.add len].map (·.den ρ))=rc (((af (code.den ρ)).drop (ro.den ρ).toNat).take (len.den ρ).toNat):=by
    simp only[df,gr,cu,I.den_add];have:(ro.den ρ+len.den ρ).toNat-(ro.den ρ).toNat=(len.den ρ).toNat:=by omega
    rw[this]
   have KZ:Src P sh.length tv X (((af (code.den ρ)).drop (ro.den ρ).toNat).take (len.den ρ).toNat).length (ct sh (((af (code.den ρ)).drop (ro.den ρ).toNat).take (len.den ρ).toNat)) w:=by
    rw[cb];by_cases dR:cap.den ρ<0
    ·have h0:=ik dR;rw[aH dR,if_pos dR,h0];simp only[Int.toNat_zero,qy];exact Src.ofNil w (jP Lk) 0
    ·rw[ca (by omega),if_neg dR,hlen];refine Src.ofSlice w (jP Lk) _ _ _ _ (by rw[qK Pp,hlen]) (λj u hu=>?_) acE;rw[lk];rcases mw (e8.den ρ) 0 with h|h
     ·rw[pH.1 h]at hu;simp[ct]at hu
     ·obtain⟨_,cells,lM,fz,g1,⟨_,g3⟩,_⟩:=pH.2 h;have:=(g3.sub (ro.den ρ).toNat (len.den ρ).toNat (by omega)).flat hu;simp only[oq,g1,xW,xX,if_false];exact this
   generalize ud:(((af (code.den ρ)).drop (ro.den ρ).toNat).take (len.den ρ).toNat)=mid at Pp hlen uc KZ;have qd:rc mid<=cP:=G6 mc (by omega) Pp;refine(iR (by rw[uc];exact kh _) (by rw[uc];exact qd)).bind λa6 bh s h9 fV ⟨g1,g2⟩=>?_;rw[uc]at g2;have w2:base.den a6=base.den ρ:=I.cq fV tZ;have mb:cu 24 ([base,s].map (·.den a6))=rc (af (base.den ρ)++mid):=by
    simp only[df,gr,cu,w2,g2,jO]
   have jL:∀row∈af (base.den ρ)++mid,cX sh row:=λrow hr=>(List.mem_append.1 hr).elim (zL row) (Pp row);have qM:rc (af (base.den ρ)++mid)<=cP:=G6 mc (by simp;omega) jL;refine(iR (by rw[mb];exact kh _) (by rw[mb];exact qM)).bind λcd fF c fX eI ⟨k1,k2⟩=>aE.pure ⟨k1,dk.mono (nJ h9 fX),?_,mid,?_,?_,Pp,by omega,KZ⟩
   ·rw[k2,mb];exact⟨kh _,qM⟩
   ·rw[k2,mb,jO]
   ·rw[I.cq (fV.trans eI h9) dk,hlen];omega
  ·exact aE.fail
 ·rename_i l;split
  ·rename_i hu;refine fe λK2=>?_;have aFB:∃lo hi,sh=[.int .u8 lo hi]/\lo=0/\hi=255:=by
    unfold Th at K2;split at K2
    ·simp only[bI,decide_eq_true_eq]at K2;exact⟨_,_,rfl,K2.1,K2.2⟩
    ·cases K2
   obtain⟨lo,hi,rfl,rfl,rfl⟩:=aFB;have hl:(A.str l).ok n bl.length ρ:=hx;have cb:X= .string (eS (bD (l.den ρ))):=cb;have aE1:=Nh hl.2.2;unfold nw at aE1;refine(iR (op:=0) (args:=[l]) (JK _) (by show((bD (l.den ρ)).length:Int)<=_;omega)).bind λa6 bh len h9 fV ⟨g1,g2⟩=>kb λag=>?_;have g2:len.den a6=(bD (l.den ρ)).length:=g2;have w2:base.den a6=base.den ρ:=I.cq fV tZ;have el:l.den a6=l.den ρ:=I.cq fV hl.1;simp only[df,gr,aj,w2,g2]at ag;have uc:cu 27 ([l].map (·.den a6))=rc ((bD (l.den ρ)).map λb=>[(b.toNat:Int)]):=by
    simp only[df,gr,cu,el]
   have ud:∀row∈((bD (l.den ρ)).map λb=>[(b.toNat:Int)]),cX [.int .u8 0 255] row:=λrow hr=>by
    obtain⟨b,_,rfl⟩:=List.mem_map.1 hr;have:=b.toNat_lt;refine⟨⟨?_,?_⟩,trivial⟩
    ·simp only[a8.gu];omega
    ·simp only[a8.gu];omega
   have Lh:((bD (l.den ρ)).map λb=>[(b.toNat:Int)]).length=(bD (l.den ρ)).length:=by simp
   have lP:ct [.int .u8 0 255] ((bD (l.den ρ)).map λb=>[(b.toNat:Int)])=byteCells (eS (bD (l.den ρ))):=by
    unfold byteCells ct eS;simp only[aW0];generalize bD (l.den ρ)=q;induction q with
    |nil=>rfl
    |cons y r ih=>rw[wH,df,ih];rfl
   have KZ:=Src.ofString (P:=P) w hu (eS (bD (l.den ρ)));rw[<-lP,C8,<-cb]at KZ;generalize nm:((bD (l.den ρ)).map λb=>[(b.toNat:Int)])=mid at ud Lh uc KZ;have qd:rc mid<=cP:=G6 mc (by omega) ud;refine(iR (by rw[uc];exact kh _) (by rw[uc];exact qd)).bind λcd fF s fX eI ⟨h1,h2⟩=>?_;rw[uc]at h2;have aBc:base.den cd=base.den ρ:=(I.cq eI (tZ.mono h9)).trans w2;have mb:cu 24 ([base,s].map (·.den cd))=rc (af (base.den ρ)++mid):=by
    simp only[df,gr,cu,aBc,h2,jO]
   have jL:∀row∈af (base.den ρ)++mid,cX [.int .u8 0 255] row:=λrow hr=>(List.mem_append.1 hr).elim (zL row) (ud row);have qM:rc (af (base.den ρ)++mid)<=cP:=G6 mc (by simp;omega) jL;refine(iR (by rw[mb];exact kh _) (by rw[mb];exact qM)).bind λjb sJ c Du w9 ⟨k1,k2⟩=>aE.pure ⟨k1,g1.mono (nJ fX Du),?_,mid,?_,?_,ud,by omega,?_⟩
   ·rw[k2,mb];exact⟨kh _,qM⟩
   ·rw[k2,mb,jO]
   ·rw[I.cq (eI.trans w9 fX) g1,g2,Lh]
   ·rw[Lh];exact KZ
  ·exact aE.fail
 ·split
  ·rename_i c8 Lk;refine kb λag=>aE.pure ⟨tZ,I.dX _ _,apa,[],by simp,by simp[I.bC],λ_ h=>by simp at h,?_,?_⟩
   ·simp only[df,gr,aj,I.bC]at ag;simp only[pr];omega
   ·have cb:X= .slice none 0 0:=cb;rw[cb];exact Src.ofNil w (jP Lk) 0
  ·exact aE.fail
 ·exact aE.fail
theorem aQj (w:aC) (t tv ty e:bE) (i:TypeInfo) (aB:P.underlying t=some (.slice e)) (hi:P.info? e=some i) (g ig tt:Nat) (cur:Array bf) (BA:bE) (hg:w.heap[g]?=some (.cells cur BA (0,0))) (x:bf) (k:Nat) (news:List bf) (hs:Src P i.size tv x k news w)
 (Pn:ig+k<=tt) (BK:ig*i.size+news.length<=cur.size):
 (M9 #[t,tv] ty #[.slice (some ⟨g,0,none⟩) ig tt,x]).run P w= .ok (.slice (some ⟨g,0,none⟩) (ig+k) tt) (w.setRow g (cur.toList.take (ig*i.size)++news++cur.toList.drop (ig*i.size+news.length)).toArray):=by
 have nn:=run_storeCells_at P g (ig*i.size) BA news 0 cur w hg (by simpa using BK) hs.one;simp only[m3]at nn;rcases hs.kind with⟨c8,ag⟩|ag<;>simp[M9,gz aB,gz ag,sizeOf,typeInfo,hi,hs.len,Pn,hs.cells,Addr.add_lit,nn]
theorem av2 (Z:Array bf) (k:Nat):(p1 Z k).size=k*Z.size:=by simp[p1]
theorem aoH (w:aC) (LX old:Nat) (e:bE) (h:LX<=1073741824):LX<=grownCap w LX old e/\grownCap w LX old e<=0x7fffffffffffffff:=by
 have hlt:=MU (w.tape w.drawn (.appendCap LX old e)) (show 0<2^63-LX by omega);simp only[grownCap,aWX];omega
theorem asT {kd:Nat} {tm:List V} {a:Act} {w:aC} {G:fx} {K:Act->aC->Prop} {k:iK} {e:bE} {d:Option Tmp} {sh:List a8} {code len:I} {c:Int} {g:Nat}
 (jX:2<=kd) (h:R w0 n ρ m tm bl a w) (dS:code.bU n) (FH:len.bU n) (iD:0<=code.den ρ/\code.den ρ<=cP) (hc:-1<=c/\c<=0x7fffffffffffffff) (yl:Jz 0 0 (len.den ρ) c)
 (rF:c<0->af (code.den ρ)=[])
 (Pd:0<=c->∃(cells:Array bf) (fz:Nat×Nat),(w.heap[g]?=some (.cells cells e fz)/\CS kd fz cells.size)/\pz cells 0 sh (af (code.den ρ))/\cells.size=c.toNat*sh.length/\w0.b.heap.size<=g/\(w0.ex g∨w0.r.heap.size<=g))
 (BM:∀(i:Nat) (p:aM),bl[i]?=some p->m i=g->b2 ρ p.1=0∨c<0)
 (ah:(k (n+1) (hj tm d (.w (.one (.sl bl.length sh.length (.const 0) (.const 0) len (.var n))))) (bl++[([.rows sh (.const 0) code (.var n) kd],(e,false))])).holds S L G (eg ρ n c)) (ag:mz S L w0 k n bl.length ρ m G K):
 K (a.put d (if c<0 then .slice none 0 0 else .slice (some ⟨g,0,none⟩) (len.den ρ).toNat c.toNat)) w:=by
 have ha:agree n ρ (eg ρ n c):=agree.eg _ _ _;have qd:dr (n+1) bl.length (eg ρ n c) bl:=h.b.ext ha (tH _) (b1 _);have UD:Mem w0 (eg ρ n c) m bl w:=h.bK.sP h.b ha;have av:code.den (eg ρ n c)=code.den ρ:=I.cq ha dS;have aH:len.den (eg ρ n c)=len.den ρ:=I.cq ha FH;have ca:(I.var n).den (eg ρ n c)=c:=by simp[I.de,mL]
 have aV:(A.rows sh (.const 0) code (.var n) kd).ok (n+1) bl.length (eg ρ n c):=⟨⟨I.dX _ _,dS.mono (tH _),I.gU (AW n)⟩,by rw[av];exact iD,by rw[ca];omega⟩;have ma:=UD.push (x:=([.rows sh (.const 0) code (.var n) kd],(e,false))) (g:=g) qd (λy hy=>by simp at hy;subst hy;exact aV) (λaA=>by cases aA) (λgC ld code' k6 sH he=>by
  cases he;intro _;refine⟨λh=>by rw[ca]at h;rw[av];exact rF h,λh=>?_⟩;rw[ca]at h;obtain⟨cells,fz,⟨g1,oA⟩,g2,g3,g4,g5⟩:=Pd h;exact⟨g5.elim .inl λh=> .inr (.inr h),cells,e,fz,g1,⟨by rw[I.bC];exact cn _,by rw[av,I.bC];exact g2⟩,λ_=>⟨rfl,I.bC _ _,oA,by rw[ca];exact g3,g4,g5⟩⟩) (λi p hi he=>by
  rcases BM i p hi he with cC|cC
  ·exact .inr (.inl (by rw[yt (h.b _ (fw hi)) ha];exact cC))
  ·refine .inr (.inr ?_);simp only[b2,ca];rw[if_pos cC])
 have eF:ft n bl.length ρ m (n+1) (bl++[([A.rows sh (.const 0) code (.var n) kd],(e,false))]).length (eg ρ n c) (oe m bl.length g):=⟨tH _,ha,by simp,λb hb=>pk hb⟩;refine ag _ _ _ _ _ G _ _ eF (ga.refl _ _) ⟨fo.put (h.t.ext eF.ha eF.hn eF.hb eF.hm) d ?_ ?_,by rw[put_defers];exact h.d,qd.alloc (λy hy=>by simp at hy;subst hy;exact aV),ma⟩ ah
 ·refine⟨by simp,⟨I.dX _ _,I.dX _ _,FH.mono (tH _),I.gU (AW n)⟩,?_⟩;rw[I.bC,aH,ca];exact yl
 ·simp only[V.rel,W.den,A.den,aH,ca,I.bC,pT];split<;>simp
theorem agQ {kd:Nat} {tm:List V} {a:Act} {w:aC} {G:fx} {K:Act->aC->Prop} {k:iK} {e:bE} {d:Option Tmp} {sh:List a8} {code len:I} {c:Int} {g:Nat}
 (jX:2<=kd) (h:R w0 n ρ m tm bl a w) (dS:code.bU n) (FH:len.bU n) (iD:0<=code.den ρ/\code.den ρ<=cP) (hc:-1<=c/\c<=0x7fffffffffffffff) (yl:Jz 0 0 (len.den ρ) c)
 (rF:c<0->af (code.den ρ)=[])
 (Pd:0<=c->∃(cells:Array bf) (fz:Nat×Nat),(w.heap[g]?=some (.cells cells e fz)/\CS kd fz cells.size)/\pz cells 0 sh (af (code.den ρ))/\cells.size=c.toNat*sh.length/\w0.b.heap.size<=g/\(w0.ex g∨w0.r.heap.size<=g))
 (BM:∀(i:Nat) (p:aM),bl[i]?=some p->m i=g->b2 ρ p.1=0∨c<0)
 (ah:(Ou kd e d sh code len n tm bl k).holds S L G ρ) (ag:mz S L w0 k n bl.length ρ m G K):
 K (a.put d (if c<0 then .slice none 0 0 else .slice (some ⟨g,0,none⟩) (len.den ρ).toNat c.toNat)) w:=by
 unfold Ou at ah;exact asT jX h dS FH iD hc yl rF Pd BM (ah c (by omega) (by omega)) ag
theorem agR {tm:List V} {a:Act} {w:aC} {G:fx} {K:Act->aC->Prop} {k:iK} {e:bE} {d:Option Tmp} {sh:List a8} {code len:I} {c:Int} {g:Nat}
 (h:R w0 n ρ m tm bl a w) (dS:code.bU n) (FH:len.bU n) (iD:0<=code.den ρ/\code.den ρ<=cP) (hc:-1<=c/\c<=0x7fffffffffffffff) (yl:Jz 0 0 (len.den ρ) c)
 (rF:c<0->af (code.den ρ)=[])
 (Pd:0<=c->∃cells:Array bf,w.heap[g]?=some (.cells cells e (0,0))/\pz cells 0 sh (af (code.den ρ))/\cells.size=c.toNat*sh.length/\w0.b.heap.size<=g/\(w0.ex g∨w0.r.heap.size<=g))
 (BM:∀(i:Nat) (p:aM),bl[i]?=some p->m i=g->b2 ρ p.1=0∨c<0)
 (ah:(KV e d sh code len n tm bl k).holds S L G ρ) (ag:mz S L w0 k n bl.length ρ m G K):
 K (a.put d (if c<0 then .slice none 0 0 else .slice (some ⟨g,0,none⟩) (len.den ρ).toNat c.toNat)) w:=
 agQ (kd:=2) (b1 2) h dS FH iD hc yl rF (λh0=>by
  obtain⟨cells,g1,g2⟩:=Pd h0;exact⟨cells,(0,0),⟨g1,.QA⟩,g2⟩) BM ah ag
theorem aoG {tm:List V} {a:Act} {w:aC} {G:fx} {K:Act->aC->Prop} {k:iK} {e:bE} {d:Option Tmp} {sh:List a8} {code len:I} {rows:List (List Int)} {c:Nat} {cells:Array bf}
 (h:R w0 n ρ m tm bl a w) (dS:code.bU n) (FH:len.bU n) (iD:0<=code.den ρ/\code.den ρ<=cP) (ug:af (code.den ρ)=rows) (cm:∀row∈rows,cX sh row) (hlen:len.den ρ=rows.length)
 (dR:rows.length<=c) (aYa:c<=0x7fffffffffffffff) (ady:cells.size=c*sh.length) (aEG:∃post,cells.toList=ct sh rows++post)
 (ah:(KV e d sh code len n tm bl k).holds S L G ρ) (ag:mz S L w0 k n bl.length ρ m G K):
 K (a.put d (.slice (some ⟨w.heap.size,0,none⟩) rows.length c)) (w.drew.alloc (.cells cells e)):=by
 have xb:R w0 n ρ m tm bl a w.drew:=⟨h.t,h.d,h.b,h.bK.grow (Ye (sd w))⟩;have hR:R w0 n ρ m tm bl a (w.drew.alloc (.cells cells e)):=⟨h.t,h.d,h.b,xb.bK.grow ((sd w.drew).alloc _)⟩;have key:=agR (c:=(c:Int)) (g:=w.heap.size) hR dS FH iD ⟨by omega,by omega⟩ (by rw[hlen];exact⟨⟨by omega,by omega,by omega,by omega⟩,⟨by omega,by omega⟩,λh=>by omega,λ_=>by omega⟩) (λh=>by omega)
  (λ_=>⟨cells,heap_alloc_new w.drew _,by
    obtain⟨post,hp⟩:=aEG;rw[ug];exact⟨cm,[],post,by simpa using hp,rfl⟩,by simpa using ady,h.bK.ext.size,.inr h.bK.ia⟩) (λi p hi he=>by
    by_cases nh:b2 ρ p.1=0
    ·exact .inl nh
    ·have:=xb.bK.lt hi nh;have cC:w.drew.heap.size=w.heap.size:=rfl;omega) ah ag
 rw[if_neg (by omega),hlen]at key;simpa using key
theorem aV0 {nb:Nat} {v:V} {X:bf} (h:aiU v=true) (hv:v.ok n nb ρ) (hr:v.rel ρ m X):∃base,X= .slice base 0 0:=by
 unfold aiU at h;split at h
 ·rename_i b bL o ro len cap;split at h
  ·rename_i l c hl hc;simp only[bI,decide_eq_true_eq]at h;have av:=I.ll hl (ρ:=ρ);have aH:=I.ll hc (ρ:=ρ);have hr:X=(A.sl b bL o ro len cap).den ρ m:=hr;simp only[A.den,av,aH,h.1,h.2]at hr;exact⟨_,hr⟩
  ·cases h
 ·rename_i b off len cap;simp only[bI]at h;have av:=b8 h.1;have aH:=b8 h.2;subst av;subst aH;exact⟨_,hr⟩
 ·exact⟨none,hr⟩
 ·cases h
theorem an1 (w:aC) (size:Nat) (base:Option Addr) (c:Nat):(Na size 0 (.slice base 0 c)).run P w= .ok #[] w:=by
 cases base with
 |none=>exact run_firstCells_none w size 0 0 c
 |some b=>exact Yp w size 0 b 0 c [] (by simp) (λj v h=>by simp at h)
theorem R.later {n':Nat} {ae:Env} {tm:List V} {a:Act} {w:aC} (h:R w0 n ρ m tm bl a w) (hn:n<=n') (ha:agree n ρ ae):R w0 n' ae m tm bl a w:=
 ⟨h.t.ext ha hn (b1 _) (λ_ _=>rfl),h.d,h.b.ext ha hn (b1 _),h.bK.sP h.b ha⟩
theorem j2:af 0=[]:=jO []
theorem R.kill {tm:List V} {a:Act} {w:aC} {b k:Nat} {sh:List a8} {off code cap:I} {t:bE×Bool} (h:R w0 n ρ m tm bl a w) (bd:bl[b]?=some ([.rows sh off code cap k],t)):R w0 n ρ m tm (eP bl b ([.rows sh off code cap 0],t)) a w:=
 ⟨by rw[lL];exact h.t,h.d,h.b.set (λy hy=>by
  simp at hy;subst hy;exact h.b _ (fw bd) (.rows sh off code cap k) (by simp)),h.bK.kill bd⟩
theorem ayR {tm:List V} {a:Act} {w:aC} {G:fx} {o:Oper} {K:Act->aC->Prop} {Q:Exit->Act->aC->Prop} {k:iK} {c:Call} {s x:rl} {t t':bE} {sg:T}
 (h:R w0 n ρ m tm bl a w) (gH:o.op= .call c) (lF:c.callee= .builtin .append) (gY:c.args.toList=[s,x]) (o4:c.argTypes.toList=[t,t'])
 (bG:aaV P o.dst t t' (cB tm s) (cB tm x) n tm bl k=some sg) (ah:sg.holds S L G ρ) (ag:mz S L w0 k n bl.length ρ m G K):o.wp P a w K Q:=by
 have bR:c.args=#[s,x]:=by rw[<-l4 (xs:=c.args),gY]
 have a2:c.argTypes=#[t,t']:=by rw[<-l4 (xs:=c.argTypes),o4]
 have hex:execOp a.eval o=(do pure (mx (<-M9 #[t,t'] o.type #[a.eval s,a.eval x]))):=by
  simp[execOp,gH,resolve,lF,bR,a2,invoke,builtin]
 have Dx:∀v w',(M9 #[t,t'] o.type #[a.eval s,a.eval x]).run P w= .ok v w'->K (a.put o.dst v) w'->o.wp P a w K Q:=λv w' h1 h2=>by
  unfold pw;simp only[hex,jS,h1,j6,kZ];exact h2
 have hs:=c4 h.t s;have hx:=c4 h.t x;unfold aaV at bG;split at bG
 ·cases bG
 rename_i e Dw;split at bG
 rotate_left
 ·cases bG
 rename_i i z hi hz;obtain⟨inf,oR,qN,jn,ua⟩:=MO hz;rw[hi]at qN;simp only[bu]at qN;subst qN;have qT:oR.cells.size=z.length:=by
  have:=(Dd ua n bl.length ρ m).2;have:=congrArg pY this;simpa using this.symm
 split at bG
 ·
  rename_i aeu;obtain⟨base,vu⟩:=aV0 aeu hs.1 hs.2;split at bG
  rotate_left
  ·cases bG
  rename_i sh _;cases jW:KT sh i z with
  |false=>simp[jW]at bG
  |true=>
  simp only[jW,cond_true,bu]at bG;subst bG;unfold KT at jW;simp only[bI]at jW;obtain⟨⟨⟨d1,d2⟩,d3⟩,d4⟩:=jW;have d2:=b8 d2;have d3:=b8 d3;have d4:=gq d4;unfold aom at ah;have cv:(I.const 0).den ρ=0:=I.bC _ _;obtain⟨ae,n',p,hn,ha,⟨aQ,bn,cj,e2,dU,jv,lK,nz,lU⟩,ah⟩:=(at7 (P:=P) d1 h.b h.bK hx.1 hx.2 (I.dX _ _) (by rw[cv];exact⟨cn _,by have:=u1 (l:=[]) (by simp) (by simp);exact y3 (kh []) this⟩) (by rw[cv,j2];simp)) G _ ah;rw[cv,j2,eQ]at dU;rw[cv,j2]at nz;simp only[pr,y4]at nz;have w8:=h.later hn ha;have nW:=ag.later (G1:=G) (⟨hn,ha,b1 _,λ_ _=>rfl⟩:ft n bl.length ρ m n' bl.length ae m) (ga.refl _ _);rw[<-d2]at lU;have apQ:e2.length=0->(k n' (hj tm o.dst (cB tm s)) bl).holds S L G ae->o.wp P a w K Q:=λh0 O3=>by
   have jY:e2=[]:=uV h0;subst jY;refine Dx _ _ (by rw[vu];exact run_append_nothing w t t' o.type e i (jP Dw) hi base 0 0 (b1 _) _ lU) ?_;refine nW n' ae m _ bl G _ w (ft.refl _ _ _ _) (ga.refl _ _) ⟨fo.put w8.t o.dst (c4 w8.t s).1 ?_,by rw[put_defers];exact h.d,w8.b,w8.bK⟩ O3;rw[<-vu];exact(c4 w8.t s).2
  have apB:0<e2.length->(KV e o.dst sh p.1 p.2 n' tm bl k).holds S L G ae->o.wp P a w K Q:=λh0 O3=>by
   have OQ:=aoH w (0+e2.length) 0 e (by omega);refine Dx _ _ (by rw[vu];exact run_append_grow_src w t t' o.type e i oR (jP Dw) hi jn base 0 0 [] (an1 _ _ _ _) _ _ _ lU (by omega) (by omega) (growslice_fits (by omega) (by
    have:=awe (show 0+e2.length<=1073741824 by omega) d4;omega))) ?_
   have key:=aoG (c:=grownCap w (0+e2.length) 0 e) (cells:=([]++ct sh e2).toArray++p1 oR.cells (grownCap w (0+e2.length) 0 e-(0+e2.length))) w8 aQ bn cj dU lK jv (by omega) OQ.2 (by
    have:=lU.newsLen;rw[aww,av2,qT,d3,CM,eQ,this,d2,<-y6]
    congr 1;omega) ⟨(p1 oR.cells (grownCap w (0+e2.length) 0 e-(0+e2.length))).toList,by simp⟩ O3 nW
   simpa using key
  split at ah
  ·rename_i hc0;have:=I.ll hc0 (ρ:=ae);exact apQ (by omega) ah
  ·rename_i Tq hc0 dE;have:=I.ll dE (ρ:=ae);exact apB (by
    have:Tq≠0:=λe=>hc0 e;omega) ah
  ·simp only[T.holds,bO.den,I.bC,decide_eq_true_eq,decide_eq_false_iff_not]at ah;by_cases h0:e2.length=0
   ·exact apQ h0 (ah.1 (by omega))
   ·exact apB (by omega) (ah.2 (by omega))
 ·split at bG
  rotate_left
  ·cases bG
  rename_i b bL off ro len cap uh;split at bG
  rotate_left
  ·cases bG
  rename_i sh ld code e8 kind ez bd;cases jW:(KT sh i z&&aU kind 2&&I.beq off (.const 0)&&I.beq ld (.const 0)&&I.beq ro (.const 0)&&I.beq cap e8&&aU ez.1 e)with
  |false=>rw[jW]at bG;cases bG
  |true=>
  rw[jW]at bG;simp only[cond_true,bu]at bG;subst bG;simp only[bI]at jW;obtain⟨⟨⟨⟨⟨⟨jW,k2⟩,b4⟩,cg⟩,dh⟩,ox⟩,nM⟩:=jW;have nM:=b8 nM;have k2:=b8 k2;have b4:=I.beq_eq b4;have cg:=I.beq_eq cg;have dh:=I.beq_eq dh;have ox:=I.beq_eq ox;subst k2;subst b4;subst cg;subst dh;subst ox;unfold KT at jW;simp only[bI]at jW;obtain⟨⟨⟨d1,d2⟩,d3⟩,d4⟩:=jW;have d2:=b8 d2;have d3:=b8 d3;have d4:=gq d4;obtain⟨Uy,ah⟩:=ah;simp only[df,gr,aj]at Uy;rw[uh]at hs;have Is:(A.sl b bL (.const 0) (.const 0) len cap).ok n bl.length ρ:=hs.1;obtain⟨ptr,av,aH,ca⟩:=xI (m:=m) Is;have vu:a.eval s=(A.sl b bL (.const 0) (.const 0) len cap).den ρ m:=hs.2;rw[av]at vu;obtain⟨ak,⟨ai,aw,dk,jz⟩,⟨jR,lW,mW,mX⟩,⟨nE,mP⟩,ik,ki⟩:=Is;rw[I.bC]at mP;have pH:=h.bK.rws b sh (.const 0) code cap 2 ez bd (by decide);have gG:(A.rows sh (.const 0) code cap 2).ok n bl.length ρ:=h.b _ (fw bd) _ (by simp);obtain⟨⟨r1,r2,gS⟩,bb,aD⟩:=gG;have lQ:∀row∈af (code.den ρ),cX sh row:=λrow hr=>by
   rcases mw (cap.den ρ) 0 with h|h
   ·rw[pH.1 h]at hr;simp at hr
   ·obtain⟨_,cells,lM,fz,_,⟨_,g3⟩,_⟩:=pH.2 h;exact g3.1 row hr
  obtain⟨ae,n',p,hn,ha,⟨aQ,bn,cj,e2,dU,jv,lK,nz,lU⟩,ah⟩:=(at7 (P:=P) d1 h.b h.bK hx.1 hx.2 r2 bb lQ) G _ ah;rw[<-d2]at lU;generalize ug:af (code.den ρ)=rows at*;have aEX:=h.kill bd;have w8:=aEX.later hn ha;have qd:=lL bl b ([.rows sh (.const 0) code cap 0],ez);have nW:mz S L w0 k n' (eP bl b ([.rows sh (.const 0) code cap 0],ez)).length ae m G K:=by
   rw[qd];exact ag.later (⟨hn,ha,b1 _,λ_ _=>rfl⟩:ft n bl.length ρ m n' bl.length ae m) (ga.refl _ _)
  have UC:(len.add p.2).den ae=(rows++e2).length:=by
   rw[I.den_add,I.cq ha dk,jv,Uy];simp
  have jL:∀row∈rows++e2,cX sh row:=λrow hr=>(List.mem_append.1 hr).elim (lQ row) (lK row);have apP:=lU.newsLen;have FG:(len.den ρ).toNat=rows.length:=by omega
  have kD:cap.den ae=cap.den ρ:=I.cq ha jz;have Lg:(len.add p.2).bU n':=I.yT (dk.mono hn) bn;have UA:(rows++e2).length=rows.length+e2.length:=fq;have lP:(ct sh rows).length=rows.length*i.size:=by rw[qK lQ,d2]
  by_cases Pn:((rows.length+e2.length:Nat):Int)<=cap.den ρ∨(cap.den ρ<0/\e2.length=0)
  ·by_cases hc0:cap.den ρ<0
   ·
    have jY:e2.length=0:=by rcases Pn with h|h<;>omega
    have jY:e2=[]:=uV jY;subst jY;have aed:rows=[]:=pH.1 hc0;subst aed;have o0:=ik hc0;refine Dx _ _ (by rw[vu,aH hc0,if_pos hc0,o0];exact run_append_nothing w t t' o.type e i (jP Dw) hi none 0 0 (b1 _) _ lU) ?_;have key:=agR (c:=-1) (g:=w.heap.size) w8 aQ Lg cj ⟨by omega,by omega⟩ (by rw[UC];exact⟨⟨by omega,by omega,by omega,by omega⟩,⟨by omega,by omega⟩,λh=>by simp,λh=>by omega⟩) (λ_=>by rw[dU];rfl) (λh=>by omega) (λ_ _ _ _=> .inr (by omega)) ah nW;rw[if_pos (by omega)]at key;exact key
   ·
    obtain⟨_,cells,lM,fz,g1,⟨g2,g3⟩,g4⟩:=pH.2 (by omega);obtain⟨g0,g5,g6,g7,g8,g9⟩:=g4 (by decide);subst g0;have g6:=g6.two;subst g6;rw[I.bC]at g3;obtain⟨_,pre,post,g10,g11⟩:=g3;have rH:pre=[]:=uV (by simpa using g11);subst rH;simp only[eQ]at g10;have hsz:cells.size=(ct sh rows).length+post.length:=by rw[<-EM,g10,fq]
    have apV:rows.length+e2.length<=(cap.den ρ).toNat:=by rcases Pn with h|h<;>omega
    have BK:rows.length*i.size+(ct sh e2).length<=cells.size:=by
     rw[apP,g7,<-y6,d2];exact Yr _ apV
    have jZ:=aQj w t t' o.type e i (jP Dw) hi (m b) rows.length (cap.den ρ).toNat cells ez.1 g1 _ _ _ lU apV BK;have aFD:a.eval s= .slice (some ⟨m b,0,none⟩) rows.length (cap.den ρ).toNat:=by
     rw[vu,ca (by omega),if_neg hc0,FG,I.bC];simp
    refine Dx _ _ (by rw[aFD];exact jZ) ?_;have vt:(cells.toList.take (rows.length*i.size)++ct sh e2++cells.toList.drop (rows.length*i.size+(ct sh e2).length))=ct sh (rows++e2)++cells.toList.drop (rows.length*i.size+(ct sh e2).length):=by
     rw[zI,g10,Sn (by omega),<-lP,ai4]
    rw[vt];have UE:=h.bK.put (kd:=2) (cells:=cells) (fz:=(0,0)) (code':=code) (by decide) bd (by omega) (row:=(ct sh (rows++e2)++cells.toList.drop (rows.length*i.size+(ct sh e2).length)).toArray) (λ_=>⟨λh=>by omega,λ_=>⟨g9.elim .inl λh=> .inr (.inr h),_,_,(0,0),Sw w (m b) _ _ _ _ g1,⟨g2,by
     rw[ug,I.bC];exact⟨lQ,[],ct sh e2++cells.toList.drop (rows.length*i.size+(ct sh e2).length),by simp[zI],rfl⟩⟩,λ_=>⟨rfl,g5,.QA,by
     rw[<-g7];simp only[CM,fq,pq,EM,zI];omega,g8,g9⟩⟩⟩)
    have aFz:eP bl b ([.rows sh (.const 0) code cap 2],ez)=bl:=by
     rw[mK];exact ajg λj=>by
      rw[wF];split
      ·rename_i aR;subst aR
       first|exact bd.symm|(rw[if_pos (List.getElem?_eq_some_iff.1 bd).1];exact bd.symm)
      ·rfl
    rw[aFz]at UE;have HW:R w0 n ρ m tm bl a (w.setRow (m b) (ct sh (rows++e2)++cells.toList.drop (rows.length*i.size+(ct sh e2).length)).toArray):=⟨h.t,h.d,h.b,UE⟩;have aC8:=(HW.kill bd).later hn ha;have key:=agR (e:=e) (d:=o.dst) (c:=cap.den ρ) (g:=m b) aC8 aQ Lg cj ⟨by omega,by omega⟩ (by rw[UC,UA];exact⟨⟨by omega,by omega,by omega,by omega⟩,⟨by omega,by omega⟩,λh=>by omega,λh=>by omega⟩) (λh=>by omega)
     (λ_=>⟨_,by rw[<-nM];exact Sw w (m b) _ _ _ _ g1,by
       rw[dU];exact⟨jL,[],cells.toList.drop (rows.length*i.size+(ct sh e2).length),by simp,rfl⟩,by
       rw[<-g7];simp only[CM,fq,pq,EM,zI];omega,g8,g9⟩) (λj q aR he=>by
       by_cases H9:j=b
       ·subst H9;rw[mK,awf (List.getElem?_eq_some_iff.1 bd).1]at aR;simp only[bu]at aR;subst aR;exact .inl (by simp[b2])
       ·rw[mK,ai3 (λe=>H9 e.symm)]at aR;have nj:b2 ρ [A.rows sh (.const 0) code cap 2]=2:=vF (by decide) (by omega);have aEY:b2 ρ q.1=0:=by
         rcases h.bK.inj j b q _ aR bd he with cC|cC|cC|cC
         ·exact absurd cC H9
         ·have:=cC.2;simp only[nj]at this;omega
         ·exact cC
         ·simp only[nj]at cC;omega
        exact .inl (by rw[yt (h.b _ (fw aR)) ha];exact aEY)) ah nW
    rw[if_neg hc0,UC,UA,hC]at key;exact key
  ·
   have apC:(if cap.den ρ<0 then 0 else(cap.den ρ).toNat)<rows.length+e2.length:=by
    split
    ·rename_i hc;have:¬e2.length=0:=λe=>Pn (.inr ⟨hc,e⟩);omega
    ·omega
   have hold:(Na i.size rows.length (.slice ptr rows.length (if cap.den ρ<0 then 0 else(cap.den ρ).toNat))).run P w.drew= .ok (ct sh rows).toArray w.drew:=by
    by_cases hc:cap.den ρ<0
    ·have aed:rows=[]:=pH.1 hc;subst aed;exact an1 _ _ _ _
    ·obtain⟨_,cells,lM,fz,g1,⟨g2,g3⟩,g4⟩:=pH.2 (by omega);rw[ca (by omega)];refine Yp w.drew i.size rows.length _ rows.length _ (ct sh rows) lP λj v hv=>?_;rw[lk,I.bC];have:=g3.flat hv;rw[I.bC]at this;have oA:w.drew.heap[m b]?=some (.cells cells lM fz):=g1;simp only[oq,oA,xW,xX,if_false];simpa using this
   have OQ:=aoH w (rows.length+e2.length) (if cap.den ρ<0 then 0 else(cap.den ρ).toNat) e nz;refine Dx _ _ (by rw[vu,FG];exact run_append_grow_src w t t' o.type e i oR (jP Dw) hi jn ptr rows.length _ (ct sh rows) hold _ _ _ lU apC (by omega) (growslice_fits apC (by
    have:=awe nz d4;omega))) ?_
   have key:=aoG (e:=e) (d:=o.dst) (c:=grownCap w (rows.length+e2.length) (if cap.den ρ<0 then 0 else(cap.den ρ).toNat) e) (cells:=(ct sh rows++ct sh e2).toArray++p1 oR.cells (grownCap w (rows.length+e2.length) (if cap.den ρ<0 then 0 else(cap.den ρ).toNat) e-(rows.length+e2.length))) w8 aQ Lg cj dU jL UC (by rw[UA];exact OQ.1) OQ.2 (by
    rw[aww,av2,qT,d3,CM,fq,lP,apP,<-y6,d2,<-y6]
    congr 1;omega) ⟨(p1 oR.cells (grownCap w (rows.length+e2.length) (if cap.den ρ<0 then 0 else(cap.den ρ).toNat) e-(rows.length+e2.length))).toList,by rw[zI];simp⟩ ah nW
   rw[UA]at key;exact key
theorem aRk {tm:List V} {a:Act} {w:aC} {G:fx} {o:Oper} {K:Act->aC->Prop} {Q:Exit->Act->aC->Prop} {k:iK} {sg:T}
 (h:R w0 n ρ m tm bl a w) (bG:ahV P o n tm bl k=some sg) (ah:sg.holds S L G ρ) (ag:mz S L w0 k n bl.length ρ m G K):o.wp P a w K Q:=by
 unfold ahV at bG;split at bG
 ·rename_i c aA;split at bG
  ·rename_i hc;split at bG
   ·rename_i s x t t' gY o4;exact ayR h aA hc gY o4 bG ah ag
   ·cases bG
  ·cases bG
 ·cases bG
end
end Go.bX
namespace Go.bX
open M
theorem RG:∀{s1 s2:List a8} {l1 l2:List Int},l1.length=s1.length->eA (s1++s2) (l1++l2)=eA s1 l1++eA s2 l2
 |[],_,[],_,_=>rfl
 |c::s1,s2,z::l1,l2,h=>by
  simp only[j4,eA,RG (s1:=s1) (s2:=s2) (l1:=l1) (l2:=l2) (by simpa using h)]
 |[],_,_::_,_,h=>by simp at h
 |_::_,_,[],_,h=>by simp at h
theorem No:∀{s1 s2:List a8} {l1 l2:List Int},l1.length=s1.length->(cX (s1++s2) (l1++l2)↔cX s1 l1/\cX s2 l2)
 |[],_,[],_,_=>by simp[cX]
 |c::s1,s2,z::l1,l2,h=>by
  simp only[j4,cX,No (s1:=s1) (s2:=s2) (l1:=l1) (l2:=l2) (by simpa using h),and_assoc]
 |[],_,_::_,_,h=>by simp at h
 |_::_,_,[],_,h=>by simp at h
theorem atl {sh:List a8} {row ls:List Int} {j s:Nat} (h:cX sh row) (hl:cX ((sh.drop j).take s) ls) (aR:j+s<=sh.length):
 cX sh (row.take j++ls++row.drop (j+ls.length))/\eA sh (row.take j++ls++row.drop (j+ls.length))=(eA sh row).take j++eA ((sh.drop j).take s) ls++(eA sh row).drop (j+s):=by
 have hlen:=h.len;have adX:ls.length=s:=by rw[hl.len];simp;omega
 have e:sh=sh.take j++((sh.drop j).take s++sh.drop (j+s)):=by
  rw[<-CF,nI,nI]
 have qJ:row=row.take j++((row.drop j).take s++row.drop (j+s)):=by
  rw[<-CF,nI,nI]
 have l1:(row.take j).length=(sh.take j).length:=by simp[hlen]
 have l2:((row.drop j).take s).length=((sh.drop j).take s).length:=by simp[hlen]
 have n7:ls.length=((sh.drop j).take s).length:=hl.len;have h0:cX (sh.take j++((sh.drop j).take s++sh.drop (j+s))) (row.take j++((row.drop j).take s++row.drop (j+s))):=by rw[<-e,<-qJ];exact h
 rw[No l1,No l2]at h0;have hv:eA sh row=eA (sh.take j) (row.take j)++(eA ((sh.drop j).take s) ((row.drop j).take s)++eA (sh.drop (j+s)) (row.drop (j+s))):=by
  conv=>lhs;rw[e,qJ]
  rw[RG l1,RG l2]
 have k1:(eA (sh.take j) (row.take j)).length=j:=by rw[Js h0.1];simp;omega
 have k2:(eA ((sh.drop j).take s) ((row.drop j).take s)).length=s:=by rw[Js h0.2.1];simp;omega
 rw[adX];refine⟨?_,?_⟩
 ·rw[fS]
  conv=>lhs;rw[e]
  rw[No l1,No n7];exact⟨h0.1,hl,h0.2.2⟩
 ·rw[fS]
  conv=>lhs;rw[e]
  have aB:(eA sh row).take j=eA (sh.take j) (row.take j):=by rw[hv];exact List.take_left' k1
  have hd:(eA sh row).drop (j+s)=eA (sh.drop (j+s)) (row.drop (j+s)):=by
   rw[hv,<-fS];exact List.drop_left' (by rw[fq,k1,k2])
  rw[RG l1,RG n7,aB,hd,fS]
theorem acF {sh:List a8}:∀{rows:List (List Int)} {i:Nat} {row:List Int},rows[i]?=some row->ct sh rows=ct sh (rows.take i)++(eA sh row++ct sh (rows.drop (i+1)))
 |r::rs,0,row,h=>by simp at h;subst h;simp[ct]
 |r::rs,i+1,row,h=>by
  have ih:=acF (sh:=sh) (rows:=rs) (i:=i) (by simpa using h);simp only[ct,wH,l5,List.drop_succ_cons]at ih⊢;rw[ih,fS]
 |[],_,_,h=>by simp at h
theorem aBy {sh:List a8} {rows:List (List Int)} {i:Nat} {row Jr:List Int} (h:rows[i]?=some row):ct sh (rows.set i Jr)=ct sh (rows.take i)++(eA sh Jr++ct sh (rows.drop (i+1))):=by
 have hlt:=(List.getElem?_eq_some_iff.1 h).1;have:=acF (sh:=sh) (rows:=rows.set i Jr) (i:=i) (row:=Jr) (by simp[hlt]);rw[this,List.take_set,List.drop_set_of_lt (by omega)]
 congr 1
 congr 1
 rw[List.set_eq_of_length_le (by simp;omega)]
theorem WW {P:cc} (g o:Nat) (t:bE) (fz:Nat×Nat) (kd:Nat):∀(vs:List bf) (i:Nat) (cur:Array bf) (w:aC),CS kd fz cur.size->w.heap[g]?=some (.cells cur t fz)->o+i+vs.length<=cur.size->(∀v∈vs,v.oneCell'=true)->
 (storeCells ⟨g,o,none⟩ vs i).run P w= .ok () (w.setRow g (cur.toList.take (o+i)++vs++cur.toList.drop (o+i+vs.length)).toArray)
 |[],i,cur,w,_,hg,_,_=>by
  simp only[storeCells,gO,pr,m3,nI,l4];rw[setRow_self w g cur t fz hg];rfl
 |v::rest,i,cur,w,adI,hg,hl,h1=>by
  have hi:o+i<cur.size:=by simp at hl;omega
  have hcell:w.cell? ⟨g,o+i,none⟩=some cur[o+i]:=by simp[oq,hg,hi]
  have aEI:w.frozen? ⟨g,o+i,none⟩=false:=by
   rcases adI with⟨_,rfl⟩|⟨_,rfl⟩
   ·simp[EH,hg]
   ·simp[EH,hg];omega
  have nn:(store ((⟨g,o,none⟩:Addr).add i) v).run P w= .ok () (w.setRow g (cur.setIfInBounds (o+i) v)):=by
   rw[lk,run_store P w _ v _ (h1 v (by simp)),hcell];simp[aEI,setCell_eq_setRow w g (o+i) cur t fz v hg]
  have ih:=WW (P:=P) g o t fz kd rest (i+1) (cur.setIfInBounds (o+i) v) (w.setRow g (cur.setIfInBounds (o+i) v)) (by simpa using adI) (Sw w g cur _ t _ hg) (by simp at hl⊢;omega) (λx hx=>h1 x (by simp[hx]));simp only[storeCells,jS,nn,j6,ih,setRow_setRow]
  congr 3
  have e:=list_seg_step cur.toList (o+i) v rest (by simp at hl⊢;omega);simpa [Array.toList_setIfInBounds,Nat.add_assoc]using e
section
variable {S:Nat->List Int->List Int->Prop} {L:V->Env->Prop} {n:Nat} {ρ:Env} {m:Nat->Nat} {bl:List aM} {gl:fK} {w0:fg} {P:cc}
theorem aqw {tm:List V} {a:Act} (h:fo n bl.length ρ m tm a.tmps) {x:rl} {l:I} (hl:uj (cB tm x)=some l):∃k,a.eval x= .int k (l.den ρ)/\l.bU n:=by
 have hx:=c4 h x;unfold uj at hl;split at hl
 ·rename_i k lR hv;simp only[bu]at hl;subst hl;rw[hv]at hx;exact⟨k,hx.2,hx.1.1⟩
 ·cases hl
theorem Mem.mark {w0:fg} {P:cc} {ρ:Env} {m:Nat->Nat} {bl:List aM} {w:aC} {b c:Nat} {C:List A} {code:I} {t:bE×Bool} {s e:bE} (h:Mem w0 ρ m bl w) (bd:bl[b]?=some (C,t)) (aA:cy C=true) (aB:t.2=false) (hlen:C.length=c)
 (hs:P.underlying s=some (.slice e)) (he:P.underlying e=some (.int .u8))
 (lQ:∀row∈af (code.den ρ),cX kA row) (lP:ct kA (af (code.den ρ))=C.map (A.den ρ m)):
 ∃w',(convert s s (.slice (some ⟨m b,0,none⟩) c c)).run P w= .ok (.slice (some ⟨m b,0,none⟩) c c) w'/\Mem w0 ρ m (eP bl b ([.rows kA (.const 0) code (.const c) 3],t)) w':=by
 have tX:b<bl.length:=(List.getElem?_eq_some_iff.1 bd).1;obtain⟨aQ,bn,r,hr,cj⟩:=h.gP b C t bd aA;have hr:=hr aB;subst hr;rw[gO]at cj;have hsz:(C.map (A.den ρ m)).toArray.size=c:=by simp[hlen]
 have mc:w.shape? (m b)=some (t.1,c):=by
  unfold World.shape?;rw[cj];simp[hlen]
 have K8:∀i:Nat,i≠m b->(w.freeze ⟨m b,c,none⟩ 1).heap[i]?=w.heap[i]?:=λi hi=>by
  unfold Ys;rw[if_neg (by decide)];simp only[aW3];rw[if_neg (λe=>hi e.symm)]
 have uc:(w.freeze ⟨m b,c,none⟩ 1).heap[m b]?=some (.cells (C.map (A.den ρ m)).toArray t.1 (c,c+1)):=by
  unfold Ys;rw[if_neg (by decide)];simp only[aW3,if_true,cj,AT];rfl
 have apA:(w.freeze ⟨m b,c,none⟩ 1).heap.size=w.heap.size:=by
  unfold Ys;rw[if_neg (by decide)];simp
 refine⟨w.freeze ⟨m b,c,none⟩ 1,?_,?_⟩
 ·simp[convert,gz hs,gz he,markStringish,mc]
 generalize qL:w.freeze ⟨m b,c,none⟩ 1=w' at*;have kE:w'.os=w.os/\w'.tape=w.tape/\w'.output=w.output:=by
  subst qL;unfold Ys;rw[if_neg (by decide)];exact⟨rfl,rfl,rfl⟩
 have eZ:∀(i:Nat) (p:aM),(eP bl b ([.rows kA (.const 0) code (.const c) 3],t))[i]?=some p->(i=b/\p=([.rows kA (.const 0) code (.const c) 3],t))∨(i≠b/\bl[i]?=some p):=λi p hi=>by
  rw[mK,wF]at hi;split at hi
  ·rename_i iT;subst iT;simp only[tX,if_true,bu]at hi;exact .inl ⟨rfl,hi.symm⟩
  ·rename_i iT;exact .inr ⟨λe=>iT e.symm,hi⟩
 have nj:b2 ρ C=2:=n5 aA;have Uw:b2 ρ [.rows kA (.const 0) code (.const c) 3]=3:=vF (by decide) (by rw[I.bC];omega);have ad4:∀i:Nat,i<w0.b.heap.size->w'.heap[i]?=w.heap[i]?:=λi hi=>K8 i (by omega);have H5:w0.b.Extends w':=⟨kE.1.trans h.ext.os,kE.2.1.trans h.ext.tape,kE.2.2.trans h.ext.output,by rw[apA];exact h.ext.size,
  λy hy=>gN (by simp only[oq,ad4 y.block hy]) (h.ext.cell y hy),λy hy=>gN (by simp only[EH,ad4 y.block hy]) (h.ext.frozen y hy),λi hi=>(ad4 i hi).trans (h.ext.block i hi)⟩
 refine⟨H5,kE.1.trans h.kE,kE.2.1.trans h.mE,kE.2.2.trans h.lq,by rw[apA];exact h.ia,λi hi hx=>?_,λi lD t' hi kT=>?_,λi gC ld code' k6 sH t' hi=>?_,λi j p q hi aR he=>?_⟩
 ·rw[K8 i (λe=>by
   subst e;rcases bn with h3|h3
   ·exact hx h3
   ·omega)]
  exact h.kp i hi hx
 ·rcases eZ i _ hi with⟨rfl,eT⟩|⟨dE,hi⟩
  ·cases eT;cases kT
  ·obtain⟨g1,oA,g2⟩:=h.gP i lD t' hi kT;exact⟨g1,oA,by rw[K8 (m i) (λe=>h.ne bd hi (by rw[nj];exact b1 2) (by rw[n5 kT];decide) (λe=>dE e.symm) (by first|exact e|exact e.symm))];exact g2⟩
 ·rcases eZ i _ hi with⟨rfl,eT⟩|⟨dE,hi⟩
  ·cases eT;intro _;simp only[I.bC];refine⟨λh0=>by omega,λ_=>⟨bn.elim .inl λh=> .inr (.inr h),_,_,_,uc,⟨cn _,lQ,[],[],by simp[lP],rfl⟩,λ_=>⟨rfl,by trivial,.inr ⟨by decide,by rw[hsz]⟩,by simp[hlen,kA],aQ,bn⟩⟩⟩
  ·exact(h.rws i gC ld _ k6 sH t' hi).grow λag hc=>K8 (m i) (λe=>h.ne bd hi (by rw[nj];exact b1 2) (by simp only[vF ag hc];exact ag) (λe=>dE e.symm) (by first|exact e|exact e.symm))
 ·have ag:∀(i:Nat) (p:aM),(eP bl b ([.rows kA (.const 0) code (.const c) 3],t))[i]?=some p->∃ed,bl[i]?=some ed/\(b2 ρ ed.1=b2 ρ p.1∨(b2 ρ ed.1=2/\b2 ρ p.1=3)):=λi p hi=>by
   rcases eZ i _ hi with⟨rfl,eT⟩|⟨dE,hi⟩
   ·exact⟨_,bd,.inr ⟨nj,by rw[eT];exact Uw⟩⟩
   ·exact⟨p,hi,.inl rfl⟩
  obtain⟨ed,hp,ep⟩:=ag i p hi;obtain⟨fG,an,eq⟩:=ag j q aR;have:=h.inj i j ed fG hp an he;omega
theorem ani:∀(n t:Nat) (acc:Array bf),∃l:List (List Int),l.length=n/\(∀r∈l,cX kA r)/\(CO n t acc).toList=acc.toList++ct kA l
 |0,_,_=>⟨[],rfl,by simp,by simp[CO,ct]⟩
 |n+1,t,acc=>by
  obtain⟨l,h1,h2,h3⟩:=ani n (t/256) (acc.push (.int .u8 (Int.ofNat (t% 256))));refine⟨[((t% 256:Nat):Int)]::l,by simp[h1],λr hr=>?_,?_⟩
  ·rcases List.mem_cons.1 hr with rfl|hr
   ·exact⟨⟨by simp only[a8.gu];omega,by simp only[a8.gu];omega⟩,trivial⟩
   ·exact h2 r hr
  ·rw[CO,h3];simp[ct,kA,eA,a8.val]
theorem aQl {P:cc} (w:aC) (lx:Array bE) (t e:bE) (aB:P.underlying t=some (.slice e)) (n:Nat) (hn:n<=281474976710656):
 ∃(c d:Nat),(ajk lx #[t] #[.int .i64 n]).run P w= .ok (.slice (some ⟨w.heap.size,0,none⟩) n c) (w.drew.drew.alloc (.cells (CO c d #[]) e))/\n<=c/\(n<=maxLen->c<=maxLen):=by
 have OU:ajk lx #[t] #[.int .i64 n]=
  (do
    let .slice elem<-underlying t|stuck "bytealg.MakeNoZero: slice type expected"
    if(n:Int)<0||(n:Int)>2^48 then runtimePanic (.error "makeslice: len out of range")
    let cap<-choose (.appendCap (n:Int).toNat 0 elem)
    askRoom cap
    let bytes<-choose (.extern "internal/bytealg.MakeNoZero.bytes" 0);let a<-newRow elem (CO cap bytes #[])
    pure (.slice (some a) (n:Int).toNat cap)):=rfl
 have h1:¬(n:Int)<0:=by omega
 have h2:¬(281474976710656:Int)<(n:Int):=by omega
 exact⟨grownCap w n 0 e,_,by
  rw[OU];simp[gz aB,h1,h2,Question.forced,newRow,grownCap];rfl,by simpa using grownCap_ge w n 0 e,λhm=>by simpa using grownCap_le_maxLen w n 0 e hm⟩
theorem aBr {fn:Func} (h:UX fn=true):fn.body.isNone=true/\(fn.name== "runtime.NumGoroutine")=false/\ai5 fn=none/\ai6 fn=some (ajk fn.params fn.resultTypes):=by
 unfold UX at h;simp only[bI,beq_iff_eq]at h;obtain⟨⟨h1,h2⟩,h3⟩:=h;have g1:Extern.allNextRows.lookup "internal/bytealg.MakeNoZero" =none:=by kernel_rfl
 have g2:Extern.allNextRows.lookup "" =none:=by kernel_rfl
 have g3:Extern.allGenericRows.lookup "internal/bytealg.MakeNoZero" =none:=by kernel_rfl
 have g4:Extern.allTypedRows.lookup "internal/bytealg.MakeNoZero" =some ajk:=by kernel_rfl
 refine⟨h2,by rw[h1];decide,?_,?_⟩
 ·unfold ai5;simp only[h1,h3,g1,g2];rfl
 ·unfold ai6;simp only[h1,g3,g4];rfl
theorem aRm {tm:List V} {a:Act} {w:aC} {G:fx} {o:Oper} {K:Act->aC->Prop} {Q:Exit->Act->aC->Prop} {k:iK} {sg:T}
 (h:R w0 n ρ m tm bl a w) (bG:Cl P o n tm bl k=some sg) (ah:sg.holds S L G ρ) (ag:mz S L w0 k n bl.length ρ m G K):o.wp P a w K Q:=by
 unfold Cl at bG;split at bG
 ·rename_i t p x aA;have hp:=c4 h.t p;have hx:=c4 h.t x;split at bG
  ·rename_i b bL cT i j u Pk Dz;rw[Pk]at hp;rw[Dz]at hx;split at bG
   ·rename_i sh off code cap kind ez s bd hs;cases hc:(cV 2 kind&&aU bL sh.length&&I.beq cT off&&aU u.cells.length s&&eC 0 s&&cV (j+s) sh.length&&qq sh)with
    |false=>rw[hc]at bG;cases bG
    |true=>
     rw[hc]at bG;simp only[cond_true,bu]at bG;subst bG;simp only[bI]at hc;obtain⟨⟨⟨⟨⟨⟨c1,bQ⟩,cD⟩,dq⟩,fM⟩,hI⟩,oU⟩:=hc;have c1:=gq c1;have bQ:=b8 bQ;have cD:=I.beq_eq cD;have dq:=b8 dq;have fM:=vg fM;have hI:=gq hI
     subst bQ;subst cD;subst dq;have Pj:a.eval p= .pointer (some ⟨m b,(cT.den ρ).toNat+(i.den ρ).toNat*sh.length+j,none⟩):=hp.2;have et:a.eval x=u.den ρ m:=hx.2;have aFo:(A.ep b sh.length cT i j).ok n bl.length ρ:=hp.1;have gG:(A.rows sh cT code cap kind).ok n bl.length ρ:=h.b _ (fw bd) _ (by simp);have dS:aE S L (bind (hK 21 [code,i]) λ_=>bind (Ka 67 [code,i,.const sh.length]) λ_=>bind (Ei ((sh.drop j).take u.cells.length) u.cells) λls=>bind (gF 42 (code::i:: .const j::ls) 0 cP) λcode'=>pure code') n ρ λae n' code'=>code'.bU n'/\(0<=code'.den ae/\code'.den ae<=cP)/\(0<=i.den ρ/\i.den ρ<(af (code.den ρ)).length)/\
      ∃ls:List Int,cX ((sh.drop j).take u.cells.length) ls/\eA ((sh.drop j).take u.cells.length) ls=u.cells.map (A.den ρ m)/\
       af (code'.den ae)=(af (code.den ρ)).set (i.den ρ).toNat (((af (code.den ρ)).getD (i.den ρ).toNat []).take j++ls++((af (code.den ρ)).getD (i.den ρ).toNat []).drop (j+ls.length)):=by
      refine kb λni=>?_;have ni:0<=i.den ρ/\i.den ρ<(af (code.den ρ)).length:=ni;have hlt:(i.den ρ).toNat<(af (code.den ρ)).length:=by omega
      have dR:0<=cap.den ρ:=by
       rcases mw (cap.den ρ) 0 with jV|jV
       ·have:=(h.bK.rws b sh cT code cap kind ez bd (by omega)).1 jV;rw[this]at hlt;simp at hlt
       ·exact jV
      obtain⟨_,cells,lM,fz,aQ,⟨bn,cj⟩,dU⟩:=(h.bK.rws b sh cT code cap kind ez bd (by omega)).2 dR;have La:(af (code.den ρ)).getD (i.den ρ).toNat []=(af (code.den ρ))[(i.den ρ).toNat]:=by simp[U,hlt]
      have k9:cX sh ((af (code.den ρ)).getD (i.den ρ).toNat []):=by rw[La];exact cj.1 _ (CL hlt)
      refine(S7 (op:=67) (ls:=[code,i,.const sh.length]) (by simp only[df,gr,aj,I.bC,hC];exact k9.len)).bind λcM e9 _ _ _ ⟨Ix,ue⟩=>?_;have Ix:=Ix.symm;have ue:=ue.symm
      subst Ix;subst ue;refine(Mn (nb:=bl.length) (m:=m) (λy hy=>W.Ku hx.1 y hy)).bind λa6 bh ls h9 fV ⟨g1,g2,g3⟩=>?_;have hf:cu 42 ((code::i::I.const j::ls).map (·.den a6))=rc ((af (code.den ρ)).set (i.den ρ).toNat (((af (code.den ρ)).getD (i.den ρ).toNat []).take j++ls.map (·.den a6)++((af (code.den ρ)).getD (i.den ρ).toNat []).drop (j+(ls.map (·.den a6)).length))):=by
       simp only[df,cu,I.bC,hC,I.cq fV gG.1.2.1,I.cq fV aFo.2.1.2]
      have aFr:=atl k9 g2 hI;have ug:∀r∈(af (code.den ρ)).set (i.den ρ).toNat (((af (code.den ρ)).getD (i.den ρ).toNat []).take j++ls.map (·.den a6)++((af (code.den ρ)).getD (i.den ρ).toNat []).drop (j+(ls.map (·.den a6)).length)),cX sh r:=λr hr=>by
       rcases Sx hr with hr|hr
       ·exact cj.1 r hr
       ·subst hr;exact aFr.1
      have rG:0<sh.length:=by omega
      have hlen:(af (code.den ρ)).length<=maxLen:=by
       have Am:=cj;obtain⟨_,pre,post,bw,bz⟩:=Am;have h4:=congrArg pY bw;simp only[fq,qK cj.1,EM]at h4;obtain⟨_,_,_,h5,_⟩:=dU c1;rw[h5]at h4;have h6:(af (code.den ρ)).length*sh.length<=(cap.den ρ).toNat*sh.length:=by omega
       have h7:=aW4 h6 rG;have:=gG.2.2.2;unfold maxLen;omega
      have fW:=u1 (l:=(af (code.den ρ)).set (i.den ρ).toNat (((af (code.den ρ)).getD (i.den ρ).toNat []).take j++ls.map (·.den a6)++((af (code.den ρ)).getD (i.den ρ).toNat []).drop (j+(ls.map (·.den a6)).length))) (by simpa using hlen) λr hr=>(ug r hr).row oU;refine(iR (by rw[hf];exact kh _) (by rw[hf];exact fW)).bind λcd fF code' fX eI ⟨k1,k2⟩=>aE.pure ?_;rw[hf]at k2;exact⟨k1,by rw[k2];exact⟨kh _,fW⟩,ni,ls.map (·.den a6),g2,g3,by rw[k2,jO]⟩
     obtain⟨ae,n',code',hn,ha,⟨g1,g2,g3,ls,g4,g5,g6⟩,ah⟩:=dS G _ ah;have hR:=h.later hn ha;have hlt:(i.den ρ).toNat<(af (code.den ρ)).length:=by omega
     have dR:0<=cap.den ρ:=by
      rcases mw (cap.den ρ) 0 with jV|jV
      ·have:=(h.bK.rws b sh cT code cap kind ez bd (by omega)).1 jV;rw[this]at hlt;simp at hlt
      ·exact jV
     obtain⟨eu,cells,lM,fz,aQ,⟨bn,cj⟩,dU⟩:=(h.bK.rws b sh cT code cap kind ez bd (by omega)).2 dR;obtain⟨r0,r1,r2,gS,bb,aD⟩:=dU c1;subst r0;obtain⟨B7,pre,post,L7,QQ⟩:=cj;have UK:(af (code.den ρ))[(i.den ρ).toNat]?=some ((af (code.den ρ)).getD (i.den ρ).toNat []):=by simp[U,hlt]
     generalize aYo:(af (code.den ρ)).getD (i.den ρ).toNat []=row at g6 UK;have Iq:=B7 row (fw UK);obtain⟨bw,bz⟩:=atl Iq g4 hI;have aF2:u.cells.length=(u.cells.map (A.den ρ m)).length:=by simp
     have aph:cells.toList=(pre++ct sh ((af (code.den ρ)).take (i.den ρ).toNat))++(eA sh row++(ct sh ((af (code.den ρ)).drop ((i.den ρ).toNat+1))++post)):=by
      rw[L7,acF UK];simp only[fS]
     have aV:(pre++ct sh ((af (code.den ρ)).take (i.den ρ).toNat)).length=(cT.den ρ).toNat+(i.den ρ).toNat*sh.length:=by
      rw[fq,QQ,qK λr hr=>B7 r (mv hr),m4,CI (by omega)]
     have da:=Js Iq;have aEE:(cT.den ρ).toNat+(i.den ρ).toNat*sh.length+j+0+(u.cells.map (A.den ρ m)).length<=cells.size:=by
      have:=congrArg pY aph;simp only[fq,EM,da]at this aV;simp;omega
     have nn:=WW (P:=P) (m b) ((cT.den ρ).toNat+(i.den ρ).toNat*sh.length+j) _ fz kind (u.cells.map (A.den ρ m)) 0 cells w r2 aQ aEE (λv hv=>by
      obtain⟨y,hy,rfl⟩:=List.mem_map.1 hv;exact A.Wf (W.Ku hx.1 y hy))
     simp only[m3]at nn;have vt:cells.toList.take ((cT.den ρ).toNat+(i.den ρ).toNat*sh.length+j)++u.cells.map (A.den ρ m)++cells.toList.drop ((cT.den ρ).toNat+(i.den ρ).toNat*sh.length+j+(u.cells.map (A.den ρ m)).length)=pre++ct sh (af (code'.den ae))++post:=by
      rw[g6,aBy UK,aph,<-aV,bz,g5];rw[List.take_append,mu (by omega),Nat.add_sub_cancel_left,Sn (by omega)];rw[List.drop_append,List.drop_of_length_le (by omega),eQ];rw[show(pre++ct sh ((af (code.den ρ)).take (i.den ρ).toNat)).length+j+(u.cells.map (A.den ρ m)).length-(pre++ct sh ((af (code.den ρ)).take (i.den ρ).toNat)).length=j+u.cells.length by simp;omega];rw[aWV (by omega)];simp only[fS]
     rw[vt]at nn;have apW:∀r∈af (code'.den ae),cX sh r:=λr hr=>by
      rw[g6]at hr;rcases Sx hr with hr|hr
      ·exact B7 r hr
      ·subst hr;exact bw
     have FE:(af (code'.den ae)).length=(af (code.den ρ)).length:=by rw[g6];simp
     have hsz:(pre++ct sh (af (code'.den ae))++post).length=cells.size:=by
      have av:=congrArg pY L7;simp only[fq,qK apW,qK B7,EM,FE]at av⊢;omega
     have d1:cap.den ae=cap.den ρ:=I.cq ha gG.1.2.2;have d2:cT.den ae=cT.den ρ:=I.cq ha gG.1.1;have UE:=hR.bK.put (kd:=kind) (cells:=cells) (fz:=fz) (code':=code') c1 bd (by rw[d1];exact dR) (row:=(pre++ct sh (af (code'.den ae))++post).toArray) (λ_=>⟨λcC=>by rw[d1]at cC;omega,λ_=>⟨eu,_,_,fz,Sw w (m b) _ _ _ _ aQ,⟨by rw[d2];exact bn,by
      rw[d2];exact⟨apW,pre,post,rfl,QQ⟩⟩,λ_=>⟨rfl,by rw[d2];exact r1,by simp only[CM,hsz];exact r2,by rw[d1];simp only[CM,hsz];exact gS,bb,aD⟩⟩⟩)
     unfold pw;have jZ:(aje t (.pointer (some ⟨m b,(cT.den ρ).toNat+(i.den ρ).toNat*sh.length+j,none⟩)) (u.den ρ m)).run P w= .ok () (w.setRow (m b) (pre++ct sh (af (code'.den ae))++post).toArray):=by
      simp only[aje,pt,jS,kZ,j6,storeVar,kW hs,W.Tt (m:=m) u hx.1];simp only[CM,ps,ne_eq,not_true_eq_false,if_false,kZ,j6];simp only[kZ,j6,nn]
     simp only[execOp,aA,jS,Pj,et,jZ,j6,kZ];refine ag n' ae m _ _ G _ _ ⟨hn,ha,by rw[lL];exact b1 _,λ_ _=>rfl⟩ (ga.refl _ _) ⟨?_,by rw[put_defers];exact h.d,hR.b.set (λy hy=>by
      simp at hy;subst hy;exact⟨⟨gG.1.1.mono hn,g1,gG.1.2.2.mono hn⟩,g2,by rw[d1];exact gG.2.2⟩),UE⟩ ah
     rw[lL];exact fo.put hR.t o.dst (by intro x hx;simp at hx) rfl
   ·cases bG
  ·cases bG
 ·rename_i s d x aA;have hx:=c4 h.t x;split at bG
  ·rename_i l Dz;rw[Dz]at hx;split at bG
   ·rename_i e hs hd;split at bG
    ·rename_i he;simp only[bu]at bG;subst bG;have zR:(A.str l).ok n bl.length ρ:=hx.1;have et:a.eval x= .string (eS (bD (l.den ρ))):=hx.2;have dS:aE S L (bind (gF 27 [l] 0 cP) λcode=>bind (gF 0 [l] 0 0x7fffffffffffffff) λlen=>pure (code,len)) n ρ λae n' p=>(p.1.bU n'/\p.2.bU n')/\(0<=p.1.den ae/\p.1.den ae<=cP)/\(bD (l.den ρ)).length<=0x7fffffffffffffff/\af (p.1.den ae)=(bD (l.den ρ)).map (λb=>[(b.toNat:Int)])/\p.2.den ae=(bD (l.den ρ)).length:=by
      have ni:(bD (l.den ρ)).length<=0x7fffffffffffffff:=by have:=Nh zR.2.2;unfold nw at this;omega
      have fW:rc ((bD (l.den ρ)).map λb=>[(b.toNat:Int)])<=cP:=u1 (by simp;unfold maxLen;omega) λr hr=>by
       obtain⟨b,_,rfl⟩:=List.mem_map.1 hr;have hp:=ZW;have:=b.toNat_lt;exact⟨by simp,λz hz=>by simp at hz;subst hz;omega⟩
      refine(iR (op:=27) (args:=[l]) (kh _) fW).bind λa6 bh code h9 fV ⟨g1,g2⟩=>?_;have g2:code.den a6=rc ((bD (l.den ρ)).map λb=>[(b.toNat:Int)]):=g2;have Uz:l.den a6=l.den ρ:=I.cq fV zR.1;refine(iR (op:=0) (args:=[l]) (lo:=0) (hi:=0x7fffffffffffffff) (JK _) (by
       show((bD (l.den a6)).length:Int)<=_;rw[Uz];omega)).bind λcd fF len fX eI ⟨k1,k2⟩=>aE.pure ?_
      have k2:len.den cd=((bD (l.den a6)).length:Nat):=k2;have ca:code.den cd=code.den a6:=I.cq eI g1;refine⟨⟨g1.mono fX,k1⟩,by rw[ca,g2];exact⟨kh _,fW⟩,ni,by rw[ca,g2,jO],by rw[k2,Uz]⟩
     obtain⟨ae,n',p,hn,ha,⟨⟨g1,oA⟩,g2,g3,g4,g5⟩,ah⟩:=dS G (λp n=>Ou 3 e o.dst kA p.1 p.2 n tm bl k) ah;have hR:=h.later hn ha;have jZ:=Lib.run_convert_string_bytes (P:=P) w s d e (eS (bD (l.den ρ))) hs (jP hd) he;generalize dR:grownCap w (eS (bD (l.den ρ))).size 0 e=c at jZ;have ng:(eS (bD (l.den ρ))).size<=c:=by rw[<-dR];exact grownCap_ge w _ 0 e
     have hle:c<=0x7fffffffffffffff:=by rw[<-dR];exact grownCap_le_maxLen w _ 0 e (by rw[C8];exact g3)
     have Dp:(Sy w e (eS (bD (l.den ρ)))).heap[w.heap.size]?=some (.cells (Sz w e (eS (bD (l.den ρ)))) e ((Sz w e (eS (bD (l.den ρ)))).size,(Sz w e (eS (bD (l.den ρ)))).size+1)):=Lib.bytesWorld_at_new w e _;have aEr:(Sz w e (eS (bD (l.den ρ)))).size=c:=by
      have aEL:=ng;rw[C8]at aEL;simp only[Sz,aww,Array.size_map,Array.size_replicate,dR];show(eS (bD (l.den ρ))).size+_=_;omega
     have H5:w.Extends (Sy w e (eS (bD (l.den ρ)))):=by
      have hb:∀i:Nat,i<w.heap.size->(Sy w e (eS (bD (l.den ρ)))).heap[i]?=w.heap[i]?:=λi hi=>Lib.bytesWorld_at_old w e _ i hi;exact⟨rfl,rfl,rfl,by simp[Sy,Ys,Nb,ajl,-Yt,-awy],λy hy=>by simp only[oq,hb y.block hy],λy hy=>by simp only[EH,hb y.block hy],hb⟩
     have HW:R w0 n' ae m tm bl a (Sy w e (eS (bD (l.den ρ)))):=⟨hR.t,hR.d,hR.b,hR.bK.grow H5⟩;unfold pw;simp only[execOp,aA,jS,et,jZ,j6,kZ];have nW:mz S L w0 k n' bl.length ae m G K:=ag.later ⟨hn,ha,b1 _,λ_ _=>rfl⟩ (ga.refl _ _);have ia:(eS (bD (l.den ρ))).size=(bD (l.den ρ)).length:=C8 _;have key:=agQ (kd:=3) (c:=(c:Int)) (g:=w.heap.size) (by omega) HW g1 oA g2 ⟨by omega,by omega⟩ (by rw[g5];exact⟨⟨by omega,by omega,by omega,by omega⟩,⟨by omega,by omega⟩,λh=>by omega,λ_=>by omega⟩) (λh=>by omega)
      (λ_=>⟨_,_,⟨Dp,.inr ⟨by decide,rfl⟩⟩,by
        rw[g4];refine⟨λr hr=>?_,[],dw (c-(bD (l.den ρ)).length) (.int .u8 0),?_,rfl⟩
        ·obtain⟨b,_,rfl⟩:=List.mem_map.1 hr;have:=b.toNat_lt;exact⟨⟨by simp[a8.gu],by simp only[a8.gu];omega⟩,trivial⟩
        ·simp only[Sz,dR,Array.toList_append,AY,Array.toList_replicate,eQ]
         congr 1
         ·show(bD (l.den ρ)).map _=_;simp only[ct,aW0];induction bD (l.den ρ)with
          |nil=>rfl
          |cons b r ih=>simp[eA,a8.val,kA,ih],by
        rw[aEr];simp[kA],h.bK.ext.size,.inr h.bK.ia⟩) (λi p hi he=>by
         by_cases nh:b2 ae p.1=0
         ·exact .inl nh
         ·have:=hR.bK.lt hi nh;omega) ah nW
     rw[if_neg (by omega),g5]at key;have key:K (a.put o.dst (.slice (some ⟨w.heap.size,0,none⟩) (bD (l.den ρ)).length c)) (Sy w e (eS (bD (l.den ρ)))):=by simpa using key
     rw[ia];exact key
    ·cases bG
   ·cases bG
  ·rename_i b len cap Dz;rw[Dz]at hx;split at bG
   ·rename_i C t e bd hd;split at bG
    ·rename_i he;cases hc:(aU s d&&cy C&& !t.2&&aU C.length len&&aU cap len&&cV len 1000000)with
     |false=>rw[hc]at bG;cases bG
     |true=>
      rw[hc]at bG;simp only[cond_true,bu]at bG;subst bG;simp only[bI]at hc;obtain⟨⟨⟨⟨⟨dK,c1⟩,bQ⟩,cD⟩,dq⟩,fM⟩:=hc;have dK:=b8 dK;have bQ:t.2=false:=by simpa using bQ
      have cD:=b8 cD;have dq:=b8 dq;have fM:=gq fM;subst dK;subst dq;have cm:∀x∈C,A.ok n bl.length ρ x:=h.b _ (fw bd);have nU:=NZ (w:=1) (k:=cap) (l:=C) (by omega);have cv:af ((I.const 0).den ρ)=[]:=by rw[I.bC];exact j2
      have hz:(0:Int)<=cP:=y3 (kh []) (u1 (l:=[]) (by simp) (by simp));obtain⟨ae,n',code,hn,ha,⟨bw,bz,e2,cY,fa,fv,hB⟩,ah⟩:=Nx (S:=S) (L:=L) (nb:=bl.length) (m:=m) (sh:=kA) (by decide) (rs:=rA 1 cap C) (c:= .const 0) (n:=n) (ρ:=ρ) (λrow hr x hx=>cm x (N0 row hr x hx)) (I.dX _ _) (by rw[I.bC];exact⟨cn _,hz⟩) (by rw[cv];intro _ h;simp at h) (by rw[cv,nU.1];simp;omega) G _ ah;rw[cv,eQ]at cY;have hR:=h.later hn ha;have adY:C.map (A.den ae m)=C.map (A.den ρ m):=yx cm ha (λ_ _=>rfl);obtain⟨w',jZ,ma⟩:=hR.bK.mark (P:=P) (s:=s) (e:=e) (code:=code) bd c1 bQ cD (jP hd) he (by rw[cY];exact fv) (by rw[cY,hB,nU.2,adY]);unfold pw;have aGa:a.eval x= .slice (some ⟨m b,0,none⟩) cap cap:=hx.2;simp only[execOp,aA,jS,aGa,jZ,j6,kZ];have OO:b<bl.length:=(List.getElem?_eq_some_iff.1 bd).1;refine ag n' ae m _ _ G _ _ ⟨hn,ha,by rw[lL];exact b1 _,λ_ _=>rfl⟩ (ga.refl _ _) ⟨?_,by rw[put_defers];exact h.d,hR.b.set (λy hy=>by
       have hy:y= .rows kA (.const 0) code (.const cap) 3:=by simpa using hy
       subst hy;exact⟨⟨I.dX _ _,bw,I.dX _ _⟩,bz,by rw[I.bC];omega⟩),ma⟩ ah
      rw[lL];exact fo.put hR.t o.dst ⟨OO,⟨I.dX _ _,I.dX _ _,I.dX _ _,I.dX _ _⟩,by simp only[I.bC,Jz];omega⟩ (by
       show _=_;simp[W.den,A.den,I.bC])
    ·cases bG
   ·cases bG
  ·cases bG
 ·rename_i t x y aA;split at bG
  ·rename_i e q3 qj hd aE5 aE6;cases hi:P.info? e with
   |none=>simp[hi]at bG
   |some i=>
    simp only[hi]at bG;split at bG
    ·rename_i z hz;cases hc:(aU i.size 1&&cV i.bytes 1024&&decide (z=0))with
     |false=>rw[hc]at bG;cases bG
     |true=>
      rw[hc]at bG;simp only[cond_true,bu]at bG;subst bG;simp only[bI,decide_eq_true_eq]at hc;have c1:=b8 hc.1.1;have bQ:=gq hc.1.2;have cD:=hc.2;subst cD;obtain⟨aHF,hx,gY⟩:=aqw h.t aE5;obtain⟨aHG,hy,Iw⟩:=aqw h.t aE6;obtain⟨adU,ah⟩:=ah;have adU:0<=q3.den ρ/\q3.den ρ<=qj.den ρ/\qj.den ρ<=1073741824:=adU;obtain⟨aQ,bn,cj⟩:=adU;have eu:0<=qj.den ρ:=by omega
      have k9:∀r∈dw (q3.den ρ).toNat [(0:Int)],cX kA r:=λr hr=>by
       rw[awz hr];exact⟨⟨by simp[a8.gu],by simp[a8.gu]⟩,trivial⟩
      have fW:rc (dw (q3.den ρ).toNat [(0:Int)])<=cP:=G6 (sh:=kA) (by decide) (by simp;omega) k9;have hf:cu 26 ([q3,I.const 0].map (·.den ρ))=rc (dw (q3.den ρ).toNat [(0:Int)]):=by
       simp only[df,gr,cu,I.bC]
      obtain⟨ae,n',code,hn,ha,⟨g1,g2⟩,ah⟩:=iR (S:=S) (L:=L) (n:=n) (op:=26) (args:=[q3,.const 0]) (lo:=0) (hi:=cP) (by rw[hf];exact kh _) (by rw[hf];exact fW) G _ ah;rw[hf]at g2;have hR:=h.later hn ha;have d1:q3.den ae=q3.den ρ:=I.cq ha gY;have jZ:=run_make (P:=P) w t e i (.int .u8 0) (jP hd) hi hz aHF aHG (q3.den ρ) (qj.den ρ) aQ bn (by
       have h0:(i.bytes:Int)<=1024:=by omega
       have h2:(i.bytes:Int)*qj.den ρ<=1024*1073741824:=Int.mul_le_mul h0 cj eu (by decide);omega) (by omega)
      have apN:(madeCells (AV .u8 0).cells ((qj.den ρ).toNat*i.size)).toList=dw (qj.den ρ).toNat (.int .u8 0):=by
       rw[c1,CH];refine ajg λj=>?_;simp only[madeCells,Value.cells,AY,ajf];rw[qw,List.getElem?_replicate];by_cases aR:j<(qj.den ρ).toNat
       ·rw[if_pos aR,Ym aR];simp[Nat.mod_one]
       ·rw[if_neg aR,M8 (by simp;omega)];rfl
      have hsz:(madeCells (AV .u8 0).cells ((qj.den ρ).toNat*i.size)).size=(qj.den ρ).toNat:=by
       have:=congrArg pY apN;simpa using this
      have Dp:(w.alloc (.cells (madeCells (AV .u8 0).cells ((qj.den ρ).toNat*i.size)) e)).heap[w.heap.size]?=some (.cells (madeCells (AV .u8 0).cells ((qj.den ρ).toNat*i.size)) e (0,0)):=by simp[Nb,-Yt]
      have H5:w.Extends (w.alloc (.cells (madeCells (AV .u8 0).cells ((qj.den ρ).toNat*i.size)) e)):=by
       have hb:∀j:Nat,j<w.heap.size->(w.alloc (.cells (madeCells (AV .u8 0).cells ((qj.den ρ).toNat*i.size)) e)).heap[j]?=w.heap[j]?:=λj aR=>by
        simp only[Nb];rw[aW5 aR,Sj aR]
       exact⟨rfl,rfl,rfl,by simp[Nb,-Yt],λy hy=>by simp only[oq,hb y.block hy],λy hy=>by simp only[EH,hb y.block hy],hb⟩
      generalize qL:w.alloc (.cells (madeCells (AV .u8 0).cells ((qj.den ρ).toNat*i.size)) e)=W at*;have HW:R w0 n' ae m tm bl a W:=⟨hR.t,hR.d,hR.b,hR.bK.grow H5⟩;unfold pw;simp only[execOp,aA,jS,hx,hy,jZ,j6,kZ];have nW:mz S L w0 k n' bl.length ae m G K:=ag.later ⟨hn,ha,b1 _,λ_ _=>rfl⟩ (ga.refl _ _);have key:=agQ (kd:=2) (c:=qj.den ρ) (g:=w.heap.size) (b1 _) HW g1 (gY.mono hn) (by rw[g2];exact⟨kh _,fW⟩) ⟨by omega,by omega⟩ (by rw[d1];exact⟨⟨by omega,by omega,by omega,by omega⟩,⟨by omega,by omega⟩,λh=>by omega,λ_=>by omega⟩) (λh=>by omega)
       (λ_=>⟨_,_,⟨Dp,.inl ⟨rfl,rfl⟩⟩,by
         rw[g2,jO];refine⟨k9,[],dw ((qj.den ρ).toNat-(q3.den ρ).toNat) (.int .u8 0),?_,rfl⟩;rw[apN,eQ];have av:ct kA (dw (q3.den ρ).toNat [(0:Int)])=dw (q3.den ρ).toNat (.int .u8 0):=by
          generalize (q3.den ρ).toNat=q;induction q with
          |zero=>rfl
          |succ q ih=>
           rw[y8,y8];simp only[ct,wH]at ih⊢;rw[ih];rfl
         rw[av,List.replicate_append_replicate]
         congr 1;omega,by rw[hsz];simp[kA],h.bK.ext.size,.inr h.bK.ia⟩) (λj p aR he=>by
         by_cases nh:b2 ae p.1=0
         ·exact .inl nh
         ·have:=hR.bK.lt aR nh;omega) ah nW
      rw[if_neg (by omega),d1]at key;have key:K (a.put o.dst (.slice (some ⟨w.heap.size,0,none⟩) (q3.den ρ).toNat (qj.den ρ).toNat)) W:=key;exact key
    ·cases bG
  ·cases bG
 ·rename_i c aA;split at bG
  ·rename_i f hc;split at bG
   ·rename_i fn x hf s4;split at bG
    ·rename_i y t hx pG;split at bG
     ·rename_i e hd;split at bG
      ·rename_i he;cases hm:UX fn with
       |false=>rw[hm]at bG;cases bG
       |true=>
        rw[hm]at bG;simp only[cond_true,bu]at bG;subst bG;obtain⟨gk,eJ,ur,BW⟩:=aBr hm;have gY:=c4 h.t x;rw[hx]at gY;have Iw:y.l.bU n:=gY.1.1;obtain⟨adT,ah⟩:=ah;have adT:0<=y.l.den ρ/\y.l.den ρ<=1073741824:=adT;obtain⟨aQ,bn⟩:=adT;obtain⟨N,cF⟩:∃N:Nat,y.l.den ρ=N:=⟨(y.l.den ρ).toNat,by omega⟩;have et:a.eval x= .int .i64 (N:Int):=by rw[<-cF];exact gY.2
        have aFu:fn.resultTypes=#[t]:=Yo (by rw[pG]);obtain⟨oy,Hy,jZ,hle,Ie⟩:=aQl (P:=P) w fn.params t e (jP hd) N (by omega);have Ie:=Ie (by unfold maxLen;omega);unfold maxLen at Ie;obtain⟨l,l1,l2,n7⟩:=ani oy Hy #[];have adx:(execOp a.eval o).run P w= .ok (.value (.slice (some ⟨w.heap.size,0,none⟩) N oy)) (w.drew.drew.alloc (.cells (CO oy Hy #[]) e)):=by
         rw[aho hc o aA,run_callFunc_extern hf eJ gk ur BW];have:c.args.map a.eval=#[.int .i64 (N:Int)]:=Yo (by rw[AY,s4];simp[et]);rw[this,aFu,jZ];rfl
        have PB:∀r∈l.take N,cX kA r:=λr hr=>l2 r (mv hr);have qT:(l.take N).length=N:=by rw[m4,l1];omega
        have aqa:rc (l.take N)<=cP:=G6 (sh:=kA) (by decide) (by rw[qT];omega) PB;have ah:=ah (rc (l.take N)) (kh _) aqa;have fV:agree n ρ (eg ρ n (rc (l.take N))):=agree.eg _ _ _;have bo:y.l.den (eg ρ n (rc (l.take N)))=N:=by rw[I.cq fV Iw,cF]
        have abS:(I.var n).den (eg ρ n (rc (l.take N)))=rc (l.take N):=by simp[I.de,mL]
        have ah:=ah (by
         show y.l.den (eg ρ n (rc (l.take N)))=((af ((I.var n).den (eg ρ n (rc (l.take N))))).length:Int);rw[bo,abS,jO,qT])
        have ah:=ah (oy:Int) (by omega) (by omega);have ah:=ah (by
         have eI:agree (n+1) (eg ρ n (rc (l.take N))) (eg (eg ρ n (rc (l.take N))) (n+1) (oy:Int)):=agree.eg _ _ _;show y.l.den (eg (eg ρ n (rc (l.take N))) (n+1) (oy:Int))<=(I.var (n+1)).den (eg (eg ρ n (rc (l.take N))) (n+1) (oy:Int));rw[I.cq eI (Iw.mono (tH _)),bo];simp only[I.de,mL];omega)
        have hR:=h.later (tH n) fV;have Dp:(w.drew.drew.alloc (.cells (CO oy Hy #[]) e)).heap[w.heap.size]?=some (.cells (CO oy Hy #[]) e (0,0)):=by simp[Nb,ajl,-Yt,-awy]
        have H5:w.Extends (w.drew.drew.alloc (.cells (CO oy Hy #[]) e)):=by
         have hb:∀j:Nat,j<w.heap.size->(w.drew.drew.alloc (.cells (CO oy Hy #[]) e)).heap[j]?=w.heap[j]?:=λj aR=>by
          simp only[Nb,ajl];rw[aW5 aR,Sj aR]
         exact⟨rfl,rfl,rfl,by simp[Nb,ajl,-Yt,-awy],λy hy=>by simp only[oq,hb y.block hy],λy hy=>by simp only[EH,hb y.block hy],hb⟩
        generalize qL:w.drew.drew.alloc (.cells (CO oy Hy #[]) e)=W at*;have HW:R w0 (n+1) (eg ρ n (rc (l.take N))) m tm bl a W:=⟨hR.t,hR.d,hR.b,hR.bK.grow H5⟩;unfold pw;simp only[adx];have nW:mz S L w0 k (n+1) bl.length (eg ρ n (rc (l.take N))) m G K:=ag.later ⟨tH n,fV,b1 _,λ_ _=>rfl⟩ (ga.refl _ _);have key:=asT (kd:=2) (c:=(oy:Int)) (g:=w.heap.size) (code:= .var n) (len:=y.l) (e:=e) (d:=o.dst) (sh:=kA) (b1 _) HW (I.gU (AW n)) (Iw.mono (tH _)) (by rw[abS];exact⟨kh _,aqa⟩) ⟨by omega,by omega⟩ (by rw[bo];exact⟨⟨by omega,by omega,by omega,by omega⟩,⟨by omega,by omega⟩,λh=>by omega,λ_=>by omega⟩) (λh=>by omega)
         (λ_=>⟨_,_,⟨Dp,.inl ⟨rfl,rfl⟩⟩,by
           rw[abS,jO];refine⟨PB,[],ct kA (l.drop N),?_,rfl⟩;rw[n7];show ct kA l=ct kA (l.take N)++ct kA (l.drop N);rw[<-zI,nI],by
           have av:=congrArg pY n7;simp only[fq,qK l2,l1]at av;simpa [kA]using av,h.bK.ext.size,.inr h.bK.ia⟩) (λj p aR he=>by
           by_cases nh:b2 (eg ρ n (rc (l.take N))) p.1=0
           ·exact .inl nh
           ·have:=hR.bK.lt aR nh;omega) ah nW
        rw[if_neg (by omega),bo]at key;have key:K (a.put o.dst (.slice (some ⟨w.heap.size,0,none⟩) N oy)) W:=by simpa using key
        exact key
      ·cases bG
     ·cases bG
    ·cases bG
   ·cases bG
  ·cases bG
 ·cases bG
end
end Go.bX
namespace Go.bX
open M
theorem aPm {α:Type} (f:Nat->α) (s k:Nat):(dP ((k+1)*s)).map (λi=>f (i% s))=(dP s).map (λi=>f (i% s))++(dP (k*s)).map (λi=>f (i% s)):=by
 rw[AX,Nat.add_comm (k*s) s,List.range_add,hQ,lz]
 congr 1
 refine j5 λi _=>?_;simp only[Si,Nat.add_mod_left]
theorem av1 (Z:Array bf):∀k:Nat,(p1 Z k).toList=(dw k Z.toList).flatten
 |0=>by simp[p1]
 |k+1=>by
  have ih:=av1 Z k;simp only[p1,AY,ajf]at ih⊢;rw[aPm (λi=>Z[i]!) Z.size k,ih,y8,nH]
  congr 1
  refine List.ext_getElem (by simp) λi h1 h2=>?_;simp only[ps,List.length_range]at h1;simp[MS h1,h1]
theorem aoe (sh:List a8) (row:List Int):∀k:Nat,ct sh (dw k row)=(dw k (eA sh row)).flatten
 |0=>rfl
 |k+1=>by
  have ih:=aoe sh row k;rw[y8,y8,nH,<-ih];rfl
section
variable {S:Nat->List Int->List Int->Prop} {L:V->Env->Prop} {n:Nat} {ρ:Env} {m:Nat->Nat} {bl:List aM} {gl:fK} {w0:fg} {P:cc}
theorem Mem.rewrite {w:aC} {b:Nat} {sh:List a8} {off code cap code':I} {kind:Nat} {ez:bE×Bool} (h:Mem w0 ρ m bl w) (bd:bl[b]?=some ([.rows sh off code cap kind],ez)) (ag:2<=kind) (dR:0<=cap.den ρ)
 (ug:∀r∈af (code'.den ρ),cX sh r) (hlen:(af (code'.den ρ)).length=(af (code.den ρ)).length):
 ∃(cells:Array bf) (post:List bf) (fz:Nat×Nat),w.heap[m b]?=some (.cells cells ez.1 fz)/\CS kind fz cells.size/\off.den ρ=0/\(∀r∈af (code.den ρ),cX sh r)/\cells.toList=ct sh (af (code.den ρ))++post/\cells.size=(cap.den ρ).toNat*sh.length/\
  Mem w0 ρ m (eP bl b ([.rows sh off code' cap kind],ez)) (w.setRow (m b) (ct sh (af (code'.den ρ))++post).toArray):=by
 obtain⟨eu,cells,lM,fz,aQ,⟨bn,cj⟩,dU⟩:=(h.rws b sh off code cap kind ez bd (by omega)).2 dR;obtain⟨r0,r1,r2,gS,bb,aD⟩:=dU ag;subst r0;obtain⟨B7,pre,post,L7,QQ⟩:=cj;rw[r1]at QQ;have rH:pre=[]:=uV (by simpa using QQ);subst rH;rw[eQ]at L7;have hsz:(ct sh (af (code'.den ρ))++post).length=cells.size:=by
  have av:=congrArg pY L7;simp only[fq,qK ug,qK B7,EM,hlen]at av⊢;omega
 refine⟨cells,post,fz,aQ,r2,r1,B7,L7,gS,?_⟩;exact h.put (kd:=kind) (cells:=cells) (fz:=fz) (code':=code') ag bd dR (row:=(ct sh (af (code'.den ρ))++post).toArray) (λ_=>⟨λcC=>by omega,λ_=>⟨eu,_,_,fz,Sw w (m b) _ _ _ _ aQ,⟨by rw[r1];exact cn _,by
  rw[r1];exact⟨ug,[],post,by simp,rfl⟩⟩,λ_=>⟨rfl,r1,by simp only[CM,hsz];exact r2,by simp only[CM,hsz];exact gS,bb,aD⟩⟩⟩)
theorem ar3 {sh:List a8} {rows mid:List (List Int)} {post:List bf} {cells:List bf} {a:Nat} (hr:∀r∈rows,cX sh r) (hm:∀r∈mid,cX sh r) (hc:cells=ct sh rows++post) (ha:a+mid.length<=rows.length):
 cells.take (a*sh.length)++ct sh mid++cells.drop (a*sh.length+(ct sh mid).length)=ct sh (rows.take a++mid++rows.drop (a+mid.length))++post:=by
 have h1:ct sh rows=ct sh (rows.take a)++ct sh (rows.drop a):=by rw[<-zI,nI]
 have h2:ct sh rows=ct sh (rows.take (a+mid.length))++ct sh (rows.drop (a+mid.length)):=by rw[<-zI,nI]
 have l1:(ct sh (rows.take a)).length=a*sh.length:=by rw[qK λr h=>hr r (mv h),m4,CI (by omega)]
 have l2:(ct sh (rows.take (a+mid.length))).length=a*sh.length+(ct sh mid).length:=by rw[qK λr h=>hr r (mv h),qK hm,m4,CI (by omega),y6]
 have av:cells.take (a*sh.length)=ct sh (rows.take a):=by
  rw[hc,h1,fS,Sn (by omega),mu (by omega)]
 have aH:cells.drop (a*sh.length+(ct sh mid).length)=ct sh (rows.drop (a+mid.length))++post:=by
  rw[hc,h2,fS,<-l2,GX]
 rw[av,aH,zI,zI];simp only[fS]
theorem VZ {sh:List a8} {rows mid:List (List Int)} {a k:Nat} (hr:∀r∈rows,cX sh r) (hm:∀r∈mid,cX sh r):∀r∈rows.take a++mid++rows.drop k,cX sh r:=λr h=>by
 rcases List.mem_append.1 h with h|h
 ·rcases List.mem_append.1 h with h|h
  ·exact hr r (mv h)
  ·exact hm r h
 ·exact hr r (qx h)
theorem afY {rows mid:List (List Int)} {a:Nat} (ha:a+mid.length<=rows.length):(rows.take a++mid++rows.drop (a+mid.length)).length=rows.length:=by
 simp only[fq,m4,pq];omega
theorem WS {w:aC} {b:Nat} {sh:List a8} {off code cap:I} {kind:Nat} {ez:bE×Bool} (h:Mem w0 ρ m bl w) (bd:bl[b]?=some ([.rows sh off code cap kind],ez)) (ag:2<=kind) (dR:0<=cap.den ρ) (Fz:cap.den ρ<=0x7fffffffffffffff) (rG:0<sh.length):(af (code.den ρ)).length<=maxLen/\∀r∈af (code.den ρ),cX sh r:=by
 obtain⟨eu,cells,lM,fz,aQ,⟨bn,cj⟩,dU⟩:=(h.rws b sh off code cap kind ez bd (by omega)).2 dR;obtain⟨_,_,_,h5,_⟩:=dU ag;obtain⟨B7,pre,post,bw,bz⟩:=cj;refine⟨?_,B7⟩;have h4:=congrArg pY bw;simp only[fq,qK B7,EM]at h4;rw[h5]at h4;have h6:(af (code.den ρ)).length*sh.length<=(cap.den ρ).toNat*sh.length:=by omega
 have h7:=aW4 h6 rG;unfold maxLen;omega
theorem atY {sh:List a8} (h:qq sh=true):0<sh.length:=by
 unfold qq at h;simp only[bI]at h;exact vg h.1.2
theorem ato {w:aC} {b:Nat} {sh:List a8} {off code cap:I} {kind:Nat} {ez:bE×Bool} (h:Mem w0 ρ m bl w) (bd:bl[b]?=some ([.rows sh off code cap kind],ez)) (ag:2<=kind) (Fz:cap.den ρ<=0x7fffffffffffffff) (rG:0<sh.length):(af (code.den ρ)).length<=maxLen/\∀r∈af (code.den ρ),cX sh r:=by
 rcases mw (cap.den ρ) 0 with hc|hc
 ·rw[(h.rws b sh off code cap kind ez bd (by omega)).1 hc];exact⟨AS _,λr hr=>by simp at hr⟩
 ·exact WS h bd ag hc Fz rG
theorem Mem.aPo {w:aC} {b:Nat} {sh:List a8} {off code cap code':I} {kind:Nat} {ez:bE×Bool} (h:Mem w0 ρ m bl w) (bd:bl[b]?=some ([.rows sh off code cap kind],ez)) (he:af (code'.den ρ)=af (code.den ρ)):Mem w0 ρ m (eP bl b ([.rows sh off code' cap kind],ez)) w:=by
 rw[mK];have hlt:=(List.getElem?_eq_some_iff.1 bd).1;have hg:∀(i:Nat) (p:aM),(bl.set b ([.rows sh off code' cap kind],ez))[i]?=some p->(i=b/\p=([.rows sh off code' cap kind],ez))∨(i≠b/\bl[i]?=some p):=λi p hi=>by
  rw[wF]at hi;by_cases lG:b=i
  ·subst lG;rw[if_pos rfl,if_pos hlt]at hi;exact .inl ⟨rfl,(iI hi).symm⟩
  ·rw[if_neg lG]at hi;exact .inr ⟨λe=>lG e.symm,hi⟩
 have jX:∀(i:Nat) (p:aM),(bl.set b ([.rows sh off code' cap kind],ez))[i]?=some p->∃q:aM,bl[i]?=some q/\b2 ρ p.1=b2 ρ q.1:=λi p hi=>by
  rcases hg i p hi with⟨rfl,rfl⟩|⟨_,h2⟩
  ·exact⟨_,bd,rfl⟩
  ·exact⟨_,h2,rfl⟩
 refine⟨h.ext,h.kE,h.mE,h.lq,h.ia,h.kp,λi cs t hi aA=>?_,λi gC ld ko k6 sH t hi=>?_,λi j p q hi aR hm=>?_⟩
 ·rcases hg i _ hi with⟨_,h2⟩|⟨_,h2⟩
  ·cases h2;exact absurd aA (by simp[cy])
  ·exact h.gP i cs t h2 aA
 ·rcases hg i _ hi with⟨rfl,h2⟩|⟨_,h2⟩
  ·cases h2;have:=h.rws _ sh off code cap kind ez bd;unfold wL at this⊢;rw[he];exact this
  ·exact h.rws i _ _ _ _ _ t h2
 ·obtain⟨ed,hp,ep⟩:=jX i p hi;obtain⟨fG,an,eq⟩:=jX j q aR;rw[ep,eq];exact h.inj i j ed fG hp an hm
theorem aRn {tm:List V} {a:Act} {w:aC} {G:fx} {o:Oper} {K:Act->aC->Prop} {Q:Exit->Act->aC->Prop} {k:iK} {sg:T}
 (h:R w0 n ρ m tm bl a w) (bG:ahW P o n tm bl k=some sg) (ah:sg.holds S L G ρ) (ag:mz S L w0 k n bl.length ρ m G K):o.wp P a w K Q:=by
 unfold ahW at bG;split at bG
 rotate_left
 ·cases bG
 rename_i c aA;split at bG
 ·rename_i lF;split at bG
  rotate_left
  ·cases bG
  rename_i x t gY o4;have hx:=c4 h.t x;split at bG
  rotate_left
  ·cases bG
  rename_i b bL cT ro len cap e hv he;rw[hv]at hx;split at bG
  rotate_left
  ·cases bG
  rename_i sh off code e8 kind ez z bd hz;cases hc:(cV 2 kind&&I.beq cT off&&aU bL sh.length&&qq sh&&aU z.length sh.length)with
  |false=>rw[hc]at bG;cases bG
  |true=>
   rw[hc]at bG;simp only[cond_true,bu]at bG;subst bG;simp only[bI]at hc;obtain⟨⟨⟨⟨c1,bQ⟩,cD⟩,dq⟩,fM⟩:=hc;have c1:=gq c1;have bQ:=I.beq_eq bQ;have cD:=b8 cD;have fM:=b8 fM
   subst bQ;subst cD;obtain⟨inf,oR,hi,jn,ua⟩:=MO hz;have bR:c.args=#[x]:=by rw[<-l4 (xs:=c.args),gY]
   have a2:c.argTypes=#[t]:=by rw[<-l4 (xs:=c.argTypes),o4]
   have rI:(A.sl b sh.length cT ro len cap).ok n bl.length ρ:=hx.1;obtain⟨ptr,av,aH,ca⟩:=xI (m:=m) rI;have et:a.eval x=(A.sl b sh.length cT ro len cap).den ρ m:=hx.2;rw[av]at et;obtain⟨ak,⟨ai,aw,dk,jz⟩,⟨jR,lW,mW,mX⟩,⟨nE,mP⟩,ik,ki⟩:=rI;have gG:(A.rows sh cT code e8 kind).ok n bl.length ρ:=h.b _ (fw bd) _ (by simp);have rG:=atY dq;have dS:aE S L (bind (hK 65 [code,ro,len]) λ_=>bind (Ei sh z) λls=>bind (gF 61 (code::ro::len::ls) 0 cP) λcode'=>pure code') n ρ λae n' code'=>code'.bU n'/\(0<=code'.den ae/\code'.den ae<=cP)/\(0<=ro.den ρ/\0<len.den ρ/\ro.den ρ+len.den ρ<=(af (code.den ρ)).length)/\0<=e8.den ρ/\
    ∃row:List Int,cX sh row/\eA sh row=oR.cells.toList/\af (code'.den ae)=(af (code.den ρ)).take (ro.den ρ).toNat++dw (len.den ρ).toNat row++(af (code.den ρ)).drop ((ro.den ρ).toNat+(len.den ρ).toNat):=by
    refine kb λni=>?_;have ni:0<=ro.den ρ/\0<len.den ρ/\ro.den ρ+len.den ρ<=(af (code.den ρ)).length:=ni;have Ll:=Dd ua n bl.length ρ m;refine(Mn (nb:=bl.length) (m:=m) Ll.1).bind λa6 bh ls h9 fV ⟨g1,g2,g3⟩=>?_;rw[Ll.2]at g3;have dR:0<=e8.den ρ:=by
     rcases mw (e8.den ρ) 0 with jV|jV
     ·have:=(h.bK.rws b sh cT code e8 kind ez bd (by omega)).1 jV;rw[this]at ni;simp at ni;omega
     ·exact jV
    obtain⟨Ie,lQ⟩:=WS h.bK bd c1 dR gG.2.2.2 rG;have hf:cu 61 ((code::ro::len::ls).map (·.den a6))=rc ((af (code.den ρ)).take (ro.den ρ).toNat++dw (len.den ρ).toNat (ls.map (·.den a6))++(af (code.den ρ)).drop ((ro.den ρ).toNat+(len.den ρ).toNat)):=by
     simp only[df,cu,I.cq fV gG.1.2.1,I.cq fV aw,I.cq fV dk]
    have cm:∀r∈(af (code.den ρ)).take (ro.den ρ).toNat++dw (len.den ρ).toNat (ls.map (·.den a6))++(af (code.den ρ)).drop ((ro.den ρ).toNat+(len.den ρ).toNat),cX sh r:=VZ lQ λr hr=>by rw[awz hr];exact g2
    have fW:=u1 (l:=(af (code.den ρ)).take (ro.den ρ).toNat++dw (len.den ρ).toNat (ls.map (·.den a6))++(af (code.den ρ)).drop ((ro.den ρ).toNat+(len.den ρ).toNat)) (by simp only[fq,m4,pq,JT];omega) λr hr=>(cm r hr).row dq;refine(iR (by rw[hf];exact kh _) (by rw[hf];exact fW)).bind λcd fF code' fX eI ⟨k1,k2⟩=>aE.pure ?_;rw[hf]at k2;exact⟨k1,by rw[k2];exact⟨kh _,fW⟩,ni,dR,ls.map (·.den a6),g2,g3,by rw[k2,jO]⟩
   obtain⟨ae,n',code',hn,ha,⟨g1,g2,g3,dR,row,g4,g5,g6⟩,ah⟩:=dS G _ ah;have hR:=h.later hn ha;have d1:code.den ae=code.den ρ:=I.cq ha gG.1.2.1;have d2:e8.den ae=e8.den ρ:=I.cq ha gG.1.2.2;have Io:(dw (len.den ρ).toNat row).length=(len.den ρ).toNat:=JT;have ud:∀r∈dw (len.den ρ).toNat row,cX sh r:=λr hr=>by rw[awz hr];exact g4
   have hle:(ro.den ρ).toNat+(dw (len.den ρ).toNat row).length<=(af (code.den ρ)).length:=by rw[Io];omega
   have ug:∀r∈af (code.den ρ),cX sh r:=(WS h.bK bd c1 dR gG.2.2.2 rG).2;obtain⟨cells,post,fz,bw,bz,cY,fa,fv,hB,lJ⟩:=hR.bK.rewrite (code':=code') bd c1 (by rw[d2];exact dR) (by rw[g6];exact VZ ug ud) (by
    rw[g6,d1];have:=afY hle;rw[Io]at this;exact this)
   rw[d1]at fa fv;have cY:cT.den ρ=0:=by rw[<-I.cq ha ai];exact cY
   have OP:0<=cap.den ρ:=by
    rcases mw (cap.den ρ) 0 with jV|jV
    ·have:=ik jV;omega
    ·exact jV
   have cb:a.eval x= .slice (some ⟨m b,(ro.den ρ).toNat*sh.length,none⟩) (len.den ρ).toNat (cap.den ρ).toNat:=by
    rw[et,ca OP,if_neg (by omega),cY];simp
   have qT:(p1 oR.cells (len.den ρ).toNat).toList=ct sh (dw (len.den ρ).toNat row):=by rw[av1,aoe,g5]
   have aGh:(p1 oR.cells (len.den ρ).toNat).toList.length=(len.den ρ).toNat*sh.length:=by rw[qT,qK ud,Io]
   have adz:=congrArg pY fv;simp only[fq,EM,qK fa]at adz;have BK:(ro.den ρ).toNat*sh.length+0+(p1 oR.cells (len.den ρ).toNat).toList.length<=cells.size:=by
    rw[aGh];have:((ro.den ρ).toNat+(len.den ρ).toNat)*sh.length<=(af (code.den ρ)).length*sh.length:=Yr _ (by omega);rw[y6]at this;omega
   have nn:=WW (P:=P) (m b) ((ro.den ρ).toNat*sh.length) ez.1 fz kind (p1 oR.cells (len.den ρ).toNat).toList 0 cells w bz bw BK (by rw[qT];exact acE);rw[m3,qT,ar3 fa ud fv hle]at nn;rw[Io]at nn;rw[<-g6]at nn;obtain⟨q,an⟩:∃q,(len.den ρ).toNat=q+1:=⟨(len.den ρ).toNat-1,by omega⟩;have PB:∀w:aC,(zeroValue e).run P w= .ok oR w:=λw=>by simp[zeroValue,typeInfo,hi,jn]
   have jZ:(awC #[t] o.type #[.slice (some ⟨m b,(ro.den ρ).toNat*sh.length,none⟩) (q+1) (cap.den ρ).toNat]).run P w= .ok (.tuple #[]) (w.setRow (m b) (ct sh (af (code'.den ae))++post).toArray):=by
    rw[an]at nn qT;have aFE:(storeCells ⟨m b,(ro.den ρ).toNat*sh.length,none⟩ (p1 oR.cells (q+1)).toList 0).run P w= .ok () (w.setRow (m b) (ct sh (af (code'.den ae))++post).toArray):=by rw[qT];exact nn
    simp[awC,gz (jP he),PB,aFE]
   rw[an]at cb;unfold pw;have hex:execOp a.eval o=(do pure (mx (<-awC #[t] o.type #[a.eval x]))):=by
    simp[execOp,aA,resolve,lF,bR,a2,invoke,builtin]
   simp only[hex,cb,jS,jZ,j6,kZ];refine ag n' ae m _ _ G _ _ ⟨hn,ha,by rw[lL];exact b1 _,λ_ _=>rfl⟩ (ga.refl _ _) ⟨?_,by rw[put_defers];exact h.d,hR.b.set (λy hy=>by
    simp at hy;subst hy;exact⟨⟨gG.1.1.mono hn,g1,gG.1.2.2.mono hn⟩,g2,by rw[d2];exact gG.2.2⟩),lJ⟩ ah
   rw[lL];exact fo.put hR.t o.dst (by intro x hx;simp at hx) rfl
 ·rename_i lF;split at bG
  rotate_left
  ·cases bG
  rename_i x y t t' gY o4;have hx:=c4 h.t x;have hy:=c4 h.t y;split at bG
  rotate_left
  ·rename_i b bL cT ro len cap e hv np he;rw[hv]at hx;rw[np]at hy;split at bG
   rotate_left
   ·cases bG
   rename_i s hs;simp only[bu]at bG;subst bG;have bR:c.args=#[x,y]:=by rw[<-l4 (xs:=c.args),gY]
   have a2:c.argTypes=#[t,t']:=by rw[<-l4 (xs:=c.argTypes),o4]
   have rI:(A.sl b bL cT ro len cap).ok n bl.length ρ:=hx.1;obtain⟨ptr,av,aH,ca⟩:=xI (m:=m) rI;have et:a.eval x=(A.sl b bL cT ro len cap).den ρ m:=hx.2;rw[av]at et;have zY:a.eval y= .slice none 0 0:=hy.2;obtain⟨CR,aju,ZO,cb⟩:∃A B C,a.eval x= .slice A B C:=⟨_,_,_,et⟩;have jZ:(AZ #[t,t'] o.type #[.slice CR aju ZO,.slice none 0 0]).run P w= .ok (goInt 0) w:=by
    cases CR<;>simp[AZ,gz (jP he),Yq,kW hs,Na,storeCells]
   unfold pw;have hex:execOp a.eval o=(do pure (mx (<-AZ #[t,t'] o.type #[a.eval x,a.eval y]))):=by
    simp[execOp,aA,resolve,lF,bR,a2,invoke,builtin]
   simp only[hex,cb,zY,jS,jZ,j6,kZ];exact ag n ρ m _ _ G _ _ (ft.refl _ _ _ _) (ga.refl _ _) ⟨fo.put (v:= .w (.one (.int .i64 ⟨.const 0,0,0⟩))) h.t o.dst ⟨I.dX _ _,by simp[I.bC],by simp[I.bC]⟩ rfl,by rw[put_defers];exact h.d,h.b,h.bK⟩ ah
  ·cases bG
  rename_i b bL cT ro len cap cg ah3 kG jw ju Bt e hv np he;rw[hv]at hx;rw[np]at hy;split at bG
  rotate_left
  ·cases bG
  rename_i sh off code e8 kind ez ahF D2 ko Db DU Te s bd xa hs;cases hc:(cV 2 kind&&eC 0 DU&&I.beq cT off&&I.beq kG D2&&sQ sh ahF&&aU bL sh.length&&aU ah3 sh.length&&aU s sh.length&&qq sh)with
  |false=>rw[hc]at bG;cases bG
  |true=>
   rw[hc]at bG;simp only[cond_true,bu]at bG;subst bG;simp only[bI]at hc;obtain⟨⟨⟨⟨⟨⟨⟨⟨c1,bQ⟩,cD⟩,dq⟩,fM⟩,hI⟩,oU⟩,nO⟩,qG⟩:=hc;have c1:=gq c1;have bQ:0<DU:=gq bQ;have cD:=I.beq_eq cD;have dq:=I.beq_eq dq;have fM:=Ek fM;have hI:=b8 hI;have oU:=b8 oU;have nO:=b8 nO
   subst cD;subst dq;subst fM;subst hI;subst oU;subst nO;have bR:c.args=#[x,y]:=by rw[<-l4 (xs:=c.args),gY]
   have a2:c.argTypes=#[t,t']:=by rw[<-l4 (xs:=c.argTypes),o4]
   have rI:(A.sl b sh.length cT ro len cap).ok n bl.length ρ:=hx.1;have ap9:(A.sl cg sh.length kG jw ju Bt).ok n bl.length ρ:=hy.1;obtain⟨ptr,av,aH,ca⟩:=xI (m:=m) rI;obtain⟨aOT,f1,f2,f3⟩:=xI (m:=m) ap9;have et:a.eval x=(A.sl b sh.length cT ro len cap).den ρ m:=hx.2;have zY:a.eval y=(A.sl cg sh.length kG jw ju Bt).den ρ m:=hy.2;rw[av]at et;rw[f1]at zY;obtain⟨ak,⟨ai,aw,dk,jz⟩,⟨jR,lW,mW,mX⟩,⟨nE,mP⟩,ik,ki⟩:=rI;obtain⟨au,⟨ao,az,oh,RX⟩,⟨RY,R5,Eu,Ev⟩,⟨Er,Es⟩,GA,JE⟩:=ap9;have gG:(A.rows sh cT code e8 kind).ok n bl.length ρ:=h.b _ (fw bd) _ (by simp);have aCX:(A.rows sh kG ko Db DU).ok n bl.length ρ:=h.b _ (fw xa) _ (by simp);have rG:=atY qG;have dS:aE S L (bind (hK 80 [code,ro,len]) λ_=>bind (hK 22 [ko,jw,jw.add ju]) λ_=>bind (gF 62 [ju,len] 0 0x7fffffffffffffff) λq=>bind (gF 22 [ko,jw,jw.add q] 0 cP) λsrc=>bind (gF 63 [code,ro,src] 0 cP) λcode'=>pure (q,code')) n ρ λae n' p=>(p.1.bU n'/\p.2.bU n')/\(0<=p.2.den ae/\p.2.den ae<=cP)/\(0<=ro.den ρ/\0<=len.den ρ/\ro.den ρ+len.den ρ<=(af (code.den ρ)).length)/\
    p.1.den ae=min (ju.den ρ) (len.den ρ)/\(0<=jw.den ρ/\jw.den ρ+ju.den ρ<=(af (ko.den ρ)).length)/\af (p.2.den ae)=(af (code.den ρ)).take (ro.den ρ).toNat++((af (ko.den ρ)).drop (jw.den ρ).toNat).take (min (ju.den ρ) (len.den ρ)).toNat++(af (code.den ρ)).drop ((ro.den ρ).toNat+(((af (ko.den ρ)).drop (jw.den ρ).toNat).take (min (ju.den ρ) (len.den ρ)).toNat).length)/\∀r∈af (ko.den ρ),cX sh r:=by
    refine kb λni=>kb λrE=>?_;have ni:0<=ro.den ρ/\0<=len.den ρ/\ro.den ρ+len.den ρ<=(af (code.den ρ)).length:=ni;have rE:0<=jw.den ρ/\jw.den ρ<=(jw.add ju).den ρ/\(jw.add ju).den ρ<=(af (ko.den ρ)).length:=rE;rw[I.den_add]at rE;obtain⟨Ie,lQ⟩:=ato h.bK bd c1 gG.2.2.2 rG;have Pm:∀r∈af (ko.den ρ),cX sh r:=by
     rcases mw (Db.den ρ) 0 with jV|jV
     ·have:=(h.bK.rws cg sh kG ko Db DU Te xa (by omega)).1 jV;rw[this];intro _ h;simp at h
     ·obtain⟨_,_,_,_,_,⟨_,cj⟩,_⟩:=(h.bK.rws cg sh kG ko Db DU Te xa (by omega)).2 jV;exact cj.1
    have adZ:cu 62 ([ju,len].map (·.den ρ))=min (ju.den ρ) (len.den ρ):=rfl;refine(iR (by rw[adZ];omega) (by rw[adZ];omega)).bind λa6 bh q h9 fV ⟨aQ,bn⟩=>?_;rw[adZ]at bn;have b4:ko.den a6=ko.den ρ:=I.cq fV aCX.1.2.1;have zn:jw.den a6=jw.den ρ:=I.cq fV az;have hf:cu 22 ([ko,jw,jw.add q].map (·.den a6))=rc (((af (ko.den ρ)).drop (jw.den ρ).toNat).take (min (ju.den ρ) (len.den ρ)).toNat):=by
     simp only[df,gr,cu,I.den_add,b4,zn,bn]
     congr 2;omega
    have fW:rc (((af (ko.den ρ)).drop (jw.den ρ).toNat).take (min (ju.den ρ) (len.den ρ)).toNat)<=cP:=u1 (by
     simp only[m4,pq];have:(af (code.den ρ)).length<=maxLen:=Ie;omega) λr hr=>(Pm r (qx (mv hr))).row qG
    refine(iR (by rw[hf];exact kh _) (by rw[hf];exact fW)).bind λcd fF src fX eI ⟨s1,s2⟩=>?_;rw[hf]at s2;have ao4:=fV.trans eI h9;have adG:cu 63 ([code,ro,src].map (·.den cd))=rc ((af (code.den ρ)).take (ro.den ρ).toNat++((af (ko.den ρ)).drop (jw.den ρ).toNat).take (min (ju.den ρ) (len.den ρ)).toNat++(af (code.den ρ)).drop ((ro.den ρ).toNat+(((af (ko.den ρ)).drop (jw.den ρ).toNat).take (min (ju.den ρ) (len.den ρ)).toNat).length)):=by
     simp only[df,gr,cu,I.cq ao4 gG.1.2.1,I.cq ao4 aw,s2,jO]
    have ud:∀r∈((af (ko.den ρ)).drop (jw.den ρ).toNat).take (min (ju.den ρ) (len.den ρ)).toNat,cX sh r:=λr hr=>Pm r (qx (mv hr));have apb:rc ((af (code.den ρ)).take (ro.den ρ).toNat++((af (ko.den ρ)).drop (jw.den ρ).toNat).take (min (ju.den ρ) (len.den ρ)).toNat++(af (code.den ρ)).drop ((ro.den ρ).toNat+(((af (ko.den ρ)).drop (jw.den ρ).toNat).take (min (ju.den ρ) (len.den ρ)).toNat).length))<=cP:=u1 (by
     rw[afY (by simp only[m4,pq];omega)];exact Ie) λr hr=>(VZ lQ ud r hr).row qG
    refine(iR (by rw[adG];exact kh _) (by rw[adG];exact apb)).bind λjb sJ code' Du w9 ⟨k1,k2⟩=>aE.pure ?_;rw[adG]at k2;refine⟨⟨aQ.mono (nJ fX Du),k1⟩,by rw[k2];exact⟨kh _,apb⟩,ni,?_,⟨rE.1,rE.2.2⟩,by rw[k2,jO],Pm⟩;rw[I.cq (eI.trans w9 fX) aQ,bn]
   obtain⟨ae,n',p,hn,ha,⟨⟨g1,oA⟩,g2,g3,g4,g5,g6,Pm⟩,ah⟩:=dS G (λp n=>k n (hj tm o.dst (.w (.one (.int .i64 ⟨p.1,0,0x7fffffffffffffff⟩)))) (eP bl b ([.rows sh cT p.2 e8 kind],ez))) ah;have hR:=h.later hn ha;have d1:code.den ae=code.den ρ:=I.cq ha gG.1.2.1;have d2:e8.den ae=e8.den ρ:=I.cq ha gG.1.2.2;rcases mw 0 (len.den ρ)with aFn|aFn
   rotate_left
   ·have o0:len.den ρ=0:=by omega
    have zT:p.1.den ae=0:=by rw[g4];omega
    have nm:min (ju.den ρ) (len.den ρ)=0:=by omega
    have aFy:af (p.2.den ae)=af (code.den ae):=by
     rw[g6,nm,d1];simp
    obtain⟨CR,aju,ZO,cb⟩:∃A B C,a.eval x= .slice A B C/\B=0:=⟨_,_,_,et,by rw[o0];rfl⟩;obtain⟨cb,rfl⟩:=cb;obtain⟨YE,ajv,akw,hY⟩:∃A B C,a.eval y= .slice A B C:=⟨_,_,_,zY⟩;have K9:(Na sh.length 0 (.slice YE ajv akw)).run P w= .ok #[] w:=by
     cases YE<;>simp[Na,loadCells,loadCellsFrom]
    have jZ:(AZ #[t,t'] o.type #[.slice CR 0 ZO,.slice YE ajv akw]).run P w= .ok (goInt 0) w:=by
     cases CR<;>simp[AZ,gz (jP he),Yq,kW hs,K9,storeCells]
    unfold pw;have hex:execOp a.eval o=(do pure (mx (<-AZ #[t,t'] o.type #[a.eval x,a.eval y]))):=by
     simp[execOp,aA,resolve,lF,bR,a2,invoke,builtin]
    simp only[hex,cb,hY,jS,jZ,j6,kZ];refine ag n' ae m _ _ G _ _ ⟨hn,ha,by rw[lL];exact b1 _,λ_ _=>rfl⟩ (ga.refl _ _) ⟨?_,by rw[put_defers];exact h.d,hR.b.set (λy hy=>by
     simp at hy;subst hy;exact⟨⟨gG.1.1.mono hn,oA,gG.1.2.2.mono hn⟩,g2,by rw[d2];exact gG.2.2⟩),hR.bK.aPo bd aFy⟩ ah
    rw[lL];refine fo.put hR.t o.dst ⟨g1,by show(0:Int)<=p.1.den ae;omega,by show p.1.den ae<=0x7fffffffffffffff;omega⟩ ?_;show goInt 0=AV .i64 (p.1.den ae);rw[zT];rfl
   have dR:0<=e8.den ρ:=by
    rcases mw (e8.den ρ) 0 with jV|jV
    ·have:=(h.bK.rws b sh cT code e8 kind ez bd (by omega)).1 jV;rw[this]at g3;simp at g3;omega
    ·exact jV
   generalize an:(min (ju.den ρ) (len.den ρ)).toNat=q at*;have ud:∀r∈((af (ko.den ρ)).drop (jw.den ρ).toNat).take q,cX sh r:=λr hr=>Pm r (qx (mv hr));have Lh:(((af (ko.den ρ)).drop (jw.den ρ).toNat).take q).length=q:=by simp only[m4,pq];omega
   have hle:(ro.den ρ).toNat+(((af (ko.den ρ)).drop (jw.den ρ).toNat).take q).length<=(af (code.den ρ)).length:=by rw[Lh];omega
   have ug:∀r∈af (code.den ρ),cX sh r:=(WS h.bK bd c1 dR gG.2.2.2 rG).2;obtain⟨cells,post,fz,bw,bz,cY,fa,fv,hB,lJ⟩:=hR.bK.rewrite (code':=p.2) bd c1 (by rw[d2];exact dR) (by rw[g6];exact VZ ug ud) (by rw[g6,d1];exact afY hle);rw[d1]at fa fv;have cY:cT.den ρ=0:=by rw[<-I.cq ha ai];exact cY
   have OP:0<=cap.den ρ:=by
    rcases mw (cap.den ρ) 0 with jV|jV
    ·have:=ik jV;omega
    ·exact jV
   have cb:a.eval x= .slice (some ⟨m b,(ro.den ρ).toNat*sh.length,none⟩) (len.den ρ).toNat (cap.den ρ).toNat:=by
    rw[et,ca OP,if_neg (by omega),cY];simp
   have lP:(ct sh (((af (ko.den ρ)).drop (jw.den ρ).toNat).take q)).length=q*sh.length:=by rw[qK ud,Lh]
   have adz:=congrArg pY fv;simp only[fq,EM,qK fa]at adz;have BK:(ro.den ρ).toNat*sh.length+0+(ct sh (((af (ko.den ρ)).drop (jw.den ρ).toNat).take q)).length<=cells.size:=by
    rw[lP];have:((ro.den ρ).toNat+q)*sh.length<=(af (code.den ρ)).length*sh.length:=Yr _ (by omega);rw[y6]at this;omega
   have nn:=WW (P:=P) (m b) ((ro.den ρ).toNat*sh.length) ez.1 fz kind (ct sh (((af (ko.den ρ)).drop (jw.den ρ).toNat).take q)) 0 cells w bz bw BK acE;rw[m3,ar3 fa ud fv hle]at nn;rw[<-g6]at nn;have aea:M7 (ju.den ρ).toNat (len.den ρ).toNat=q:=by show min _ _=q;omega
   have K9:(Na sh.length q (a.eval y)).run P w= .ok (ct sh (((af (ko.den ρ)).drop (jw.den ρ).toNat).take q)).toArray w:=by
    rcases mw (Bt.den ρ) 0 with jV|jV
    ·have h0:=GA jV;have zT:q=0:=by omega
     rw[zY,f2 jV,zT,qy];have:=run_firstCells_none (P:=P) w sh.length 0 (ju.den ρ).toNat (if Bt.den ρ<0 then 0 else(Bt.den ρ).toNat);simpa [ct]using this
    ·rw[zY,f3 jV];have ye:0<=Db.den ρ∨q=0:=by
      rcases mw (Db.den ρ) 0 with Fz|Fz
      ·have:=(h.bK.rws cg sh kG ko Db DU Te xa (by omega)).1 Fz;rw[this]at g5;simp at g5;right;omega
      ·exact .inl Fz
     refine Yp w sh.length q _ _ _ _ lP λj v aR=>?_;rcases ye with ye|ye
     ·obtain⟨_,aXI,lM,aXZ,aQ,⟨bn,cj⟩,_⟩:=(h.bK.rws cg sh kG ko Db DU Te xa (by omega)).2 ye;have:=(cj.sub (jw.den ρ).toNat q (by omega)).flat aR;rw[lk];simp only[oq,aQ,xW,xX,if_false];exact this
     ·rw[ye,qy]at aR;simp[ct]at aR
   obtain⟨aH2,aXH,hY⟩:∃B C,a.eval y= .slice aOT B C:=⟨_,_,zY⟩;have Pc:aH2=(ju.den ρ).toNat:=by rw[zY]at hY;injection hY with _ h2 _;exact h2.symm
   subst Pc;have jZ:(AZ #[t,t'] o.type #[.slice (some ⟨m b,(ro.den ρ).toNat*sh.length,none⟩) (len.den ρ).toNat (cap.den ρ).toNat,a.eval y]).run P w= .ok (goInt q) (w.setRow (m b) (ct sh (af (p.2.den ae))++post).toArray):=by
    rw[hY]at K9⊢;simp[AZ,gz (jP he),Yq,kW hs,aea,K9,nn]
   unfold pw;have hex:execOp a.eval o=(do pure (mx (<-AZ #[t,t'] o.type #[a.eval x,a.eval y]))):=by
    simp[execOp,aA,resolve,lF,bR,a2,invoke,builtin]
   simp only[hex,cb,jS,jZ,j6,kZ];refine ag n' ae m _ _ G _ _ ⟨hn,ha,by rw[lL];exact b1 _,λ_ _=>rfl⟩ (ga.refl _ _) ⟨?_,by rw[put_defers];exact h.d,hR.b.set (λy hy=>by
    simp at hy;subst hy;exact⟨⟨gG.1.1.mono hn,oA,gG.1.2.2.mono hn⟩,g2,by rw[d2];exact gG.2.2⟩),lJ⟩ ah
   rw[lL];refine fo.put hR.t o.dst ⟨g1,by show(0:Int)<=p.1.den ae;rw[g4];omega,by show p.1.den ae<=0x7fffffffffffffff;rw[g4];omega⟩ ?_;show goInt q=AV .i64 (p.1.den ae);have nc:((q:Nat):Int)=p.1.den ae:=by rw[g4,<-an];omega
   rw[<-nc];rfl
 ·cases bG
theorem aRo {tm:List V} {a:Act} {w:aC} {G:fx} {o:Oper} {K:Act->aC->Prop} {Q:Exit->Act->aC->Prop} {k:iK} {sg:T}
 (h:R w0 n ρ m tm bl a w) (bG:ahX P o n tm bl k=some sg) (ah:sg.holds S L G ρ) (ag:mz S L w0 k n bl.length ρ m G K):o.wp P a w K Q:=by
 unfold ahX at bG;split at bG
 rotate_left
 ·cases bG
 rename_i c aA;split at bG
 rotate_left
 ·cases bG
 rename_i lF;split at bG
 rotate_left
 ·cases bG
 rename_i x y t t' gY o4;have hx:=c4 h.t x;have hy:=c4 h.t y;split at bG
 rotate_left
 ·cases bG
 rename_i b off len cap cg D2 ju Bt e hv np he;rw[hv]at hx;rw[np]at hy;split at bG
 rotate_left
 ·cases bG
 rename_i C ez l s bd hl hs;cases hc:(aU s 1&&cV (off+l.length) C.length&&cy C&&cy (C.take off++l++C.drop (off+l.length)))with
 |false=>rw[hc]at bG;cases bG
 |true=>
  rw[hc]at bG;simp only[cond_true,bu]at bG;subst bG;simp only[bI]at hc;obtain⟨⟨⟨c1,bQ⟩,uf⟩,s7⟩:=hc;have c1:=b8 c1;have bQ:=gq bQ;subst c1;have bR:c.args=#[x,y]:=by rw[<-l4 (xs:=c.args),gY]
  have a2:c.argTypes=#[t,t']:=by rw[<-l4 (xs:=c.argTypes),o4]
  have cb:a.eval x= .slice (some ⟨m b,off,none⟩) len cap:=hx.2;have hY:a.eval y= .slice (some ⟨m cg,D2,none⟩) ju Bt:=hy.2;obtain⟨l1,l2,n7⟩:=K4 h.bK h.b hl;obtain⟨w',nn,Dt⟩:=h.bK.storeCells (P:=P) h.b l2 bd bQ uf s7;have K9:(Na 1 (M7 ju len) (.slice (some ⟨m cg,D2,none⟩) ju Bt)).run P w= .ok (l.map (A.den ρ m)).toArray w:=
   Yp w 1 _ _ _ _ _ (by rw[ps,l1,CH]) n7
  have jZ:(AZ #[t,t'] o.type #[.slice (some ⟨m b,off,none⟩) len cap,.slice (some ⟨m cg,D2,none⟩) ju Bt]).run P w= .ok (goInt (M7 ju len)) w':=by
   simp[AZ,gz (jP he),Yq,kW hs,K9,nn]
  have cm:∀a∈C.take off++l++C.drop (off+l.length),A.ok n bl.length ρ a:=λa ha=>by
   have dS:=h.b _ (fw bd);rcases List.mem_append.1 ha with ha|ha
   ·rcases List.mem_append.1 ha with ha|ha
    ·exact dS a (mv ha)
    ·exact l2 a ha
   ·exact dS a (qx ha)
  unfold pw;have hex:execOp a.eval o=(do pure (mx (<-AZ #[t,t'] o.type #[a.eval x,a.eval y]))):=by
   simp[execOp,aA,resolve,lF,bR,a2,invoke,builtin]
  simp only[hex,cb,hY,jS,jZ,j6,kZ];refine ag n ρ m _ _ G _ w' ⟨b1 _,agree.refl _ _,by rw[lL];exact b1 _,λ_ _=>rfl⟩ (ga.refl _ _) ⟨?_,by rw[put_defers];exact h.d,h.b.set cm,Dt⟩ ah;rw[lL];refine fo.put (v:= .w (.one (.int .i64 (bZ.const (M7 ju len:Nat))))) h.t o.dst (bZ.qI _ _ _) ?_;show goInt (M7 ju len)=_;simp[W.den,A.den,bZ.const,I.bC,goInt]
theorem as4 {code:I} {kd:eB} {lo hi:Int} (hc:code.bU n) (hr:∀r∈af (code.den ρ),cX [.int kd lo hi] r):∀(c i:Nat) {bh:Nat} {a6:Env},n<=bh->agree n ρ a6->aE S L (WL code kd lo hi c i) bh a6 λae n' l=>(∀a∈l,A.ok n' bl.length ae a)/\l.length=c/\i+c<=max i (af (code.den ρ)).length/\l.map (A.den ae m)=ct [.int kd lo hi] (((af (code.den ρ)).drop i).take c)
 |0,i,bh,a6,_,_=>aE.pure ⟨λ_ h=>by simp at h,rfl,by omega,by simp[ct]⟩
 |c+1,i,bh,a6,hn,ha=>by
  unfold WL;refine kb λag=>?_;have av:code.den a6=code.den ρ:=I.cq ha hc;have ag:0<=(I.const i).den a6/\(I.const i).den a6<((af (code.den a6)).length:Int):=ag;rw[I.bC,av]at ag;have ks:i<(af (code.den ρ)).length:=by omega
  obtain⟨z,hz,z0,ar⟩:∃z,(af (code.den ρ))[i]=[z]/\lo<=z/\z<=hi:=by
   have:=hr _ (CL ks)
   match(af (code.den ρ))[i],this with
   |[z],h=>exact⟨z,rfl,h.1.1,h.1.2⟩
  have hg:(af (code.den ρ)).getD i []=[z]:=by rw[ky,lA ks,EF,hz]
  have hf:cu 21 ([code,.const (i:Int),.const 0].map (·.den a6))=z:=by
   show((af (code.den a6)).getD ((I.const (i:Int)).den a6).toNat []).getD ((I.const 0).den a6).toNat 0=z;rw[av,I.bC,I.bC,hC,hg];rfl
  refine(iR (by rw[hf];exact z0) (by rw[hf];exact ar)).bind λcd fF q fX eI ⟨aQ,bn⟩=>?_;rw[hf]at bn;refine(as4 hc hr c (i+1) (nJ hn fX) (ha.trans eI hn)).bind λjb sJ l Du w9 ⟨l1,l2,n7,xn⟩=>aE.pure ?_;have cj:q.den jb=z:=by rw[I.cq w9 aQ,bn]
  refine⟨λa h=>?_,by simp[l2],by omega,?_⟩
  ·rcases List.mem_cons.1 h with rfl|h
   ·exact⟨aQ.mono Du,by show lo<=q.den jb;omega,by show q.den jb<=hi;omega⟩
   ·exact l1 a h
  ·rw[List.drop_eq_getElem_cons ks,l5,hz,df,xn];simp[ct,A.den,cj];rfl
theorem aRp {tm:List V} {a:Act} {w:aC} {G:fx} {o:Oper} {K:Act->aC->Prop} {Q:Exit->Act->aC->Prop} {k:iK} {sg:T}
 (h:R w0 n ρ m tm bl a w) (bG:ahY P o n tm bl k=some sg) (ah:sg.holds S L G ρ) (ag:mz S L w0 k n bl.length ρ m G K):o.wp P a w K Q:=by
 unfold ahY at bG;split at bG
 rotate_left
 ·cases bG
 rename_i t p aA;have hp:=c4 h.t p;split at bG
 rotate_left
 ·cases bG
 rename_i b Pk;rw[Pk]at hp;split at bG
 rotate_left
 ·cases bG
 rename_i kd lo hi off code cap kind ez s bd iS hs;cases hc:(cV 2 kind&&eC 0 s)with
 |false=>rw[hc]at bG;cases bG
 |true=>
  rw[hc]at bG;simp only[cond_true,bu]at bG;subst bG;simp only[bI]at hc;have c1:=gq hc.1;have bQ:=vg hc.2;have Pj:a.eval p= .pointer (some ⟨m b,0,none⟩):=hp.2;have gG:(A.rows [.int kd lo hi] off code cap kind).ok n bl.length ρ:=h.b _ (fw bd) _ (by simp);have lQ:=(ato h.bK bd c1 gG.2.2.2 (by simp)).2;obtain⟨ae,n',l,hn,ha,⟨l1,l2,n7,xn⟩,ah⟩:=as4 (S:=S) (L:=L) (m:=m) (bl:=bl) gG.1.2.1 lQ s 0 (b1 _) (agree.refl _ _) G (λl n=>k n (hj tm o.dst (.w (.agg l))) bl) ah;have hle:s<=(af (code.den ρ)).length:=by omega
  have dR:0<=cap.den ρ:=by
   rcases mw (cap.den ρ) 0 with jV|jV
   ·have:=(h.bK.rws b _ off code cap kind ez bd (by omega)).1 jV;rw[this]at hle;simp at hle;omega
   ·exact jV
  obtain⟨_,cells,lM,fz,aQ,⟨bn,cj⟩,dU⟩:=(h.bK.rws b _ off code cap kind ez bd (by omega)).2 dR;have aFd:off.den ρ=0:=(dU c1).2.1;rw[aFd]at cj;have hl:=Sl (P:=P) w ⟨m b,0,none⟩ (l.map (A.den ae m)) λj v aR=>by
   rw[xn]at aR;have:=(cj.sub 0 s (AS _)).flat aR;rw[lk];simp only[oq,aQ,xW,xX,if_false];simpa using this
  simp only[ps,l2]at hl;have hR:=h.later hn ha;have jZ:(pZ t (.pointer (some ⟨m b,0,none⟩))).run P w= .ok (.agg (l.map (A.den ae m)).toArray) w:=by
   simp[pZ,pt,loadVar,tr iS,kW hs,hl]
  have hex:execOp a.eval o=(do pure (mx (<-pZ t (a.eval p)))):=by
   simp[execOp,aA]
  unfold pw;simp only[hex,Pj,jS,jZ,j6,kZ];refine ag n' ae m _ _ G _ _ ⟨hn,ha,b1 _,λ_ _=>rfl⟩ (ga.refl _ _) ⟨?_,by rw[put_defers];exact h.d,hR.b,hR.bK⟩ ah;exact fo.put (v:= .w (.agg l)) hR.t o.dst l1 rfl
end
end Go.bX
namespace Go.bX
open M
section
variable {S:Nat->List Int->List Int->Prop} {L:V->Env->Prop} {w0:fg} {P:cc} {gl:fK} {cal:gb} {inl:my}
theorem cond_holds {c:Bool} {t:T} {G:fx} {ρ:Env} (h:(cond c t .stuck).holds S L G ρ):c=true/\t.holds S L G ρ:=by
 cases c with
 |true=>exact⟨rfl,h⟩
 |false=>exact h.elim
theorem aRj {n:Nat} {ρ:Env} {m:Nat->Nat} {tm:List V} {bl:List aM} {a:Act} {w:aC} {G:fx} {o:Oper} {K:Act->aC->Prop} {Q:Exit->Act->aC->Prop} {k:iK}
 (di:im S P gl w0 cal) (hg:fJ gl w0) (nV:rn S L w0 P inl) (h:R w0 n ρ m tm bl a w) (ah:(ahU P gl cal inl o n tm bl k).holds S L G ρ) (ag:mz S L w0 k n bl.length ρ m G K):o.wp P a w K Q:=by
 unfold ahU at ah;split at ah
 ·rename_i t aA;cases hz:qu P t with
  |none=>simp[hz,T.holds]at ah
  |some cs=>
   simp only[hz]at ah;unfold qu at hz;cases hi:P.info? t with
   |none=>simp[hi]at hz
   |some i=>
    cases jn:i.zero with
    |none=>simp[hi,jn]at hz
    |some z=>
     simp only[hi,jn]at hz;have hc:=Dd hz n bl.length ρ m;obtain⟨o2,ah⟩:=cond_holds ah;have hw:=ag n ρ _ _ _ G _ _ (ft.alloc n ρ m bl (cs,(t,false)) w.heap.size) (ga.refl _ _) (h.alloc (t:=t) hc.1 o.dst o2) ah;unfold pw;simp only[execOp,aA,aW1,jS,zeroValue,typeInfo,run_program,j6,hi,jn,kZ,newVar,newRow,run_newObj];have e:(cs.map (A.den ρ m)).toArray=z.cells:=by rw[hc.2]
     rw[e]at hw;exact hw
 ·rename_i t x aA;have hx:=c4 h.t x;split at ah
  ·rename_i u hu;rw[hu]at hx;have et:a.eval x=u.den ρ m:=hx.2;obtain⟨o2,ah⟩:=cond_holds ah;have hw:=ag n ρ _ _ _ G _ _ (ft.alloc n ρ m bl (u.cells,(t,false)) w.heap.size) (ga.refl _ _) (h.alloc (t:=t) (W.Ku hx.1) o.dst o2) ah;unfold pw;simp only[execOp,aA,Instr.box,jS,j6,kZ,newVar,newRow,run_newObj,et];rw[<-W.Tt u hx.1]at hw;exact hw
  ·exact ah.elim
 ·rename_i t len parts aA;split at ah
  ·rename_i cs e tZ;obtain⟨g1,g2⟩:=azl (m:=m) (vals:=parts.map λ(i,x)=>(i,a.eval x)) tZ (by
    rw[AY];generalize parts.toList=lx;induction lx with
    |nil=>exact trivial
    |cons p r ih=>exact⟨⟨rfl,c4 h.t p.2⟩,ih⟩)
   obtain⟨o2,ah⟩:=cond_holds ah;have hR:=R.row (t:=e) (cs:=cs) (ex:=[]) (open_:=false) h g1 (λ_=>rfl) o2 o.dst (v:= .w (.one (.slc bl.length 0 len len))) (x:= .slice (some ⟨w.heap.size,0,none⟩) len len) (by simp[V.ok,W.ok,A.ok]) (by
    show So (some ⟨w.heap.size,0,none⟩) _ _=_;simp[W.den,A.den,pT])
   have hw:=ag n ρ _ _ _ G _ _ (ft.alloc n ρ m bl (cs,(e,false)) w.heap.size) (ga.refl _ _) hR ah;rw[gO]at hw;unfold pw;simp only[execOp,aA,jS,g2,j6,kZ];exact hw
  ·exact ah.elim
 ·rename_i t p x aA;have hp:=c4 h.t p;have hx:=c4 h.t x;split at ah
  ·rename_i b off u Pk Dz;rw[Pk]at hp;rw[Dz]at hx;have Pj:a.eval p= .pointer (some ⟨m b,off,none⟩):=hp.2;have et:a.eval x=u.den ρ m:=hx.2;split at ah
   ·rename_i cs ez s bd hs;cases hc:(aU u.cells.length s&&cV (off+s) cs.length&&eC 0 s&&cy cs&&cy (cs.take off++u.cells++cs.drop (off+s)))with
    |false=>rw[hc]at ah;exact ah.elim
    |true=>
     simp only[hc,cond_true]at ah;simp only[bI]at hc;obtain⟨⟨hc,uf⟩,s7⟩:=hc;have av:=b8 hc.1.1;have aH:=gq hc.1.2;have ca:=vg hc.2;subst av;obtain⟨w',jZ,Dt⟩:=h.bK.store h.b (W.Ku hx.1) bd aH ca uf s7 t hs (u.den ρ m) (W.Tt u hx.1);have cm:∀a∈cs.take off++u.cells++cs.drop (off+u.cells.length),A.ok n bl.length ρ a:=λa ha=>by
      have dS:=h.b _ (fw bd);rcases List.mem_append.1 ha with ha|ha
      ·rcases List.mem_append.1 ha with ha|ha
       ·exact dS a (mv ha)
       ·exact W.Ku hx.1 a ha
      ·exact dS a (qx ha)
     unfold pw;simp only[execOp,aA,jS,Pj,et,jZ,j6,kZ];refine ag n ρ m _ _ G _ w' ⟨b1 _,agree.refl _ _,by rw[lL];exact b1 _,λ_ _=>rfl⟩ (ga.refl _ _) ⟨?_,by rw[put_defers];exact h.d,h.b.set cm,Dt⟩ ah;rw[lL];exact fo.put h.t o.dst (by intro x hx;simp at hx) rfl
   ·exact ah.elim
  ·exact ah.elim
 ·rename_i c aA;split at ah
  ·rename_i f hc;split at ah
   ·exact Wx di hg h ah ag
   ·have s4:∀v∈c.args.toList.map (cB tm),V.ok n bl.length ρ v:=λv hv=>by
     obtain⟨x,_,rfl⟩:=List.mem_map.1 hv;exact(c4 h.t x).1
    have hr:=nV f n _ bl _ G ρ m w _ (λe sR=>match e with
     | .returned v=>K (a.put o.dst v) sR
     | .panicked chain=>Q (.panic chain) a sR
     | .outgrown=>LetsOut Q) h.b h.bK s4 (SO (xs:=c.args.toList) h.t) ah (by
     intro n' v bF fm ae m' w' val h1 h2 h3 h4 h5 h6 h7;exact ag n' ae m' _ bF fm _ w' h1 h2 ⟨fo.put (h.t.ext h1.ha h1.hn h1.hb h1.hm) o.dst h3 h4,by rw[put_defers];exact h.d,h5,h6⟩ h7)
    have ha:(c.args.toList.map a.eval).toArray=c.args.map a.eval:=by rw[<-AY]
    rw[ha]at hr;unfold pw;rw[aho hc o aA,hr.1];refine hr.2.mono λe sR he=>?_;cases e<;>exact he
  ·rename_i x hc;split at ah
   ·exact Wx di hg h ah ag
   split at ah
   ·rename_i f lC aEt;have hx:=c4 h.t (.tmp x);obtain⟨s9,et⟩:(∀y∈lC,A.ok n bl.length ρ y)/\a.eval (.tmp x)= .func (.func f) #[] (lC.map (A.den ρ m)).toArray:=aAx aEt hx.1 hx.2;have s4:∀v∈c.args.toList.map (cB tm)++lC.map (λy=>V.w (.one y)),V.ok n bl.length ρ v:=λv hv=>by
     rcases List.mem_append.1 hv with hv|hv
     ·obtain⟨x,_,rfl⟩:=List.mem_map.1 hv;exact(c4 h.t x).1
     ·obtain⟨y,hy,rfl⟩:=List.mem_map.1 hv;exact s9 y hy
    have hrel:fN ρ m (c.args.toList.map (cB tm)++lC.map λy=>V.w (.one y)) (c.args.toList.map a.eval++lC.map (A.den ρ m)):=by
     generalize c.args.toList=l;induction l with
     |nil=>
      simp only[gr,eQ];generalize lC=q;induction q with
      |nil=>trivial
      |cons y r ih=>exact⟨rfl,ih⟩
     |cons x r ih=>exact⟨(c4 h.t x).2,ih⟩
    have hr:=nV f n _ bl _ G ρ m w _ (λe sR=>match e with
     | .returned v=>K (a.put o.dst v) sR
     | .panicked chain=>Q (.panic chain) a sR
     | .outgrown=>LetsOut Q) h.b h.bK s4 hrel ah (by
     intro n' v bF fm ae m' w' val h1 h2 h3 h4 h5 h6 h7;exact ag n' ae m' _ bF fm _ w' h1 h2 ⟨fo.put (h.t.ext h1.ha h1.hn h1.hb h1.hm) o.dst h3 h4,by rw[put_defers];exact h.d,h5,h6⟩ h7)
    have hex:execOp a.eval o=callFunc f (c.args.toList.map a.eval++lC.map (A.den ρ m)).toArray:=by
     have e:(c.args.toList.map a.eval++lC.map (A.den ρ m)).toArray=#[]++c.args.map a.eval++(lC.map (A.den ρ m)).toArray:=by
      apply Yo;simp
     rw[e];simp only[execOp,aA,resolve,hc,et,Deferred.ofValue,pure_bind,invoke]
    unfold pw;rw[hex,hr.1];refine hr.2.mono λe sR he=>?_;cases e<;>exact he
   ·exact ah.elim
  ·rename_i hc;split at ah
   ·rename_i s x t t' gY o4;exact ayQ h aA hc gY o4 ah ag
   ·exact ah.elim
  ·exact Wx di hg h ah ag
 ·exact Wx di hg h ah ag
theorem auc {n:Nat} {ρ:Env} {m:Nat->Nat} {tm:List V} {bl:List aM} {a:Act} {w:aC} {G:fx} {o:Oper} {K:Act->aC->Prop} {Q:Exit->Act->aC->Prop} {k:iK}
 (di:im S P gl w0 cal) (hg:fJ gl w0) (nV:rn S L w0 P inl) (h:R w0 n ρ m tm bl a w) (ah:(Xe P gl cal inl o n tm bl k).holds S L G ρ) (ag:mz S L w0 k n bl.length ρ m G K):o.wp P a w K Q:=by
 unfold Xe at ah;split at ah
 ·rename_i t aB;exact aRk h aB ah ag
 ·split at ah
  ·rename_i t aB;exact aRm h aB ah ag
  ·split at ah
   ·rename_i t aB;exact aRn h aB ah ag
   ·split at ah
    ·rename_i t aB;exact aRo h aB ah ag
    ·split at ah
     ·rename_i t aB;exact aRp h aB ah ag
     ·exact aRj di hg nV h ah ag
theorem amt {ρ:Env}:∀{b:bO} {v:Bool} {r:I×Option Int×Option Int},b.den ρ=v->x6 b v=some r->(∀c,r.2.1=some c->c<=r.1.den ρ)/\(∀c,r.2.2=some c->r.1.den ρ<=c)
 | .le p q,true,r,hb,h| .le p q,false,r,hb,h| .lt p q,true,r,hb,h| .lt p q,false,r,hb,h=>by
  simp only[bO.den,decide_eq_true_eq,decide_eq_false_iff_not]at hb;simp only[x6]at h;split at h
  ·rename_i c h1 h2;have e:=I.ll h1 (ρ:=ρ);simp only[bu]at h;subst h;constructor<;>intro ek hc<;>simp only[bu,reduceCtorEq]at hc<;>subst hc<;>simp only<;>omega
  ·rename_i c h1 h2;have e:=I.ll h2 (ρ:=ρ);simp only[bu]at h;subst h;constructor<;>intro ek hc<;>simp only[bu,reduceCtorEq]at hc<;>subst hc<;>simp only<;>omega
  ·cases h
 | .not b,v,r,hb,h=>by
  simp only[x6]at h;refine amt (b:=b) (v:= !v) ?_ h;simp only[bO.den]at hb;rw[<-hb,Bool.not_not]
 | .lit _,_,_,_,h=>by simp[x6]at h
 | .eq _ _,_,_,_,h=>by simp[x6]at h
 | .and _ _,_,_,_,h=>by simp[x6]at h
 | .iff _ _,_,_,_,h=>by simp[x6]at h
theorem aAC {n nb:Nat} {ρ:Env} {m:Nat->Nat} {b:bO} {v:Bool} (hb:b.den ρ=v) (u:V) (hu:u.ok n nb ρ):(Ty b v (x6 b v) u).ok n nb ρ/\∀x,u.rel ρ m x->(Ty b v (x6 b v) u).rel ρ m x:=by
 unfold Ty;split
 ·rename_i e;cases hc:bO.beq e b with
  |false=>simp only[cond_false];exact⟨hu,λ_ h=>h⟩
  |true=>
   have:=bO.beq_eq hc;subst this;simp only[cond_true];refine⟨trivial,λx hx=>?_⟩;simp only[V.rel,W.den,A.den,bO.den]at hx⊢;rw[hx,hb]
 ·rename_i k y;cases hr:x6 b v with
  |none=>exact⟨hu,λ_ h=>h⟩
  |some r=>
   obtain⟨l,lo,hi⟩:=r;simp only;cases hc:I.beq y.l l with
   |false=>simp only[cond_false];exact⟨hu,λ_ h=>h⟩
   |true=>
    have:=I.beq_eq hc;have hs:=amt hb hr;have hy:y.ok n ρ:=hu;simp only[cond_true];have b4:LO y.lo lo<=y.l.den ρ:=by
     unfold LO;cases lo with
     |none=>exact hy.2.1
     |some c=>
      simp only;have:=hs.1 c rfl;have:=hy.2.1;cases decide (y.lo<=c)with
      |true=>simp only[cond_true];rw[‹y.l=l›];assumption
      |false=>simp only[cond_false];assumption
    have cg:y.l.den ρ<=Qx y.hi hi:=by
     unfold Qx;cases hi with
     |none=>exact hy.2.2
     |some c=>
      simp only;have:=hs.2 c rfl;have:=hy.2.2;cases decide (c<=y.hi)with
      |true=>simp only[cond_true];rw[‹y.l=l›];assumption
      |false=>simp only[cond_false];assumption
    cases hd:decide (LO y.lo lo=Qx y.hi hi)with
    |true=>
     simp only[cond_true];have hd:=of_decide_eq_true hd;refine⟨bZ.qI _ _ _,λx h=>?_⟩;have h:x= .int k (y.l.den ρ):=h;rw[h];simp only[V.rel,W.den,A.den,bZ.const,I.bC]
     congr 1;omega
    |false=>simp only[cond_false];exact⟨⟨hy.1,b4,cg⟩,λx h=>h⟩
 ·exact⟨hu,λ_ h=>h⟩
theorem Mx {n nb:Nat} {ρ:Env} {m:Nat->Nat} {b:bO} {v:Bool} (hb:b.den ρ=v) {tm:List V} {xs:Array bf} (h:fo n nb ρ m tm xs):fo n nb ρ m (xL b v tm) xs:=by
 refine⟨by simp[xL,h.1],λi u hu=>?_⟩;simp only[xL,qw,Option.map_eq_some_iff]at hu;obtain⟨sa,h0,rfl⟩:=hu;obtain⟨h1,x,h2,h3⟩:=h.2 i sa h0;have:=aAC (m:=m) hb sa h1;exact⟨this.1,x,h2,this.2 x h3⟩
theorem Ov {n nb:Nat} {ρ:Env} {m:Nat->Nat} {tm:List V} {a:Act} {G:fx} {ops:Array Oper} {o:Oper} {yes no:List V->T} (aB:fo n nb ρ m tm a.tmps) (h:(HP ops tm o yes no).holds S L G ρ):
 ∃cR,fo n nb ρ m cR a.tmps/\((CN o (yielded ops a.tmps)=true/\(yes cR).holds S L G ρ)∨(CN o (yielded ops a.tmps)=false/\(no cR).holds S L G ρ)):=by
 unfold HP at h;unfold CN;cases jW:o.guard with
 |none=>simp only[jW]at h;exact⟨tm,aB,.inl ⟨rfl,h⟩⟩
 |some acP=>
  obtain⟨g,want⟩:=acP;simp only[jW]at h⊢;unfold yielded;cases hd:(ops[g]?).bind (·.dst)with
  |none=>simp[hd,T.holds]at h
  |some d=>
   simp only[hd]at h;simp only[Option.bind_some];cases aej:tm[d]? with
   |none=>simp[aej,T.holds]at h
   |some v=>
    obtain⟨_,x,hx,hr⟩:=aB.2 d v aej;simp only[aej]at h;revert hr h;cases v with
    |any=>intro hr h;exact h.elim
    |sK _ _ _=>intro hr h;exact h.elim
    |sZ _ _=>intro hr h;exact h.elim
    |jQ l=>
     cases l with
     |nil=>
      intro hr h;have hr:x= .tuple #[]:=hr;subst hr;simp only[hx];exact⟨tm,aB,.inr ⟨by simp,h⟩⟩
     |cons _ _=>intro hr h;exact h.elim
    |w y=>
     cases y with
     |agg l=>intro hr h;exact h.elim
     |one c=>
      cases c with
      |bool b=>
       intro hr h;have hr:x= .bool (b.den ρ):=hr;subst hr;simp only[hx];have key:∀b:bO,(T.vj b (cond want (yes (xL b true tm)) (no (xL b true tm))) (cond want (no (xL b false tm)) (yes (xL b false tm)))).holds S L G ρ->∃cR,fo n nb ρ m cR a.tmps/\(((some (b.den ρ)==some want)=true/\(yes cR).holds S L G ρ)∨((some (b.den ρ)==some want)=false/\(no cR).holds S L G ρ)):=λb hb=>by
        simp only[T.holds]at hb;cases an:b.den ρ with
        |true=>
         have:=hb.1 an;cases want with
         |true=>exact⟨_,Mx an aB,.inl ⟨by simp,this⟩⟩
         |false=>exact⟨_,Mx an aB,.inr ⟨by simp,this⟩⟩
        |false=>
         have:=hb.2 an;cases want with
         |true=>exact⟨_,Mx an aB,.inr ⟨by simp,this⟩⟩
         |false=>exact⟨_,Mx an aB,.inl ⟨by simp,this⟩⟩
       cases b with
       |lit v=>
        simp only[bO.den];cases hv:(v==want)with
        |true=>simp only[hv,cond_true]at h;exact⟨tm,aB,.inl ⟨by simpa using hv,h⟩⟩
        |false=>simp only[hv,cond_false]at h;exact⟨tm,aB,.inr ⟨by simpa using hv,h⟩⟩
       |eq _ _=>exact key _ h
       |lt _ _=>exact key _ h
       |le _ _=>exact key _ h
       |not _=>exact key _ h
       |and _ _=>exact key _ h
       |iff _ _=>exact key _ h
      |_=>intro hr h;exact h.elim
theorem R.skip {n:Nat} {ρ:Env} {m:Nat->Nat} {tm:List V} {bl:List aM} {a:Act} {w:aC} (h:R w0 n ρ m tm bl a w) (d:Option Tmp):R w0 n ρ m (hj tm d (.jQ [])) bl (a.put d undef) w:=
 ⟨fo.put h.t d (by intro x hx;simp at hx) rfl,by rw[put_defers];exact h.d,h.b,h.bK⟩
theorem Wj {ops:Array Oper} {Q:Exit->Act->aC->Prop} (di:im S P gl w0 cal) (hg:fJ gl w0) (nV:rn S L w0 P inl):∀(l:List Oper) {n:Nat} {ρ:Env} {m:Nat->Nat} {tm:List V} {bl:List aM} {a:Act} {w:aC} {G:fx} {k:iK},
 R w0 n ρ m tm bl a w->(LZ P gl cal inl ops l n tm bl k).holds S L G ρ->mz S L w0 k n bl.length ρ m G (Q .normal)->wpList P ops Q l a w
 |[],n,ρ,m,tm,bl,a,w,G,k,h,ah,ag=>ag n ρ m tm bl G a w (ft.refl _ _ _ _) (ga.refl _ _) h ah
 |o::r,n,ρ,m,tm,bl,a,w,G,k,h,ah,ag=>by
  unfold LZ at ah;unfold wpList;obtain⟨cR,o3,jW⟩:=Ov h.t ah;have h:R w0 n ρ m cR bl a w:=⟨o3,h.d,h.b,h.bK⟩;rcases jW with⟨hw,ah⟩|⟨hw,ah⟩
  ·rw[if_pos hw];refine .inl (auc di hg nV h ah λn' ae m' cR bF fm eE w' h1 h2 h3 h4=>?_);exact Wj di hg nV r h3 h4 (ag.later h1 h2)
  ·rw[if_neg (by simp[hw])];exact Wj di hg nV r (h.skip o.dst) ah ag
theorem allT_holds {g:Nat->T} {L:V->Env->Prop} {G:fx} {ρ:Env}:∀{l:List Nat},(aaR g l).holds S L G ρ->∀i∈l,(g i).holds S L G ρ
 |[],ah,_,hi=>by cases hi
 |[j],ah,i,hi=>by simp at hi;subst hi;exact ah
 |j::aeG::r,ah,i,hi=>by
  rcases List.mem_cons.1 hi with rfl|hi
  ·exact ah.1
  ·exact allT_holds (l:=aeG::r) ah.2 i hi
theorem Us {ops:Array Oper} {bl:List aM} {m:Nat->Nat} {e9:Nat} {cM:Env} (di:im S P gl w0 cal) (hg:fJ gl w0) (oZ:dr e9 bl.length cM bl) (hex:∃w,Mem w0 cM m bl w) {F:Act->Prop} {G:fx}:∀(l:List Oper) {n:Nat} {ρ:Env} {tm:List V} {a:Act} {k:Nat->List V->T},
 e9<=n->agree e9 cM ρ->fo n bl.length ρ m tm a.tmps->a.defers=w0.ds->(K5 P gl cal ops l n tm bl k).holds S L G ρ->
 (∀n' ae cR eE,n<=n'->agree n ρ ae->fo n' bl.length ae m cR eE.tmps->eE.defers=w0.ds->(k n' cR).holds S L G ae->F eE)->G2 P ops (λw=>Mem w0 cM m bl w) F l a
 |[],n,ρ,tm,a,k,hn,ha,aB,hd,ah,ag=>ag n ρ tm a (b1 _) (agree.refl _ _) aB hd ah
 |o::r,n,ρ,tm,a,k,hn,ha,aB,hd,ah,ag=>by
  unfold K5 at ah;unfold G2;obtain⟨Co,yn⟩:=hex;cases gx:iO o with
  |true=>
   simp only[gx,cond_true]at ah⊢;exact Us di hg oZ ⟨Co,yn⟩ r hn ha aB hd ah ag
  |false=>
   simp only[gx,cond_false]at ah⊢;obtain⟨cR,aB,jW⟩:=Ov aB ah;rcases jW with⟨hw,ah⟩|⟨hw,ah⟩
   ·have hb:dr n bl.length ρ bl:=oZ.ext ha hn (b1 _);obtain⟨ae,n',v,BN,nS,⟨hv,val,hr,an⟩,Lb⟩:=ag5 (L:=L) di hb hg ⟨Co,yn.sP oZ ha⟩ aB o G _ ah;refine⟨val,.inl ⟨hw,λw aF8=>an w (aF8.sP oZ ha)⟩,?_⟩;exact Us di hg oZ ⟨Co,yn⟩ r (nJ hn BN) (ha.trans nS hn) (fo.put (aB.ext nS BN (b1 _) (λ_ _=>rfl)) o.dst hv hr) (by rw[put_defers];exact hd) Lb
     λLS y9 aum akN h1 h2 h3 h4 h5=>ag LS y9 aum akN (nJ BN h1) (nS.trans h2 BN) h3 h4 h5
   ·exact⟨undef,.inr ⟨hw,rfl⟩,Us di hg oZ ⟨Co,yn⟩ r hn ha (fo.put (v:= .jQ []) aB o.dst (by intro x hx;simp at hx) rfl) (by rw[put_defers];exact hd) ah ag⟩
def MP (P:cc) (ops:Array Oper) (j:Nat):Obj:=
 match ops[j]? with
 |some o=>match o.op with
  | .alloc t=>match P.info? t with
   |some i=>match i.zero with
    |some z=> .cells z.cells t
    |none=>default
   |none=>default
  |_=>default
 |none=>default
theorem aV4 {l:List Oper} {h j:Nat} {o:Oper} (hz:X4 P (l.take h)=true) (aR:j<h) (aA:l.toArray[j]?=some o) (gx:iO o=true) (b:Act) (w:aC):
 (execOp b.eval o).run P w= .ok (.value (.pointer (some ⟨w.heap.size,0,none⟩))) (w.alloc (MP P l.toArray j)):=by
 have kT:l[j]?=some o:=by simpa using aA
 have hm:o∈l.take h:=fw (i:=j) (by rw[tF,if_pos aR];exact kT);have h1:=List.all_eq_true.1 hz o hm;simp only[gx,dD,Bool.false_or]at h1;unfold MP;simp only[aA];cases gH:o.op with
 |alloc t=>
  simp only[gH]at h1;obtain⟨cs,dS⟩:=Option.isSome_iff_exists.1 h1;obtain⟨i,z,hi,jn,_⟩:=MO dS;simp only[execOp,gH,aW1,jS,zeroValue,typeInfo,run_program,j6,hi,jn,kZ,newVar,newRow,run_newObj];rfl
 |_=>simp[gH]at h1
theorem aaS {ops:Array Oper} {h:Nat} {wQ b:Act} {il:Nat->Nat} {bL:Nat} {w:aC} {n:Nat} {ρ:Env} {G:fx} {k:iK} {K:Act->aC->Prop} (Dl:Fin ops h wQ b il) (vt:ES ops h (λ_=>True) (MP P ops) il bL w) (hsz:w0.b.heap.size<=bL) (ap3:w0.r.heap.size<=bL):
 ∀(l:List Oper) (i:Nat) {m:Nat->Nat} {tm:List V} {bl:List aM} {c:Act},(∀j,j<l.length->ops[i+j]?=l[j]?)->i+l.length=h->R w0 n ρ m tm bl c w->
  (∀(gR:Nat) (p:aM),bl[gR]?=some p->b2 ρ p.1≠0->m gR<bL∨∃j,j<i/\wP ops j=true/\m gR=il j)->c.tmps.size=wQ.tmps.size->
  (∀t:Nat,((∃j o,j<i/\ops[j]?=some o/\iO o=true/\o.dst=some t)->c.tmps[t]?=b.tmps[t]?)/\((∀j o,j<i->ops[j]?=some o->iO o=true->o.dst≠some t)->c.tmps[t]?=wQ.tmps[t]?))->
  (Nv P l n tm bl k).holds S L G ρ->mz S L w0 k n bl.length ρ m G K->wQ.defers=w0.ds->K b w
 |[],i,m,tm,bl,c,hl,hi,hR,hm,dS,hc,ah,ag,hd=>by
  simp only[pr,m3]at hi;subst hi;have oB:c=b:=ayo (by rw[hR.d,Dl.d,hd]) λt=>by
   by_cases aB:∃j o,j<i/\ops[j]?=some o/\iO o=true/\o.dst=some t
   ·exact(hc t).1 aB
   ·have mD:∀j o,j<i->ops[j]?=some o->iO o=true->o.dst≠some t:=λj o h1 h2 h3 h4=>aB ⟨j,o,h1,h2,h3,h4⟩;rw[(hc t).2 mD,Dl.no t mD]
  subst oB;exact ag n ρ m tm bl G c w (ft.refl _ _ _ _) (ga.refl _ _) hR ah
 |o::r,i,m,tm,bl,c,hl,hi,hR,hm,dS,hc,ah,ag,hd=>by
  have aA:ops[i]?=some o:=by have:=hl 0 (by simp);simpa using this
  have hr:∀j,j<r.length->ops[i+1+j]?=r[j]?:=λj aR=>by
   have:=hl (j+1) (by simp;omega);rw[show i+1+j=i+(j+1) by omega,this];simp
  have qN:i+1+r.length=h:=by simp at hi;omega
  unfold Nv at ah;cases gx:iO o with
  |false=>
   simp only[gx,cond_false]at ah;refine aaS Dl vt hsz ap3 r (i+1) hr qN hR (λgR p qP hp=>(hm gR p qP hp).imp id λ⟨j,h1,h2⟩=>⟨j,by omega,h2⟩) dS (λt=>⟨λ⟨j,cT,h1,h2,h3,h4⟩=>?_,λmD=>(hc t).2 λj cT h1=>mD j cT (by omega)⟩) ah ag hd;by_cases qf:j=i
   ·subst qf;have:cT=o:=iI (h2.symm.trans aA);subst this;rw[gx]at h3;cases h3
   ·exact(hc t).1 ⟨j,cT,by omega,h2,h3,h4⟩
  |true=>
   simp only[gx,cond_true]at ah;cases gH:o.op with
   |alloc ty=>
    simp only[gH]at ah;cases hz:qu P ty with
    |none=>simp[hz,T.holds]at ah
    |some cs=>
     simp only[hz]at ah;obtain⟨o2,ah⟩:=cond_holds ah;obtain⟨inf,z,aER,jn,lF⟩:=MO hz;have adA:=Dd lF n bl.length ρ m;have lG:wP ops i=true:=by simp[wP,aA,gx]
     have adP:i<h:=by simp at hi;omega
     obtain⟨g1,g2⟩:=vt.1 i adP trivial lG;have aGj:MP P ops i= .cells (cs.map (A.den ρ m)).toArray ty (0,0):=by
      unfold MP;simp only[aA,gH,aER,jn,adA.2]
     rw[aGj]at g2;have dE:∀(gR:Nat) (p:aM),bl[gR]?=some p->b2 ρ p.1≠0->m gR≠il i:=λgR p qP hp e=>by
      rcases hm gR p qP hp with h1|⟨j,h1,h2,h3⟩
      ·omega
      ·have:=vt.2 j i (by omega) adP trivial trivial h2 lG (h3.symm.trans e);omega
     have ma:=hR.bK.push (x:=(cs,(ty,false))) hR.b adA.1 (λ_=>⟨by omega,.inr (by omega),[],λ_=>rfl,by rw[gO];exact g2⟩) (λsh off code cap kind e=>by simp only at e;subst e;cases o2) λi p hi he=> .inr (.inl (ai2 λag=>dE i p hi ag he));have eF:=ft.alloc n ρ m bl (cs,(ty,false)) (il i);have w8:R w0 n ρ (oe m bl.length (il i)) (hj tm o.dst (.w (.one (.ptr bl.length 0)))) (bl++[(cs,(ty,false))]) (c.put o.dst (.pointer (some ⟨il i,0,none⟩))) w:=
      ⟨fo.put (hR.t.ext eF.ha eF.hn eF.hb eF.hm) o.dst (by simp[V.ok,W.ok,A.ok]) (by simp[V.rel,W.den,A.den,pT]),by rw[put_defers];exact hR.d,hR.b.alloc adA.1,ma⟩
     refine aaS Dl vt hsz ap3 r (i+1) hr qN w8 (λgR p qP hp=>?_) ((I5 _ _ _).trans dS) (λt=>⟨λ⟨j,cT,h1,h2,h3,h4⟩=>?_,λmD=>?_⟩) ah (ag.later eF (ga.refl _ _)) hd
     ·by_cases nj:gR<bl.length
      ·rw[pk nj];rw[wG nj]at qP;exact(hm gR p qP hp).imp id λ⟨j,h1,h2⟩=>⟨j,by omega,h2⟩
      ·have:gR=bl.length:=by have:=(List.getElem?_eq_some_iff.1 qP).1;simp at this;omega
       subst this;rw[pT];exact .inr ⟨i,by omega,lG,rfl⟩
     ·by_cases aB:o.dst=some t
      ·rw[aB];simp only[Act.put];rcases Nat.lt_or_ge t c.tmps.size with h5|h5
       ·have tZ:t<b.tmps.size:=by rw[Dl.bL,<-dS];exact h5
        rw[Dl.al t i o adP aA gx aB tZ];simp[h5]
       ·rw[Yn (by simpa using h5),Yn (by rw[Dl.bL,<-dS];exact h5)]
      ·rw[B4 aB];by_cases qf:j=i
       ·subst qf;have:cT=o:=iI (h2.symm.trans aA);subst this;exact absurd h4 aB
       ·exact(hc t).1 ⟨j,cT,by omega,h2,h3,h4⟩
     ·have aB:o.dst≠some t:=mD i o (by omega) aA gx;rw[B4 aB];exact(hc t).2 λj cT h1=>mD j cT (by omega)
   |_=>simp[gH,T.holds]at ah
end
end Go.bX
namespace Go.bX
open M
theorem aAy {a b:bf} (h:abN a b=true):a=b:=by
 unfold abN at h;split at h
 ·rfl
 ·rfl
 ·rename_i f a b nQ eE b';simp only[bI]at h;obtain⟨⟨⟨⟨h1,h2⟩,h3⟩,h4⟩,h5⟩:=h;rw[b8 h1,EL (b8 h2),EL (b8 h3),EL (b8 h4),EL (b8 h5)]
 ·cases h
theorem A.beq_eq {a b:A} (h:A.beq a b=true):a=b:=by
 cases a<;>cases b<;>simp only[A.beq]at h<;>(try(cases h;done))
 case int.int k x bJ y=>
  simp only[bI,decide_eq_true_eq,beq_iff_eq]at h;obtain⟨⟨⟨h1,h2⟩,h3⟩,h4⟩:=h;cases x;cases y;simp only at h2 h3 h4;rw[h1,I.beq_eq h2,h3,h4]
 case bool.bool x y=>
  rw[bO.beq_eq h]
 case con.con=>rw[aAy h]
 case ptr.ptr=>simp only[bI]at h;rw[b8 h.1,b8 h.2]
 case gptr.gptr=>simp only[bI]at h;rw[b8 h.1,b8 h.2]
 case slc.slc=>
  simp only[bI]at h;rw[b8 h.1.1.1,b8 h.1.1.2,b8 h.1.2,b8 h.2]
 case str.str=>rw[I.beq_eq h]
 case rows.rows=>
  simp only[bI]at h;rw[Ek h.1.1.1.1,I.beq_eq h.1.1.1.2,I.beq_eq h.1.1.2,I.beq_eq h.1.2,b8 h.2]
 case sl.sl=>
  simp only[bI]at h;rw[b8 h.1.1.1.1.1,b8 h.1.1.1.1.2,I.beq_eq h.1.1.1.2,I.beq_eq h.1.1.2,I.beq_eq h.1.2,I.beq_eq h.2]
 case ep.ep=>
  simp only[bI]at h;rw[b8 h.1.1.1.1,b8 h.1.1.1.2,I.beq_eq h.1.1.2,I.beq_eq h.1.2,b8 h.2]
theorem Hw:∀{a b:List A},rr a b=true->a=b
 |[],[],_=>rfl
 |x::r,y::s,h=>by
  simp only[rr,bI]at h;rw[A.beq_eq h.1,Hw h.2]
 |[],_::_,h=>by simp[rr]at h
 |_::_,[],h=>by simp[rr]at h
theorem V.beq_eq {a b:V} (h:V.beq a b=true):a=b:=by
 cases a with
 |any=>cases b<;>simp[V.beq]at h
 |jQ l=>cases l<;>cases b<;>simp[V.beq]at h;rename_i l';cases l'<;>simp[V.beq]at h;rfl
 |w x=>
  cases b with
  |w y=>cases x<;>cases y<;>simp[V.beq]at h;rw[A.beq_eq h];rw[Hw h]
  |_=>cases x<;>simp[V.beq]at h
 |sK _ _ _=>simp[V.beq]at h
 |sZ f l=>
  cases b with
  |sZ nQ l'=>
   simp only[V.beq,bI]at h;rw[b8 h.1,Hw h.2]
  |_=>simp[V.beq]at h
theorem MA:∀(zs:List Int) (n:Nat) (ρ:Env) (j:Nat),j<zs.length->b0 ρ n zs (n+j)=zs.getD j 0
 |[],_,_,_,h=>by simp at h
 |z::zs,n,ρ,0,_=>by
  show b0 (eg ρ n z) (n+1) zs (n+0)=z;rw[agree.b0 zs (n+1) _ (n+0) (by omega)];exact mL ρ n z
 |z::zs,n,ρ,j+1,h=>by
  show b0 (eg ρ n z) (n+1) zs (n+(j+1))=_;rw[show n+(j+1)=n+1+j by omega,MA zs (n+1) _ j (by simpa using h)];rfl
def G4 (n nb:Nat) (ρ:Env) (m:Nat->Nat):List V->List bf->Prop
 |[],[]=>True
 |v::r,x::s=>v.ok n nb ρ/\v.rel ρ m x/\G4 n nb ρ m r s
 |_,_=>False
theorem akF {n nb:Nat} {ρ:Env} {m:Nat->Nat}:∀{tm:List V} {xs:List bf},fo n nb ρ m tm xs.toArray->G4 n nb ρ m tm xs
 |[],[],_=>trivial
 |v::r,x::s,h=>by
  have h0:=h.2 0 v rfl;obtain⟨h1,y,h2,h3⟩:=h0;simp at h2;subst h2;refine⟨h1,h3,akF (tm:=r) (xs:=s) ⟨by simpa using h.1,λi u hu=>?_⟩⟩;have:=h.2 (i+1) u (by simpa using hu);simpa using this
 |[],_::_,h=>by have:=h.1;simp at this
 |_::_,[],h=>by have:=h.1;simp at this
theorem SW {n nb:Nat} {ρ:Env} {m:Nat->Nat}:∀{tm:List V} {xs:List bf},G4 n nb ρ m tm xs->fo n nb ρ m tm xs.toArray
 |[],[],_=>⟨rfl,λi v h=>by simp at h⟩
 |v::r,x::s,h=>by
  have ih:=SW h.2.2;refine⟨by simpa using ih.1,λi u hu=>?_⟩;cases i with
  |zero=>simp at hu;subst hu;exact⟨h.1,x,by simp,h.2.1⟩
  |succ i=>have:=ih.2 i u (by simpa using hu);simpa using this
 |[],_::_,h=>h.elim
 |_::_,[],h=>h.elim
theorem oC:∀{b b':List (Int×Int)} {l l':List Int},ay b l->ay b' l'->ay (b++b') (l++l')
 |[],_,[],_,_,h=>h
 |_::_,_,_::_,_,h,aP=>⟨h.1,h.2.1,oC h.2.2 aP⟩
 |[],_,_::_,_,h,_=>h.elim
 |_::_,_,[],_,h,_=>h.elim
theorem agree.symm {n:Nat} {ρ ae:Env} (h:agree n ρ ae):agree n ae ρ:=λi hi=>(h i hi).symm
theorem V.back {n nb:Nat} {cM ae cd:Env} {m0 m':Nat->Nat} {v:V} {x:bf} (h0:v.ok n nb cM) (ha:agree n cM ae) (h2:agree n cM cd) (hm:∀b,b<nb->m' b=m0 b) (hr:v.rel ae m' x):v.ok n nb cd/\v.rel cd m0 x:=by
 have aFf:v.ok n nb ae:=h0.ext ha (b1 _) (b1 _);exact⟨h0.ext h2 (b1 _) (b1 _),hr.ext aFf (ha.symm.trans h2 (b1 _)) λb hb=>(hm b hb).symm⟩
section
variable {hL:List Nat} {ints:List (Nat×Int×Int)}
theorem Lj:∀{tm:List V} {i s:Nat} {t:List V} {l:List I} {b:List (Int×Int)},hs hL ints i s tm=some (t,l,b)->l.length=b.length/\t.length=tm.length
 |[],i,s,t,l,b,h=>by simp[hs]at h;obtain⟨rfl,rfl,rfl⟩:=h;exact⟨rfl,rfl⟩
 |v::r,i,s,t,l,b,h=>by
  unfold hs at h;cases ag:hL.any (aU i)with
  |true=>
   simp only[ag,cond_true]at h;cases hr:hs hL ints (i+1) s r with
   |none=>simp[hr]at h
   |some q=>
    obtain⟨t',l',b'⟩:=q;simp only[hr,bu,fi]at h;obtain⟨rfl,rfl,rfl⟩:=h;have:=Lj hr;simp[this]
  |false=>
   simp only[ag,cond_false]at h;cases hf:Fk i ints with
   |none=>
    simp only[hf]at h;cases hr:hs hL ints (i+1) s r with
    |none=>simp[hr]at h
    |some q=>
     obtain⟨t',l',b'⟩:=q;simp only[hr,bu,fi]at h;obtain⟨rfl,rfl,rfl⟩:=h;have:=Lj hr;simp[this]
   |some q=>
    obtain⟨lo,hi⟩:=q;simp only[hf]at h;split at h
    ·rename_i k x;cases hc:(decide (lo<=x.lo)&&decide (x.hi<=hi))with
     |false=>simp[hc]at h
     |true=>
      simp only[hc,cond_true]at h;cases hr:hs hL ints (i+1) (s+1) r with
      |none=>simp[hr]at h
      |some q=>
       obtain⟨t',l',b'⟩:=q;simp only[hr,bu,fi]at h;obtain⟨rfl,rfl,rfl⟩:=h;have:=Lj hr;simp[this]
    ·cases hr:hs hL ints (i+1) (s+1) r with
     |none=>simp[hr]at h
     |some q=>
      obtain⟨t',l',b'⟩:=q;simp only[hr,bu,fi]at h;obtain⟨rfl,rfl,rfl⟩:=h;have:=Lj hr;simp[this]
    ·cases h
theorem Po {n nb N:Nat} {cM ae cd:Env} {m0 m':Nat->Nat} {n' n9:Nat} (ha:agree n cM ae) (h2:agree n cM cd) (hm:∀b,b<nb->m' b=m0 b) (s6:n<=N):
 ∀{tm cR:List V} {xs:List bf} {i s:Nat} {t t':List V} {l l':List I} {b b':List (Int×Int)},
 (∀v∈tm,V.ok n nb cM v)->G4 n' n9 ae m' cR xs->hs hL ints i s tm=some (t,l,b)->hs hL ints i s cR=some (t',l',b')->qb t t'=true->
 (∀j,j<l'.length->cd (s+j)=(l'.getD j (.const 0)).den ae)->s+l'.length<=N->G4 N nb cd m0 t xs/\ay b (l'.map (·.den ae))/\l'.length=l.length
 |[],[],[],i,s,t,t',l,l',b,b',h0,hr,av,aH,hf,hv,cF=>by
  simp[hs]at av aH;obtain⟨rfl,rfl,rfl⟩:=av;obtain⟨rfl,rfl,rfl⟩:=aH;exact⟨trivial,trivial,rfl⟩
 |v::r,v'::r',x::xs,i,s,t,t',l,l',b,b',h0,hr,av,aH,hf,hv,cF=>by
  obtain⟨cm,hrel,Ip⟩:=hr;have HQ:∀v∈r,V.ok n nb cM v:=λu hu=>h0 u (e5 _ hu);unfold hs at av aH;cases ag:hL.any (aU i)with
  |true=>
   simp only[ag,cond_true]at av aH;cases hA:hs hL ints (i+1) s r with
   |none=>simp[hA]at av
   |some aQ=>
    obtain⟨t1,l1,b4⟩:=aQ;cases ke:hs hL ints (i+1) s r' with
    |none=>simp[ke]at aH
    |some bn=>
     obtain⟨t2,l2,cg⟩:=bn;simp only[hA,bu,fi]at av;simp only[ke,bu,fi]at aH;obtain⟨rfl,rfl,rfl⟩:=av;obtain⟨rfl,rfl,rfl⟩:=aH;have qR:=h0 v (by simp);have key:qb t1 t2=true/\(v= .any∨v=v'):=by
      unfold qb at hf;split at hf
      ·rename_i heq _;cases heq
      ·rename_i h1 h2;cases h1;cases h2;exact⟨hf,.inl rfl⟩
      ·rename_i h1 h2;cases h1;cases h2;simp only[bI]at hf;exact⟨hf.2,.inr (V.beq_eq hf.1)⟩
      ·cases hf
     obtain⟨bw,bz,cY⟩:=Po ha h2 hm s6 HQ Ip hA ke key.1 hv cF;refine⟨⟨?_,?_,bw⟩,bz,cY⟩
     ·exact qR.ext h2 s6 (b1 _)
     ·rcases key.2 with rfl|rfl
      ·trivial
      ·exact(V.back qR ha h2 hm hrel).2
  |false=>
   simp only[ag,cond_false]at av aH;cases mb:Fk i ints with
   |none=>
    simp only[mb]at av aH;cases hA:hs hL ints (i+1) s r with
    |none=>simp[hA]at av
    |some aQ=>
     obtain⟨t1,l1,b4⟩:=aQ;cases ke:hs hL ints (i+1) s r' with
     |none=>simp[ke]at aH
     |some bn=>
      obtain⟨t2,l2,cg⟩:=bn;simp only[hA,bu,fi]at av;simp only[ke,bu,fi]at aH;obtain⟨rfl,rfl,rfl⟩:=av;obtain⟨rfl,rfl,rfl⟩:=aH;obtain⟨bw,bz,cY⟩:=Po ha h2 hm s6 HQ Ip hA ke (by simpa [qb]using hf) hv cF;exact⟨⟨trivial,trivial,bw⟩,bz,cY⟩
   |some q=>
    obtain⟨lo,hi⟩:=q;simp only[mb]at av aH;split at av
    ·rename_i k y;split at aH
     ·rename_i bJ og;cases iD:(decide (lo<=y.lo)&&decide (y.hi<=hi))with
      |false=>simp[iD]at av
      |true=>
       cases hc2:(decide (lo<=og.lo)&&decide (og.hi<=hi))with
       |false=>simp[hc2]at aH
       |true=>
        simp only[iD,cond_true]at av;simp only[hc2,cond_true]at aH;cases hA:hs hL ints (i+1) (s+1) r with
        |none=>simp[hA]at av
        |some aQ=>
         obtain⟨t1,l1,b4⟩:=aQ;cases ke:hs hL ints (i+1) (s+1) r' with
         |none=>simp[ke]at aH
         |some bn=>
          obtain⟨t2,l2,cg⟩:=bn;simp only[hA,bu,fi]at av;simp only[ke,bu,fi]at aH;obtain⟨rfl,rfl,rfl⟩:=av;obtain⟨rfl,rfl,rfl⟩:=aH;simp only[qb,bI]at hf;have qP:=V.beq_eq hf.1;simp only[V.w.injEq,W.one.injEq,A.int.injEq]at qP;simp only[bI,decide_eq_true_eq]at hc2;obtain⟨bw,bz,cY⟩:=Po ha h2 hm s6 HQ Ip hA ke hf.2 (λj aR=>by
           have:=hv (j+1) (by simpa using aR);rw[show s+1+j=s+(j+1) by omega];simpa using this) (by simp at cF;omega)
          have qR:=hv 0 (by simp);simp only[m3,gp]at qR;have hb:=cm.2;simp only[V.rel,W.den,A.den]at hrel;refine⟨⟨⟨I.gU (by simp at cF;omega),?_,?_⟩,?_,bw⟩,⟨?_,?_,bz⟩,by simp[cY]⟩
          ·simp only[I.de,qR];omega
          ·simp only[I.de,qR];omega
          ·simp only[V.rel,W.den,A.den,I.de,qR,qP.1];exact hrel
          ·simp only;omega
          ·simp only;omega
     ·cases hA:hs hL ints (i+1) (s+1) r' with
      |none=>simp[hA]at aH
      |some bn=>
       obtain⟨t2,l2,cg⟩:=bn;simp only[hA,bu,fi]at aH;obtain⟨rfl,rfl,rfl⟩:=aH;cases iD:(decide (lo<=y.lo)&&decide (y.hi<=hi))with
       |false=>simp[iD]at av
       |true=>
        simp only[iD,cond_true]at av;cases ke:hs hL ints (i+1) (s+1) r with
        |none=>simp[ke]at av
        |some aQ=>
         obtain⟨t1,l1,b4⟩:=aQ;simp only[ke,bu,fi]at av;obtain⟨rfl,rfl,rfl⟩:=av;simp[qb,V.beq,A.beq]at hf
     ·cases aH
    ·rename_i y;split at aH
     ·rename_i bJ og;cases hA:hs hL ints (i+1) (s+1) r with
      |none=>simp[hA]at av
      |some aQ=>
       obtain⟨t1,l1,b4⟩:=aQ;simp only[hA,bu,fi]at av;obtain⟨rfl,rfl,rfl⟩:=av;cases hc2:(decide (lo<=og.lo)&&decide (og.hi<=hi))with
       |false=>simp[hc2]at aH
       |true=>
        simp only[hc2,cond_true]at aH;cases ke:hs hL ints (i+1) (s+1) r' with
        |none=>simp[ke]at aH
        |some bn=>
         obtain⟨t2,l2,cg⟩:=bn;simp only[ke,bu,fi]at aH;obtain⟨rfl,rfl,rfl⟩:=aH;simp[qb,V.beq,A.beq]at hf
     ·rename_i og;cases hA:hs hL ints (i+1) (s+1) r with
      |none=>simp[hA]at av
      |some aQ=>
       obtain⟨t1,l1,b4⟩:=aQ;cases ke:hs hL ints (i+1) (s+1) r' with
       |none=>simp[ke]at aH
       |some bn=>
        obtain⟨t2,l2,cg⟩:=bn;simp only[hA,bu,fi]at av;simp only[ke,bu,fi]at aH;obtain⟨rfl,rfl,rfl⟩:=av;obtain⟨rfl,rfl,rfl⟩:=aH;simp only[qb,bI]at hf;obtain⟨bw,bz,cY⟩:=Po ha h2 hm s6 HQ Ip hA ke hf.2 (λj aR=>by
         have:=hv (j+1) (by simpa using aR);rw[show s+1+j=s+(j+1) by omega];simpa using this) (by simp at cF;omega)
        have qR:=hv 0 (by simp);simp only[m3,gp]at qR;have hb:0<=og.den ae/\og.den ae<=p3:=cm.2;have hrel:x= .string (eS (bD (og.den ae))):=hrel;refine⟨⟨⟨I.gU (by simp at cF;omega),?_⟩,?_,bw⟩,⟨hb.1,hb.2,bz⟩,by simp[cY]⟩
        ·simp only[I.de,qR];exact hb
        ·simp only[V.rel,W.den,A.den,I.de,qR];exact hrel
     ·cases aH
    ·cases av
 |[],_::_,_,i,s,t,t',l,l',b,b',h0,hr,av,aH,hf,hv,cF=>by
  simp[hs]at av;obtain⟨rfl,_,_⟩:=av;have:=(Lj aH).2;cases t' with
  |nil=>simp at this
  |cons _ _=>simp[qb]at hf
 |_::_,[],_,i,s,t,t',l,l',b,b',h0,hr,av,aH,hf,hv,cF=>by
  simp[hs]at aH;obtain⟨rfl,_,_⟩:=aH;have:=(Lj av).2;cases t with
  |nil=>simp at this
  |cons y z=>cases y<;>simp[qb]at hf
 |_::_,_::_,[],i,s,t,t',l,l',b,b',h0,hr,av,aH,hf,hv,cF=>hr.elim
 |[],[],_::_,i,s,t,t',l,l',b,b',h0,hr,av,aH,hf,hv,cF=>hr.elim
end
def Ni (n nb:Nat) (ρ:Env) (m:Nat->Nat):List A->List bf->Prop
 |[],[]=>True
 |a::r,x::s=>A.ok n nb ρ a/\x=a.den ρ m/\Ni n nb ρ m r s
 |_,_=>False
theorem akC {n nb:Nat} {ρ:Env} {m:Nat->Nat}:∀{l:List A},(∀a∈l,A.ok n nb ρ a)->Ni n nb ρ m l (l.map (A.den ρ m))
 |[],_=>trivial
 |a::r,h=>⟨h a (by simp),rfl,akC λx hx=>h x (e5 _ hx)⟩
theorem akD {n nb:Nat} {ρ:Env} {m:Nat->Nat}:∀{l:List A} {xs:List bf},Ni n nb ρ m l xs->(∀a∈l,A.ok n nb ρ a)/\xs=l.map (A.den ρ m)
 |[],[],_=>⟨by simp,rfl⟩
 |a::r,x::s,h=>by
  have ih:=akD h.2.2;exact⟨λy hy=>by rcases List.mem_cons.1 hy with rfl|hy;exact h.1;exact ih.1 y hy,by rw[h.2.1,ih.2];rfl⟩
 |[],_::_,h=>h.elim
 |_::_,[],h=>h.elim
theorem A.back {n nb:Nat} {cM ae cd:Env} {m0 m':Nat->Nat} {v:A} (h0:v.ok n nb cM) (ha:agree n cM ae) (h2:agree n cM cd) (hm:∀b,b<nb->m' b=m0 b):v.den ae m'=v.den cd m0:=by
 rw[A.oz h0 ha hm,A.oz (m':=m0) h0 h2 (λ_ _=>rfl)]
section
variable {ints:List (Nat×Int×Int)}
theorem K0:∀{cs:List A} {i s:Nat} {t:List A} {l:List I} {b:List (Int×Int)},ha ints i s cs=some (t,l,b)->l.length=b.length/\t.length=cs.length
 |[],i,s,t,l,b,h=>by simp[ha]at h;obtain⟨rfl,rfl,rfl⟩:=h;exact⟨rfl,rfl⟩
 |v::r,i,s,t,l,b,h=>by
  unfold ha at h;cases hf:Fk i ints with
  |none=>
   simp only[hf]at h;cases hr:ha ints (i+1) s r with
   |none=>simp[hr]at h
   |some q=>
    obtain⟨t',l',b'⟩:=q;simp only[hr,bu,fi]at h;obtain⟨rfl,rfl,rfl⟩:=h;have:=K0 hr;simp[this]
  |some q=>
   obtain⟨lo,hi⟩:=q;simp only[hf]at h;cases hc:m9 lo hi s v with
   |none=>simp[hc]at h
   |some p=>
    obtain⟨a,x,gu⟩:=p;simp only[hc]at h;cases hr:ha ints (i+1) (s+1) r with
    |none=>simp[hr]at h
    |some q=>
     obtain⟨t',l',b'⟩:=q;simp only[hr,bu,fi]at h;obtain⟨rfl,rfl,rfl⟩:=h;have:=K0 hr;simp[this]
theorem aAn {n nb N:Nat} {cM ae cd:Env} {m0 m':Nat->Nat} {n' n9:Nat} {lo hi:Int} {s:Nat} {v v' a eE:A} {x hk:I} {gu ay7:Int×Int} (iS:agree n cM ae) (h2:agree n cM cd) (s6:n<=N)
 (h0:v.ok n nb cM) (aP:v'.ok n' n9 ae) (av:m9 lo hi s v=some (a,x,gu)) (aH:m9 lo hi s v'=some (eE,hk,ay7)) (hf:a=eE) (hv:cd s=hk.den ae) (cF:s<N):
 a.ok N nb cd/\a.den cd m0=v'.den ae m'/\gu.1<=hk.den ae/\hk.den ae<=gu.2:=by
 subst hf;have uh:(I.var s).den cd=hk.den ae:=by rw[I.de,hv]
 cases v with
 |int k y=>
  simp only[m9]at av;cases iD:(decide (lo<=y.lo)&&decide (y.hi<=hi))with
  |false=>simp[iD]at av
  |true=>
   simp only[iD,cond_true,bu,fi]at av;obtain⟨rfl,rfl,rfl⟩:=av;cases v' with
   |int bJ og=>
    simp only[m9]at aH;cases hc2:(decide (lo<=og.lo)&&decide (og.hi<=hi))with
    |false=>simp[hc2]at aH
    |true=>
     simp only[hc2,cond_true,bu,fi,A.int.injEq]at aH;obtain⟨⟨rfl,_⟩,rfl,rfl⟩:=aH;simp only[bI,decide_eq_true_eq]at hc2;have aP:og.ok n' ae:=aP;have hb:=aP.2;refine⟨⟨I.gU cF,by simp only[uh];omega,by simp only[uh];omega⟩,by simp only[A.den,uh],by simp only;omega,by simp only;omega⟩
   |str _=>simp[m9]at aH
   |rows _ _ _ _ _=>simp[m9]at aH
   |_=>simp[m9]at aH
 |str y=>
  simp only[m9,bu,fi]at av;obtain⟨rfl,rfl,rfl⟩:=av;cases v' with
  |str og=>
   simp only[m9,bu,fi]at aH;obtain⟨_,rfl,rfl⟩:=aH;have hb:0<=og.den ae/\og.den ae<=p3:=aP.2;exact⟨⟨I.gU cF,by rw[uh];exact hb⟩,by simp only[A.den,uh],hb.1,hb.2⟩
  |int bJ og=>
   simp only[m9]at aH;cases hc2:(decide (lo<=og.lo)&&decide (og.hi<=hi))<;>simp[hc2]at aH
  |rows _ _ _ _ _=>simp[m9]at aH
  |_=>simp[m9]at aH
 |rows sh off code cap k=>
  simp only[m9,bu,fi]at av;obtain⟨rfl,rfl,rfl⟩:=av;cases v' with
  |rows gC ld code' k6 bJ=>
   simp only[m9,bu,fi,A.rows.injEq]at aH;obtain⟨_,rfl,rfl⟩:=aH;obtain⟨⟨s1,s2,bx⟩,_,dh⟩:=h0;obtain⟨_,cg,_⟩:=aP;refine⟨⟨⟨s1.mono s6,I.gU cF,bx.mono s6⟩,by rw[uh];exact cg,by rw[I.cq h2 bx];exact dh⟩,by simp only[A.den,uh],cg.1,cg.2⟩
  |int bJ og=>
   simp only[m9]at aH;cases hc2:(decide (lo<=og.lo)&&decide (og.hi<=hi))<;>simp[hc2]at aH
  |str _=>simp[m9]at aH
  |_=>simp[m9]at aH
 |_=>simp[m9]at av
theorem adr {n nb N:Nat} {cM ae cd:Env} {m0 m':Nat->Nat} {n' n9:Nat} (iS:agree n cM ae) (h2:agree n cM cd) (hm:∀b,b<nb->m' b=m0 b) (s6:n<=N):
 ∀{cs lD:List A} {xs:List bf} {i s:Nat} {t t':List A} {l l':List I} {b b':List (Int×Int)},
 (∀v∈cs,A.ok n nb cM v)->Ni n' n9 ae m' lD xs->ha ints i s cs=some (t,l,b)->ha ints i s lD=some (t',l',b')->rr t t'=true->
 (∀j,j<l'.length->cd (s+j)=(l'.getD j (.const 0)).den ae)->s+l'.length<=N->Ni N nb cd m0 t xs/\ay b (l'.map (·.den ae))/\l'.length=l.length
 |[],[],[],i,s,t,t',l,l',b,b',h0,hr,av,aH,hf,hv,cF=>by
  simp[ha]at av aH;obtain⟨rfl,rfl,rfl⟩:=av;obtain⟨rfl,rfl,rfl⟩:=aH;exact⟨trivial,trivial,rfl⟩
 |v::r,v'::r',x::xs,i,s,t,t',l,l',b,b',h0,hr,av,aH,hf,hv,cF=>by
  obtain⟨cm,hrel,Ip⟩:=hr;have HQ:∀v∈r,A.ok n nb cM v:=λu hu=>h0 u (e5 _ hu);unfold ha at av aH;cases mb:Fk i ints with
  |none=>
   simp only[mb]at av aH;cases hA:ha ints (i+1) s r with
   |none=>simp[hA]at av
   |some aQ=>
    obtain⟨t1,l1,b4⟩:=aQ;cases ke:ha ints (i+1) s r' with
    |none=>simp[ke]at aH
    |some bn=>
     obtain⟨t2,l2,cg⟩:=bn;simp only[hA,bu,fi]at av;simp only[ke,bu,fi]at aH;obtain⟨rfl,rfl,rfl⟩:=av;obtain⟨rfl,rfl,rfl⟩:=aH;simp only[rr,bI]at hf;have aF4:=A.beq_eq hf.1;subst aF4;have qR:=h0 v (by simp);obtain⟨bw,bz,cY⟩:=adr iS h2 hm s6 HQ Ip hA ke hf.2 hv cF;exact⟨⟨qR.ext h2 s6 (b1 _),by rw[hrel,A.back qR iS h2 hm],bw⟩,bz,cY⟩
  |some q=>
   obtain⟨lo,hi⟩:=q;simp only[mb]at av aH;cases iD:m9 lo hi s v with
   |none=>simp[iD]at av
   |some bw=>
    obtain⟨bR,ak,d1⟩:=bw;cases hc2:m9 lo hi s v' with
    |none=>simp[hc2]at aH
    |some bz=>
     obtain⟨a2,ai,d2⟩:=bz;simp only[iD]at av;simp only[hc2]at aH;cases hA:ha ints (i+1) (s+1) r with
     |none=>simp[hA]at av
     |some aQ=>
      obtain⟨t1,l1,b4⟩:=aQ;cases ke:ha ints (i+1) (s+1) r' with
      |none=>simp[ke]at aH
      |some bn=>
       obtain⟨t2,l2,cg⟩:=bn;simp only[hA,bu,fi]at av;simp only[ke,bu,fi]at aH;obtain⟨rfl,rfl,rfl⟩:=av;obtain⟨rfl,rfl,rfl⟩:=aH;simp only[rr,bI]at hf;obtain⟨bw,bz,cY⟩:=adr iS h2 hm s6 HQ Ip hA ke hf.2 (λj aR=>by
        have:=hv (j+1) (by simpa using aR);rw[show s+1+j=s+(j+1) by omega];simpa using this) (by simp at cF;omega)
       have qR:=hv 0 (by simp);simp only[m3,gp]at qR;obtain⟨c1,bQ,cD,dq⟩:=aAn (m0:=m0) (m':=m') iS h2 s6 (h0 v (by simp)) cm iD hc2 (A.beq_eq hf.1) qR (by simp at cF;omega);exact⟨⟨c1,by rw[hrel,bQ],bw⟩,⟨cD,dq,bz⟩,by simp[cY]⟩
 |[],_::_,_,i,s,t,t',l,l',b,b',h0,hr,av,aH,hf,hv,cF=>by
  simp[ha]at av;obtain⟨rfl,_,_⟩:=av;have:=(K0 aH).2;cases t' with
  |nil=>simp at this
  |cons _ _=>simp[rr]at hf
 |_::_,[],_,i,s,t,t',l,l',b,b',h0,hr,av,aH,hf,hv,cF=>by
  simp[ha]at aH;obtain⟨rfl,_,_⟩:=aH;have:=(K0 av).2;cases t with
  |nil=>simp at this
  |cons y z=>simp[rr]at hf
 |_::_,_::_,[],i,s,t,t',l,l',b,b',h0,hr,av,aH,hf,hv,cF=>hr.elim
 |[],[],_::_,i,s,t,t',l,l',b,b',h0,hr,av,aH,hf,hv,cF=>hr.elim
end
section
variable {cells:List (Nat×Nat×Int×Int)}
theorem OM:∀{bl:List aM} {i s:Nat} {t:List aM} {l:List I} {b:List (Int×Int)},hb cells i s bl=some (t,l,b)->l.length=b.length/\t.length=bl.length
 |[],i,s,t,l,b,h=>by simp[hb]at h;obtain⟨rfl,rfl,rfl⟩:=h;exact⟨rfl,rfl⟩
 |(cs,ty)::r,i,s,t,l,b,h=>by
  unfold hb at h;cases hc:ha (cellsOf i cells) 0 s cs with
  |none=>simp[hc]at h
  |some q=>
   obtain⟨c,l1,b4⟩:=q;simp only[hc]at h;cases hr:hb cells (i+1) (s+l1.length) r with
   |none=>simp[hr]at h
   |some q=>
    obtain⟨t',l',b'⟩:=q;simp only[hr,bu,fi]at h;obtain⟨rfl,rfl,rfl⟩:=h;have h1:=K0 hc;have h2:=OM hr;simp[h1,h2]
theorem aoy {l l':List I} {j:Nat} (h:j<l.length) (d:I):(l++l').getD j d=l.getD j d:=by
 simp[U,wG h]
theorem aoz {l l':List I} {j:Nat} (d:I):(l++l').getD (l.length+j) d=l'.getD j d:=by
 simp only[U];rw[MY (by omega)];simp
theorem ao9 {n nb N:Nat} {cM ae cd:Env} {m0 m':Nat->Nat} {n' n9:Nat} (iS:agree n cM ae) (h2:agree n cM cd) (hm:∀b,b<nb->m' b=m0 b) (s6:n<=N):
 ∀{bl bF:List aM} {i s:Nat} {t t':List aM} {l l':List I} {b b':List (Int×Int)},
 dr n nb cM bl->dr n' n9 ae bF->hb cells i s bl=some (t,l,b)->hb cells i s bF=some (t',l',b')->qa t t'=true->
 (∀j,j<l'.length->cd (s+j)=(l'.getD j (.const 0)).den ae)->s+l'.length<=N->
 dr N nb cd t/\ay b (l'.map (·.den ae))/\l'.length=l.length/\∀(j:Nat) (c:List A) (ty:bE×Bool),t[j]?=some (c,ty)->∃ek:List A,bF[j]?=some (ek,ty)/\c.map (A.den cd m0)=ek.map (A.den ae m')
 |[],[],i,s,t,t',l,l',b,b',h0,hr,av,aH,hf,hv,cF=>by
  simp[hb]at av aH;obtain⟨rfl,rfl,rfl⟩:=av;obtain⟨rfl,rfl,rfl⟩:=aH;exact⟨λp hp=>by simp at hp,trivial,rfl,λj c ty h=>by simp at h⟩
 |(cs,ty)::r,(lD,aSg)::r',i,s,t,t',l,l',b,b',h0,hr,av,aH,hf,hv,cF=>by
  unfold hb at av aH;cases iD:ha (cellsOf i cells) 0 s cs with
  |none=>simp[iD]at av
  |some aQ=>
   obtain⟨c1,l1,b4⟩:=aQ;cases hc2:ha (cellsOf i cells) 0 s lD with
   |none=>simp[hc2]at aH
   |some bn=>
    obtain⟨bQ,l2,cg⟩:=bn;simp only[iD]at av;simp only[hc2]at aH;cases hA:hb cells (i+1) (s+l1.length) r with
    |none=>simp[hA]at av
    |some aQ=>
     obtain⟨t1,afi,Kc⟩:=aQ;cases ke:hb cells (i+1) (s+l2.length) r' with
     |none=>simp[ke]at aH
     |some bn=>
      obtain⟨t2,afj,zn⟩:=bn;simp only[hA,bu,fi]at av;simp only[ke,bu,fi]at aH;obtain⟨rfl,rfl,rfl⟩:=av;obtain⟨rfl,rfl,rfl⟩:=aH;simp only[qa,bI]at hf;have Pr:ty=aSg:=Sd (b8 hf.1.1.2) (by simpa using hf.1.2);subst Pr;have ac8:s+l2.length+afj.length<=N:=by simp at cF;omega
      obtain⟨bw,bz,cY⟩:=adr iS h2 hm s6 (λv hv=>h0 (cs,ty) (by simp) v hv) (akC (m:=m') λv hv=>hr (lD,ty) (by simp) v hv) iD hc2 hf.1.1.1 (λj aR=>by
       have:=hv j (by simp;omega)
       rwa [aoy aR]at this) (by omega)
      rw[<-cY]at hA;obtain⟨aQ,bn,cj,dU⟩:=ao9 iS h2 hm s6 (λp hp=>h0 p (e5 _ hp)) (λp hp=>hr p (e5 _ hp)) hA ke hf.2 (λj aR=>by
       have:=hv (l2.length+j) (by simp;omega);rw[aoz]at this;rw[<-this];congr 1;omega) ac8
      have hp:=akD bw;refine⟨λp ad9 a ao7=>?_,by rw[hQ];exact oC bz bn,by simp[cY,cj],λj c aSh aR=>?_⟩
      ·rcases List.mem_cons.1 ad9 with rfl|ad9
       ·exact hp.1 a ao7
       ·exact aQ p ad9 a ao7
      ·cases j with
       |zero=>simp at aR;obtain⟨rfl,rfl⟩:=aR;exact⟨lD,rfl,hp.2.symm⟩
       |succ j=>simp at aR;obtain⟨ek,h1,h2⟩:=dU j c aSh aR;exact⟨ek,by simpa using h1,h2⟩
 |[],_::_,i,s,t,t',l,l',b,b',h0,hr,av,aH,hf,hv,cF=>by
  simp[hb]at av;obtain⟨rfl,_,_⟩:=av;have:=(OM aH).2;cases t' with
  |nil=>simp at this
  |cons _ _=>simp[qa]at hf
 |_::_,[],i,s,t,t',l,l',b,b',h0,hr,av,aH,hf,hv,cF=>by
  simp[hb]at aH;obtain⟨rfl,_,_⟩:=aH;have:=(OM av).2;cases t with
  |nil=>simp at this
  |cons y z=>simp[qa]at hf
def Mw (p q:List A):Prop:=∃sh off code code' cap k,p=[.rows sh off code cap k]/\q=[.rows sh off code' cap k]
theorem Mw.refl {p:List A} (h:cy p=false):Mw p p:=by
 unfold cy at h;split at h
 ·exact⟨_,_,_,_,_,_,rfl,rfl⟩
 ·cases h
theorem aAm {lo hi:Int} {s:Nat} {v a:A} {x:I} {gu:Int×Int} (h:m9 lo hi s v=some (a,x,gu)):cy [a]=cy [v]/\(cy [a]=false->Mw [a] [v]):=by
 unfold m9 at h;split at h
 ·rename_i k x;cases hc:(decide (lo<=x.lo)&&decide (x.hi<=hi))with
  |false=>simp[hc]at h
  |true=>
   simp only[hc,cond_true,bu,fi]at h;obtain⟨rfl,_,_⟩:=h;exact⟨rfl,λh=>by cases h⟩
 ·simp only[bu,fi]at h;obtain⟨rfl,_,_⟩:=h;exact⟨rfl,λh=>by cases h⟩
 ·simp only[bu,fi]at h;obtain⟨rfl,_,_⟩:=h;exact⟨rfl,λ_=>⟨_,_,_,_,_,_,rfl,rfl⟩⟩
 ·cases h
theorem aeF (a b:A) (l:List A):cy (a::b::l)=true:=by cases a<;>rfl
theorem aEa {ints:List (Nat×Int×Int)} {i s:Nat} {cs:List A} {l:List I} {b:List (Int×Int)} {t:List A} (h:ha ints i s cs=some (t,l,b)):(cy t=cy cs)/\(cy t=false->Mw t cs):=by
 have hl:=(K0 h).2
 match cs,t,hl with
 |[],[],_=>exact⟨rfl,λh=>by cases h⟩
 |a::b::r,eE::b'::r',_=>exact⟨by rw[aeF,aeF],λh=>by rw[aeF]at h;cases h⟩
 |[v],[a],_=>
  unfold ha at h;cases hf:Fk i ints with
  |none=>
   simp[hf,ha]at h;obtain⟨rfl,_,_⟩:=h;exact⟨rfl,λh=>Mw.refl h⟩
  |some q=>
   obtain⟨lo,hi⟩:=q;simp only[hf]at h;cases hc:m9 lo hi s v with
   |none=>simp[hc]at h
   |some p=>
    obtain⟨eE,x,gu⟩:=p;simp[hc,ha]at h;obtain⟨rfl,_,_⟩:=h;exact aAm hc
theorem adu:∀{bl:List aM} {i s:Nat} {t:List aM} {l:List I} {b:List (Int×Int)},hb cells i s bl=some (t,l,b)->∀(k:Nat) (p:aM),t[k]?=some p->∃q:aM,bl[k]?=some q/\cy p.1=cy q.1/\p.2=q.2/\(cy p.1=false->Mw p.1 q.1)
 |[],i,s,t,l,b,h=>by simp[hb]at h;obtain⟨rfl,rfl,rfl⟩:=h;intro k p hp;simp at hp
 |(cs,ty)::r,i,s,t,l,b,h=>by
  unfold hb at h;cases iD:ha (cellsOf i cells) 0 s cs with
  |none=>simp[iD]at h
  |some aQ=>
   obtain⟨c1,l1,b4⟩:=aQ;simp only[iD]at h;cases hA:hb cells (i+1) (s+l1.length) r with
   |none=>simp[hA]at h
   |some aQ=>
    obtain⟨t1,afi,Kc⟩:=aQ;simp only[hA,bu,fi]at h;obtain⟨rfl,rfl,rfl⟩:=h;intro k p hp;cases k with
    |zero=>
     simp only[xU,bu]at hp;subst hp;have:=aEa iD;exact⟨(cs,ty),rfl,this.1,rfl,this.2⟩
    |succ k=>obtain⟨q,h1,h2⟩:=adu hA k p (by simpa using hp);exact⟨q,by simpa using h1,h2⟩
theorem an2:∀{a b:List aM},qa a b=true->∀(k:Nat) (p:aM),a[k]?=some p->b[k]?=some p
 |[],[],_,k,p,h=>by simp at h
 |(c,t)::r,(ek,t')::s,hf,k,p,h=>by
  simp only[qa,bI]at hf;have Pr:t=t':=Sd (b8 hf.1.1.2) (by simpa using hf.1.2);have hc:=Hw hf.1.1.1;subst Pr;subst hc;cases k with
  |zero=>simpa using h
  |succ k=>have:=an2 hf.2 k p (by simpa using h);simpa using this
 |[],_::_,h,_,_,_=>by simp[qa]at h
 |_::_,[],h,_,_,_=>by simp[qa]at h
end
end Go.bX
namespace Go.bX
variable {P:cc} {rd:Option Nat}
def wK (rd:Option Nat):Fence:={JU with round:=rd}
def uN (Q:Exit->Act->aC->Prop):Exit->Act->aC->Prop
 | .normal,a,w=>Q .normal a w
 |_,_,_=>False
theorem uN.imp {Q:Exit->Act->aC->Prop}:∀(e:Exit) (a:Act) (w:aC),calm (uN Q) e a w->Q e a w:=λe a w h=>by
 cases e<;>first|exact h|exact(h:False).elim
theorem uN.let {Q:Exit->Act->aC->Prop}:¬LetsOut (uN Q):=λ⟨a,w,h⟩=>h
theorem uN.aH3 {Q:Exit->Act->aC->Prop}:¬LetsOut (calm (uN Q)):=λ⟨a,w,h⟩=>h
def Ai (o:Oper):Bool:=match o.op with| .defer _=>false|_=>true
def pK:Code->Bool
 | .region _ ops _=>ops.toList.all Ai
 | .seq a b=>pK a&&pK b
 | .cond _ a b=>pK a&&pK b
 | .block _ c=>pK c
 | .loop c=>pK c
 |_=>true
theorem aI3 {o:Oper} (h:Ai o=true):∀c,o.op≠ .defer c:=λc e=>by simp[Ai,e]at h
theorem aAa {n:Nat} {f:dv} {args:Array bf} {w:aC} {R:Ending->aC->Prop} (h:oo P f args w R):CallsIn (wK rd) n P f args w R:=callsIn_wide.2 h
theorem aPJ {n:Nat} {row:String} {args:Array bf} {w:aC} {R:bf->aC->Prop} (h:Rows P row args w R):RowsIn (wK rd) n P row args w R:=
 λc cs _=>let⟨v,w',r,s⟩:=h c cs;⟨v,w',r,stepsIn_wide.2 s⟩
theorem asG {o:Oper} {a:Act} {w:aC} {K:Act->aC->Prop} {Q:Exit->Act->aC->Prop} (hd:rd=none∨Ai o=true) (h:o.wp P a w K Q):o.wpIn (wK rd) 0 P a w K Q:=by
 refine⟨λ_ _=>trivial,?_⟩;have e:o.semAt (wK rd).round a.eval=execOp a.eval o:=by
  rcases hd with h|h
  ·subst h;rfl
  ·exact o.semAt_eq _ _ (aI3 h)
 rw[e];unfold pw at h;generalize (execOp a.eval o).run P w=r at*;cases r with
 |ok n w'=>
  cases n<;>simp only[Oper.upon,aXb]at h⊢
  case value u=>exact h
  case skip=>exact h
  case defer d=>exact h
  case enter f args=>exact⟨λhs=>by simp[wK,JU]at hs,aAa h⟩
  case row row args=>exact⟨λhs=>by simp[wK,JU]at hs,aPJ h⟩
 |halt x w'=>
  cases x<;>simp only[Oper.upon,aXb]at h⊢
  case panic u=>exact h
variable {ops:Array Oper} {Q:Exit->Act->aC->Prop}
theorem aiw (eF:¬LetsOut Q):∀{l:List Oper} {a:Act} {w:aC},(rd=none∨l.all Ai=true)->wpList P ops Q l a w->wpListIn (wK rd) 0 P ops Q l a w
 |[],_,_,_,h=>h
 |o::r,a,w,hd,h=>by
  have h1:rd=none∨Ai o=true:=hd.imp id λh=>by simp only[awv,bI]at h;exact h.1
  have h2:rd=none∨r.all Ai=true:=hd.imp id λh=>by simp only[awv,bI]at h;exact h.2
  unfold wpList at h;unfold wpListIn;split
  ·rename_i hw;rw[if_pos hw]at h;rcases h with h|h
   ·exact aXc (λa w h=>aiw eF h2 h) (asG h1 h)
   ·exact absurd h.2 eF
  ·rename_i hw;rw[if_neg hw]at h;exact⟨λ_ _=>trivial,aiw eF h2 h⟩
theorem XP {md:Region.Mode} (hd:rd=none∨ops.toList.all Ai=true) (eF:¬LetsOut Q):∀{f:Nat} {listed:Array Bool} {a:Act} {w:aC},wpAny P md ops Q f listed a w->wpAnyIn (wK rd) 0 P md ops Q f listed a w
 |0,_,_,_,h=>h
 |f+1,listed,a,w,h=>by
  refine⟨h.1,λi hi=>?_⟩;have h2:=h.2 i hi;unfold wpOp at h2;unfold wpOpIn;cases aA:ops[i]? with
  |none=>simp only[aA]at h2⊢;exact XP hd eF h2
  |some o=>
   simp only[aA]at h2⊢;have h1:rd=none∨Ai o=true:=hd.imp id λh=>List.all_eq_true.1 h o (by simpa using Array.mem_of_getElem? aA);split
   ·rename_i hw;rw[if_pos hw]at h2;rcases h2 with h2|h2
    ·exact aXc (λa w h=>XP hd eF h) (asG h1 h2)
    ·exact absurd h2.2 eF
   ·rename_i hw;rw[if_neg hw]at h2;exact⟨λ_ _=>trivial,XP hd eF h2⟩
theorem aPq {id:Nat} {a:Act} {w:aC} (hd:rd=none∨ops.toList.all Ai=true) (h:wpList P ops (uN Q) ops.toList a w):(aXd id ops false).wpIn (wK rd) 0 P Q a w:=
 wpIn_mono (wpIn_region_list (aiw uN.let hd h)) λe a w h=>uN.imp e a w (by cases e<;>first|exact h|exact(h:False).elim)
theorem as5 {id:Nat} {a:Act} {w:aC} (hm:P.follows .mixedOrders=true) (hd:rd=none∨ops.toList.all Ai=true)
 (h:wpAny P .any ops (calm (uN Q)) ops.size (CJ ops.size false) a {w with drawn:=w.drawn+1}):(aXd id ops true).wpIn (wK rd) 0 P Q a w:=
 wpIn_mono (wpIn_region_any hm (XP hd uN.aH3 h)) uN.imp
end Go.bX
namespace Go.bX
open M
section
variable {S:Nat->List Int->List Int->Prop} {L:V->Env->Prop} {w0:fg} {P:cc} {gl:fK} {cal:gb} {rd:Option Nat}
def JZ (S:Nat->List Int->List Int->Prop) (L:V->Env->Prop) (w0:fg) (k:xZ) (n nb:Nat) (ρ:Env) (m:Nat->Nat) (G:fx) (Q:Exit->Act->aC->Prop):Prop:=∀x n' ae m' cR bF fm eE w',ft n nb ρ m n' (pY bF) ae m'->ga n G fm->R w0 n' ae m' cR bF eE w'->(k x n' cR bF).holds S L fm ae->Q x.to eE w'
theorem JZ.later {k:xZ} {n nb bh F2:Nat} {ρ a6:Env} {m gk:Nat->Nat} {G G1:fx} {Q:Exit->Act->aC->Prop} (h:JZ S L w0 k n nb ρ m G Q) (hl:ft n nb ρ m bh F2 a6 gk) (aV:ga n G G1):JZ S L w0 k bh F2 a6 gk G1 Q:=
 λx n' ae m' cR bF fm eE w' h1 h2 h3 h4=>h x n' ae m' cR bF fm eE w' (hl.trans h1) (aV.trans h2 hl.hn) h3 h4
def ZN (rd:Option Nat) (S:Nat->List Int->List Int->Prop) (L:V->Env->Prop) (w0:fg) (P:cc) (c:Code) (e:Nat->List V->List aM->xZ->T):Prop:=(rd=none∨pK c=true)->∀n tm bl k G ρ m a w Q,R w0 n ρ m tm bl a w->(e n tm bl k).holds S L G ρ->JZ S L w0 k n bl.length ρ m G Q->c.wpIn (wK rd) 0 P Q a w
theorem ath {c:Code} {e:Nat->List V->List aM->xZ->T} (hd:rd=none∨pK c=true) (he:ZN rd S L w0 P c e) {Q:Exit->Act->aC->Prop}:∀(r:Nat) {n:Nat} {ρ:Env} {m:Nat->Nat} {tm:List V} {bl:List aM} {a:Act} {w:aC} {G:fx} {k:xZ},
 R w0 n ρ m tm bl a w->(ahf e r n tm bl k).holds S L G ρ->JZ S L w0 k n bl.length ρ m G Q->Code.roundsIn (wK rd) 0 P c Q r a w
 |0,_,_,_,_,_,_,_,_,_,_,ah,_=>ah.elim
 |r+1,n,ρ,m,tm,bl,a,w,G,k,h,ah,ag=>by
  rw[roundsIn_succ];refine he hd n tm bl _ G ρ m a w _ h ah λx n' ae m' cR bF fm eE w' h1 h2 h3 h4=>?_;cases x with
  |normal=>exact ath hd he r h3 h4 (ag.later h1 h2)
  |exit id=>exact ag (.exit id) n' ae m' cR bF fm eE w' h1 h2 h3 h4
  |ret=>exact ag .ret n' ae m' cR bF fm eE w' h1 h2 h3 h4
theorem axC {n nb:Nat} {ρ:Env} {m:Nat->Nat} {tm:List V} {xs:Array bf} (h:fo n nb ρ m tm xs):G4 n nb ρ m tm xs.toList:=akF (by simpa using h)
theorem apu {li:fB} {n:Nat} {cM ae:Env} {m0 m':Nat->Nat} {tm cR pj Em:List V} {bl bF gd sr:List aM} {l1 l2 v1 v2 ext:List I} {b4 cg Kc zn:List (Int×Int)} {n':Nat} {a:Act} {w:aC}
 (hlen:bl.length<=bF.length)
 (ha:agree n cM ae) (hm:∀b,b<bl.length->m' b=m0 b) (aB:∀v∈tm,V.ok n bl.length cM v) (oZ:dr n bl.length cM bl)
 (h:R w0 n' ae m' cR bF a w) (av:hs li.hL li.ints 0 (n+1) tm=some (pj,l1,b4)) (aH:hb li.cells 0 (n+1+l1.length) bl=some (gd,l2,cg))
 (ca:hs li.hL li.ints 0 (n+1) cR=some (Em,v1,Kc)) (ht:hb li.cells 0 (n+1+v1.length) (bF.take bl.length)=some (sr,v2,zn))
 (f1:qb pj Em=true) (f2:qa gd sr=true):
 v1.length+v2.length=l1.length+l2.length/\ay (b4++cg) ((v1++v2).map (·.den ae))/\R w0 (n+1+l1.length+l2.length+ext.length) (b0 cM (n+1) ((v1++v2++ext).map (·.den ae))) m0 pj gd a w/\gd.length=bl.length/\∀(i:Nat) (p:aM),gd[i]?=some p->i<bl.length/\∃ed:aM,bF[i]?=some ed/\b2 (b0 cM (n+1) ((v1++v2++ext).map (·.den ae))) p.1=b2 ae ed.1:=by
 have ads:agree n cM (b0 cM (n+1) ((v1++v2++ext).map (·.den ae))):=(agree.b0 _ (n+1) cM).mono (by omega);have La:∀j,j<(v1++v2).length->b0 cM (n+1) ((v1++v2++ext).map (·.den ae)) (n+1+j)=((v1++v2).getD j (.const 0)).den ae:=λj aR=>by
  rw[MA _ _ _ j (by simp at aR⊢;omega)];have yg:j<(v1++v2++ext).length:=by simp at aR⊢;omega
  have e:(v1++v2++ext)[j]=(v1++v2)[j]:=List.getElem_append_left aR;simp only[U,qw,lA aR,lA yg,AT,EF,e]
 have aYj:v1.length+v2.length=(v1++v2).length:=by simp
 obtain⟨bw,bz,cY⟩:=Po (N:=n+1+v1.length+v2.length+ext.length) ha ads hm (by omega) aB (axC h.t) av ca f1 (λj aR=>by
  rw[La j (by simp;omega),aoy aR]) (by omega)
 rw[<-cY]at aH;have aEj:dr n' bF.length ae (bF.take bl.length):=λp hp=>h.b p (mv hp);obtain⟨aQ,bn,cj,dU⟩:=ao9 (N:=n+1+v1.length+v2.length+ext.length) ha ads hm (by omega) oZ aEj aH ht f2 (λj aR=>by
  rw[show n+1+v1.length+j=n+1+(v1.length+j) by omega,La (v1.length+j) (by simp;omega),aoz]) (by omega)
 have bd:gd.length=bl.length:=(OM aH).2;refine⟨by omega,by rw[hQ];exact oC bz bn,?_⟩;rw[<-cY,<-cj];have BI:∀(i:Nat) (p:aM),gd[i]?=some p->i<bl.length/\∃ed:aM,bF[i]?=some ed/\cy p.1=cy ed.1/\p.2=ed.2/\(cy p.1=false->∃sh off code code' cap k,p.1=[.rows sh off code cap k]/\ed.1=[.rows sh off code' cap k]/\off.bU n/\cap.bU n):=λi p hi=>by
  have lG:i<bl.length:=by rw[<-bd];exact(List.getElem?_eq_some_iff.1 hi).1
  obtain⟨ed,h1,h2,HR,h3⟩:=adu ht i p (an2 f2 i p hi);rw[tF,if_pos lG]at h1;obtain⟨p0,g1,_,_,g3⟩:=adu aH i p hi;refine⟨lG,ed,h1,h2,HR,λaA=>?_⟩;obtain⟨sh,off,code,code',cap,k,s1,s2⟩:=h3 aA;obtain⟨gC,ld,c1,bQ,k6,bJ,bx,cG⟩:=g3 aA;rw[s1]at bx;cases bx;have cm:A.ok n bl.length cM (.rows sh off bQ cap k):=oZ _ (fw g1) _ (by rw[cG];simp);exact⟨sh,off,code,code',cap,k,s1,s2,cm.1.1,cm.1.2.2⟩
 have adt:agree n ae (b0 cM (n+1) ((v1++v2++ext).map (·.den ae))):=ha.sym.trans ads (b1 _);have rE:∀(p ed:aM),cy p.1=cy ed.1->(cy p.1=false->∃sh off code code' cap k,p.1=[.rows sh off code cap k]/\ed.1=[.rows sh off code' cap k]/\off.bU n/\cap.bU n)->b2 (b0 cM (n+1) ((v1++v2++ext).map (·.den ae))) p.1=b2 ae ed.1:=λp ed h1 h2=>by
  cases aA:cy p.1 with
  |true=>rw[n5 aA,n5 (h1▸aA)]
  |false=>
   obtain⟨sh,off,code,code',cap,k,s1,s2,bx,cG⟩:=h2 aA;rw[s1,s2];simp only[b2];rw[I.cq adt cG]
 refine⟨?_,bd,λi p hi=>by
  obtain⟨g1,ed,g2,g3,_,g4⟩:=BI i p hi;exact⟨g1,ed,g2,rE p ed g3 g4⟩⟩
 refine⟨?_,h.d,by rw[bd];exact aQ,⟨h.bK.ext,h.bK.kE,h.bK.mE,h.bK.lq,h.bK.ia,h.bK.kp,λi cs t hi aA=>?_,λi sh off code cap kind t hi=>?_,λi j p q hi aR he=>?_⟩⟩
 ·rw[bd];have:=SW bw;simpa using this
 ·obtain⟨ek,h1,h2⟩:=dU i cs t hi;obtain⟨lG,ed,k1,k2,_⟩:=BI i _ hi;rw[tF,if_pos lG,k1]at h1;have h1:=iI h1;subst h1;obtain⟨g1,oA,r,hr,g2⟩:=h.bK.gP i ek t k1 (k2▸aA);rw[<-hm i lG];exact⟨g1,oA,r,hr,by rw[h2];exact g2⟩
 ·obtain⟨lG,ed,k1,_,k2,k3⟩:=BI i _ hi;obtain⟨gC,ld,c1,bQ,k6,bJ,s1,s2,bx,cG⟩:=k3 rfl;cases s1;obtain⟨C,t'⟩:=ed;simp only at s2 k2;subst s2;subst k2;obtain⟨ek,h1,h2⟩:=dU i _ t hi;rw[tF,if_pos lG,k1]at h1;cases h1;simp only[df,gr,A.den,hD,aY9,and_true,true_and]at h2;rw[<-hm i lG];have hR:=h.bK.rws i sh off bQ cap kind t k1;unfold wL at hR⊢;rw[I.cq adt bx,I.cq adt cG,h2];exact hR
 ·obtain⟨lG,ed,k1,k2,_,k3⟩:=BI i p hi;obtain⟨H9,fG,l1,l2,_,n7⟩:=BI j q aR;rw[rE p ed k2 k3,rE q fG l2 n7];rw[<-hm i lG,<-hm j H9]at he;exact h.bK.inj i j ed fG k1 l1 he
theorem fo.set {n nb:Nat} {ρ:Env} {m:Nat->Nat} {tm:List V} {xs:Array bf} {s:Nat} {v:V} (h:fo n nb ρ m tm xs) (hv:v.ok n nb ρ) (hr:∀x,xs[s]?=some x->v.rel ρ m x):fo n nb ρ m (xF tm s v) xs:=by
 rw[ahE];refine⟨by simp[h.1],λi u hu=>?_⟩;rw[wF]at hu;split at hu
 ·rename_i aFC;subst aFC;split at hu
  ·rename_i hlt;cases hu;rw[h.1]at hlt;exact⟨hv,_,Sj hlt,hr _ (Sj hlt)⟩
  ·cases hu
 ·exact h.2 i u hu
def JY (tmps:Array bf):List Nat->List Int->Prop
 |[],[]=>True
 |s::r,z::zs=>(0<=z/\z<=1)/\(∀x,tmps[s]?=some x->x= .bool (decide (z=1)))/\JY tmps r zs
 |_,_=>False
def GZ (w0:fg) (w:aC) (tmps:Array bf) (F:Nat->Prop):List (Nat×List a8×bE)->List Int->Prop
 |[],[]=>True
 |(s,sh,e)::r,code::len::cap::zs=>∃g:Nat,(∀x,tmps[s]?=some x->x=if cap<0 then .slice none 0 0 else .slice (some ⟨g,0,none⟩) len.toNat cap.toNat)/\Jz 0 0 len cap/\(0<=code/\code<=cP)/\(cap<0->af code=[])/\
    (0<=cap->∃cells:Array bf,w.heap[g]?=some (.cells cells e (0,0))/\pz cells 0 sh (af code)/\cells.size=cap.toNat*sh.length/\w0.b.heap.size<=g/\(w0.ex g∨w0.r.heap.size<=g))/\
    (0<=cap->F g)/\GZ w0 w tmps (λkq=>F kq/\(0<=cap->kq≠g)) r zs
 |_,_=>False
theorem abj {nb:Nat} {tm:List V} {m:Nat->Nat} {tmps:Array bf}:∀{l:List Nat} {n:Nat} {ρ:Env},fo n nb ρ m tm tmps->aE S L (NF tm l) n ρ λae n' ls=>(∀x∈ls,I.bU n' x)/\ls.length=l.length/\JY tmps l (ls.map (·.den ae))
 |[],n,ρ,aB=>aE.pure ⟨λ_ h=>by simp at h,rfl,trivial⟩
 |s::r,n,ρ,aB=>by
  unfold NF;split
  ·rename_i e hs;obtain⟨h1,x,h2,h3⟩:=aB.2 s _ hs;have h3:x= .bool (e.den ρ):=h3;have key:aE S L (match e with| .lit v=>pure (I.const (cond v 1 0))|e=>IB e) n ρ λae n' l=>l.bU n'/\(0<=l.den ae/\l.den ae<=1)/\e.den ρ=decide (l.den ae=1):=by
    cases e with
    |lit v=>cases v<;>exact aE.pure ⟨I.dX _ _,by simp only[I.bC];decide,by simp only[I.bC,bO.den];rfl⟩
    |_=>exact UW
   refine key.bind λa6 bh l hn ha ⟨g1,g2,g3⟩=>(abj (l:=r) (aB.ext ha hn (b1 _) (λ_ _=>rfl))).bind λcd fF ls fX eI ⟨k1,k2,k3⟩=>aE.pure ⟨λy hy=>?_,by simp[k2],?_⟩
   ·rcases List.mem_cons.1 hy with rfl|hy
    ·exact g1.mono fX
    ·exact k1 y hy
   ·have av:=I.cq eI g1;simp only[df,JY,av];refine⟨g2,λy hy=>?_,k3⟩;rw[h2]at hy;cases hy;rw[h3,g3]
  ·exact aE.fail
theorem Oo {nb:Nat} {m:Nat->Nat} {tmps:Array bf}:∀{l:List (Nat×Int×Int)} {tm:List V} {n:Nat} {ρ:Env},fo n nb ρ m tm tmps->aE S L (HM l tm) n ρ λae n' cR=>fo n' nb ae m cR tmps
 |[],tm,n,ρ,aB=>aE.pure aB
 |(s,lo,hi)::r,tm,n,ρ,aB=>by
  unfold HM;split
  ·rename_i k x hs;cases hc:(decide (lo<=x.lo)&&decide (x.hi<=hi))with
   |true=>simp only[cond_true];exact Oo aB
   |false=>
    simp only[cond_false];refine kb λag=>?_;simp only[df,gr,aj,I.bC]at ag;obtain⟨h1,y,h2,h3⟩:=aB.2 s _ hs;have h1:x.ok n ρ:=h1;exact Oo (aB.set (v:= .w (.one (.int k ⟨x.l,lo,hi⟩))) ⟨h1.1,ag.1,ag.2⟩ λz hz=>by
     rw[h2]at hz;cases hz;exact h3)
  ·exact Oo aB
theorem SX {n lo:Nat} {ρ:Env} {m:Nat->Nat} {tm:List V} {bl:List aM} {a:Act} {w:aC} (h:R w0 n ρ m tm bl a w):∀{l:List (Nat×List a8×bE)} {used:List Nat} {ls:List I} {u:List Nat},Bd lo l tm bl used=some (ls,u)->
 (∀x∈ls,I.bU n x)/\ls.length=(Hj l).length/\(∀b∈used,b∈u)/\(∀b∈u,b∈used∨lo<=b)/\∀F:Nat->Prop,(∀(b:Nat) (p:aM),b∈u->b∉used->bl[b]?=some p->b2 ρ p.1=2->cy p.1=false->F (m b))->GZ w0 w a.tmps F l (ls.map (·.den ρ))
 |[],used,ls,u,he=>by
  simp only[Bd,bu,fi]at he;obtain⟨rfl,rfl⟩:=he;exact⟨λ_ h=>by simp at h,rfl,λ_ h=>h,λ_ h=> .inl h,λ_ _=>trivial⟩
 |(s,sh,e)::r,used,ls,u,he=>by
  unfold Bd at he;split at he
  ·rename_i hs;split at he
   ·rename_i l1 kY hr;simp only[bu,fi]at he;obtain⟨rfl,rfl⟩:=he;obtain⟨g1,g2,g3,g4,g5⟩:=SX h hr;refine⟨λx hx=>?_,by simp[Hj]at g2⊢;omega,g3,g4,λF hF=>⟨0,λx hx=>?_,?_,?_,?_,?_,?_,?_⟩⟩
    ·simp only[m2]at hx;rcases hx with rfl|rfl|rfl|hx
     ·exact I.dX _ _
     ·exact I.dX _ _
     ·exact I.dX _ _
     ·exact g1 x hx
    ·obtain⟨_,y,h2,h3⟩:=h.t.2 s _ hs;rw[h2]at hx;cases hx;have nc:(I.const (-1)).den ρ<0:=by rw[I.bC];decide
     simp only[nc,if_true];exact h3
    ·simp only[I.bC];exact⟨⟨by omega,by omega,by omega,by omega⟩,⟨by omega,by omega⟩,λ_=>rfl,λh=>by omega⟩
    ·simp only[I.bC];exact⟨cn _,y3 (kh []) (u1 (l:=[]) (by simp) (by simp))⟩
    ·intro _;simp only[I.bC];exact j2
    ·simp only[I.bC];intro h;omega
    ·simp only[I.bC];intro h;omega
    ·refine g5 _ λb p hb hu bd ag aA=>⟨hF b p hb hu bd ag aA,?_⟩;simp only[I.bC];intro h;omega
   ·cases he
  ·rename_i b bL o ro len cap hs;split at he
   ·rename_i gC off code e8 kind t bd;cases hc:(sQ sh gC&&aU kind 2&&I.beq o (.const 0)&&I.beq off (.const 0)&&I.beq ro (.const 0)&&I.beq cap e8&&aU t.1 e&&aU bL sh.length&&cV lo b&& !(used.any (aU b)))with
    |false=>rw[hc]at he;cases he
    |true=>
     rw[hc]at he;simp only[cond_true]at he;split at he
     ·rename_i l1 kY hr;simp only[bu,fi]at he;obtain⟨rfl,rfl⟩:=he;simp only[bI]at hc;obtain⟨⟨⟨⟨⟨⟨⟨⟨⟨c1,bQ⟩,cD⟩,dq⟩,fM⟩,hI⟩,oU⟩,nO⟩,qG⟩,vm⟩:=hc;have c1:=Ek c1;have bQ:=b8 bQ;have cD:=I.beq_eq cD;have dq:=I.beq_eq dq;have fM:=I.beq_eq fM;have hI:=I.beq_eq hI
      have oU:=b8 oU;have nO:=b8 nO;have qG:=gq qG
      have aFc:b∉used:=λhb=>by
       have:used.any (aU b)=true:=List.any_eq_true.2 ⟨b,hb,JM b⟩;rw[this]at vm;cases vm
      subst c1;subst bQ;subst cD;subst dq;subst fM;subst hI;subst oU;subst nO;obtain⟨g1,g2,g3,g4,g5⟩:=SX h hr;obtain⟨cm,y,h2,h3⟩:=h.t.2 s _ hs;have cm:(A.sl b sh.length (.const 0) (.const 0) len cap).ok n bl.length ρ:=cm;obtain⟨ak,⟨ai,aw,dk,jz⟩,jR⟩:=cm;simp only[I.bC]at jR;have gG:(A.rows sh (.const 0) code cap 2).ok n bl.length ρ:=h.b _ (fw bd) _ (by simp);obtain⟨⟨r1,r2,gS⟩,bb,aD⟩:=gG;have pH:=h.bK.rws b sh (.const 0) code cap 2 t bd (by decide);refine⟨λx hx=>?_,by simp[Hj]at g2⊢;omega,λb' nT=>g3 b' (e5 _ nT),λb' nT=>?_,λF hF=>⟨m b,λx hx=>?_,jR,bb,pH.1,λh0=>?_,λh0=>?_,?_⟩⟩
      ·simp only[m2]at hx;rcases hx with rfl|rfl|rfl|hx
       ·exact r2
       ·exact dk
       ·exact jz
       ·exact g1 x hx
      ·rcases g4 b' nT with h5|h5
       ·rcases List.mem_cons.1 h5 with rfl|h5
        ·exact .inr qG
        ·exact .inl h5
       ·exact .inr h5
      ·have aer:y=x:=iI (h2.symm.trans hx);subst aer;have h3:y=(A.sl b sh.length (.const 0) (.const 0) len cap).den ρ m:=h3;rw[h3];simp only[A.den,I.bC];split<;>simp
      ·obtain⟨_,cells,lM,fz,k1,⟨k2,k3⟩,k4⟩:=pH.2 h0;obtain⟨o7,te,z1,Ve,aHf,aHg⟩:=k4 (by decide);subst o7;have z1:=z1.two;subst z1;rw[I.bC]at k3;exact⟨cells,k1,k3,Ve,aHf,aHg⟩
      ·exact hF b _ (g3 b (by simp)) aFc bd (vF (by decide) h0) rfl
      ·refine g5 _ λb' p nT hu apd ag aA=>⟨hF b' p nT (λh=>hu (e5 _ h)) apd ag aA,λh0=>?_⟩;have nj:b2 ρ [A.rows sh (.const 0) code cap 2]=2:=vF (by decide) h0;exact h.bK.ne apd bd (by rw[ag];exact b1 2) (by simp only[nj];decide) λe=>hu (by simp[e])
     ·cases he
   ·cases he
  ·cases he
theorem Wl {c:List A} (h:cy c=false):∃sh off code cap k,c=[.rows sh off code cap k]:=by
 unfold cy at h;split at h
 ·exact⟨_,_,_,_,_,rfl⟩
 ·cases h
theorem aff {n:Nat} {ρ:Env} {m:Nat->Nat} {tm:List V} {a:Act} {w:aC}:∀{us:List Nat} {bl:List aM},R w0 n ρ m tm bl a w->R w0 n ρ m tm (qi us bl) a w/\(qi us bl).length=bl.length/\∀(i:Nat) (p:aM),(qi us bl)[i]?=some p->(bl[i]?=some p/\(i∈us->cy p.1=true∨b2 ρ p.1=0))∨b2 ρ p.1=0
 |[],bl,h=>⟨h,rfl,λi p hp=> .inl ⟨hp,λh=>by simp at h⟩⟩
 |b::r,bl,h=>by
  unfold qi;split
  ·rename_i sh off code cap k t bd;obtain⟨g1,g2,g3⟩:=aff (us:=r) (h.kill bd);refine⟨g1,by rw[g2,lL],λi p hp=>?_⟩;rcases g3 i p hp with⟨g4,g5⟩|g4
   ·by_cases lG:i=b
    ·subst lG;rw[mK,awf (List.getElem?_eq_some_iff.1 bd).1]at g4;cases g4;exact .inr (by simp[b2])
    ·rw[mK,ai3 (λe=>lG e.symm)]at g4;exact .inl ⟨g4,λhi=>g5 (by simpa [lG]using hi)⟩
   ·exact .inr g4
  ·rename_i mD;obtain⟨g1,g2,g3⟩:=aff (us:=r) h;refine⟨g1,g2,λi p hp=>?_⟩;rcases g3 i p hp with⟨g4,g5⟩|g4
   ·refine .inl ⟨g4,λhi=>?_⟩;rcases List.mem_cons.1 hi with rfl|hi
    ·cases aA:cy p.1 with
     |true=>exact .inl rfl
     |false=>
      exfalso;obtain⟨c,t⟩:=p;obtain⟨sh,off,code,cap,k,rfl⟩:=Wl aA;exact mD _ _ _ _ _ _ g4
    ·exact g5 hi
   ·exact .inr g4
theorem aps {N:Nat} {cd:Env} {m:Nat->Nat} {bl:List aM} {a:Act} {w:aC}:∀{l:List Nat} {zs:List Int} {v:Nat} {tm:List V},R w0 N cd m tm bl a w->JY a.tmps l zs->(∀j,j<zs.length->cd (v+j)=zs.getD j 0)->v+zs.length<=N->R w0 N cd m (zP l v tm) bl a w
 |[],[],v,tm,h,_,_,_=>h
 |s::r,z::zs,v,tm,h,hb,hv,cF=>by
  unfold zP;have h0:=hv 0 (by simp);simp only[m3,gp]at h0;simp only[kx]at cF;refine aps (l:=r) (zs:=zs) ⟨fo.set h.t ?_ λx hx=>?_,h.d,h.b,h.bK⟩ hb.2.2 (λj aR=>by
   have:=hv (j+1) (by simpa using aR);rw[show v+1+j=v+(j+1) by omega];simpa using this) (by omega)
  ·exact⟨I.gU (by omega),I.dX _ _⟩
  ·rw[hb.2.1 x hx];simp[V.rel,W.den,A.den,bO.den,I.de,I.bC,h0]
 |[],_::_,_,_,_,h,_,_=>h.elim
 |_::_,[],_,_,_,h,_,_=>h.elim
theorem apr {N:Nat} {cd:Env} {a:Act} {w:aC}:∀{l:List (Nat×List a8×bE)} {zs:List Int} {v:Nat} {tm:List V} {bl:List aM} {m:Nat->Nat} {F:Nat->Prop},R w0 N cd m tm bl a w->GZ w0 w a.tmps F l zs->(∀g,F g->∀(i:Nat) (p:aM),bl[i]?=some p->m i=g->b2 cd p.1=0)->
 (∀j,j<zs.length->cd (v+j)=zs.getD j 0)->v+zs.length<=N->∃eJ,(∀b,b<bl.length->eJ b=m b)/\bl.length<=(xc l v tm bl).2.length/\R w0 N cd eJ (xc l v tm bl).1 (xc l v tm bl).2 a w
 |[],[],v,tm,bl,m,F,h,_,_,_,_=>⟨m,λ_ _=>rfl,b1 _,h⟩
 |(s,sh,e)::r,code::len::cap::zs,v,tm,bl,m,F,h,hf,hF,hv,cF=>by
  obtain⟨g,f1,f2,f3,f4,f5,f6,f7⟩:=hf;have v0:=hv 0 (by simp);have v1:=hv 1 (by simp);have v2:=hv 2 (by simp);simp only[gp,hq,m3]at v0 v1 v2;simp only[kx]at cF;have hc:(-1:Int)<=cap/\cap<=0x7fffffffffffffff:=⟨f2.2.1.1,by have:=f2.2.1.2;omega⟩;have aV:(A.rows sh (.const 0) (.var v) (.var (v+2)) 2).ok N bl.length cd:=⟨⟨I.dX _ _,I.gU (by omega),I.gU (by omega)⟩,by rw[I.de,v0];exact f3,by rw[I.de,v2];exact hc⟩;have ma:=h.bK.push (x:=([.rows sh (.const 0) (.var v) (.var (v+2)) 2],(e,false))) (g:=g) h.b (λy hy=>by simp at hy;subst hy;exact aV) (λaA=>by cases aA) (λgC ld code' k6 sH he=>by
   cases he;intro _;simp only[I.de,v0,v2,I.bC];refine⟨f4,λh0=>?_⟩;obtain⟨cells,k1,k2,k3,k4,te⟩:=f5 h0;exact⟨te.elim .inl λh=> .inr (.inr h),cells,e,(0,0),k1,⟨cn _,k2⟩,λ_=>⟨rfl,by trivial,.QA,k3,k4,te⟩⟩) (λi p hi he=>by
   rcases mw cap 0 with h0|h0
   ·refine .inr (.inr ?_);simp only[b2,I.de,v2];rw[if_pos h0]
   ·exact .inr (.inl (hF g (f6 h0) i p hi he)))
  have eF:=ft.alloc N cd m bl ([A.rows sh (.const 0) (.var v) (.var (v+2)) 2],(e,false)) g;have hR:R w0 N cd (oe m bl.length g) (xF tm s (.w (.one (.sl bl.length sh.length (.const 0) (.const 0) (.var (v+1)) (.var (v+2)))))) (bl++[([.rows sh (.const 0) (.var v) (.var (v+2)) 2],(e,false))]) a w:=by
   refine⟨fo.set (h.t.ext eF.ha eF.hn eF.hb eF.hm) ?_ λx hx=>?_,h.d,h.b.alloc (λy hy=>by simp at hy;subst hy;exact aV),ma⟩
   ·refine⟨by simp,⟨I.dX _ _,I.dX _ _,I.gU (by omega),I.gU (by omega)⟩,?_⟩;simp only[I.bC,I.de,v1,v2];exact f2
   ·rw[f1 x hx];simp only[V.rel,W.den,A.den,I.bC,I.de,v1,v2,pT];split<;>simp
  obtain⟨eJ,aQ,bn,cj⟩:=apr (l:=r) (zs:=zs) (v:=v+3) hR f7 (λkq BL i p hi he=>by
   rw[Sk]at hi;split at hi
   ·rename_i ks;rw[pk ks]at he;exact hF kq BL.1 i p hi he
   ·have ks:=(List.getElem?_eq_some_iff.1 hi).1;have:i=bl.length:=by simp at ks;omega
    subst this;simp only[Nat.sub_self,xU,bu]at hi;subst hi;rw[pT]at he;rcases mw cap 0 with h0|h0
    ·simp only[b2,I.de,v2];rw[if_pos h0]
    ·exact absurd he.symm (BL.2 h0)) (λj aR=>by
   have:=hv (j+3) (by simp only[kx];omega);rw[show v+3+j=v+(j+3) by omega];simpa using this) (by omega)
  simp only[fq,kx,pr]at aQ bn;exact⟨eJ,λb hb=>by rw[aQ b (by omega)];exact pk hb,by unfold xc;omega,by unfold xc;exact cj⟩
 |[],_::_,_,_,_,_,_,_,h,_,_,_=>h.elim
 |_::_,[],_,_,_,_,_,_,h,_,_,_=>h.elim
 |_::_,[_],_,_,_,_,_,_,h,_,_,_=>h.elim
 |_::_,[_,_],_,_,_,_,_,_,h,_,_,_=>h.elim
theorem aqp {tmps:Array bf}:∀{l:List Nat} {zs:List Int},JY tmps l zs->ay (Tc l) zs
 |[],[],_=>trivial
 |s::r,z::zs,h=>⟨h.1.1,h.1.2,aqp h.2.2⟩
 |[],_::_,h=>h.elim
 |_::_,[],h=>h.elim
theorem aqo {w:aC} {tmps:Array bf}:∀{l:List (Nat×List a8×bE)} {zs:List Int} {F:Nat->Prop},GZ w0 w tmps F l zs->ay (Hj l) zs
 |[],[],_,_=>trivial
 |(s,sh,e)::r,code::len::cap::zs,F,⟨g,f1,f2,f3,f4,f5,f6,f7⟩=>⟨f3.1,f3.2,f2.1.2.2.1,f2.1.2.2.2,f2.2.1.1,by have:=f2.2.1.2;omega,aqo f7⟩
 |[],_::_,_,h=>h.elim
 |_::_,[],_,h=>h.elim
 |_::_,[_],_,h=>h.elim
 |_::_,[_,_],_,h=>h.elim
theorem Mem.RH {n:Nat} {ρ:Env} {m:Nat->Nat} {bl:List aM} {w:aC} {b c:Nat} {C:List A} {sh:List a8} {code:I} {t:bE×Bool} (h:Mem w0 ρ m bl w) (bd:bl[b]?=some (C,t)) (aA:cy C=true) (aB:t.2=false)
 (lQ:∀row∈af (code.den ρ),cX sh row) (lP:ct sh (af (code.den ρ))=C.map (A.den ρ m)) (hlen:C.length=c*sh.length):Mem w0 ρ m (eP bl b ([.rows sh (.const 0) code (.const c) 2],t)) w:=by
 have tX:b<bl.length:=(List.getElem?_eq_some_iff.1 bd).1;obtain⟨aQ,bn,r,hr,cj⟩:=h.gP b C t bd aA;have hr:=hr aB;subst hr;rw[gO]at cj;have eZ:∀(i:Nat) (p:aM),(eP bl b ([.rows sh (.const 0) code (.const c) 2],t))[i]?=some p->(i=b/\p=([.rows sh (.const 0) code (.const c) 2],t))∨(i≠b/\bl[i]?=some p):=λi p hi=>by
  rw[mK,wF]at hi;split at hi
  ·rename_i iT;subst iT;simp only[tX,if_true,bu]at hi;exact .inl ⟨rfl,hi.symm⟩
  ·rename_i iT;exact .inr ⟨λe=>iT e.symm,hi⟩
 have rE:b2 ρ [.rows sh (.const 0) code (.const c) 2]=2:=vF (by decide) (by rw[I.bC];omega);refine⟨h.ext,h.kE,h.mE,h.lq,h.ia,h.kp,λi lD t' hi kT=>?_,λi gC ld code' k6 sH t' hi=>?_,λi j p q hi aR he=>?_⟩
 ·rcases eZ i _ hi with⟨rfl,eT⟩|⟨dE,hi⟩
  ·cases eT;cases kT
  ·exact h.gP i lD t' hi kT
 ·rcases eZ i _ hi with⟨rfl,eT⟩|⟨dE,hi⟩
  ·cases eT;intro _;simp only[I.bC];refine⟨λh0=>by omega,λ_=>⟨bn.elim .inl λh=> .inr (.inr h),_,_,_,cj,⟨cn _,lQ,[],[],by simp[lP],rfl⟩,λ_=>⟨rfl,by trivial,.QA,by simp[hlen],aQ,bn⟩⟩⟩
  ·exact h.rws i gC ld _ k6 sH t' hi
 ·have ag:∀(i:Nat) (p:aM),(eP bl b ([.rows sh (.const 0) code (.const c) 2],t))[i]?=some p->∃ed,bl[i]?=some ed/\b2 ρ ed.1=b2 ρ p.1:=λi p hi=>by
   rcases eZ i _ hi with⟨rfl,eT⟩|⟨dE,hi⟩
   ·exact⟨_,bd,by rw[eT];simp only[rE,n5 aA]⟩
   ·exact⟨p,hi,rfl⟩
  obtain⟨ed,hp,ep⟩:=ag i p hi;obtain⟨fG,an,eq⟩:=ag j q aR;rw[<-ep,<-eq];exact h.inj i j ed fG hp an he
theorem ahk {m:Nat->Nat} {tm:List V} {a:Act} {w:aC}:∀{l:List (Nat×List a8×Nat)} {bl:List aM} {n:Nat} {ρ:Env},R w0 n ρ m tm bl a w->aE S L (RI l bl) n ρ λae n' bF=>R w0 n' ae m tm bF a w/\bF.length=bl.length
 |[],bl,n,ρ,h=>aE.pure ⟨h,rfl⟩
 |(b,sh,c)::r,bl,n,ρ,h=>by
  unfold RI;split
  ·rename_i C t bd;cases aA:cy C with
   |false=>simp only[cond_false];exact ahk h
   |true=>
    simp only[cond_true];refine fe λhc=>?_;simp only[bI]at hc;obtain⟨⟨⟨c1,bQ⟩,cD⟩,dq⟩:=hc;have c1:t.2=false:=by simpa using c1
    have bQ:=b8 bQ;have dq:=gq dq;have cm:∀x∈C,A.ok n bl.length ρ x:=h.b _ (fw bd);have nU:=NZ (w:=sh.length) (k:=c) bQ;have cv:af ((I.const 0).den ρ)=[]:=by rw[I.bC];exact j2
    have hz:(0:Int)<=cP:=y3 (kh []) (u1 (l:=[]) (by simp) (by simp));refine(Nx (nb:=bl.length) (m:=m) cD (rs:=rA sh.length c C) (c:= .const 0) (λrow hr x hx=>cm x (N0 row hr x hx)) (I.dX _ _) (by rw[I.bC];exact⟨cn _,hz⟩) (by rw[cv];intro _ h;simp at h) (by rw[cv,nU.1];simp;omega)).bind λa6 bh code h9 fV ⟨bw,bz,e2,cY,fa,fv,hB⟩=>?_;rw[cv,eQ]at cY;have h1:=h.later h9 fV;have adY:C.map (A.den a6 m)=C.map (A.den ρ m):=yx cm fV (λ_ _=>rfl);have ma:=h1.bK.RH (n:=bh) (c:=c) (sh:=sh) (code:=code) bd aA c1 (by rw[cY];exact fv) (by rw[cY,hB,nU.2,adY]) bQ;have qd:dr bh (eP bl b ([.rows sh (.const 0) code (.const c) 2],t)).length a6 (eP bl b ([.rows sh (.const 0) code (.const c) 2],t)):=h1.b.set (λy hy=>by
     have hy:y= .rows sh (.const 0) code (.const c) 2:=by simpa using hy
     subst hy;exact⟨⟨I.dX _ _,bw,I.dX _ _⟩,bz,by rw[I.bC];omega⟩)
    have hR:R w0 bh a6 m tm (eP bl b ([.rows sh (.const 0) code (.const c) 2],t)) a w:=⟨by rw[lL];exact h1.t,h1.d,qd,ma⟩;exact(ahk (l:=r) hR).mono λcd fF sq _ _ ⟨g1,g2⟩=>⟨g1,by rw[g2,lL]⟩
  ·exact aE.fail
theorem natsM_holds {G:fx} {JV:Unit->Nat->T}:∀{k n:Nat} {ρ:Env} {offs:List Int},(V6 k n JV).holds S L G ρ->offs.length=k->(∀z∈offs,0<=z)->(JV () (n+k)).holds S L G (b0 ρ n offs)
 |0,n,ρ,[],h,_,_=>h
 |k+1,n,ρ,z::zs,h,hl,h0=>by
  have h1:(V6 k (n+1) JV).holds S L G (eg ρ n z):=h z (h0 z (by simp));have:=natsM_holds (offs:=zs) h1 (by simpa using hl) λy hy=>h0 y (e5 _ hy);rw[show n+(k+1)=n+1+k by omega];exact this
 |0,_,_,_::_,_,hl,_=>by simp at hl
 |_+1,_,_,[],_,hl,_=>by simp at hl
def wM (w0:fg) (w:aC) (tmps:Array bf) (F:Nat->Prop):List (Nat×List a8)->List Nat->List Int->List Int->Prop
 |[],[],[],[]=>True
 |(s,sh)::r,g::gs,o::os,code::len::cap::zs=>(∀x,tmps[s]?=some x->x=if cap<0 then .slice none 0 0 else .slice (some ⟨g,o.toNat,none⟩) len.toNat cap.toNat)/\Jz o 0 len cap/\(0<=code/\code<=cP)/\(cap<0->af code=[])/\
    (0<=cap->(w0.ex g∨w0.ro g∨w0.r.heap.size<=g)/\∃(cells:Array bf) (t:bE) (fz:Nat×Nat),w.heap[g]?=some (.cells cells t fz)/\pz cells o.toNat sh (af code))/\
    (0<=cap->F g)/\wM w0 w tmps F r gs os zs
 |_,_,_,_=>False
theorem wM.len {w:aC} {tmps:Array bf} {F:Nat->Prop}:∀{l:List (Nat×List a8)} {gs:List Nat} {os zs:List Int},wM w0 w tmps F l gs os zs->os.length=l.length/\∀z∈os,0<=z
 |[],[],[],[],_=>⟨rfl,λ_ h=>by simp at h⟩
 |(s,sh)::r,g::gs,o::os,code::len::cap::zs,h=>by
  obtain⟨_,h2,_,_,_,_,h7⟩:=h;obtain⟨i1,i2⟩:=wM.len h7;exact⟨by simp[i1],λz hz=>by
   rcases List.mem_cons.1 hz with rfl|hz
   ·exact h2.1.1
   ·exact i2 z hz⟩
 |_::_,[],_,_,h=>h.elim
 |_::_,_::_,[],_,h=>h.elim
 |_::_,_::_,_::_,[],h=>h.elim
 |_::_,_::_,_::_,[_],h=>h.elim
 |_::_,_::_,_::_,[_,_],h=>h.elim
 |[],_::_,_,_,h=>h.elim
 |[],[],_::_,_,h=>h.elim
 |[],[],[],_::_,h=>h.elim
theorem aqq {w:aC} {tmps:Array bf} {F:Nat->Prop}:∀{l:List (Nat×List a8)} {gs:List Nat} {os zs:List Int},wM w0 w tmps F l gs os zs->ay (Jl l) zs
 |[],[],[],[],_=>trivial
 |(s,sh)::r,g::gs,o::os,code::len::cap::zs,⟨f1,f2,f3,f4,f5,f6,f7⟩=>⟨f3.1,f3.2,f2.1.2.2.1,f2.1.2.2.2,f2.2.1.1,by have:=f2.2.1.2;omega,aqq f7⟩
 |_::_,[],_,_,h=>h.elim
 |_::_,_::_,[],_,h=>h.elim
 |_::_,_::_,_::_,[],h=>h.elim
 |_::_,_::_,_::_,[_],h=>h.elim
 |_::_,_::_,_::_,[_,_],h=>h.elim
 |[],_::_,_,_,h=>h.elim
 |[],[],_::_,_,h=>h.elim
 |[],[],[],_::_,h=>h.elim
theorem WJ {n:Nat} {ρ:Env} {m:Nat->Nat} {tm:List V} {bl:List aM} {a:Act} {w:aC} (h:R w0 n ρ m tm bl a w):∀{l:List (Nat×List a8)} {ls:List I},Jm l tm bl=some ls->
 (∀x∈ls,I.bU n x)/\ls.length=(Jl l).length/\∃gs os,wM w0 w a.tmps (λg=>∃(i:Nat) (p:aM),bl[i]?=some p/\m i=g/\b2 ρ p.1=1) l gs os (ls.map (·.den ρ))
 |[],ls,he=>by
  simp only[Jm,bu]at he;subst he;exact⟨λ_ h=>by simp at h,rfl,[],[],trivial⟩
 |(s,sh)::r,ls,he=>by
  unfold Jm at he;split at he
  ·rename_i hs;split at he
   ·rename_i l1 hr;simp only[bu]at he;subst he;obtain⟨g1,g2,gs,os,g3⟩:=WJ h hr;refine⟨λx hx=>?_,by simp[Jl]at g2⊢;omega,0::gs,0::os,λx hx=>?_,?_,?_,?_,?_,?_,g3⟩
    ·simp only[m2]at hx;rcases hx with rfl|rfl|rfl|hx
     ·exact I.dX _ _
     ·exact I.dX _ _
     ·exact I.dX _ _
     ·exact g1 x hx
    ·obtain⟨_,y,h2,h3⟩:=h.t.2 s _ hs;rw[h2]at hx;cases hx;have nc:(I.const (-1)).den ρ<0:=by rw[I.bC];decide
     simp only[nc,if_true];exact h3
    ·simp only[I.bC];exact⟨⟨by omega,by omega,by omega,by omega⟩,⟨by omega,by omega⟩,λ_=>rfl,λh=>by omega⟩
    ·simp only[I.bC];exact⟨cn _,y3 (kh []) (u1 (l:=[]) (by simp) (by simp))⟩
    ·intro _;simp only[I.bC];exact j2
    ·simp only[I.bC];intro h;omega
    ·simp only[I.bC];intro h;omega
   ·cases he
  ·rename_i b bL o ro len cap hs;split at he
   ·rename_i gC off code e8 kind t bd;cases hc:(sQ sh gC&&aU kind 1&&I.beq o off&&I.beq ro (.const 0)&&I.beq cap e8&&aU bL sh.length)with
    |false=>rw[hc]at he;cases he
    |true=>
     rw[hc]at he;simp only[cond_true]at he;split at he
     ·rename_i l1 hr;simp only[bu]at he;subst he;simp only[bI]at hc;obtain⟨⟨⟨⟨⟨c1,bQ⟩,cD⟩,dq⟩,fM⟩,hI⟩:=hc;have c1:=Ek c1;have bQ:=b8 bQ;have cD:=I.beq_eq cD;have dq:=I.beq_eq dq;have fM:=I.beq_eq fM;have hI:=b8 hI
      subst c1;subst bQ;subst cD;subst dq;subst fM;subst hI;obtain⟨g1,g2,gs,os,g3⟩:=WJ h hr;obtain⟨cm,y,h2,h3⟩:=h.t.2 s _ hs;have cm:(A.sl b sh.length o (.const 0) len cap).ok n bl.length ρ:=cm;obtain⟨ak,⟨ai,aw,dk,jz⟩,jR⟩:=cm;simp only[I.bC]at jR;have gG:(A.rows sh o code cap 1).ok n bl.length ρ:=h.b _ (fw bd) _ (by simp);obtain⟨⟨r1,r2,gS⟩,bb,aD⟩:=gG;have pH:=h.bK.rws b sh o code cap 1 t bd (by decide);refine⟨λx hx=>?_,by simp[Jl]at g2⊢;omega,m b::gs,o.den ρ::os,λx hx=>?_,jR,bb,pH.1,λh0=>?_,λh0=>?_,g3⟩
      ·simp only[m2]at hx;rcases hx with rfl|rfl|rfl|hx
       ·exact r2
       ·exact dk
       ·exact jz
       ·exact g1 x hx
      ·have aer:y=x:=iI (h2.symm.trans hx);subst aer;have h3:y=(A.sl b sh.length o (.const 0) len cap).den ρ m:=h3;rw[h3];simp only[A.den,I.bC];split<;>simp
      ·obtain⟨eu,cells,lM,fz,k1,⟨k2,k3⟩,k4⟩:=pH.2 h0;exact⟨eu,cells,lM,fz,k1,k3⟩
      ·exact⟨b,_,bd,rfl,vF (by decide) h0⟩
     ·cases he
   ·cases he
  ·cases he
theorem wM.mono {w:aC} {tmps:Array bf} {F ER:Nat->Prop} (hF:∀g,F g->ER g):∀{l:List (Nat×List a8)} {gs:List Nat} {os zs:List Int},wM w0 w tmps F l gs os zs->wM w0 w tmps ER l gs os zs
 |[],[],[],[],_=>trivial
 |(s,sh)::r,g::gs,o::os,code::len::cap::zs,⟨f1,f2,f3,f4,f5,f6,f7⟩=>⟨f1,f2,f3,f4,f5,λh=>hF g (f6 h),wM.mono hF f7⟩
 |_::_,[],_,_,h=>h.elim
 |_::_,_::_,[],_,h=>h.elim
 |_::_,_::_,_::_,[],h=>h.elim
 |_::_,_::_,_::_,[_],h=>h.elim
 |_::_,_::_,_::_,[_,_],h=>h.elim
 |[],_::_,_,_,h=>h.elim
 |[],[],_::_,_,h=>h.elim
 |[],[],[],_::_,h=>h.elim
theorem aaI {lo:Nat} {tm:List V} {bl:List aM}:∀{l:List (Nat×List a8×bE)} {used:List Nat} {ls:List I} {u:List Nat},Bd lo l tm bl used=some (ls,u)->∀b∈u,b∈used∨∃sh off code cap t,bl[b]?=some ([.rows sh off code cap 2],t)
 |[],used,ls,u,he=>by
  simp only[Bd,bu,fi]at he;obtain⟨rfl,rfl⟩:=he
  exactλb hb=> .inl hb
 |(s,sh,e)::r,used,ls,u,he=>by
  unfold Bd at he;split at he
  ·split at he
   ·rename_i l1 kY hr;simp only[bu,fi]at he;obtain⟨rfl,rfl⟩:=he;exact aaI hr
   ·cases he
  ·rename_i b bL o ro len cap hs;split at he
   ·rename_i gC off code e8 kind t bd;cases hc:(sQ sh gC&&aU kind 2&&I.beq o (.const 0)&&I.beq off (.const 0)&&I.beq ro (.const 0)&&I.beq cap e8&&aU t.1 e&&aU bL sh.length&&cV lo b&& !(used.any (aU b)))with
    |false=>rw[hc]at he;cases he
    |true=>
     rw[hc]at he;simp only[cond_true]at he;split at he
     ·rename_i l1 kY hr;simp only[bu,fi]at he;obtain⟨rfl,rfl⟩:=he;simp only[bI]at hc;obtain⟨⟨⟨⟨⟨⟨⟨⟨⟨c1,bQ⟩,cD⟩,dq⟩,fM⟩,hI⟩,oU⟩,nO⟩,qG⟩,vm⟩:=hc;have bQ:=b8 bQ;subst bQ;intro b' nT;rcases aaI hr b' nT with h5|h5
      ·rcases List.mem_cons.1 h5 with rfl|h5
       ·exact .inr ⟨_,_,_,_,_,bd⟩
       ·exact .inl h5
      ·exact .inr h5
     ·cases he
   ·cases he
  ·cases he
theorem afe {i:Nat} {p:aM}:∀{us:List Nat} {bl:List aM},bl[i]?=some p->i∉us->(qi us bl)[i]?=some p
 |[],bl,h,_=>h
 |b::r,bl,h,hi=>by
  unfold qi;split
  ·refine afe ?_ λh=>hi (e5 _ h);rw[mK,ai3 (λe=>hi (by simp[e]))];exact h
  ·exact afe h λh=>hi (e5 _ h)
theorem apt {N:Nat} {cd:Env} {a:Act} {w:aC} {F:Nat->Prop}:∀{l:List (Nat×List a8)} {gs:List Nat} {os zs:List Int} {v u:Nat} {tm:List V} {bl:List aM} {m:Nat->Nat},R w0 N cd m tm bl a w->wM w0 w a.tmps F l gs os zs->(∀g,F g->∀(i:Nat) (p:aM),bl[i]?=some p->m i=g->b2 cd p.1<=1)->
 (∀j,j<zs.length->cd (v+j)=zs.getD j 0)->(∀j,j<os.length->cd (u+j)=os.getD j 0)->v+zs.length<=N->u+os.length<=N->
 ∃eJ,(∀b,b<bl.length->eJ b=m b)/\bl.length<=(headD l v u tm bl).2.length/\R w0 N cd eJ (headD l v u tm bl).1 (headD l v u tm bl).2 a w/\∀(i:Nat) (p:aM),(headD l v u tm bl).2[i]?=some p->(i<bl.length/\bl[i]?=some p)∨(b2 cd p.1≠0->F (eJ i))
 |[],[],[],[],v,u,tm,bl,m,h,_,_,_,_,_,_=>⟨m,λ_ _=>rfl,b1 _,h,λi p hp=> .inl ⟨(List.getElem?_eq_some_iff.1 hp).1,hp⟩⟩
 |(s,sh)::r,g::gs,o::os,code::len::cap::zs,v,u,tm,bl,m,h,hf,hF,hv,hu,cF,ac8=>by
  obtain⟨f1,f2,f3,f4,f5,f6,f7⟩:=hf;have v0:=hv 0 (by simp);have v1:=hv 1 (by simp);have v2:=hv 2 (by simp);have sa:=hu 0 (by simp);simp only[gp,hq,m3]at v0 v1 v2 sa;simp only[kx]at cF ac8;have hc:(-1:Int)<=cap/\cap<=0x7fffffffffffffff:=⟨f2.2.1.1,by have:=f2.2.1.2;omega⟩;have aV:(A.rows sh (.var u) (.var v) (.var (v+2)) 1).ok N bl.length cd:=⟨⟨I.gU (by omega),I.gU (by omega),I.gU (by omega)⟩,by rw[I.de,v0];exact f3,by rw[I.de,v2];exact hc⟩;have apJ:b2 cd [A.rows sh (.var u) (.var v) (.var (v+2)) 1]<=1:=by
   simp only[b2];split<;>omega
  have ma:=h.bK.push (x:=([.rows sh (.var u) (.var v) (.var (v+2)) 1],(0,false))) (g:=g) h.b (λy hy=>by simp at hy;subst hy;exact aV) (λaA=>by cases aA) (λgC ld code' k6 sH he=>by
   cases he;intro _;simp only[I.de,v0,v2,sa];refine⟨f4,λh0=>?_⟩;obtain⟨o7,cells,t,fz,k1,k2⟩:=f5 h0;exact⟨o7,cells,t,fz,k1,⟨f2.1.1,k2⟩,λcC=>by omega⟩) (λi p hi he=>by
   rcases mw cap 0 with h0|h0
   ·refine .inr (.inr ?_);simp only[b2,I.de,v2];rw[if_pos h0]
   ·exact .inl ⟨hF g (f6 h0) i p hi he,apJ⟩)
  have eF:=ft.alloc N cd m bl ([A.rows sh (.var u) (.var v) (.var (v+2)) 1],(0,false)) g;have hR:R w0 N cd (oe m bl.length g) (xF tm s (.w (.one (.sl bl.length sh.length (.var u) (.const 0) (.var (v+1)) (.var (v+2)))))) (bl++[([.rows sh (.var u) (.var v) (.var (v+2)) 1],(0,false))]) a w:=by
   refine⟨fo.set (h.t.ext eF.ha eF.hn eF.hb eF.hm) ?_ λx hx=>?_,h.d,h.b.alloc (λy hy=>by simp at hy;subst hy;exact aV),ma⟩
   ·refine⟨by simp,⟨I.gU (by omega),I.dX _ _,I.gU (by omega),I.gU (by omega)⟩,?_⟩;simp only[I.bC,I.de,v1,v2,sa];exact f2
   ·rw[f1 x hx];simp only[V.rel,W.den,A.den,I.bC,I.de,v1,v2,sa,pT];split<;>simp
  obtain⟨eJ,aQ,bn,cj,dU⟩:=apt (F:=F) (l:=r) (gs:=gs) (os:=os) (zs:=zs) (v:=v+3) (u:=u+1) hR f7 (λkq BL i p hi he=>by
   rw[Sk]at hi;split at hi
   ·rename_i ks;rw[pk ks]at he;exact hF kq BL i p hi he
   ·have ks:=(List.getElem?_eq_some_iff.1 hi).1;have:i=bl.length:=by simp at ks;omega
    subst this;simp only[Nat.sub_self,xU,bu]at hi;subst hi;exact apJ) (λj aR=>by
   have:=hv (j+3) (by simp only[kx];omega);rw[show v+3+j=v+(j+3) by omega];simpa using this) (λj aR=>by
   have:=hu (j+1) (by simp only[kx];omega);rw[show u+1+j=u+(j+1) by omega];simpa using this) (by omega) (by omega)
  simp only[fq,kx,pr]at aQ bn;refine⟨eJ,λb hb=>by rw[aQ b (by omega)];exact pk hb,by unfold headD;omega,by unfold headD;exact cj,λi p hp=>?_⟩;unfold headD at hp;rcases dU i p hp with⟨jv,lK⟩|jv
  ·simp only[fq,kx,pr]at jv;rw[Sk]at lK;split at lK
   ·rename_i ks;exact .inl ⟨ks,lK⟩
   ·rename_i ks;have hi:i=bl.length:=by omega
    subst hi;simp only[Nat.sub_self,xU,bu]at lK;subst lK;refine .inr λh0=>?_;rw[aQ bl.length (by omega),pT];refine f6 ?_;rcases mw cap 0 with h1|h1
    ·refine absurd ?_ h0;simp only[b2,I.de,v2];rw[if_pos h1]
    ·exact h1
  ·exact .inr jv
 |_::_,[],_,_,_,_,_,_,_,_,h,_,_,_,_,_=>h.elim
 |_::_,_::_,[],_,_,_,_,_,_,_,h,_,_,_,_,_=>h.elim
 |_::_,_::_,_::_,[],_,_,_,_,_,_,h,_,_,_,_,_=>h.elim
 |_::_,_::_,_::_,[_],_,_,_,_,_,_,h,_,_,_,_,_=>h.elim
 |_::_,_::_,_::_,[_,_],_,_,_,_,_,_,h,_,_,_,_,_=>h.elim
 |[],_::_,_,_,_,_,_,_,_,_,h,_,_,_,_,_=>h.elim
 |[],[],_::_,_,_,_,_,_,_,_,h,_,_,_,_,_=>h.elim
 |[],[],[],_::_,_,_,_,_,_,_,h,_,_,_,_,_=>h.elim
theorem apv {li:fB} {n:Nat} {cM ae:Env} {m0 m':Nat->Nat} {tm cR pj Em:List V} {bl bF gd sr:List aM} {l1 l2 v1 v2 gy gZ fY:List I} {b4 cg Kc zn:List (Int×Int)} {n':Nat} {a:Act} {w:aC} {NA ND NN:Nat} {gs:List Nat} {os:List Int}
 (hlen:bl.length<=bF.length)
 (ha:agree n cM ae) (hm:∀b,b<bl.length->m' b=m0 b) (aB:∀v∈tm,V.ok n bl.length cM v) (oZ:dr n bl.length cM bl)
 (h:R w0 n' ae m' cR bF a w) (av:hs li.hL li.ints 0 (n+1) tm=some (pj,l1,b4)) (aH:hb li.cells 0 (n+1+l1.length) bl=some (gd,l2,cg))
 (ca:hs li.hL li.ints 0 (n+1) cR=some (Em,v1,Kc)) (ht:hb li.cells 0 (n+1+v1.length) (bF.take bl.length)=some (sr,v2,zn))
 (f1:qb pj Em=true) (f2:qa gd sr=true) (apc:JY a.tmps li.vi (gy.map (·.den ae))) (Up:GZ w0 w a.tmps (λg=>(∀(i:Nat) (p:aM),i<bl.length->bF[i]?=some p->m' i=g->b2 ae p.1=0)/\¬∃(i:Nat) (p:aM),bF[i]?=some p/\m' i=g/\b2 ae p.1=1) li.tN (gZ.map (·.den ae)))
 (Li:wM w0 w a.tmps (λg=>∃(i:Nat) (p:aM),bF[i]?=some p/\m' i=g/\b2 ae p.1=1) li.pR gs os (fY.map (·.den ae)))
 (aoO:NA=n+1+l1.length+l2.length+gy.length) (aoP:ND=n+1+l1.length+l2.length+(gy++gZ).length) (aoQ:NN=n+1+l1.length+l2.length+(gy++gZ++fY).length):
 ay (b4++cg++(Tc li.vi++Hj li.tN++Jl li.pR)) ((v1++v2++(gy++gZ++fY)).map (·.den ae))/\∃eJ,(∀b,b<bl.length->eJ b=m0 b)/\bl.length<=(xc li.tN NA (headD li.pR ND NN (zP li.vi (n+1+l1.length+l2.length) pj) gd).1 (headD li.pR ND NN (zP li.vi (n+1+l1.length+l2.length) pj) gd).2).2.length/\
  R w0 (NN+li.pR.length) (b0 (b0 cM (n+1) ((v1++v2++(gy++gZ++fY)).map (·.den ae))) NN os) eJ (xc li.tN NA (headD li.pR ND NN (zP li.vi (n+1+l1.length+l2.length) pj) gd).1 (headD li.pR ND NN (zP li.vi (n+1+l1.length+l2.length) pj) gd).2).1 (xc li.tN NA (headD li.pR ND NN (zP li.vi (n+1+l1.length+l2.length) pj) gd).1 (headD li.pR ND NN (zP li.vi (n+1+l1.length+l2.length) pj) gd).2).2 a w:=by
 obtain⟨aF2,i1,i2,i3,i4⟩:=apu (ext:=gy++gZ++fY) hlen ha hm aB oZ h av aH ca ht f1 f2;obtain⟨aFi,aYl⟩:=Li.len;subst aoO;subst aoP;subst aoQ;have La:∀j,j<(gy++gZ++fY).length->b0 cM (n+1) ((v1++v2++(gy++gZ++fY)).map (·.den ae)) (n+1+l1.length+l2.length+j)=((gy++gZ++fY).map (·.den ae)).getD j 0:=λj aR=>by
  rw[show n+1+l1.length+l2.length+j=n+1+(v1.length+v2.length+j) by omega,MA _ _ _ _ (by simp at aR⊢;omega)];rw[hQ (l₁:=v1++v2),ky,MY (by simp),ky]
  congr 2
  simp
 generalize aqb:b0 cM (n+1) ((v1++v2++(gy++gZ++fY)).map (·.den ae))=cd at*;have w9:agree (n+1+l1.length+l2.length+(gy++gZ++fY).length) cd (b0 cd (n+1+l1.length+l2.length+(gy++gZ++fY).length) os):=agree.b0 os _ cd;have aGs:=i2.later (MZ _ li.pR.length) w9;have adK:∀j,j<(gy++gZ++fY).length->b0 cd (n+1+l1.length+l2.length+(gy++gZ++fY).length) os (n+1+l1.length+l2.length+j)=((gy++gZ++fY).map (·.den ae)).getD j 0:=λj aR=>by
  rw[<-La j aR];exact(w9 _ (by omega))
 have Uw:∀(i:Nat) (p:aM),gd[i]?=some p->b2 (b0 cd (n+1+l1.length+l2.length+(gy++gZ++fY).length) os) p.1=b2 cd p.1:=λi p hi=>yt (i2.b p (fw hi)) w9;generalize aGm:b0 cd (n+1+l1.length+l2.length+(gy++gZ++fY).length) os=jb at*;have da:=aps (v:=n+1+l1.length+l2.length) aGs apc (λj aR=>by
  simp only[ps]at aR;rw[adK j (by simp;omega),fS,hQ,ky,wG (by simpa using aR),ky]) (by simp;omega)
 obtain⟨gk,bw,bz,cY,fa⟩:=apt (v:=n+1+l1.length+l2.length+(gy++gZ).length) (u:=n+1+l1.length+l2.length+(gy++gZ++fY).length) da Li (λg hg i p hi he=>by
  obtain⟨g1,ed,g2,g3⟩:=i4 i p hi;rw[Uw i p hi,g3];obtain⟨j,q,aQ,bn,cj⟩:=hg;rcases h.bK.inj i j ed q g2 aQ (by rw[bn,<-he,hm i g1])with cC|cC|cC|cC
  ·subst cC;rw[g2]at aQ;cases aQ;omega
  ·exact cC.1
  ·omega
  ·omega) (λj aR=>by
  simp only[ps]at aR;rw[show n+1+l1.length+l2.length+(gy++gZ).length+j=n+1+l1.length+l2.length+((gy++gZ).length+j) by omega,adK _ (by simp at aR⊢;omega),hQ (l₁:=gy++gZ),ky,MY (by simp),ky]
  congr 2
  simp) (λj aR=>by rw[<-aGm,MA _ _ _ _ aR]) (by simp only[ps,fq];omega) (by rw[aFi];exact b1 _)
 obtain⟨eJ,aQ,bn,cj⟩:=apr (v:=n+1+l1.length+l2.length+gy.length) cY Up (λg hg i p hi he=>by
  rcases fa i p hi with⟨g0,g1⟩|g1
  ·obtain⟨oA,ed,g2,g3⟩:=i4 i p g1;rw[Uw i p g1,g3];exact hg.1 i ed oA g2 (by rw[hm i oA,<-bw i g0];exact he)
  ·by_cases h0:b2 jb p.1=0
   ·exact h0
   ·have:=g1 h0;rw[he]at this;exact absurd this hg.2) (λj aR=>by
  simp only[ps]at aR;rw[show n+1+l1.length+l2.length+gy.length+j=n+1+l1.length+l2.length+(gy.length+j) by omega,adK _ (by simp;omega),fS,hQ,ky,MY (by simp),hQ,wG (by simp;omega),ky]
  congr 2
  simp) (by simp;omega)
 refine⟨?_,eJ,λb hb=>by rw[aQ b (by rw[i3]at bz;omega),bw b (by rw[i3];exact hb)],by rw[i3]at bz;omega,cj⟩;rw[hQ,hQ (l₁:=gy++gZ),hQ (l₁:=gy)];exact oC i1 (oC (oC (aqp apc) (aqo Up)) (aqq Li))
theorem abi {a b c:Nat} (h:a=c) (aP:b=c):b=a:=aP.trans h.symm
theorem aIi {li:fB} {c:Code} {e:Nat->List V->List aM->xZ->T} (hd:rd=none∨pK c=true) (he:ZN rd S L w0 P c e) {Q:Exit->Act->aC->Prop} {n:Nat} {ρ:Env} {m:Nat->Nat} {tm:List V} {bl:List aM} {a:Act} {w:aC} {G:fx} {k:xZ}
 (h:R w0 n ρ m tm bl a w) (ah:(afU li e n tm bl k).holds S L G ρ) (ag:JZ S L w0 k n bl.length ρ m G Q):(Code.loop c).wpIn (wK rd) 0 P Q a w:=by
 unfold afU at ah;obtain⟨awK,IY,ams,Ih,ao8,⟨hz1,UQ⟩,ah⟩:=ahk (S:=S) (L:=L) h G _ ah;have ag:=ag.later (⟨Ih,ao8,by rw[UQ];exact b1 _,λ_ _=>rfl⟩:ft n bl.length ρ m IY ams.length awK m) (ga.refl _ G);clear h;have h:=hz1;clear hz1 UQ Ih ao8;revert h ag ah;generalize IY=n;generalize awK=ρ;generalize ams=bl;intro ah ag h;obtain⟨cM,e9,tm,ue,Dh,aeh,ah⟩:=Oo (S:=S) (L:=L) h.t G _ ah;have Oy:=h.later ue Dh;have h:R w0 e9 cM m tm bl a w:=⟨aeh,Oy.d,Oy.b,Oy.bK⟩;have ag:=ag.later (⟨ue,Dh,b1 _,λ_ _=>rfl⟩:ft n bl.length ρ m e9 bl.length cM m) (ga.refl _ G);obtain⟨a6,bh,gy,h9,fV,⟨s1,s2,bx⟩,ah⟩:=abj (S:=S) (L:=L) h.t G _ ah;have h1:=h.later h9 fV;have ag:=ag.later (⟨h9,fV,b1 _,λ_ _=>rfl⟩:ft e9 bl.length cM m bh bl.length a6 m) (ga.refl _ G);split at ah
 rotate_left
 ·exact ah.elim
 rename_i pj l1 b4 gZ us fY av TU aAZ;obtain⟨bR,a2,_,_,a5⟩:=SX h1 TU;obtain⟨k1,k2,k3⟩:=aff (us:=us) h1;obtain⟨r1,r2,gs,os,gS⟩:=WJ h1 aAZ;cases aH:hb li.cells 0 (bh+1+l1.length) (qi us bl)with
 |none=>rw[aH]at ah;exact ah.elim
 |some bn=>
  obtain⟨gd,l2,cg⟩:=bn;rw[aH]at ah;simp only at ah;cases hf:(qb pj pj&&qa gd gd)with
  |false=>rw[hf]at ah;exact ah.elim
  |true=>
   rw[hf]at ah;simp only[dD,cond_false,T.holds]at ah;simp only[bI]at hf;obtain⟨c5,ey,ac2,da⟩:=ah;have UN:∀v∈tm,V.ok bh (qi us bl).length a6 v:=λv hv=>by
    obtain⟨i,hi⟩:=List.getElem?_of_mem hv;exact(k1.t.2 i v hi).1
   have N6:hb li.cells 0 (bh+1+l1.length) ((qi us bl).take (qi us bl).length)=some (gd,l2,cg):=by rw[ai4];exact aH
   have aEb:GZ w0 w a.tmps (λg=>(∀(i:Nat) (p:aM),i<(qi us bl).length->(qi us bl)[i]?=some p->m i=g->b2 a6 p.1=0)/\¬∃(i:Nat) (p:aM),(qi us bl)[i]?=some p/\m i=g/\b2 a6 p.1=1) li.tN (gZ.map (·.den a6)):=by
    refine a5 _ λb p hb _ bd nj o2=>?_;have key:∀(i:Nat) (q:aM),(qi us bl)[i]?=some q->m i=m b->b2 a6 q.1=0:=λi q hi he=>by
     rcases k3 i q hi with⟨g1,g2⟩|g1
     ·by_cases lG:i=b
      ·subst lG;rw[bd]at g1;cases g1;rcases g2 hb with g2|g2
       ·rw[o2]at g2;cases g2
       ·exact g2
      ·rcases h1.bK.inj i b q p g1 bd he with g3|g3|g3|g3
       ·exact absurd g3 lG
       ·omega
       ·exact g3
       ·omega
     ·exact g1
    exact⟨λi q _ hi he=>key i q hi he,λ⟨i,q,hi,he,ag⟩=>by have:=key i q hi he;omega⟩
   have Li:wM w0 w a.tmps (λg=>∃(i:Nat) (p:aM),(qi us bl)[i]?=some p/\m i=g/\b2 a6 p.1=1) li.pR gs os (fY.map (·.den a6)):=by
    refine gS.mono λg ⟨i,p,hi,he,ag⟩=>⟨i,p,afe hi λhu=>?_,he,ag⟩;rcases aaI TU i hu with cC|⟨sh,off,code,cap,t,cC⟩
    ·simp at cC
    ·rw[hi]at cC;cases cC;simp only[b2]at ag;split at ag<;>omega
   obtain⟨i1,eJ,i2,i3,i4⟩:=apv (b1 _) (agree.refl bh a6) (λ_ _=>rfl) UN k1.b k1 av aH av N6 hf.1 hf.2 bx aEb Li rfl rfl rfl;generalize aoQ:bh+1+l1.length+l2.length+(gy++gZ++fY).length=NN at*;generalize aoP:bh+1+l1.length+l2.length+(gy++gZ).length=ND at*;generalize aoO:bh+1+l1.length+l2.length+gy.length=NA at*;generalize aEu:headD li.pR ND NN (zP li.vi (bh+1+l1.length+l2.length) pj) gd=d at*;refine wpIn_loop_ghost (λN eE w'=>∃zs os eJ,ay (b4++cg++(Tc li.vi++Hj li.tN++Jl li.pR)) zs/\c5 zs/\ey zs=N/\(os.length=li.pR.length/\∀z∈os,0<=z)/\(∀b,b<(qi us bl).length->eJ b=m b)/\
    R w0 (NN+li.pR.length) (b0 (b0 a6 (bh+1) zs) NN os) eJ (xc li.tN NA d.1 d.2).1 (xc li.tN NA d.1 d.2).2 eE w') (ey ((l1++l2++(gy++gZ++fY)).map (·.den a6))) ⟨_,os,eJ,i1,ac2,rfl,Li.len,i2,i4⟩ ?_
   rintro N bR eU ⟨zs,agB,eJ,hz1,UQ,rfl,⟨aGf,aGg⟩,aGd,aGe⟩
   have Di:=natsM_holds (m6 da hz1 UQ) aGf aGg;refine he hd _ _ _ _ _ _ _ bR eU _ aGe Di λx n' ae m' cR bF fm eE w' h1 h2 h3 h4=>?_;have HZ:agree bh a6 (b0 a6 (bh+1) zs):=(agree.b0 _ (bh+1) a6).mono (by omega);have aEd:agree bh a6 (b0 (b0 a6 (bh+1) zs) NN agB):=HZ.trans (agree.b0 agB NN _) (by omega);have ac4:ft bh bl.length a6 m (NN+li.pR.length) (xc li.tN NA d.1 d.2).2.length (b0 (b0 a6 (bh+1) zs) NN agB) eJ:=⟨by omega,aEd,by rw[k2]at i3;exact i3,λb hb=>aGd b (by rw[k2];exact hb)⟩;have Fv:ga bh G (G.set bh λvs=>c5 vs/\ey vs<ey zs):=λl hl=>by
    unfold fx.set;cases hb:aU l bh with
    |true=>have:=b8 hb;omega
    |false=>rfl
   have eF:=ac4.trans h1;have ac1:fm bh=λvs=>c5 vs/\ey vs<ey zs:=by
    rw[h2 bh (by omega)];unfold fx.set;have:aU bh bh=true:=JM bh;rw[this];rfl
   cases x with
   |exit id=>exact ag (.exit id) n' ae m' cR bF fm eE w' eF (Fv.trans h2 (by omega)) h3 h4
   |ret=>exact ag .ret n' ae m' cR bF fm eE w' eF (Fv.trans h2 (by omega)) h3 h4
   |normal=>
    simp only at h4;obtain⟨ajq,af9,cR,apO,ao5,aei,h4⟩:=Oo (S:=S) (L:=L) h3.t fm _ h4;have oX:=h3.later apO ao5;have h3:R w0 af9 ajq m' cR bF eE w':=⟨aei,oX.d,oX.b,oX.bK⟩;have eF:=eF.trans (⟨apO,ao5,b1 _,λ_ _=>rfl⟩:ft n' bF.length ae m' af9 bF.length ajq m');obtain⟨y9,LS,arq,fX,eI,⟨t1,t2,t3⟩,h4⟩:=abj (S:=S) (L:=L) h3.t fm _ h4;have h3:=h3.later fX eI;split at h4
    rotate_left
    ·exact h4.elim
    rename_i Em v1 Kc afG pU arD ca aAY aA0;obtain⟨c1,bQ,_,dq,fM⟩:=SX h3 aAY;obtain⟨d1,d2,aX1,asH,d3⟩:=WJ h3 aA0;cases ht:hb li.cells 0 (bh+1+v1.length) (bF.take bl.length)with
    |none=>rw[ht]at h4;exact h4.elim
    |some dU=>
     obtain⟨sr,v2,zn⟩:=dU;rw[ht]at h4;simp only at h4;cases mb:(qb pj Em&&qa gd sr)with
     |false=>rw[mb]at h4;exact h4.elim
     |true=>
      rw[mb]at h4;simp only[cond_true,T.holds,ac1]at h4;simp only[bI]at mb;have ac5:=eF.trans (⟨fX,eI,b1 _,λ_ _=>rfl⟩:ft af9 bF.length ajq m' LS bF.length y9 m');have aEc:GZ w0 w' eE.tmps (λg=>(∀(i:Nat) (p:aM),i<(qi us bl).length->bF[i]?=some p->m' i=g->b2 y9 p.1=0)/\¬∃(i:Nat) (p:aM),bF[i]?=some p/\m' i=g/\b2 y9 p.1=1) li.tN (afG.map (·.den y9)):=by
       refine fM _ λb p hb _ bd nj o2=>⟨λi q ks hi he=>?_,λ⟨i,q,hi,he,ag⟩=>?_⟩
       ·have OO:bl.length<=b:=by
         rcases dq b hb with h|h
         ·simp at h
         ·exact h
        rw[k2]at ks;rcases h3.bK.inj i b q p hi bd he with g3|g3|g3|g3
        ·omega
        ·omega
        ·exact g3
        ·omega
       ·rcases h3.bK.inj i b q p hi bd he with g3|g3|g3|g3
        ·subst g3;rw[hi]at bd;cases bd;omega
        ·omega
        ·omega
        ·omega
      obtain⟨dN,ur,nY,o6,td⟩:=apv (NA:=NA) (ND:=ND) (NN:=NN) (by rw[k2];exact ac5.hb) ac5.ha (λb hb=>ac5.hm b (by rw[k2]at hb;exact hb)) UN k1.b h3 av aH ca (by rw[k2];exact ht) mb.1 mb.2 t3 aEc d3 (by have:=t2;have:=abi s2 t2;omega) (by have:=abi s2 t2;simp only[fq]at*;omega) (by have:=abi s2 t2;simp only[fq]at*;omega);rw[aEu]at td;exact⟨_,h4.2,_,asH,ur,dN,h4.1,rfl,d3.len,nY,td⟩
theorem toL {ops:Array Oper}:ops.toList.toArray=ops:=l4
theorem acJ (N:Nat):∀(i:Nat) (bl:List aM),(kB N i bl).length=bl.length
 |_,[]=>rfl
 |i,_::r=>by simp[kB,acJ N (i+1) r]
theorem KS (N:Nat):∀(i:Nat) (bl:List aM) (k:Nat) (p:aM),(kB N i bl)[k]?=some p->p=gW∨(i+k<N/\(cy p.1||BS p.1)=true/\bl[k]?=some p)
 |_,[],k,p,h=>by simp[kB]at h
 |i,q::r,0,p,h=>by
  simp only[kB,xU,bu]at h;cases hc:(eC i N&&(cy q.1||BS q.1))with
  |false=>rw[hc]at h;exact .inl h.symm
  |true=>
   rw[hc]at h;simp only[cond_true]at h;subst h;simp only[bI]at hc;exact .inr ⟨by simpa using vg hc.1,hc.2,rfl⟩
 |i,q::r,k+1,p,h=>by
  rcases KS N (i+1) r k p (by simpa [kB]using h)with h1|⟨h1,h2,h3⟩
  ·exact .inl h1
  ·exact .inr ⟨by omega,h2,by simpa using h3⟩
theorem asS:∀{a b:List aM},preB a b=true->∀(k:Nat) (p:aM),a[k]?=some p->b[k]?=some p
 |[],_,_,_,_,h=>by simp at h
 |(c,t)::r,(ek,t')::s,hf,k,p,h=>by
  simp only[preB,bI]at hf;obtain⟨⟨⟨h1,h2⟩,h3⟩,h4⟩:=hf;cases k with
  |zero=>
   have av:=Hw h1;have aH:=b8 h2;have ca:t.2=t'.2:=by simpa using h3
   have:t=t':=Sd aH ca;subst av;subst this;simpa using h
  |succ k=>have:=asS h4 k p (by simpa using h);simpa using this
 |_::_,[],h,_,_,_=>by simp[preB]at h
theorem aGS {c:List A} (h:BS c=true):∃sh off code cap,c=[.rows sh off code cap 1]:=by
 unfold BS at h;split at h
 ·rename_i sh off code cap k;have:=b8 h;subst this;exact⟨sh,off,code,cap,rfl⟩
 ·cases h
def WR (ρ cd:Env) (c:List A):Prop:=∀sh off code cap k,c=[.rows sh off code cap k]->off.den cd=off.den ρ/\code.den cd=code.den ρ/\cap.den cd=cap.den ρ
theorem aq5 {ρ cd:Env} {c:List A} (h:(cy c||BS c)=true) (hr:WR ρ cd c):b2 cd c=b2 ρ c:=by
 rcases EG _ _▸h with h|h
 ·rw[n5 h,n5 h]
 ·obtain⟨sh,off,code,cap,rfl⟩:=aGS h;simp only[b2,(hr sh off code cap 1 rfl).2.2]
theorem Mem.sub {ρ cd:Env} {m eJ:Nat->Nat} {bl sq:List aM} {w:aC} (h:Mem w0 ρ m bl w) (hs:∀(i:Nat) (p:aM),sq[i]?=some p->p=gW∨(bl[i]?=some p/\(cy p.1||BS p.1)=true/\eJ i=m i/\p.1.map (A.den cd eJ)=p.1.map (A.den ρ m)/\WR ρ cd p.1)):Mem w0 cd eJ sq w:=by
 have nh:b2 cd gW.1=0:=by simp[gW,b2]
 refine⟨h.ext,h.kE,h.mE,h.lq,h.ia,h.kp,λi cs t hi aA=>?_,λi sh off code cap kind t hi=>?_,λi j p q hi aR he=>?_⟩
 ·rcases hs i _ hi with h1|⟨h1,_,h3,h4,_⟩
  ·cases h1;simp[cy]at aA
  ·rw[h3,h4];exact h.gP i cs t h1 aA
 ·rcases hs i _ hi with h1|⟨h1,h2,h3,_,h5⟩
  ·cases h1;intro ag;exact absurd rfl ag
  ·obtain⟨av,aH,ca⟩:=h5 sh off code cap kind rfl;have:=h.rws i sh off code cap kind t h1;unfold wL at this⊢;rw[av,aH,ca,h3];exact this
 ·rcases hs i _ hi with h1|⟨h1,h2,h3,_,h5⟩
  ·subst h1;exact .inr (.inr (.inl nh))
  ·rcases hs j _ aR with g1|⟨g1,g2,g3,_,g5⟩
   ·subst g1;exact .inr (.inr (.inr nh))
   ·rw[aq5 h2 h5,aq5 g2 g5];exact h.inj i j p q h1 g1 (by rw[<-h3,<-g3];exact he)
theorem dr.kB {n nb:Nat} {ρ:Env} {bl:List aM} (h:dr n nb ρ bl) (N:Nat):dr n nb ρ (Go.bX.kB N 0 bl):=λp hp=>by
 obtain⟨i,hi⟩:=List.mem_iff_getElem?.1 hp;rcases KS N 0 bl i p hi with h1|⟨_,_,h3⟩
 ·subst h1;intro a ha;simp only[gW,List.mem_singleton]at ha;subst ha;exact⟨⟨I.dX _ _,I.dX _ _,I.dX _ _⟩,⟨by simp[I.bC],by rw[I.bC];exact y3 (kh []) (u1 (by simp) (λ_ h=>by cases h))⟩,by simp[I.bC]⟩
 ·exact h p (fw h3)
theorem atn {n nb:Nat} {ρ ae:Env} {c:List A} (cm:∀a∈c,A.ok n nb ρ a) (ha:agree n ρ ae) (back:Bool):cond back (WR ae ρ c) (WR ρ ae c):=by
 have key:∀sh off code cap k,c=[.rows sh off code cap k]->off.den ae=off.den ρ/\code.den ae=code.den ρ/\cap.den ae=cap.den ρ:=λsh off code cap k hc=>by
  have:=cm _ (by rw[hc];exact List.mem_singleton.2 rfl);obtain⟨⟨h1,h2,h3⟩,_⟩:=this;exact⟨I.cq ha h1,I.cq ha h2,I.cq ha h3⟩
 cases back with
 |true=>exactλsh off code cap k hc=>by obtain⟨h1,h2,h3⟩:=key sh off code cap k hc;exact⟨h1.symm,h2.symm,h3.symm⟩
 |false=>exact key
theorem aEA {N:Nat} {tm:List V} {bl:List aM} {o:Oper} {a:Act} {w:aC} {v:bf} (aA:Uu N tm bl o=true) (h:G5 P o a w v):(execOp a.eval o).run P w= .ok (.value v) w:=by
 rcases h with h|⟨f,args,h,_⟩
 ·exact h
 ·exfalso;have key:∀s:Sem bf,(do pure (mx (<-s)):Sem Next).run P w= .ok (.enter f args) w->False:=λs hs=>by
   simp only[jS]at hs;cases hx:s.run P w with
   |ok u w'=>rw[hx]at hs;simp at hs
   |halt x w'=>rw[hx]at hs;simp at hs
  unfold Uu at aA;split at aA
  ·rename_i op t x y u gH;exact key (eqGuard op t x y (a.eval x) (a.eval y) >>= λ_=>binOp op t (a.eval x) (a.eval y)) (by simpa [execOp,gH]using h)
  ·rename_i t x i gH;exact key (Instr.indexAt t (a.eval x) (a.eval i)) (by simpa [execOp,gH]using h)
  ·rename_i t x lo hi fE gH;exact key (uW t (a.eval x) (lo.map a.eval) (hi.map a.eval) (fE.map a.eval)) (by simpa [execOp,gH]using h)
  ·rename_i t p gH;exact key (pZ t (a.eval p)) (by simpa [execOp,gH]using h)
  ·cases aA
theorem aEz {tm:List V} {o:Oper} {a:Act} {w:aC} {v:bf} (aA:OX tm o=true) (h:G5 P o a w v):(execOp a.eval o).run P w= .ok (.value v) w:=by
 rcases h with h|⟨f,args,h,_⟩
 ·exact h
 ·exfalso;have key:∀s:Sem bf,(do pure (mx (<-s)):Sem Next).run P w= .ok (.enter f args) w->False:=λs hs=>by
   simp only[jS]at hs;cases hx:s.run P w with
   |ok u w'=>rw[hx]at hs;simp at hs
   |halt x w'=>rw[hx]at hs;simp at hs
  unfold OX at aA;split at aA
  ·rename_i t x lo hi fE gH;exact key (uW t (a.eval x) (lo.map a.eval) (hi.map a.eval) (fE.map a.eval)) (by simpa [execOp,gH]using h)
  ·cases aA
theorem aEB {ops:Array Oper} {N:Nat} {tm:List V} {bl:List aM} {o:Oper} {a:Act} {w:aC} {v:bf} (aA:Ut N tm bl o=true) (h:G5 P o a w v):(execOp a.eval o).run P w= .ok (.value v) w:=by
 rcases h with h|⟨f,args,h,_⟩
 ·exact h
 ·exfalso;have key:∀s:Sem bf,(do pure (mx (<-s)):Sem Next).run P w= .ok (.enter f args) w->False:=λs hs=>by
   simp only[jS]at hs;cases hx:s.run P w with
   |ok u w'=>rw[hx]at hs;simp at hs
   |halt x w'=>rw[hx]at hs;simp at hs
  unfold Ut at aA;split at aA
  ·rename_i x gH;simp[execOp,gH]at h
  ·rename_i x gH;simp[execOp,gH]at h
  ·rename_i x i gH;exact key (Instr.extract (a.eval x) i) (by simpa [execOp,gH]using h)
  ·rename_i s x i gH;exact key (Instr.fieldAt s (a.eval x) i) (by simpa [execOp,gH]using h)
  ·rename_i t p gH;exact key (pZ t (a.eval p)) (by simpa [execOp,gH]using h)
  ·rename_i t x lo hi fE gH;exact key (uW t (a.eval x) (lo.map a.eval) (hi.map a.eval) (fE.map a.eval)) (by simpa [execOp,gH]using h)
  ·cases aA
theorem ayP {ops:Array Oper} {Q:Exit->Act->aC->Prop} {inl:my} (di:im S P gl w0 cal) (hg:fJ gl w0) (nV:rn S L w0 P inl) (tW:∀c a w,¬Q (.panic c) a w)
 {N e9:Nat} {p7:List aM} {cM:Env} {m0:Nat->Nat} (cF:N<=p7.length) (oZ:dr e9 p7.length cM p7):∀(f:Nat) {listed:Array Bool} {n:Nat} {ρ:Env} {m:Nat->Nat} {tm:List V} {bl:List aM} {a:Act} {w:aC} {G:fx} {k:iK},
 R w0 n ρ m tm bl a w->ft e9 p7.length cM m0 n bl.length ρ m->(∀(k:Nat) (p:aM),(kB N 0 p7)[k]?=some p->(kB N 0 bl)[k]?=some p)->(C3 P gl cal inl ops N (kB N 0 p7) f listed n tm bl k).holds S L G ρ->mz S L w0 k n bl.length ρ m G (Q .normal)->wpAnyH P .any ops Q (λw=>Mem w0 cM m0 (kB N 0 p7) w) f listed a w:=by
 have down:∀{n:Nat} {ρ:Env} {m:Nat->Nat} {bl:List aM} {w:aC},ft e9 p7.length cM m0 n bl.length ρ m->(∀(k:Nat) (p:aM),(kB N 0 p7)[k]?=some p->(kB N 0 bl)[k]?=some p)->Mem w0 ρ m bl w->Mem w0 cM m0 (kB N 0 p7) w:=λhl hp hm=>by
  refine hm.sub λi p hi=>?_;rcases KS N 0 p7 i p hi with h1|⟨h1,h2,h3⟩
  ·exact .inl h1
  ·refine .inr ?_;rcases KS N 0 _ i p (hp i p hi)with g1|⟨_,_,g3⟩
   ·subst g1;simp[gW,cy,BS]at h2
   ·exact⟨g3,h2,(hl.hm i (by omega)).symm,(yx (oZ p (fw h3)) hl.ha hl.hm).symm,atn (oZ p (fw h3)) hl.ha true⟩
 have up:∀{n:Nat} {ρ:Env} {m:Nat->Nat} {bl:List aM} {w:aC},ft e9 p7.length cM m0 n bl.length ρ m->(∀(k:Nat) (p:aM),(kB N 0 p7)[k]?=some p->(kB N 0 bl)[k]?=some p)->Mem w0 cM m0 (kB N 0 p7) w->Mem w0 ρ m (kB N 0 bl) w:=λ{n ρ m bl w} hl hp hm=>by
  refine hm.sub λi p hi=>?_;rcases KS N 0 bl i p hi with h1|⟨h1,h2,h3⟩
  ·exact .inl h1
  ·refine .inr ?_;have hlt:i<(kB N 0 p7).length:=by rw[acJ];omega
   have an:=hp i _ (lA hlt);rw[hi]at an;have an:p=(kB N 0 p7)[i]:=iI an;have h0:(kB N 0 p7)[i]?=some p:=by rw[lA hlt,an]
   rcases KS N 0 p7 i p h0 with g1|⟨_,_,g3⟩
   ·subst g1;simp[gW,cy,BS]at h2
   ·exact⟨h0,h2,hl.hm i (by omega),yx (oZ p (fw g3)) hl.ha hl.hm,atn (oZ p (fw g3)) hl.ha false⟩
 intro f;induction f with
 |zero=>
  intro listed n ρ m tm bl a w G k h hl hp ah ag;unfold C3 at ah;unfold wpAnyH;split at ah
  ·rename_i hr;exact⟨hr,ag n ρ m tm bl G a w (ft.refl _ _ _ _) (ga.refl _ _) h ah⟩
  ·exact ah.elim
 |succ f ih=>
  intro listed n ρ m tm bl a w G k h hl hp ah ag;unfold C3 at ah;split at ah
  ·rename_i hr;exact⟨λ_=>ag n ρ m tm bl G a w (ft.refl _ _ _ _) (ga.refl _ _) h ah,λi hi=>by rw[hr]at hi;cases hi⟩
  ·rename_i l o0;split at ah
   ·rename_i i hi;unfold apw at hi;cases yh:Yc ops with
    |false=>rw[yh]at hi;cases hi
    |true=>
    rw[yh,cond_true]at hi;have eT:=Yd hi;have Dq:=JN hi;simp only[bI]at eT;cases aA:ops[i]? with
    |none=>simp only[aA]at ah;exact ah.elim
    |some o=>
     simp only[aA]at ah;have lP:Ut N tm bl o=true∨Uu N tm bl o=true∨OX tm o=true:=by
      have:=eT.1;simp only[aA,EG,bI]at this;rcases this with(h|h)|h
      ·exact .inl h
      ·exact .inr h.2
      ·exact .inr (.inr h.2)
     obtain⟨cR,o3,jW⟩:=Ov h.t ah;have h:R w0 n ρ m cR bl a w:=⟨o3,h.d,h.b,h.bK⟩;have h8:=down hl hp h.bK;rcases jW with⟨hw,ah⟩|⟨hw,ah⟩
     ·have hlen:(kB N 0 bl).length=bl.length:=acJ N 0 bl;obtain⟨ae,n',v,BN,nS,⟨hv,val,hr,an⟩,Lb⟩:=ag5 (L:=L) (bl:=kB N 0 bl) di (by rw[hlen];exact h.b.kB N) hg ⟨w,up hl hp h8⟩ (by rw[hlen];exact o3) o G _ ah;rw[hlen]at hv;have hy:YieldsIf P ops (λw=>Mem w0 cM m0 (kB N 0 p7) w) o val a:= .inl ⟨hw,λw' ym=>lP.elim (λhf=>aEB (ops:=ops) hf (an w' (up hl hp ym))) (λhf=>hf.elim (λhf=>aEA hf (an w' (up hl hp ym))) (λhf=>aEz hf (an w' (up hl hp ym))))⟩;refine wpAnyH_take aA yh eT.2 (by simpa using Dq) (λc a w hp=>absurd hp (tW _ _ _)) hy h8 ?_;have hlt:ft n bl.length ρ m n' bl.length ae m:=⟨BN,nS,b1 _,λ_ _=>rfl⟩;exact ih ⟨fo.put (o3.ext nS BN (b1 _) (λ_ _=>rfl)) o.dst hv hr,by rw[put_defers];exact h.d,h.b.ext nS BN (b1 _),h.bK.sP h.b nS⟩ (hl.trans hlt) hp Lb (ag.later hlt (ga.refl _ _))
     ·refine wpAnyH_take aA yh eT.2 (by simpa using Dq) (λc a w hp=>absurd hp (tW _ _ _)) (.inr ⟨hw,rfl⟩) h8 ?_;exact ih (h.skip o.dst) hl hp ah ag
   split at ah
   ·rename_i i hi;unfold asB at hi;cases yh:Yc ops with
    |false=>rw[yh]at hi;cases hi
    |true=>
    rw[yh,cond_true]at hi;have eT:=Yd hi;have Dq:=JN hi;simp only[bI]at eT;cases aA:ops[i]? with
    |none=>simp only[aA]at ah;exact ah.elim
    |some o=>
     simp only[aA]at ah;obtain⟨cR,o3,jW⟩:=Ov h.t ah;have h:R w0 n ρ m cR bl a w:=⟨o3,h.d,h.b,h.bK⟩;have h8:=down hl hp h.bK;rcases jW with⟨_,ah⟩|⟨hw,ah⟩
     ·exact ah.elim
     ·refine wpAnyH_take aA yh eT.2 (by simpa using Dq) (λc a w hp=>absurd hp (tW _ _ _)) (.inr ⟨hw,rfl⟩) h8 ?_;exact ih (h.skip o.dst) hl hp ah ag
   unfold wpAnyH;refine⟨λhr=>absurd hr o0,λi hi=>?_⟩;have eT:=allT_holds ah i hi;unfold wpOp;cases aA:ops[i]? with
   |none=>simp only[aA]at eT;exact eT.elim
   |some o=>
    simp only[aA]at eT⊢;obtain⟨cR,o3,jW⟩:=Ov h.t eT;have h:R w0 n ρ m cR bl a w:=⟨o3,h.d,h.b,h.bK⟩;rcases jW with⟨hw,O5⟩|⟨hw,O5⟩
    ·rw[if_pos hw];refine .inl (auc di hg nV h O5 λn' ae m' cR bF fm eE w' h1 h2 h3 h4=>?_);cases hf:preB (kB N 0 p7) (kB N 0 bF)with
     |false=>rw[hf]at h4;exact h4.elim
     |true=>
      rw[hf,cond_true]at h4;have FE:=hl.trans h1;have hf:=asS hf;exact⟨down FE hf h3.bK,ih h3 FE hf h4 (ag.later h1 h2)⟩
    ·rw[if_neg (by simp[hw])];exact⟨down hl hp h.bK,ih (h.skip o.dst) hl hp O5 ag⟩
theorem Kx {inl:my} {li:Nat->Option fB} {rounds:Nat} (hm:P.follows .mixedOrders=true) (di:im S P gl w0 cal) (hg:fJ gl w0) (nV:rn S L w0 P inl):∀(c:Code),ZN rd S L w0 P c (p8 P gl cal inl li rounds c):=by
 intro c;induction c with
 |skip=>intro hd n tm bl k G ρ m a w Q h ah ag;exact wpIn_skip (ag .normal n ρ m tm bl G a w (ft.refl _ _ _ _) (ga.refl _ _) h ah)
 |exit id=>intro hd n tm bl k G ρ m a w Q h ah ag;exact wpIn_exit (ag (.exit id) n ρ m tm bl G a w (ft.refl _ _ _ _) (ga.refl _ _) h ah)
 |ret=>intro hd n tm bl k G ρ m a w Q h ah ag;exact wpIn_ret (ag .ret n ρ m tm bl G a w (ft.refl _ _ _ _) (ga.refl _ _) h ah)
 |region id ops draw=>
  intro hd n tm bl k G ρ m a w Q h ah ag;have ac9:mz S L w0 (k .normal) n bl.length ρ m G (uN Q .normal):=λn' ae m' cR bF fm eE w' h1 h2 h3 h4=>ag .normal n' ae m' cR bF fm eE w' h1 h2 h3 h4;cases draw with
  |false=>
   simp only[p8,cond_false]at ah;refine aPq hd ?_;exact Wj di hg nV ops.toList h ah ac9
  |true=>
   simp only[p8,cond_true]at ah;cases aB:(My ops (OV P cal ops)&&X4 P (ops.toList.take (OV P cal ops)))with
   |false=>
    simp only[aB,cond_false]at ah;cases hsz:cV (ops.toList.filter λo=> !afV o).length 12 with
    |false=>simp only[hsz,cond_false]at ah;exact ah.elim
    |true=>
     simp only[hsz,cond_true]at ah;have xb:R w0 n ρ m tm bl a w.drew:=⟨h.t,h.d,h.b,h.bK.grow (Ye (sd w))⟩;refine as5 hm hd (wpAny_of_held (S:=λw=>Mem w0 ρ m (kB (OW ops tm bl) 0 bl) w) _ _ _ _ ?_);exact ayP di hg nV (λc a w h=>h) (N:=OW ops tm bl) (by unfold OW;cases afW ops<;>cases ops.toList.any UY<;>simp<;>exact Nat.min_le_left _ _) h.b ops.size xb (ft.refl _ _ _ _) (λ_ _ h=>h) ah ac9
   |true=>
    simp only[aB,cond_true]at ah;simp only[bI]at aB;have hle:OV P cal ops<=ops.toList.length:=by
     have h1:=aB.1;simp only[My,bI]at h1;simpa using gq h1.1.1.2
    generalize OV P cal ops=o0 at*;have xb:R w0 n ρ m tm bl a w.drew:=⟨h.t,h.d,h.b,h.bK.grow (Ye (sd w))⟩;have key:=aVI (P:=P) (Q:=uN Q) (a:=a) (w:=w) (l:=ops.toList) (C:=λw'=>Mem w0 ρ m bl w') o0 (MP P ops) hm (by rw[toL];exact aB.1) (λw' ym=>xb.bK.grow ym) (λj o aR aA gx b w'=>by
     have:=aV4 (l:=ops.toList) (P:=P) aB.2 aR aA gx b w';rw[toL]at this;exact this) (by
     rw[toL];refine Us di hg h.b ⟨_,h.bK⟩ _ (b1 _) (agree.refl _ _) h.t h.d ah λn' ae cR wQ h1 h2 h3 h4 h5 il b w' Dl yc Pe=>?_;have hl:ft n bl.length ρ m n' bl.length ae m:=⟨h1,h2,b1 _,λ_ _=>rfl⟩;have aC4:=(xb.bK.grow yc).sP h.b h2;refine aaS (S:=S) (L:=L) (w0:=w0) (P:=P) (K:=λb w'=>wpList P ops (calm (uN Q)) (ops.toList.drop o0) b w') Dl Pe xb.bK.ext.size xb.bK.ia (ops.toList.take o0) 0 (λj aR=>?_) (by simp;exact CI (by simpa using hle)) ⟨h3,h4,h.b.ext h2 h1 (b1 _),aC4⟩ (λgR p qP hp=> .inl ?_) rfl (λt=>⟨λ⟨j,o,aR,_⟩=>by omega,λ_=>rfl⟩) h5 (λLS y9 aYB aum aXF ZT akN sR k1 k2 k3 k4=>Wj di hg nV _ k3 k4 ((ac9.later hl (ga.refl _ _)).later k1 k2)) h4
     ·have aET:j<o0:=by simp at aR;omega
      rw[tF,if_pos aET];simp
     ·rw[yt (h.b _ (fw qP)) h2]at hp;exact xb.bK.lt qP hp)
    rw[toL]at key;exact as5 hm hd key
 |seq x y aGJ UT=>
  intro hd n tm bl k G ρ m a w Q h ah ag;have FB:rd=none∨pK x=true:=hd.imp id λh=>by simp only[pK,bI]at h;exact h.1
  have ub:rd=none∨pK y=true:=hd.imp id λh=>by simp only[pK,bI]at h;exact h.2
  refine wpIn_seq (aGJ FB n tm bl _ G ρ m a w _ h ah λx n' ae m' cR bF fm eE w' h1 h2 h3 h4=>?_);cases x with
  |normal=>exact UT ub n' cR bF k fm ae m' eE w' Q h3 h4 (ag.later h1 h2)
  |exit id=>exact ag (.exit id) n' ae m' cR bF fm eE w' h1 h2 h3 h4
  |ret=>exact ag .ret n' ae m' cR bF fm eE w' h1 h2 h3 h4
 |cond x y z UT aqn=>
  intro hd n tm bl k G ρ m a w Q h ah ag;simp only[p8]at ah;have hx:=c4 h.t x;split at ah
  ·rename_i b hb;rw[hb]at hx;have et:a.eval x= .bool (b.den ρ):=hx.2;have FB:rd=none∨pK y=true:=hd.imp id λh=>by simp only[pK,bI]at h;exact h.1
   have ub:rd=none∨pK z=true:=hd.imp id λh=>by simp only[pK,bI]at h;exact h.2
   refine wpIn_cond et ?_;split at ah
   ·rename_i v;cases v with
    |true=>simp only[cond_true]at ah;exact UT FB n tm bl k G ρ m a w Q h ah ag
    |false=>simp only[cond_false]at ah;exact aqn ub n tm bl k G ρ m a w Q h ah ag
   ·simp only[T.holds]at ah;cases hd:bO.den ρ b with
    |true=>exact UT FB n _ bl k G ρ m a w Q ⟨Mx hd h.t,h.d,h.b,h.bK⟩ (ah.1 (by simpa using hd)) ag
    |false=>exact aqn ub n _ bl k G ρ m a w Q ⟨Mx hd h.t,h.d,h.b,h.bK⟩ (ah.2 (by simpa using hd)) ag
  ·exact ah.elim
 |block id x ih=>
  intro hd n tm bl k G ρ m a w Q h ah ag;refine wpIn_block (ih hd n tm bl _ G ρ m a w _ h ah λx n' ae m' cR bF fm eE w' h1 h2 h3 h4=>?_);cases x with
  |normal=>exact ag .normal n' ae m' cR bF fm eE w' h1 h2 h3 h4
  |ret=>exact ag .ret n' ae m' cR bF fm eE w' h1 h2 h3 h4
  |exit FN=>
   simp only at h4;simp only[X.to,Exit.inBlock];cases hb:aU FN id with
   |true=>
    simp only[hb,cond_true]at h4;rw[if_pos (b8 hb)];exact ag .normal n' ae m' cR bF fm eE w' h1 h2 h3 h4
   |false=>
    simp only[hb,cond_false]at h4;rw[if_neg (λe=>by subst e;rw[show aU FN FN=true from JM FN]at hb;cases hb)];exact ag (.exit FN) n' ae m' cR bF fm eE w' h1 h2 h3 h4
 |loop x ih=>
  intro hd n tm bl k G ρ m a w Q h ah ag;simp only[p8]at ah;split at ah
  ·exact aIi (c:=x) hd ih h ah ag
  ·exact wpIn_loop_rounds rounds (ath (c:=x) hd ih rounds h ah ag)
 |_=>intro hd n tm bl k G ρ m a w Q h ah ag;exact ah.elim
def Jo (a:Act):ResultVar->Sem bf
 | .tmp t=>Yf (a.tmps.getD t undef)
 | .cell x t=>do loadVar t (<-asAddr (a.tmps.getD x undef))
theorem aPw {n:Nat} {ρ:Env} {m:Nat->Nat} {bl:List aM} {tm:List V} {a:Act} {w:aC} {r:ResultVar} {u:W} (hg:fJ gl w0) (h:R w0 n ρ m tm bl a w) (hr:RF P gl bl tm r=some u):
 u.ok n bl.length ρ/\(Jo a r).run P w= .ok (u.den ρ m) w:=by
 cases r with
 |tmp t=>
  simp only[RF]at hr;cases aB:tm[t]? with
  |none=>simp[aB]at hr
  |some v=>
   obtain⟨h1,x,h2,h3⟩:=h.t.2 t v aB;simp only[aB]at hr;cases v with
   |w aSl=>
    simp only[bu]at hr;subst hr;refine⟨h1,?_⟩;have:a.tmps.getD t undef=aSl.den ρ m:=by simp[h2];exact h3
    simp only[Jo,this];rfl
   |_=>simp at hr
 |cell x t=>
  simp only[RF]at hr;cases aB:tm[x]? with
  |none=>simp[aB]at hr
  |some v=>
   obtain⟨h1,y,h2,h3⟩:=h.t.2 x v aB;simp only[aB]at hr;cases v with
   |jQ l=>simp at hr
   |any=>simp at hr
   |sK _ _ _=>simp at hr
   |sZ _ _=>simp at hr
   |w q=>
    cases q with
    |agg l=>simp at hr
    |one p=>
     simp only at hr;have hy:a.tmps.getD x undef=p.den ρ m:=by simp[h2];exact h3
     cases hc:Kt bl gl p with
     |none=>simp[hc]at hr
     |some cs=>
      obtain⟨g,o,hp,cm,hcell⟩:=abE h.bK h.b hg hc;simp only[Jo,hy,hp];cases rD:lu P t with
      |none=>simp[hc,rD]at hr
      |some b=>
       cases b with
       |true=>
        cases hs:gI P t with
        |none=>simp[hc,rD,hs]at hr
        |some k=>
         simp only[hc,rD,hs]at hr;cases ag:cV k cs.length with
         |false=>simp[ag]at hr
         |true=>
          simp only[ag,cond_true,bu]at hr;subst hr;have ag:=gq ag;refine⟨λa h=>cm a (mv h),?_⟩;have hl:=Sl (P:=P) w ⟨g,o,none⟩ ((cs.take k).map (A.den ρ m)) λj v aR=>by
           rw[lk];rw[qw]at aR;cases an:(cs.take k)[j]? with
           |none=>simp[an]at aR
           |some a=>
            simp only[an,AT,bu]at aR;subst aR;refine hcell j a ?_;rw[tF]at an;split at an
            ·exact an
            ·cases an
          simp only[ps,m4,CI ag]at hl;simp[asAddr,loadVar,tr rD,kW hs,hl,W.den]
       |false=>
        cases cs with
        |nil=>simp[hc,rD]at hr
        |cons z r=>
         simp only[hc,rD,bu]at hr;subst hr;refine⟨cm z (by simp),?_⟩;have:=hcell 0 z rfl;simp only[m3]at this;simp[asAddr,loadVar,tr rD,this,W.den]
theorem atb {n:Nat} {ρ:Env} {m:Nat->Nat} {bl:List aM} {tm:List V} {a:Act} {w:aC} (hg:fJ gl w0) (h:R w0 n ρ m tm bl a w):∀{rs:List ResultVar} {l:List W},Jp P gl bl tm rs=some l->
 (∀u∈l,W.ok n bl.length ρ u)/\(rs.mapM (m:=Sem) (Jo a)).run P w= .ok (l.map (W.den ρ m)) w
 |[],l,hr=>by simp[Jp]at hr;subst hr;exact⟨by simp,by simp⟩
 |r::s,l,hr=>by
  simp only[Jp]at hr;cases h1:RF P gl bl tm r with
  |none=>simp[h1]at hr
  |some u=>
   cases h2:Jp P gl bl tm s with
   |none=>simp[h1,h2]at hr
   |some l'=>
    simp only[h1,h2,bu]at hr;subst hr;have av:=aPw hg h h1;have aH:=atb hg h h2;refine⟨λx hx=>by rcases List.mem_cons.1 hx with rfl|hx;exact av.1;exact aH.1 x hx,?_⟩;rw[List.mapM_cons,jS];simp only[av.2,aH.2,j6,jS,kZ,df]
theorem ahc {fn:Func} {n:Nat} {ρ:Env} {m:Nat->Nat} {bl:List aM} {tm:List V} {a:Act} {w:aC} {k:RK} {G:fx} (hg:fJ gl w0) (h:R w0 n ρ m tm bl a w) (ah:(RD P gl fn n tm bl k).holds S L G ρ):
 ∃v val,V.ok n bl.length ρ v/\v.rel ρ m val/\(results fn a.tmps).run P w= .ok val w/\(k n v bl).holds S L G ρ:=by
 unfold RD at ah;cases hr:Jp P gl bl tm fn.results.toList with
 |none=>
  simp only[hr]at ah;cases aA:agv tm fn.results.toList with
  |none=>simp[aA,T.holds]at ah
  |some v=>
   simp only[aA]at ah;obtain⟨t,e,hv⟩:∃t,fn.results.toList=[.tmp t]/\tm[t]?=some v:=by
    unfold agv at aA;split at aA
    ·rename_i t he;refine⟨t,he,?_⟩;split at aA<;>first|(cases aA;assumption)|cases aA
    ·cases aA
   obtain⟨h1,x,h2,h3⟩:=h.t.2 t v hv;refine⟨v,x,h1,h3,?_,ah⟩;have qJ:fn.results=#[.tmp t]:=by rw[<-l4 (xs:=fn.results),e]
   have ex:a.tmps.getD t undef=x:=by simp[h2]
   have e:results fn a.tmps=(do let vs<-fn.results.mapM (Jo a);Yf (if h:vs.size=1 then vs[0]else .tuple vs)):=by
    unfold results
    congr 1
   rw[e,qJ,aWk];simp[jS,Sem.run_map,j6,Jo,h2]
 |some l=>
  obtain⟨h1,h2⟩:=atb hg h hr;have jZ:(results fn a.tmps).run P w= .ok (if h:(l.map (W.den ρ m)).toArray.size=1 then(l.map (W.den ρ m)).toArray[0]else .tuple (l.map (W.den ρ m)).toArray) w:=by
   have e:results fn a.tmps=(do let vs<-fn.results.mapM (Jo a);Yf (if h:vs.size=1 then vs[0]else .tuple vs)):=by
    unfold results
    congr 1
   rw[e,aWk];simp only[jS,Sem.run_map,j6,h2,kZ]
  simp only[hr]at ah;split at ah
  ·rename_i u heq;have heq:=iI heq;subst heq;exact⟨.w u,_,h1 u (by simp),rfl,by rw[jZ];simp,ah⟩
  ·rename_i l' dE heq;have heq:=iI heq;subst heq;refine⟨.jQ l,_,h1,rfl,?_,ah⟩;rw[jZ,dif_neg];intro hs;simp at hs
   match l,hs,dE with
   |[u],_,dE=>exact dE u rfl
  ·rename_i heq;cases heq
theorem Z8 {ρ:Env} {m:Nat->Nat}:∀{vs:List V} {xs:List bf},fN ρ m vs xs->vs.length=xs.length
 |[],[],_=>rfl
 |_::_,_::_,h=>by simp[Z8 h.2]
 |[],_::_,h=>h.elim
 |_::_,[],h=>h.elim
theorem Z6 {n nb:Nat} {ρ:Env} {m:Nat->Nat} (k:Nat):∀{vs:List V} {xs:List bf},(∀v∈vs,V.ok n nb ρ v)->fN ρ m vs xs->G4 n nb ρ m (vs++Ml k) (xs++dw k undef)
 |[],[],_,_=>by
  simp only[eQ];induction k with
  |zero=>trivial
  |succ k ih=>exact⟨by intro x hx;simp at hx,rfl,ih⟩
 |v::r,x::s,h,hr=>⟨h v (by simp),hr.1,Z6 k (λu hu=>h u (e5 _ hu)) hr.2⟩
 |[],_::_,_,h=>h.elim
 |_::_,[],_,h=>h.elim
theorem amu (sC:w0.ds=[]) {li:dv->Nat->Option fB} {rounds:Nat} {inl:my} (hm:P.follows .mixedOrders=true) (di:im S P gl w0 cal) (hg:fJ gl w0) (ih:rn S L w0 P inl):rn S L w0 P (Tb P gl cal inl li rounds):=by
 intro f n vs bl k G ρ m w xs R' hb nk lH hrel ah ag;unfold Tb at ah;cases hf:P.funcs[f]? with
 |none=>simp[hf,T.holds]at ah
 |some fn=>
  cases Di:fn.body with
  |none=>simp[hf,Di,T.holds]at ah
  |some c=>
   simp only[hf,Di]at ah;cases hc:(!(fn.name== "runtime.NumGoroutine")&&cV vs.length fn.ntmps)with
   |false=>simp[hc,T.holds]at ah
   |true=>
    simp only[hc,cond_true]at ah;simp only[bI,Bool.not_eq_true']at hc;have hlen:=Z8 hrel;refine⟨?_,calls_of_wp hf Di ?_⟩
    ·have h1:¬fn.name= "runtime.NumGoroutine" :=by have:=hc.1;simpa using this
     simp[callFunc,hf,Di,h1]
    ·have hR:R w0 n ρ m (vs++Ml (fn.ntmps-vs.length)) bl {tmps:=xs.toArray++CJ (fn.ntmps-xs.toArray.size) undef,defers:=[]} w:=by
      refine⟨?_,sC.symm,hb,nk⟩;have:=SW (Z6 (fn.ntmps-vs.length) lH hrel);have e:(xs++dw (fn.ntmps-vs.length) undef).toArray=xs.toArray++CJ (fn.ntmps-xs.toArray.size) undef:=by
       simp[hlen]
      rw[e]at this;exact this
     refine wpIn_wide.1 (Kx (rd:=none) hm di hg ih c (.inl rfl) n _ bl _ G ρ m _ w _ hR ah λx n' ae m' cR bF fm eE w' h1 h2 h3 h4=>?_);cases x with
     |exit id=>exact h4.elim
     |normal=>
      obtain⟨v,val,bw,bz,cY,fa⟩:=ahc hg h3 h4;exact⟨h3.d.trans sC,val,cY,ag n' v bF fm ae m' w' val h1 h2 bw bz h3.b h3.bK fa⟩
     |ret=>
      obtain⟨v,val,bw,bz,cY,fa⟩:=ahc hg h3 h4;exact⟨h3.d.trans sC,val,cY,ag n' v bF fm ae m' w' val h1 h2 bw bz h3.b h3.bK fa⟩
theorem abw (sC:w0.ds=[]) {li:dv->Nat->Option fB} {rounds:Nat} (hm:P.follows .mixedOrders=true) (di:im S P gl w0 cal) (hg:fJ gl w0):∀d,rn S L w0 P (NW P gl cal li rounds d)
 |0=>λf n vs bl k G ρ m w xs R' _ _ _ _ ah _=>ah.elim
 |d+1=>amu sC hm di hg (abw sC hm di hg d)
def xY (S:Nat->List Int->List Int->Prop) (L:V->Env->Prop) (w0:fg) (P:cc) (bc:qz):Prop:=∀f g,bc f=some g->∀n vs bl k G ρ m w xs R',dr n (pY bl) ρ bl->Mem w0 ρ m bl w->(∀v∈vs,V.ok n bl.length ρ v)->fN ρ m vs xs->(g n vs bl k).holds S L G ρ->G8 S L w0 k n bl.length ρ m G R'->(callFunc f xs.toArray).run P w= .ok (.enter f xs.toArray) w/\oo P f xs.toArray w R'
theorem aLF {bc:qz} {inl:my} (oB:xY S L w0 P bc) (h:rn S L w0 P inl):rn S L w0 P (agx bc inl):=by
 intro f n vs bl k G ρ m w xs R' h1 h2 h3 h4 h5 h6;unfold agx at h5;cases hf:bc f with
 |none=>rw[hf]at h5;exact h f n vs bl k G ρ m w xs R' h1 h2 h3 h4 h5 h6
 |some g=>rw[hf]at h5;exact oB f g hf n vs bl k G ρ m w xs R' h1 h2 h3 h4 h5 h6
theorem NV (sC:w0.ds=[]) {bc:qz} {li:dv->Nat->Option fB} {rounds:Nat} (hm:P.follows .mixedOrders=true) (di:im S P gl w0 cal) (hg:fJ gl w0) (oB:xY S L w0 P bc):∀d,rn S L w0 P (Fc bc P gl cal li rounds d)
 |0=>λf n vs bl k G ρ m w xs R' _ _ _ _ ah _=>ah.elim
 |d+1=>amu sC hm di hg (aLF oB (NV sC hm di hg oB d))
theorem Mem.extends {b w w':aC} {ρ:Env} {m:Nat->Nat} {bl:List aM} (h:Mem ⟨b,w,λ_=>False,λ_=>False,[]⟩ ρ m bl w'):w.Extends w':=by
 have tY:∀i:Nat,i<w.heap.size->w'.heap[i]?=w.heap[i]?:=λi hi=>h.kp i hi id;exact⟨h.kE,h.mE,h.lq,h.ia,λa ha=>by simp only[oq,tY a.block ha],λa ha=>by simp only[EH,tY a.block ha],tY⟩
theorem aAb {b w:aC} {li:dv->Nat->Option fB} {rounds d:Nat} (hm:P.follows .mixedOrders=true) (di:im S P gl ⟨b,w,λ_=>False,λ_=>False,[]⟩ cal) (hg:fJ gl ⟨b,w,λ_=>False,λ_=>False,[]⟩) (f:dv) (n:Nat) (vs:List V) (ρ:Env) (xs:List bf) (he:b.Extends w)
 (lH:∀v∈vs,V.ok n 0 ρ v) (hrel:fN ρ (λ_=>0) vs xs) (ah:(NW P gl cal li rounds d f n vs [] λn' v _=> .leaf v).holds S (λv ae=>L v ae) (λ_ _=>False) ρ):
 oo P f xs.toArray w λe w'=>∃v ae m val nb,e= .returned val/\v.rel ae m val/\(∃n',V.ok n' nb ae v)/\L v ae/\w.Extends w':=by
 have nk:Mem ⟨b,w,λ_=>False,λ_=>False,[]⟩ ρ (λ_=>0) [] w:=⟨he,rfl,rfl,rfl,b1 _,λ_ _ _=>rfl,λi cs t h=>by simp at h,λi sh off code cap kind t h=>by simp at h,λi j p q h=>by simp at h⟩;refine(abw rfl (L:=L) (li:=li) (rounds:=rounds) hm di hg d f n vs [] (λn' v _=> .leaf v) (λ_ _=>False) ρ (λ_=>0) w xs _ (λp hp=>by simp at hp) nk lH hrel ah ?_).2;intro n' v bF fm ae m' w' val h1 h2 h3 h4 h5 h6 h7;exact⟨v,ae,m',val,_,rfl,h4,⟨n',h3⟩,h7,h6.extends⟩
end
end Go.bX
namespace Go.bX
open M
def a8.sym (s:Nat):a8->A
 |int k lo hi=> .int k ⟨.var s,lo,hi⟩
 |str=> .str (.var s)
 |bool=> .bool (.eq (.var s) (.const 1))
inductive D where
 |str
 |int (k:eB) (lo hi:Int)
 |bool
 |agg (k:eB) (n:Nat) (lo hi:Int)
 |mix (l:List a8)
 |AJ (l:List UInt8)
 |kF (k:eB) (c:Int)
def aT (lo hi:Int):Nat->List (Int×Int)
 |0=>[]
 |n+1=>(lo,hi)::aT lo hi n
noncomputable def D.bds:D->List (Int×Int)
 |str=>[(0,p3)]
 |int _ lo hi=>[(lo,hi)]
 |bool=>[(0,1)]
 |agg _ n lo hi=>aT lo hi n
 |mix l=>l.map a8.gu
 |AJ _=>[]
 |kF .. =>[]
def D.num:D->Nat
 |str=>1
 |int .. =>1
 |bool=>1
 |agg _ n _ _=>n
 |mix l=>l.length
 |AJ _=>0
 |kF .. =>0
def D.val:D->List Int->bf
 |str,zs=> .string (eS (bD (zs.getD 0 0)))
 |int k _ _,zs=> .int k (zs.getD 0 0)
 |bool,zs=> .bool (decide (zs.getD 0 0=1))
 |agg k n _ _,zs=> .agg ((zs.take n).map (.int k)).toArray
 |mix l,zs=> .agg (tG a8.val l zs).toArray
 |AJ l,_=> .string (eS (yq l))
 |kF k c,_=> .int k c
def xx (k:eB) (lo hi:Int):Nat->Nat->List A
 |_,0=>[]
 |s,n+1=> .int k ⟨.var s,lo,hi⟩::xx k lo hi (s+1) n
def LR:Nat->List a8->List A
 |_,[]=>[]
 |s,c::r=>c.sym s::LR (s+1) r
def D.sym (s:Nat):D->W
 |str=> .one (.str (.var s))
 |int k lo hi=> .one (.int k ⟨.var s,lo,hi⟩)
 |bool=> .one (.bool (.eq (.var s) (.const 1)))
 |agg k n lo hi=> .agg (xx k lo hi s n)
 |mix l=> .agg (LR s l)
 |AJ l=> .one (.str (.const (k5 (yq l))))
 |kF k c=> .one (.int k (bZ.const c))
noncomputable def aX:List D->List (Int×Int)
 |[]=>[]
 |d::r=>d.bds++aX r
def pV:List D->List Int->List bf
 |[],_=>[]
 |d::r,zs=>d.val zs::pV r (zs.drop d.num)
def vR:Nat->List D->List W
 |_,[]=>[]
 |s,d::r=>d.sym s::vR (s+d.num) r
theorem dj:∀{b:List (Int×Int)} {l:List Int},ay b l->l.length=b.length
 |[],[],_=>rfl
 |_::_,_::_,h=>by simp[dj h.2.2]
 |[],_::_,h=>h.elim
 |_::_,[],h=>h.elim
theorem Jn (lo hi:Int):∀n,(aT lo hi n).length=n
 |0=>rfl
 |n+1=>by simp[aT,Jn lo hi n]
theorem D.Nz (d:D):d.bds.length=d.num:=by cases d<;>simp[D.bds,D.num,Jn]
theorem BQ:∀{b b':List (Int×Int)} {l:List Int},ay (b++b') l->ay b (l.take b.length)/\ay b' (l.drop b.length)
 |[],_,_,h=>⟨trivial,h⟩
 |_::_,_,_::_,h=>by
  have ih:=BQ h.2.2;exact⟨⟨h.1,h.2.1,ih.1⟩,ih.2⟩
 |_::_,_,[],h=>h.elim
def kM (ρ:Env) (s:Nat) (zs:List Int):Prop:=∀j,j<zs.length->ρ (s+j)=zs.getD j 0
theorem kM.b0 (ρ:Env) (s:Nat) (zs:List Int):kM (b0 ρ s zs) s zs:=λj aR=>MA zs s ρ j aR
theorem kM.tail {ρ:Env} {s:Nat} {z:Int} {zs:List Int} (h:kM ρ s (z::zs)):ρ s=z/\kM ρ (s+1) zs:=by
 refine⟨by simpa using h 0 (by simp),λj aR=>?_⟩;have:=h (j+1) (by simpa using aR);rw[show s+1+j=s+(j+1) by omega,this];simp
theorem kM.drop {ρ:Env} {s:Nat} {zs:List Int} (h:kM ρ s zs) (k:Nat):kM ρ (s+k) (zs.drop k):=λj aR=>by
 have:=h (k+j) (by simp at aR;omega);rw[show s+k+j=s+(k+j) by omega,this];simp[U]
theorem ahb {ρ:Env} {m:Nat->Nat} {N nb:Nat} {k:eB} {lo hi:Int}:∀(n s:Nat) (zs:List Int),ay (aT lo hi n) (zs.take n)->kM ρ s zs->s+n<=N->
 (∀a∈xx k lo hi s n,A.ok N nb ρ a)/\(xx k lo hi s n).map (A.den ρ m)=(zs.take n).map (.int k)
 |0,s,zs,_,_,_=>by simp[xx]
 |n+1,s,[],h,_,_=>by simp[aT,ay]at h
 |n+1,s,z::zs,h,ha,cF=>by
  have aB:=ha.tail;simp only[aT,l5,ay]at h;obtain⟨h1,h2⟩:=ahb (m:=m) (nb:=nb) (k:=k) (N:=N) n (s+1) zs h.2.2 aB.2 (by omega);refine⟨λa hm=>?_,by simp only[xx,df,A.den,I.de,aB.1,h2,l5]⟩;rcases List.mem_cons.1 hm with rfl|hm
  ·exact⟨I.gU (by omega),by simp only[I.de,aB.1];exact h.1,by simp only[I.de,aB.1];exact h.2.1⟩
  ·exact h1 a hm
theorem a8.RR {ρ:Env} {m:Nat->Nat} {N nb:Nat} (c:a8) {s:Nat} {z:Int} (h0:c.gu.1<=z) (h1:z<=c.gu.2) (hz:ρ s=z) (cF:s<N):(c.sym s).ok N nb ρ/\(c.sym s).den ρ m=c.val z:=by
 cases c with
 |int k lo hi=>exact⟨⟨I.gU cF,by simp only[I.de,hz];exact h0,by simp only[I.de,hz];exact h1⟩,by simp[a8.sym,a8.val,A.den,I.de,hz]⟩
 |str=>exact⟨⟨I.gU cF,by rw[I.de,hz];exact h0,by rw[I.de,hz];exact h1⟩,by simp[a8.sym,a8.val,A.den,I.de,hz]⟩
 |bool=>exact⟨⟨I.gU cF,I.dX _ _⟩,by simp[a8.sym,a8.val,A.den,bO.den,I.de,I.bC,hz]⟩
theorem ar7 {ρ:Env} {m:Nat->Nat} {N nb:Nat}:∀(l:List a8) (s:Nat) (zs:List Int),ay (l.map a8.gu) (zs.take l.length)->kM ρ s zs->s+l.length<=N->
 (∀a∈LR s l,A.ok N nb ρ a)/\(LR s l).map (A.den ρ m)=tG a8.val l zs
 |[],s,zs,_,_,_=>by simp[LR]
 |_::_,s,[],h,_,_=>by simp[ay]at h
 |c::r,s,z::zs,h,ha,cF=>by
  have aB:=ha.tail;simp only[df,kx,l5,ay]at h;obtain⟨h1,h2⟩:=ar7 (m:=m) (nb:=nb) (N:=N) r (s+1) zs h.2.2 aB.2 (by simp at cF;omega);have hc:=c.RR (m:=m) (nb:=nb) (N:=N) h.1 h.2.1 aB.1 (by simp at cF;omega);refine⟨λa hm=>?_,by simp only[LR,df,hc.2,h2,Sm]⟩;rcases List.mem_cons.1 hm with rfl|hm
  ·exact hc.1
  ·exact h1 a hm
theorem D.RR {ρ:Env} {m:Nat->Nat} {N nb:Nat} (d:D) {s:Nat} {zs:List Int} (h:ay d.bds (zs.take d.num)) (ha:kM ρ s zs) (cF:s+d.num<=N):(d.sym s).ok N nb ρ/\(d.sym s).den ρ m=d.val zs:=by
 cases d with
 |str=>
  cases zs with
  |nil=>simp[D.bds,ay]at h
  |cons z r=>
   have aB:=ha.tail;simp only[D.bds,D.num,l5,ay]at h;simp only[D.num]at cF;exact⟨⟨I.gU (by omega),by rw[I.de,aB.1];exact h.1,by rw[I.de,aB.1];exact h.2.1⟩,by simp[D.sym,W.den,A.den,D.val,I.de,aB.1]⟩
 |int k lo hi=>
  cases zs with
  |nil=>simp[D.bds,ay]at h
  |cons z r=>
   have aB:=ha.tail;simp only[D.bds,D.num,l5,ay]at h;simp only[D.num]at cF;exact⟨⟨I.gU (by omega),by simp only[I.de,aB.1];exact h.1,by simp only[I.de,aB.1];exact h.2.1⟩,by simp[D.sym,W.den,A.den,D.val,I.de,aB.1]⟩
 |bool=>
  cases zs with
  |nil=>simp[D.bds,ay]at h
  |cons z r=>
   have aB:=ha.tail;simp only[D.num]at cF;exact⟨⟨I.gU (by omega),I.dX _ _⟩,by simp[D.sym,W.den,A.den,D.val,bO.den,I.de,I.bC,aB.1]⟩
 |agg k n lo hi=>
  have:=ahb (m:=m) (nb:=nb) (k:=k) n s zs h ha cF;exact⟨this.1,by simp only[D.sym,W.den,D.val,this.2]⟩
 |mix l=>
  have:=ar7 (m:=m) (nb:=nb) l s zs h ha cF;exact⟨this.1,by simp only[D.sym,W.den,D.val,this.2]⟩
 |AJ l=>exact⟨⟨I.dX _ _,by rw[I.bC];exact aHh l⟩,by simp[D.sym,W.den,A.den,D.val,I.bC,Ce]⟩
 |kF k c=>exact⟨bZ.qI _ _ c,by simp[D.sym,W.den,A.den,D.val,bZ.const,I.bC]⟩
theorem Xg {ρ:Env} {m:Nat->Nat} {N nb:Nat}:∀(ds:List D) {s:Nat} {zs:List Int},ay (aX ds) zs->kM ρ s zs->s+(aX ds).length<=N->(∀u∈vR s ds,W.ok N nb ρ u)/\(vR s ds).map (W.den ρ m)=pV ds zs
 |[],s,zs,_,_,_=>by simp[vR,pV]
 |d::r,s,zs,h,ha,cF=>by
  have hs:=BQ h;rw[D.Nz]at hs;simp only[aX,fq,D.Nz]at cF;have h1:=d.RR (m:=m) (nb:=nb) hs.1 ha (N:=N) (by omega);have h2:=Xg (m:=m) (nb:=nb) (N:=N) r hs.2 (ha.drop d.num) (by omega);exact⟨λu hu=>by rcases List.mem_cons.1 hu with rfl|hu;exact h1.1;exact h2.1 u hu,by simp[vR,pV,h1.2,h2.2]⟩
def Jq (ds:List D) (s:Nat):V:=match vR s ds with|[u]=> .w u|l=> .jQ l
def mJ (ds:List D) (zs:List Int):bf:=match pV ds zs with|[x]=>x|l=> .tuple l.toArray
def tU (lo hi:Int) (x:bZ):Bool:=decide (lo<=x.lo)&&decide (x.hi<=hi)
def oW (k:eB) (lo hi:Int):List A->Option (List I)
 |[]=>some []
 | .int bJ x::r=>cond (decide (k=bJ)&&tU lo hi x) (match oW k lo hi r with|some l=>some (x.l::l)|none=>none) none
 |_::_=>none
def a8.fit:a8->A->Option I
 |int k lo hi,.int bJ x=>cond (decide (k=bJ)&&tU lo hi x) (some x.l) none
 |str,.str l=>some l
 |bool,.bool (.lit b)=>some (.const (cond b 1 0))
 |_,_=>none
def vq:List a8->List A->Option (List I)
 |[],[]=>some []
 |c::r,a::s=>match c.fit a,vq r s with|some x,some l=>some (x::l)|_,_=>none
 |_,_=>none
def HO:D->V->Option (List I)
 | .int k lo hi,.w (.one (.int bJ x))=>cond (decide (k=bJ)&&tU lo hi x) (some [x.l]) none
 | .agg k n lo hi,.w (.agg l)=>cond (aU l.length n) (oW k lo hi l) none
 | .mix l,.w (.agg s)=>vq l s
 | .str,.w (.one (.str l))=>some [l]
 | .bool,.w (.one (.bool (.lit b)))=>some [.const (cond b 1 0)]
 | .AJ l,.w (.one (.str x))=>match x.fk with|some c=>cond (decide (c=k5 (yq l))) (some []) none|none=>none
 | .kF k c,.w (.one (.int bJ x))=>match x.l.fk with|some d=>cond (decide (k=bJ)&&decide (d=c)) (some []) none|none=>none
 |_,_=>none
def tV:List D->List V->Option (List I)
 |[],[]=>some []
 |d::r,v::s=>match HO d v,tV r s with|some a,some b=>some (a++b)|_,_=>none
 |_,_=>none
theorem On {n:Nat} {ρ:Env} {lo hi:Int} {x:bZ} (h:tU lo hi x=true) (hx:x.ok n ρ):lo<=x.l.den ρ/\x.l.den ρ<=hi:=by
 simp only[tU,bI,decide_eq_true_eq]at h;have:=hx.2;omega
theorem T4 {n nb:Nat} {ρ:Env} {m:Nat->Nat} {k:eB} {lo hi:Int}:∀{l:List A} {r:List I},oW k lo hi l=some r->(∀a∈l,A.ok n nb ρ a)->r.length=l.length/\ay (aT lo hi l.length) (r.map (·.den ρ))/\l.map (A.den ρ m)=(r.map (·.den ρ)).map (.int k)
 |[],r,h,_=>by simp[oW]at h;subst h;exact⟨rfl,trivial,rfl⟩
 | .int bJ x::s,r,h,cm=>by
  simp only[oW]at h;cases hc:(decide (k=bJ)&&tU lo hi x)with
  |false=>simp[hc]at h
  |true=>
   simp only[hc,cond_true]at h;simp only[bI,decide_eq_true_eq]at hc;cases hr:oW k lo hi s with
   |none=>simp[hr]at h
   |some r'=>
    simp only[hr,bu]at h;subst h;obtain⟨h1,h2,h3⟩:=T4 (m:=m) hr λa ha=>cm a (e5 _ ha);have hx:x.ok n ρ:=cm (.int bJ x) (by simp);have hf:=On hc.2 hx;exact⟨by simp[h1],⟨hf.1,hf.2,h2⟩,by simp only[df,h3,A.den,hc.1]⟩
 | .bool _::_,_,h,_=>by simp[oW]at h
 | .ptr .. ::_,_,h,_=>by simp[oW]at h
 | .q5 .. ::_,_,h,_=>by simp[oW]at h
 | .gptr .. ::_,_,h,_=>by simp[oW]at h
 | .slc .. ::_,_,h,_=>by simp[oW]at h
 | .con _::_,_,h,_=>by simp[oW]at h
 | .str _::_,_,h,_=>by simp[oW]at h
theorem a8.aBt {n nb:Nat} {ρ:Env} {m:Nat->Nat} {c:a8} {a:A} {l:I} (h:c.fit a=some l) (cm:a.ok n nb ρ):(c.gu.1<=l.den ρ/\l.den ρ<=c.gu.2)/\a.den ρ m=c.val (l.den ρ):=by
 unfold a8.fit at h;split at h
 ·rename_i k lo hi bJ x;cases hc:(decide (k=bJ)&&tU lo hi x)with
  |false=>simp[hc]at h
  |true=>
   simp only[hc,cond_true,bu]at h;subst h;simp only[bI,decide_eq_true_eq]at hc;exact⟨On hc.2 cm,by simp only[A.den,a8.val,hc.1]⟩
 ·simp only[bu]at h;subst h;exact⟨cm.2,rfl⟩
 ·rename_i b;simp only[bu]at h;subst h;cases b<;>simp[a8.gu,a8.val,A.den,bO.den,I.bC]
 ·cases h
theorem aod {n nb:Nat} {ρ:Env} {m:Nat->Nat}:∀{d:List a8} {l:List A} {r:List I},vq d l=some r->(∀a∈l,A.ok n nb ρ a)->r.length=d.length/\ay (d.map a8.gu) (r.map (·.den ρ))/\l.map (A.den ρ m)=tG a8.val d (r.map (·.den ρ))
 |[],[],r,h,_=>by simp[vq]at h;subst h;exact⟨rfl,trivial,rfl⟩
 |c::d,a::s,r,h,cm=>by
  simp only[vq]at h;cases hx:c.fit a with
  |none=>simp[hx]at h
  |some x=>
   cases hr:vq d s with
   |none=>simp[hx,hr]at h
   |some r'=>
    simp only[hx,hr,bu]at h;subst h;obtain⟨h1,h2,h3⟩:=aod (m:=m) hr λa ha=>cm a (e5 _ ha);have hf:=a8.aBt (m:=m) hx (cm a (by simp));exact⟨by simp[h1],⟨hf.1.1,hf.1.2,h2⟩,by simp only[df,h3,hf.2,Sm]⟩
 |[],_::_,_,h,_=>by simp[vq]at h
 |_::_,[],_,h,_=>by simp[vq]at h
theorem auf {n:Nat} {ρ:Env} {l:List UInt8} {x:I} {c:Int} (hc:x.fk=some c) (h:c=k5 (yq l)):bD (x.den ρ)=yq l:=by rw[I.ll hc,h,Ce]
theorem aoa {n nb:Nat} {ρ:Env} {m:Nat->Nat} {d:D} {v:V} {r:List I} {x:bf} (h:HO d v=some r) (cm:v.ok n nb ρ) (hx:v.rel ρ m x):r.length=d.num/\ay d.bds (r.map (·.den ρ))/\∀zs,d.val ((r.map (·.den ρ))++zs)=x:=by
 unfold HO at h;split at h
 ·rename_i k lo hi bJ y;cases hc:(decide (k=bJ)&&tU lo hi y)with
  |false=>simp[hc]at h
  |true=>
   simp only[hc,cond_true,bu]at h;subst h;simp only[bI,decide_eq_true_eq]at hc;have hf:=On hc.2 cm;simp only[V.rel,W.den,A.den]at hx;exact⟨rfl,⟨hf.1,hf.2,trivial⟩,λzs=>by simp[D.val,hx,hc.1]⟩
 ·rename_i k n' lo hi l;cases hc:aU l.length n' with
  |false=>simp[hc]at h
  |true=>
   simp only[hc,cond_true]at h;have hl:=b8 hc;subst hl;obtain⟨h1,h2,h3⟩:=T4 (m:=m) h cm;simp only[V.rel,W.den]at hx;exact⟨h1,h2,λzs=>by rw[hx,h3];simp only[D.val];rw[Sn (by simp[h1]),mu (by simp[h1])]⟩
 ·rename_i l s;obtain⟨h1,h2,h3⟩:=aod (m:=m) h cm;simp only[V.rel,W.den]at hx;refine⟨h1,h2,λzs=>?_⟩;rw[hx,h3];simp only[D.val]
  congr 2
  have key:∀(a:List a8) (b c:List Int),b.length=a.length->tG a8.val a (b++c)=tG a8.val a b:=by
   intro a;induction a with
   |nil=>intro b c _;simp
   |cons p a ih=>
    intro b c hb;cases b with
    |nil=>simp at hb
    |cons z b=>simp[ih b c (by simpa using hb)]
  exact key _ _ _ (by simp[h1])
 ·rename_i l;simp only[bu]at h;subst h;simp only[V.rel,W.den,A.den]at hx;exact⟨rfl,⟨cm.2.1,cm.2.2,trivial⟩,λzs=>by rw[hx];rfl⟩
 ·rename_i b;simp only[bu]at h;subst h;simp only[V.rel,W.den,A.den,bO.den]at hx;cases b<;>exact⟨rfl,by simp[D.bds,ay,I.bC],λzs=>by rw[hx];simp[D.val,I.bC]⟩
 ·rename_i l y;cases hc:y.fk with
  |none=>simp[hc]at h
  |some c=>
   simp only[hc]at h;cases hd:decide (c=k5 (yq l))with
   |false=>simp[hd]at h
   |true=>
    simp only[hd,cond_true,bu]at h;subst h;have hd:c=k5 (yq l):=by simpa using hd
    refine⟨rfl,trivial,λzs=>?_⟩;have hx:x= .string (eS (bD (y.den ρ))):=hx;rw[hx,auf (n:=n) hc hd];rfl
 ·rename_i k c bJ y;cases hc:y.l.fk with
  |none=>simp[hc]at h
  |some d=>
   simp only[hc]at h;cases hd:(decide (k=bJ)&&decide (d=c))with
   |false=>simp[hd]at h
   |true=>
    simp only[hd,cond_true,bu]at h;subst h;simp only[bI,decide_eq_true_eq]at hd;refine⟨rfl,trivial,λzs=>?_⟩;have hx:x= .int bJ (y.l.den ρ):=hx;rw[hx,I.ll hc,<-hd.1,hd.2];rfl
 ·cases h
theorem T7 {n nb:Nat} {ρ:Env} {m:Nat->Nat}:∀{ds:List D} {vs:List V} {r:List I} {xs:List bf},tV ds vs=some r->(∀v∈vs,V.ok n nb ρ v)->fN ρ m vs xs->ay (aX ds) (r.map (·.den ρ))/\pV ds (r.map (·.den ρ))=xs
 |[],[],r,[],h,_,_=>by simp[tV]at h;subst h;exact⟨trivial,rfl⟩
 |d::ds,v::vs,r,x::xs,h,cm,hr=>by
  simp only[tV]at h;cases h1:HO d v with
  |none=>simp[h1]at h
  |some a=>
   cases h2:tV ds vs with
   |none=>simp[h1,h2]at h
   |some b=>
    simp only[h1,h2,bu]at h;subst h;obtain⟨bw,bz,cY⟩:=aoa (m:=m) h1 (cm v (by simp)) hr.1;obtain⟨aQ,bn⟩:=T7 h2 (λu hu=>cm u (e5 _ hu)) hr.2;refine⟨by rw[hQ];exact oC bz aQ,?_⟩;rw[hQ];simp only[pV,cY];rw[show d.num=(a.map (·.den ρ)).length by simp[bw],GX,bn]
 |[],_::_,_,_,h,_,_=>by simp[tV]at h
 |_::_,[],_,_,h,_,_=>by simp[tV]at h
 |[],[],_,_::_,_,_,hr=>hr.elim
 |_::_,_::_,_,[],_,_,hr=>hr.elim
structure bq where
 f:dv
 id:Nat
 args:List D
 res:List D
def bq.bH (P:cc) (wb:aC) (c:bq) (spec:List Int->List Int->Prop):Prop:=(∀args w,(callFunc c.f args).run P w= .ok (.enter c.f args) w)/\∀zs,ay (aX c.args) zs->∃rs,ay (aX c.res) rs/\spec zs rs/\∀w,wb.Extends w->oo P c.f (pV c.args zs).toArray w λe w'=>e= .returned (mJ c.res rs)/\w.Extends w'
noncomputable def acB (d:D) (v:V):M (List I):=
 match d,v with
 | .bool,.w (.one (.bool e))=>bind (IB e) λl=>pure [l]
 | .mix l,.w (.agg s)=>Ei l s
 | .int k lo hi,.w (.one (.int bJ x))=>cond (decide (k=bJ)) (cond (tU lo hi x) (pure [x.l]) (bind (hK 39 [x.l,.const lo,.const hi]) λ_=>pure [x.l])) fail
 |d,v=>match HO d v with|some r=>pure r|none=>fail
noncomputable def T6:List D->List V->M (List I)
 |[],[]=>pure []
 |d::r,v::s=>bind (acB d v) λa=>bind (T6 r s) λb=>pure (a++b)
 |_,_=>fail
noncomputable def bq.M (c:bq):List aM->List V->M V:=λ_ vs n k=>
 match tV c.args vs with
 |some l=> .call c.id l n (aX c.res) (k (Jq c.res n) (n+(aX c.res).length))
 |none=>T6 c.args vs n λl n=> .call c.id l n (aX c.res) (k (Jq c.res n) (n+(aX c.res).length))
section
variable {S:Nat->List Int->List Int->Prop} {L:V->Env->Prop}
theorem acA {k:eB} {lo hi:Int} {n nb:Nat} {ρ:Env}:∀{l:List A} {r:List I},oW k lo hi l=some r->(∀a∈l,A.ok n nb ρ a)->∀x∈r,I.bU n x
 |[],r,h,_=>by simp[oW]at h;subst h;intro x hx;simp at hx
 |a::s,r,h,cm=>by
  cases a with
  |int bJ x=>
   simp only[oW]at h;cases hc:(decide (k=bJ)&&tU lo hi x)with
   |false=>simp[hc]at h
   |true=>
    cases hr:oW k lo hi s with
    |none=>simp[hc,hr]at h
    |some r'=>
     simp only[hc,hr,cond_true,bu]at h;subst h;intro y hy;rcases List.mem_cons.1 hy with hy|hy
     ·rw[hy];have h0:A.ok n nb ρ (.int bJ x):=cm _ (List.mem_cons_self ..);have h0:x.ok n ρ:=h0;exact h0.1
     ·exact acA hr (λa ha=>cm a (e5 _ ha)) y hy
  |_=>simp[oW]at h
theorem aoc {n nb:Nat} {ρ:Env}:∀{d:List a8} {l:List A} {r:List I},vq d l=some r->(∀a∈l,A.ok n nb ρ a)->∀x∈r,I.bU n x
 |[],[],r,h,_=>by simp[vq]at h;subst h;intro x hx;simp at hx
 |c::d,a::s,r,h,cm=>by
  simp only[vq]at h;cases hx:c.fit a with
  |none=>simp[hx]at h
  |some x=>
   cases hr:vq d s with
   |none=>simp[hx,hr]at h
   |some r'=>
    simp only[hx,hr,bu]at h;subst h;intro y hy;rcases List.mem_cons.1 hy with hy|hy
    ·subst hy;have h0:=cm a (by simp);unfold a8.fit at hx;split at hx
     ·rename_i k lo hi bJ z;cases hc:(decide (k=bJ)&&tU lo hi z)with
      |false=>simp[hc]at hx
      |true=>
       simp only[hc,cond_true,bu]at hx;subst hx;have h0:z.ok n ρ:=h0;exact h0.1
     ·simp only[bu]at hx;subst hx;exact h0.1
     ·simp only[bu]at hx;subst hx;exact I.dX _ _
     ·cases hx
    ·exact aoc hr (λa ha=>cm a (e5 _ ha)) y hy
 |[],_::_,_,h,_=>by simp[vq]at h
 |_::_,[],_,h,_=>by simp[vq]at h
theorem aBx {n nb:Nat} {ρ:Env} {d:D} {v:V} {r:List I} (h:HO d v=some r) (cm:v.ok n nb ρ):∀x∈r,I.bU n x:=by
 unfold HO at h;split at h
 ·rename_i k lo hi bJ y;cases hc:(decide (k=bJ)&&tU lo hi y)with
  |false=>simp[hc]at h
  |true=>
   simp only[hc,cond_true,bu]at h;subst h;have h0:y.ok n ρ:=cm;intro x hx;simp at hx;subst hx;exact h0.1
 ·rename_i k n' lo hi l;cases hc:aU l.length n' with
  |false=>simp[hc]at h
  |true=>
   simp only[hc,cond_true]at h;exact acA h cm
 ·exact aoc h cm
 ·simp only[bu]at h;subst h;intro x hx;simp at hx;subst hx;exact cm.1
 ·simp only[bu]at h;subst h;intro x hx;simp at hx;subst hx;exact I.dX _ _
 ·rename_i l y;cases hc:y.fk with
  |none=>simp[hc]at h
  |some c=>
   simp only[hc]at h;cases hd:decide (c=k5 (yq l))with
   |false=>simp[hd]at h
   |true=>
    simp only[hd,cond_true,bu]at h;subst h;intro x hx;simp at hx
 ·rename_i k c bJ y;cases hc:y.l.fk with
  |none=>simp[hc]at h
  |some d=>
   simp only[hc]at h;cases hd:(decide (k=bJ)&&decide (d=c))with
   |false=>simp[hd]at h
   |true=>
    simp only[hd,cond_true,bu]at h;subst h;intro x hx;simp at hx
 ·cases h
theorem cX.aeB:∀{sh:List a8} {zs:List Int},cX sh zs->ay (sh.map a8.gu) zs/\tG a8.val sh zs=eA sh zs
 |[],[],_=>⟨trivial,rfl⟩
 |c::sh,z::zs,h=>⟨⟨h.1.1,h.1.2,(cX.aeB h.2).1⟩,by simp[eA,(cX.aeB h.2).2]⟩
 |[],_::_,h=>h.elim
 |_::_,[],h=>h.elim
theorem av8 {f:a8->Int->bf}:∀(a:List a8) (b c:List Int),b.length=a.length->tG f a (b++c)=tG f a b
 |[],b,c,_=>by simp
 |_::a,[],c,h=>by simp at h
 |_::a,z::b,c,h=>by simp[av8 a b c (by simpa using h)]
theorem aBv {d:D} {v:V} {X:bf} {n nb:Nat} {ρ:Env} {m:Nat->Nat} (hv:v.ok n nb ρ) (cb:v.rel ρ m X):aE S L (acB d v) n ρ λae n' ls=>(∀x∈ls,I.bU n' x)/\ls.length=d.num/\ay d.bds (ls.map (·.den ae))/\∀zs,d.val ((ls.map (·.den ae))++zs)=X:=by
 unfold acB;split
 ·rename_i e;have cb:X= .bool (e.den ρ):=cb;exact UW.bind λa6 bh l hn ha ⟨g1,g2,g3⟩=>aE.pure ⟨λx hx=>by simp at hx;subst hx;exact g1,rfl,⟨g2.1,g2.2,trivial⟩,λzs=>by rw[cb,g3];rfl⟩
 ·rename_i l s;have cb:X= .agg (s.map (A.den ρ m)).toArray:=cb;refine(Mn (nb:=nb) (m:=m) hv).mono λa6 bh ls hn ha ⟨g1,g2,g3⟩=>?_;have h1:=cX.aeB g2;have h2:=g2.len;refine⟨g1,by simpa [D.num]using h2,h1.1,λzs=>?_⟩;rw[cb,<-g3,<-h1.2];simp only[D.val];rw[av8 _ _ _ (by simpa using h2)]
 ·rename_i k lo hi bJ x;have cb:X= .int bJ (x.l.den ρ):=cb;have hv:x.ok n ρ:=hv;refine fe λag=>?_;have ag:=of_decide_eq_true ag;subst ag;cases hf:tU lo hi x with
  |true=>
   have:=On hf hv;exact aE.pure ⟨λy hy=>by simp at hy;subst hy;exact hv.1,rfl,⟨this.1,this.2,trivial⟩,λzs=>by rw[cb];rfl⟩
  |false=>
   refine kb λhc=>aE.pure ?_;simp only[df,gr,aj,I.bC]at hc;exact⟨λy hy=>by simp at hy;subst hy;exact hv.1,rfl,⟨hc.1,hc.2,trivial⟩,λzs=>by rw[cb];rfl⟩
 ·split
  ·rename_i hf;obtain⟨bw,bz,cY⟩:=aoa (m:=m) hf hv cb;exact aE.pure ⟨aBx hf hv,bw,bz,cY⟩
  ·exact aE.fail
theorem fN.ext {n nb:Nat} {ρ ae:Env} {m m':Nat->Nat}:∀{vs:List V} {xs:List bf},fN ρ m vs xs->(∀v∈vs,V.ok n nb ρ v)->agree n ρ ae->(∀b,b<nb->m' b=m b)->fN ae m' vs xs
 |[],[],_,_,_,_=>trivial
 |v::vs,x::xs,h,cm,ha,hm=>⟨V.rel.ext h.1 (cm v (by simp)) ha hm,fN.ext h.2 (λu hu=>cm u (e5 _ hu)) ha hm⟩
 |[],_::_,h,_,_,_=>h.elim
 |_::_,[],h,_,_,_=>h.elim
theorem aob {nb:Nat} {m:Nat->Nat}:∀{ds:List D} {vs:List V} {xs:List bf} {n:Nat} {ρ:Env},(∀v∈vs,V.ok n nb ρ v)->fN ρ m vs xs->aE S L (T6 ds vs) n ρ λae n' ls=>(∀x∈ls,I.bU n' x)/\ay (aX ds) (ls.map (·.den ae))/\pV ds (ls.map (·.den ae))=xs
 |[],[],[],n,ρ,_,_=>aE.pure ⟨λ_ h=>by simp at h,trivial,rfl⟩
 |d::ds,v::vs,x::xs,n,ρ,cm,hr=>by
  unfold T6;refine(aBv (nb:=nb) (cm v (by simp)) hr.1).bind λa6 bh a h9 fV ⟨p0,bw,bz,cY⟩=>(aob (ds:=ds) (vs:=vs) (λu hu=>(cm u (e5 _ hu)).ext fV h9 (b1 _)) (fN.ext hr.2 (λu hu=>cm u (e5 _ hu)) fV (λ_ _=>rfl))).bind λcd fF b fX eI ⟨eu,aQ,bn⟩=>aE.pure ⟨λy hy=>?_,?_,?_⟩
  ·rcases List.mem_append.1 hy with hy|hy
   ·exact(p0 y hy).mono fX
   ·exact eu y hy
  ·have e:a.map (·.den cd)=a.map (·.den a6):=j5 λy hy=>I.cq eI (p0 y hy);rw[hQ,e];exact oC bz aQ
  ·have e:a.map (·.den cd)=a.map (·.den a6):=j5 λy hy=>I.cq eI (p0 y hy);rw[hQ,e];simp only[pV,cY];rw[show d.num=(a.map (·.den a6)).length by simp[bw],GX,bn]
 |[],_::_,_,_,_,_,_=>aE.fail
 |_::_,[],_,_,_,_,_=>aE.fail
 |[],[],_::_,_,_,_,hr=>hr.elim
 |_::_,_::_,[],_,_,_,hr=>hr.elim
end
section
variable {S:Nat->List Int->List Int->Prop} {P:cc} {gl:fK} {w0:fg}
theorem Tp {L:V->Env->Prop} {id:Nat} {l:List I} {n:Nat} {bds:List (Int×Int)} {r:T} {G:fx} {ρ:Env} (h:(T.call id l n bds r).holds S L G ρ) {rs:List Int} (hi:ay bds rs) (hs:S id (l.map (·.den ρ)) rs):r.holds S L G (b0 ρ n rs):=
 m6 h hi hs
theorem WO {ρ:Env} {m:Nat->Nat} {N nb:Nat} {ds:List D} {s:Nat} {zs:List Int} (h:ay (aX ds) zs) (ha:kM ρ s zs) (cF:s+(aX ds).length<=N):(Jq ds s).ok N nb ρ/\(Jq ds s).rel ρ m (mJ ds zs):=by
 have hs:=Xg (m:=m) (nb:=nb) ds h ha cF;unfold Jq mJ;rw[<-hs.2];split
 ·rename_i u heq;rw[heq]at hs;rw[heq];exact⟨hs.1 u (by simp),rfl⟩
 ·rename_i l dE;refine⟨hs.1,?_⟩;split
  ·rename_i x heq;have:∃u,vR s ds=[u]:=by
    cases hl:vR s ds with
    |nil=>rw[hl]at heq;simp at heq
    |cons u r=>
     cases r with
     |nil=>exact⟨u,rfl⟩
     |cons _ _=>rw[hl]at heq;simp at heq
   obtain⟨u,hu⟩:=this;exact absurd hu (dE u)
  ·rfl
def bq.A3 (P:cc) (wb:aC) (c:bq) (spec:List Int->List Int->Prop):Prop:=∀zs,ay (aX c.args) zs->∃rs,ay (aX c.res) rs/\spec zs rs/\∀w,wb.Extends w->x0 P c.f (pV c.args zs).toArray w (mJ c.res rs)
theorem bq.bH.f {wb:aC} {c:bq} {spec:List Int->List Int->Prop} (h:c.bH P wb spec):c.A3 P wb spec:=λzs hz=>by
 obtain⟨rs,h1,h2,h3⟩:=h.2 zs hz;exact⟨rs,h1,h2,λw hw=> .inr ⟨h.1 _ _,h3 w hw⟩⟩
theorem bq.snd {c:bq} {spec:List Int->List Int->Prop} (hc:c.A3 P w0.b spec) (h8:∀zs rs,spec zs rs->S c.id zs rs) (L:V->Env->Prop) (n:Nat) (ρ:Env) (m:Nat->Nat) (bl:List aM) (vs:List V) (xs:List bf)
 (lH:∀v∈vs,V.ok n bl.length ρ v) (hr:fN ρ m vs xs):aE S L (c.M bl vs) n ρ λae n' v=>v.ok n' bl.length ae/\∃val,v.rel ae m val/\∀w,Mem w0 ρ m bl w->x0 P c.f xs.toArray w val:=by
 intro G k ag;unfold bq.M at ag;cases hl:tV c.args vs with
 |none=>
  simp only[hl]at ag;obtain⟨a6,bh,l,h9,fV,⟨_,h1,h2⟩,ag⟩:=aob (S:=S) (L:=L) (nb:=bl.length) lH hr G _ ag;obtain⟨rs,r1,r2,gS⟩:=hc _ h1;have ah:=Tp ag r1 (h8 _ _ r2);have hlen:=dj r1;have pG:=WO (m:=m) (nb:=bl.length) (N:=bh+(aX c.res).length) r1 (kM.b0 a6 bh rs) (b1 _);refine⟨_,_,_,nJ h9 (MZ _ _),fV.trans (agree.b0 rs bh a6) h9,⟨pG.1,_,pG.2,λw hw=>?_⟩,ah⟩;rw[h2]at gS;exact gS w hw.ext
 |some l=>
  simp only[hl]at ag;obtain⟨h1,h2⟩:=T7 hl lH hr;obtain⟨rs,r1,r2,gS⟩:=hc _ h1;have ah:=Tp ag r1 (h8 _ _ r2);have hlen:=dj r1;have pG:=WO (m:=m) (nb:=bl.length) (N:=n+(aX c.res).length) r1 (kM.b0 ρ n rs) (b1 _);refine⟨_,_,_,MZ _ _,agree.b0 rs n ρ,⟨pG.1,_,pG.2,λw hw=>?_⟩,ah⟩;rw[h2]at gS;exact gS w hw.ext
def af2:List aM->List V->M V:=λ_ vs=>
 match vs with
 |[.w (.one (.int .u64 x)),.w (.one (.int .u64 y))]=>
  cond (decide (0<=x.lo)&&decide (x.hi<0x10000000000000000)&&decide (0<=y.lo)&&decide (y.hi<0x10000000000000000)) (bind (mulM x y) λp=>bind (Bx p 0x10000000000000000) λq=>
   pure (.jQ [.one (.int .u64 q),.one (.int .u64 ⟨p.l.sub (q.l.smul 0x10000000000000000),0,0xffffffffffffffff⟩)])) fail
 |_=>fail
def aaJ:List aM->List V->M V:=λ_ vs=>
 match vs with
 |[.w (.one (.int .u64 x)),.w (.one (.int .u64 y)),.w (.one (.int .u64 c))]=>
  cond (decide (0<=x.lo)&&decide (0<=y.lo)&&decide (0<=c.lo)&&decide (c.hi<=1)) (bind (Bx ⟨(x.l.add y.l).add c.l,x.lo+y.lo+c.lo,x.hi+y.hi+c.hi⟩ 0x10000000000000000) λq=>
   pure (.jQ [.one (.int .u64 ⟨((x.l.add y.l).add c.l).sub (q.l.smul 0x10000000000000000),0,0xffffffffffffffff⟩),.one (.int .u64 q)])) fail
 |_=>fail
def ah1:List aM->List V->M V:=λ_ vs=>
 match vs with
 |[.w (.one (.int .u64 x)),.w (.one (.int .u64 y)),.w (.one (.int .u64 c))]=>
  cond (decide (0<=x.lo)&&decide (x.hi<0x10000000000000000)&&decide (0<=y.lo)&&decide (y.hi<0x10000000000000000)&&decide (0<=c.lo)&&decide (c.hi<=1)) (bind (Bx ⟨(x.l.sub y.l).sub c.l,x.lo-y.hi-c.hi,x.hi-y.lo-c.lo⟩ 0x10000000000000000) λq=>
   pure (.jQ [.one (.int .u64 ⟨((x.l.sub y.l).sub c.l).sub (q.l.smul 0x10000000000000000),0,0xffffffffffffffff⟩),.one (.int .u64 ⟨q.l.smul (-1),0,1⟩)])) fail
 |_=>fail
def J0 (P:cc) (f:dv):Prop:=∀x y:Int,0<=x->x<0x10000000000000000->0<=y->y<0x10000000000000000->∀w,x0 P f #[.int .u64 x,.int .u64 y] w (.tuple #[.int .u64 (x*y/0x10000000000000000),.int .u64 (x*y% 0x10000000000000000)])
def JW (P:cc) (f:dv):Prop:=∀x y c:Int,0<=x->0<=y->0<=c->c<=1->∀w,x0 P f #[.int .u64 x,.int .u64 y,.int .u64 c] w (.tuple #[.int .u64 ((x+y+c)% 0x10000000000000000),.int .u64 ((x+y+c)/0x10000000000000000)])
def J4 (P:cc) (f:dv):Prop:=∀x y c:Int,0<=x->x<0x10000000000000000->0<=y->y<0x10000000000000000->0<=c->c<=1->∀w,x0 P f #[.int .u64 x,.int .u64 y,.int .u64 c] w (.tuple #[.int .u64 ((x-y-c)% 0x10000000000000000),.int .u64 (-((x-y-c)/0x10000000000000000))])
variable {L:V->Env->Prop} {n:Nat} {ρ:Env} {m:Nat->Nat} {bl:List aM} {vs:List V} {xs:List bf}
theorem arE {x y c:A} (hr:fN ρ m [.w (.one x),.w (.one y),.w (.one c)] xs):xs=[x.den ρ m,y.den ρ m,c.den ρ m]:=by
 match xs,hr with
 |[a,b,d],h=>obtain⟨rfl,rfl,rfl,_⟩:=h;rfl
 |[],h=>exact h.elim
 |[_],h=>exact h.2.elim
 |[_,_],h=>exact h.2.2.elim
 |_::_::_::_::_,h=>exact h.2.2.2.elim
theorem aIj {x y:A} (hr:fN ρ m [.w (.one x),.w (.one y)] xs):xs=[x.den ρ m,y.den ρ m]:=by
 match xs,hr with
 |[a,b],h=>obtain⟨rfl,rfl,_⟩:=h;rfl
 |[],h=>exact h.elim
 |[_],h=>exact h.2.elim
 |_::_::_::_,h=>exact h.2.2.elim
theorem aIH {f:dv} (hf:J0 P f) (lH:∀v∈vs,V.ok n bl.length ρ v) (hr:fN ρ m vs xs):aE S L (af2 bl vs) n ρ λae n' v=>v.ok n' bl.length ae/\∃val,v.rel ae m val/\∀w,Mem w0 ρ m bl w->x0 P f xs.toArray w val:=by
 unfold af2;split
 ·rename_i x y;refine fe λhc=>?_;simp only[bI,decide_eq_true_eq]at hc;have hx:x.ok n ρ:=lH (.w (.one (.int .u64 x))) (by simp);have hy:y.ok n ρ:=lH (.w (.one (.int .u64 y))) (by simp);have Da:=hx.2;have NG:=hy.2
  refine(af4 hx hy).bind λa6 bh p h9 fV ⟨hp,ep⟩=>?_;refine(Fe (by decide) hp).bind λcd fF q fX eI ⟨an,eq,_⟩=>aE.pure ?_;have Ik:=hp.agree eI fX;have aco:p.l.den cd=x.l.den ρ*y.l.den ρ:=by rw[I.cq eI hp.1,ep]
  have aH:(p.l.sub (q.l.smul 0x10000000000000000)).den cd=x.l.den ρ*y.l.den ρ% 0x10000000000000000:=by
   rw[I.l8,I.na,aco,eq,ep];omega
  refine⟨λu hu=>?_,_,rfl,λw _=>?_⟩
  ·simp at hu;rcases hu with rfl|rfl
   ·exact an
   ·exact⟨I.xE Ik.1 (I.xD an.1),by simp only[aH];omega,by simp only[aH];omega⟩
  ·rw[aIj hr];have:=hf (x.l.den ρ) (y.l.den ρ) (by omega) (by omega) (by omega) (by omega) w;simpa [A.den,W.den,aH,eq,ep]using this
 ·exact aE.fail
theorem ayx {f:dv} (hf:JW P f) (lH:∀v∈vs,V.ok n bl.length ρ v) (hr:fN ρ m vs xs):aE S L (aaJ bl vs) n ρ λae n' v=>v.ok n' bl.length ae/\∃val,v.rel ae m val/\∀w,Mem w0 ρ m bl w->x0 P f xs.toArray w val:=by
 unfold aaJ;split
 ·rename_i x y c;refine fe λhc=>?_;simp only[bI,decide_eq_true_eq]at hc;have hx:x.ok n ρ:=lH (.w (.one (.int .u64 x))) (by simp);have hy:y.ok n ρ:=lH (.w (.one (.int .u64 y))) (by simp);have Dj:c.ok n ρ:=lH (.w (.one (.int .u64 c))) (by simp);have Da:=hx.2;have NG:=hy.2;have bc:=Dj.2
  have hs:(bZ.mk ((x.l.add y.l).add c.l) (x.lo+y.lo+c.lo) (x.hi+y.hi+c.hi)).ok n ρ:=⟨I.yT (I.yT hx.1 hy.1) Dj.1,by simp only[I.den_add];omega,by simp only[I.den_add];omega⟩;refine(Fe (x:=⟨(x.l.add y.l).add c.l,x.lo+y.lo+c.lo,x.hi+y.hi+c.hi⟩) (by decide) hs).bind λcd fF q fX eI ⟨an,eq,_⟩=>aE.pure ?_;have zX:=hs.agree eI fX;simp only[I.den_add]at eq;have aH:(((x.l.add y.l).add c.l).sub (q.l.smul 0x10000000000000000)).den cd=(x.l.den ρ+y.l.den ρ+c.l.den ρ)% 0x10000000000000000:=by
   rw[I.l8,I.na,I.cq eI hs.1,I.den_add,I.den_add,eq];omega
  refine⟨λu hu=>?_,_,rfl,λw _=>?_⟩
  ·simp at hu;rcases hu with rfl|rfl
   ·exact⟨I.xE zX.1 (I.xD an.1),by simp only[aH];omega,by simp only[aH];omega⟩
   ·exact an
  ·rw[arE hr];have:=hf (x.l.den ρ) (y.l.den ρ) (c.l.den ρ) (by omega) (by omega) (by omega) (by omega) w;simpa [A.den,W.den,aH,eq]using this
 ·exact aE.fail
theorem aRv {f:dv} (hf:J4 P f) (lH:∀v∈vs,V.ok n bl.length ρ v) (hr:fN ρ m vs xs):aE S L (ah1 bl vs) n ρ λae n' v=>v.ok n' bl.length ae/\∃val,v.rel ae m val/\∀w,Mem w0 ρ m bl w->x0 P f xs.toArray w val:=by
 unfold ah1;split
 ·rename_i x y c;refine fe λhc=>?_;simp only[bI,decide_eq_true_eq]at hc;have hx:x.ok n ρ:=lH (.w (.one (.int .u64 x))) (by simp);have hy:y.ok n ρ:=lH (.w (.one (.int .u64 y))) (by simp);have Dj:c.ok n ρ:=lH (.w (.one (.int .u64 c))) (by simp);have Da:=hx.2;have NG:=hy.2;have bc:=Dj.2
  have hs:(bZ.mk ((x.l.sub y.l).sub c.l) (x.lo-y.hi-c.hi) (x.hi-y.lo-c.lo)).ok n ρ:=⟨I.xE (I.xE hx.1 hy.1) Dj.1,by simp only[I.l8];omega,by simp only[I.l8];omega⟩;refine(Fe (x:=⟨(x.l.sub y.l).sub c.l,x.lo-y.hi-c.hi,x.hi-y.lo-c.lo⟩) (by decide) hs).bind λcd fF q fX eI ⟨an,eq,_⟩=>aE.pure ?_;have zX:=hs.agree eI fX;simp only[I.l8]at eq;have aH:(((x.l.sub y.l).sub c.l).sub (q.l.smul 0x10000000000000000)).den cd=(x.l.den ρ-y.l.den ρ-c.l.den ρ)% 0x10000000000000000:=by
   rw[I.l8,I.na,I.cq eI hs.1,I.l8,I.l8,eq];omega
  have ca:(q.l.smul (-1)).den cd=-((x.l.den ρ-y.l.den ρ-c.l.den ρ)/0x10000000000000000):=by
   rw[I.na,eq];omega
  refine⟨λu hu=>?_,_,rfl,λw _=>?_⟩
  ·simp at hu;rcases hu with rfl|rfl
   ·exact⟨I.xE zX.1 (I.xD an.1),by simp only[aH];omega,by simp only[aH];omega⟩
   ·exact⟨I.xD an.1,by simp only[ca];omega,by simp only[ca];omega⟩
  ·rw[arE hr];have:=hf (x.l.den ρ) (y.l.den ρ) (c.l.den ρ) (by omega) (by omega) (by omega) (by omega) (by omega) (by omega) w;simpa [A.den,W.den,aH,ca]using this
 ·exact aE.fail
end
end Go.bX
