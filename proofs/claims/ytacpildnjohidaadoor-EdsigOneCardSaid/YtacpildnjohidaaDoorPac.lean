/- Contracts: calls answered by what is known of them; the sums and products of words. -/
import Derived.Test.YtacpildnjohidaaDoorPab
import Derived.Laws.Externs
import Derived.ChangeMaps5
import Derived.ChangeSame
import Derived.OpenShut
import Derived.Handed
import Derived.ProofKit
import Derived.LaidMore
import Derived.Stop.Joined
import Derived.HandedShaped
import Derived.SizedLaws
import Derived.Carry
import Derived.RangeFuncOwn
import Derived.RangeFuncLeaves
import Derived.KernelRfl
import Derived.Test.YtacpildnjohidaaDoorPaa
open Array renaming replicate->zx,eq_empty_of_size_eq_zero->Bq
open Bool renaming and_eq_true->bo,not_eq_true'->fF,or_eq_true->Bm
open Classical renaming byContradiction->abu,axiomOfChoice->aLj
open Function renaming comp->Mv
open Go renaming World->aE,Value->aP,TypeId->bh,Program->bQ,FuncId->dn,IntKind->du,Calls->lG,DataW->oK,MemPlace->xR,Deferred->Df
open Go.ChangeSpec renaming post_blind->aMN,plain->aMP
open Go.DataW renaming weightsEach->SM,weightsAll->SN,weights->SO,trod->abA,trod_int->al2,TrodAll->amj,trod_array->aEd,lit->aEe,trod_string->aET
open Go.DataW.Whole renaming of_heap->aMM
open Go.DataW.agg renaming injEq->aLo
open Go.Extern renaming findNext->abx,find->aby
open Go.Extern.MathBitsCarry renaming m64->aEb,three->aLk,pair->aLl
open Go.Fence renaming wide->FI
open Go.Frame renaming enter->aEW
open Go.Input renaming okWide->aEV
open Go.OpenSpec renaming ofChange->abP
open Go.Value renaming int->xS,cells->FE,slice->MA,okWide->MM,bool->aD9,agg->aEU
open Go.World renaming cell?->lH,putObj_heap_other->xZ,frozen?->Bn,putObj_heap_same->Bt,putObj_size->abR,alloc_heap_new->aE0
open Go.World.Extends renaming refl->qc,drew->Su
open Int renaming le_refl->cL,mul_comm->j3,lt_or_le->kI,emod_eq_of_lt->nm,eq_ofNat_of_zero_le->ps,le_of_lt->pv,add_mul_emod_self_left->xM,le_trans->Bl,mul_add->IQ,toNat_of_nonneg->Mn,ediv_eq_iff_of_pos->Sy
open List renaming getD->U,map_cons->cQ,mem_cons_of_mem->dU,mem_of_getElem?->eD,replicate->eH,nil_append->e2,map_nil->e3,length_append->fc,range->fk,append_nil->fY,map_append->iy,getD_cons_zero->iU,length_cons->jd,map_congr_left->jQ,getD_cons_succ->j4,cons_append->kp,append_assoc->kq,take_append_drop->ld,take_succ_cons->lI,length_map->l6,mem_cons->mL,map_map->nk,length_drop->nn,length->np,getElem?_eq_getElem->nq,length_nil->n0,take_of_length_le->pt,length_take->px,flatten_cons->sH,getElem?_set->sI,zipWith->sJ,flatMap_cons->sL,getElem?_cons_zero->uz,not_mem_nil->we,mem_append->wi,drop_drop->zv,replicate_succ->Bs,drop_left->Dd,mem_of_find?_eq_some->FC,all_eq_true->IM,map_take->IU,map_drop->IV,drop_of_length_le->Mq,map_id->Mu,take_append_of_le_length->Mz,mem_or_eq_of_mem_set->MJ,zipWith_cons_cons->Sw,mem_cons_self->Sx,take_length->abw,getElem?_eq_none->abJ,mapM_cons->al0
open List.cons renaming injEq->nZ
open Nat renaming beq->aK,le_refl->bL,eq_of_beq_eq_true->bO,ble->cx,blt->dv,le_of_ble_eq_true->e8,le_trans->lg,add_zero->mM,zero_add->uC,pow_succ->wg,mul_comm->xN,succ_mul->xU,mul_one->zw,pow_add->Bj,lt_of_lt_of_le->FA,beq_refl->FB,mul_mod->IL,le_add_right->IT,div_add_mod->Mp,mod_lt->Ms,mul_assoc->Sr,mul_le_mul_left->SA,dvd_of_mod_eq_zero->aD2,div_le_self->aD4
open Nat.Coprime renaming mul_right->aK5,eq_one_of_dvd->aK6
open Option.some renaming injEq->a7,inj->hV
open Prod.mk renaming injEq->ek
set_option linter.unusedVariables false
set_option linter.unusedSimpArgs false
namespace Go.b6
open M
def aL.sym (s:Nat):aL->A
 |int k lo hi=> .int k ⟨.var s,lo,hi⟩
 |str=> .str (.var s)
 |bool=> .bool (.eq (.var s) (.const 1))
inductive D where
 |str
 |int (k:du) (lo hi:Int)
 |bool
 |agg (k:du) (n:Nat) (lo hi:Int)
 |mix (l:List aL)
 |xj (l:List UInt8)
 |mq (k:du) (c:Int)
def av (lo hi:Int):Nat->List (Int×Int)
 |0=>[]
 |n+1=>(lo,hi)::av lo hi n
noncomputable def D.bds:D->List (Int×Int)
 |str=>[(0,n4)]
 |int _ lo hi=>[(lo,hi)]
 |bool=>[(0,1)]
 |agg _ n lo hi=>av lo hi n
 |mix l=>l.map aL.fq
 |xj _=>[]
 |mq .. =>[]
def D.num:D->Nat
 |str=>1
 |int .. =>1
 |bool=>1
 |agg _ n _ _=>n
 |mix l=>l.length
 |xj _=>0
 |mq .. =>0
def D.val:D->List Int->aP
 |str,zs=> .string (dI (bp (zs.getD 0 0)))
 |int k _ _,zs=> .int k (zs.getD 0 0)
 |bool,zs=> .bool (decide (zs.getD 0 0=1))
 |agg k n _ _,zs=> .agg ((zs.take n).map (.int k)).toArray
 |mix l,zs=> .agg (sJ aL.val l zs).toArray
 |xj l,_=> .string (dI (vl l))
 |mq k c,_=> .int k c
def ua (k:du) (lo hi:Int):Nat->Nat->List A
 |_,0=>[]
 |s,n+1=> .int k ⟨.var s,lo,hi⟩::ua k lo hi (s+1) n
def Hx:Nat->List aL->List A
 |_,[]=>[]
 |s,c::r=>c.sym s::Hx (s+1) r
def D.sym (s:Nat):D->W
 |str=> .one (.str (.var s))
 |int k lo hi=> .one (.int k ⟨.var s,lo,hi⟩)
 |bool=> .one (.bool (.eq (.var s) (.const 1)))
 |agg k n lo hi=> .agg (ua k lo hi s n)
 |mix l=> .agg (Hx s l)
 |xj l=> .one (.str (.const (jv (vl l))))
 |mq k c=> .one (.int k (bM.const c))
noncomputable def bf:List D->List (Int×Int)
 |[]=>[]
 |d::r=>d.bds++bf r
def nh:List D->List Int->List aP
 |[],_=>[]
 |d::r,zs=>d.val zs::nh r (zs.drop d.num)
def su:Nat->List D->List W
 |_,[]=>[]
 |s,d::r=>d.sym s::su (s+d.num) r
theorem er:∀{b:List (Int×Int)} {l:List Int},ag b l->l.length=b.length
 |[],[],_=>rfl
 |_::_,_::_,h=>by simp[er h.2.2]
 |[],_::_,h=>h.elim
 |_::_,[],h=>h.elim
theorem Fg (lo hi:Int):∀n,(av lo hi n).length=n
 |0=>rfl
 |n+1=>by simp[av,Fg lo hi n]
theorem D.Jl (d:D):d.bds.length=d.num:=by cases d<;>simp[D.bds,D.num,Fg]
theorem yH:∀{b b':List (Int×Int)} {l:List Int},ag (b++b') l->ag b (l.take b.length)/\ag b' (l.drop b.length)
 |[],_,_,h=>⟨trivial,h⟩
 |_::_,_,_::_,h=>by
  have ih:=yH h.2.2
  exact⟨⟨h.1,h.2.1,ih.1⟩,ih.2⟩
 |_::_,_,[],h=>h.elim
def je (ρ:Env) (s:Nat) (zs:List Int):Prop:=∀j,j<zs.length->ρ (s+j)=zs.getD j 0
theorem je.bI (ρ:Env) (s:Nat) (zs:List Int):je (bI ρ s zs) s zs:=λj aI=>Iu zs s ρ j aI
theorem je.tail {ρ:Env} {s:Nat} {z:Int} {zs:List Int} (h:je ρ s (z::zs)):ρ s=z/\je ρ (s+1) zs:=by
 refine⟨by simpa using h 0 (by simp),λj aI=>?_⟩
 have:=h (j+1) (by simpa using aI)
 rw[show s+1+j=s+(j+1) by omega,this];simp
theorem je.drop {ρ:Env} {s:Nat} {zs:List Int} (h:je ρ s zs) (k:Nat):je ρ (s+k) (zs.drop k):=λj aI=>by
 have:=h (k+j) (by simp at aI;omega)
 rw[show s+k+j=s+(k+j) by omega,this]
 simp[U]
theorem ZK {ρ:Env} {m:Nat->Nat} {N nb:Nat} {k:du} {lo hi:Int}:∀(n s:Nat) (zs:List Int),ag (av lo hi n) (zs.take n)->je ρ s zs->s+n<=N->
 (∀a∈ua k lo hi s n,A.ok N nb ρ a)/\(ua k lo hi s n).map (A.den ρ m)=(zs.take n).map (.int k)
 |0,s,zs,_,_,_=>by simp[ua]
 |n+1,s,[],h,_,_=>by simp[av,ag]at h
 |n+1,s,z::zs,h,ha,cF=>by
  have aA:=ha.tail
  simp only[av,lI,ag]at h
  obtain⟨h1,h2⟩:=ZK (m:=m) (nb:=nb) (k:=k) (N:=N) n (s+1) zs h.2.2 aA.2 (by omega)
  refine⟨λa hm=>?_,by simp only[ua,cQ,A.den,I.cE,aA.1,h2,lI]⟩
  rcases List.mem_cons.1 hm with rfl|hm
  ·exact⟨I.fg (by omega),by simp only[I.cE,aA.1];exact h.1,by simp only[I.cE,aA.1];exact h.2.1⟩
  ·exact h1 a hm
theorem aL.L7 {ρ:Env} {m:Nat->Nat} {N nb:Nat} (c:aL) {s:Nat} {z:Int} (h0:c.fq.1<=z) (h1:z<=c.fq.2) (hz:ρ s=z) (cF:s<N):(c.sym s).ok N nb ρ/\(c.sym s).den ρ m=c.val z:=by
 cases c with
 |int k lo hi=>exact⟨⟨I.fg cF,by simp only[I.cE,hz];exact h0,by simp only[I.cE,hz];exact h1⟩,by simp[aL.sym,aL.val,A.den,I.cE,hz]⟩
 |str=>exact⟨⟨I.fg cF,by rw[I.cE,hz];exact h0,by rw[I.cE,hz];exact h1⟩,by simp[aL.sym,aL.val,A.den,I.cE,hz]⟩
 |bool=>exact⟨⟨I.fg cF,I.c5 _ _⟩,by simp[aL.sym,aL.val,A.den,bw.den,I.cE,I.bg,hz]⟩
theorem aiR {ρ:Env} {m:Nat->Nat} {N nb:Nat}:∀(l:List aL) (s:Nat) (zs:List Int),ag (l.map aL.fq) (zs.take l.length)->je ρ s zs->s+l.length<=N->
 (∀a∈Hx s l,A.ok N nb ρ a)/\(Hx s l).map (A.den ρ m)=sJ aL.val l zs
 |[],s,zs,_,_,_=>by simp[Hx]
 |_::_,s,[],h,_,_=>by simp[ag]at h
 |c::r,s,z::zs,h,ha,cF=>by
  have aA:=ha.tail
  simp only[cQ,jd,lI,ag]at h
  obtain⟨h1,h2⟩:=aiR (m:=m) (nb:=nb) (N:=N) r (s+1) zs h.2.2 aA.2 (by simp at cF;omega)
  have hc:=c.L7 (m:=m) (nb:=nb) (N:=N) h.1 h.2.1 aA.1 (by simp at cF;omega)
  refine⟨λa hm=>?_,by simp only[Hx,cQ,hc.2,h2,Sw]⟩
  rcases List.mem_cons.1 hm with rfl|hm
  ·exact hc.1
  ·exact h1 a hm
theorem D.L7 {ρ:Env} {m:Nat->Nat} {N nb:Nat} (d:D) {s:Nat} {zs:List Int} (h:ag d.bds (zs.take d.num)) (ha:je ρ s zs) (cF:s+d.num<=N):(d.sym s).ok N nb ρ/\(d.sym s).den ρ m=d.val zs:=by
 cases d with
 |str=>
  cases zs with
  |nil=>simp[D.bds,ag]at h
  |cons z r=>
   have aA:=ha.tail
   simp only[D.bds,D.num,lI,ag]at h
   simp only[D.num]at cF
   exact⟨⟨I.fg (by omega),by rw[I.cE,aA.1];exact h.1,by rw[I.cE,aA.1];exact h.2.1⟩,by simp[D.sym,W.den,A.den,D.val,I.cE,aA.1]⟩
 |int k lo hi=>
  cases zs with
  |nil=>simp[D.bds,ag]at h
  |cons z r=>
   have aA:=ha.tail
   simp only[D.bds,D.num,lI,ag]at h
   simp only[D.num]at cF
   exact⟨⟨I.fg (by omega),by simp only[I.cE,aA.1];exact h.1,by simp only[I.cE,aA.1];exact h.2.1⟩,by simp[D.sym,W.den,A.den,D.val,I.cE,aA.1]⟩
 |bool=>
  cases zs with
  |nil=>simp[D.bds,ag]at h
  |cons z r=>
   have aA:=ha.tail
   simp only[D.num]at cF
   exact⟨⟨I.fg (by omega),I.c5 _ _⟩,by simp[D.sym,W.den,A.den,D.val,bw.den,I.cE,I.bg,aA.1]⟩
 |agg k n lo hi=>
  have:=ZK (m:=m) (nb:=nb) (k:=k) n s zs h ha cF
  exact⟨this.1,by simp only[D.sym,W.den,D.val,this.2]⟩
 |mix l=>
  have:=aiR (m:=m) (nb:=nb) l s zs h ha cF
  exact⟨this.1,by simp only[D.sym,W.den,D.val,this.2]⟩
 |xj l=>exact⟨⟨I.c5 _ _,by rw[I.bg];exact au9 l⟩,by simp[D.sym,W.den,A.den,D.val,I.bg,y4]⟩
 |mq k c=>exact⟨bM.n9 _ _ c,by simp[D.sym,W.den,A.den,D.val,bM.const,I.bg]⟩
theorem Rp {ρ:Env} {m:Nat->Nat} {N nb:Nat}:∀(ds:List D) {s:Nat} {zs:List Int},ag (bf ds) zs->je ρ s zs->s+(bf ds).length<=N->(∀u∈su s ds,W.ok N nb ρ u)/\(su s ds).map (W.den ρ m)=nh ds zs
 |[],s,zs,_,_,_=>by simp[su,nh]
 |d::r,s,zs,h,ha,cF=>by
  have hs:=yH h
  rw[D.Jl]at hs
  simp only[bf,fc,D.Jl]at cF
  have h1:=d.L7 (m:=m) (nb:=nb) hs.1 ha (N:=N) (by omega)
  have h2:=Rp (m:=m) (nb:=nb) (N:=N) r hs.2 (ha.drop d.num) (by omega)
  exact⟨λu hu=>by rcases List.mem_cons.1 hu with rfl|hu;exact h1.1;exact h2.1 u hu,by simp[su,nh,h1.2,h2.2]⟩
def Fj (ds:List D) (s:Nat):V:=match su s ds with|[u]=> .w u|l=> .h9 l
def mE (ds:List D) (zs:List Int):aP:=match nh ds zs with|[x]=>x|l=> .tuple l.toArray
def q5 (lo hi:Int) (x:bM):Bool:=decide (lo<=x.lo)&&decide (x.hi<=hi)
def mg (k:du) (lo hi:Int):List A->Option (List I)
 |[]=>some []
 | .int bA x::r=>cond (decide (k=bA)&&q5 lo hi x) (match mg k lo hi r with|some l=>some (x.l::l)|none=>none) none
 |_::_=>none
def aL.fit:aL->A->Option I
 |int k lo hi,.int bA x=>cond (decide (k=bA)&&q5 lo hi x) (some x.l) none
 |str,.str l=>some l
 |bool,.bool (.lit b)=>some (.const (cond b 1 0))
 |_,_=>none
def sa:List aL->List A->Option (List I)
 |[],[]=>some []
 |c::r,a::s=>match c.fit a,sa r s with|some x,some l=>some (x::l)|_,_=>none
 |_,_=>none
def D2:D->V->Option (List I)
 | .int k lo hi,.w (.one (.int bA x))=>cond (decide (k=bA)&&q5 lo hi x) (some [x.l]) none
 | .agg k n lo hi,.w (.agg l)=>cond (aK l.length n) (mg k lo hi l) none
 | .mix l,.w (.agg s)=>sa l s
 | .str,.w (.one (.str l))=>some [l]
 | .bool,.w (.one (.bool (.lit b)))=>some [.const (cond b 1 0)]
 | .xj l,.w (.one (.str x))=>match x.ed with|some c=>cond (decide (c=jv (vl l))) (some []) none|none=>none
 | .mq k c,.w (.one (.int bA x))=>match x.l.ed with|some d=>cond (decide (k=bA)&&decide (d=c)) (some []) none|none=>none
 |_,_=>none
def q6:List D->List V->Option (List I)
 |[],[]=>some []
 |d::r,v::s=>match D2 d v,q6 r s with|some a,some b=>some (a++b)|_,_=>none
 |_,_=>none
theorem JV {n:Nat} {ρ:Env} {lo hi:Int} {x:bM} (h:q5 lo hi x=true) (hx:x.ok n ρ):lo<=x.l.den ρ/\x.l.den ρ<=hi:=by
 simp only[q5,bo,decide_eq_true_eq]at h
 have:=hx.2;omega
theorem OF {n nb:Nat} {ρ:Env} {m:Nat->Nat} {k:du} {lo hi:Int}:∀{l:List A} {r:List I},mg k lo hi l=some r->(∀a∈l,A.ok n nb ρ a)->r.length=l.length/\ag (av lo hi l.length) (r.map (·.den ρ))/\l.map (A.den ρ m)=(r.map (·.den ρ)).map (.int k)
 |[],r,h,_=>by simp[mg]at h;subst h;exact⟨rfl,trivial,rfl⟩
 | .int bA x::s,r,h,bV=>by
  simp only[mg]at h
  cases hc:(decide (k=bA)&&q5 lo hi x)with
  |false=>simp[hc]at h
  |true=>
   simp only[hc,cond_true]at h
   simp only[bo,decide_eq_true_eq]at hc
   cases hr:mg k lo hi s with
   |none=>simp[hr]at h
   |some r'=>
    simp only[hr,a7]at h
    subst h
    obtain⟨h1,h2,h3⟩:=OF (m:=m) hr λa ha=>bV a (dU _ ha)
    have hx:x.ok n ρ:=bV (.int bA x) (by simp)
    have hf:=JV hc.2 hx
    exact⟨by simp[h1],⟨hf.1,hf.2,h2⟩,by simp only[cQ,h3,A.den,hc.1]⟩
 | .bool _::_,_,h,_=>by simp[mg]at h
 | .ptr .. ::_,_,h,_=>by simp[mg]at h
 | .oD .. ::_,_,h,_=>by simp[mg]at h
 | .gptr .. ::_,_,h,_=>by simp[mg]at h
 | .slc .. ::_,_,h,_=>by simp[mg]at h
 | .con _::_,_,h,_=>by simp[mg]at h
 | .str _::_,_,h,_=>by simp[mg]at h
theorem aL.apN {n nb:Nat} {ρ:Env} {m:Nat->Nat} {c:aL} {a:A} {l:I} (h:c.fit a=some l) (bV:a.ok n nb ρ):(c.fq.1<=l.den ρ/\l.den ρ<=c.fq.2)/\a.den ρ m=c.val (l.den ρ):=by
 unfold aL.fit at h
 split at h
 ·rename_i k lo hi bA x
  cases hc:(decide (k=bA)&&q5 lo hi x)with
  |false=>simp[hc]at h
  |true=>
   simp only[hc,cond_true,a7]at h
   subst h
   simp only[bo,decide_eq_true_eq]at hc
   exact⟨JV hc.2 bV,by simp only[A.den,aL.val,hc.1]⟩
 ·simp only[a7]at h;subst h
  exact⟨bV.2,rfl⟩
 ·rename_i b
  simp only[a7]at h;subst h
  cases b<;>simp[aL.fq,aL.val,A.den,bw.den,I.bg]
 ·cases h
theorem afH {n nb:Nat} {ρ:Env} {m:Nat->Nat}:∀{d:List aL} {l:List A} {r:List I},sa d l=some r->(∀a∈l,A.ok n nb ρ a)->r.length=d.length/\ag (d.map aL.fq) (r.map (·.den ρ))/\l.map (A.den ρ m)=sJ aL.val d (r.map (·.den ρ))
 |[],[],r,h,_=>by simp[sa]at h;subst h;exact⟨rfl,trivial,rfl⟩
 |c::d,a::s,r,h,bV=>by
  simp only[sa]at h
  cases hx:c.fit a with
  |none=>simp[hx]at h
  |some x=>
   cases hr:sa d s with
   |none=>simp[hx,hr]at h
   |some r'=>
    simp only[hx,hr,a7]at h
    subst h
    obtain⟨h1,h2,h3⟩:=afH (m:=m) hr λa ha=>bV a (dU _ ha)
    have hf:=aL.apN (m:=m) hx (bV a (by simp))
    exact⟨by simp[h1],⟨hf.1.1,hf.1.2,h2⟩,by simp only[cQ,h3,hf.2,Sw]⟩
 |[],_::_,_,h,_=>by simp[sa]at h
 |_::_,[],_,h,_=>by simp[sa]at h
theorem akL {n:Nat} {ρ:Env} {l:List UInt8} {x:I} {c:Int} (hc:x.ed=some c) (h:c=jv (vl l)):bp (x.den ρ)=vl l:=by rw[I.jI hc,h,y4]
theorem afE {n nb:Nat} {ρ:Env} {m:Nat->Nat} {d:D} {v:V} {r:List I} {x:aP} (h:D2 d v=some r) (bV:v.ok n nb ρ) (hx:v.rel ρ m x):r.length=d.num/\ag d.bds (r.map (·.den ρ))/\∀zs,d.val ((r.map (·.den ρ))++zs)=x:=by
 unfold D2 at h
 split at h
 ·rename_i k lo hi bA y
  cases hc:(decide (k=bA)&&q5 lo hi y)with
  |false=>simp[hc]at h
  |true=>
   simp only[hc,cond_true,a7]at h
   subst h
   simp only[bo,decide_eq_true_eq]at hc
   have hf:=JV hc.2 bV
   simp only[V.rel,W.den,A.den]at hx
   exact⟨rfl,⟨hf.1,hf.2,trivial⟩,λzs=>by simp[D.val,hx,hc.1]⟩
 ·rename_i k n' lo hi l
  cases hc:aK l.length n' with
  |false=>simp[hc]at h
  |true=>
   simp only[hc,cond_true]at h
   have hl:=bO hc
   subst hl
   obtain⟨h1,h2,h3⟩:=OF (m:=m) h bV
   simp only[V.rel,W.den]at hx
   exact⟨h1,h2,λzs=>by rw[hx,h3];simp only[D.val];rw[Mz (by simp[h1]),pt (by simp[h1])]⟩
 ·rename_i l s
  obtain⟨h1,h2,h3⟩:=afH (m:=m) h bV
  simp only[V.rel,W.den]at hx
  refine⟨h1,h2,λzs=>?_⟩
  rw[hx,h3]
  simp only[D.val]
  congr 2
  have key:∀(a:List aL) (b c:List Int),b.length=a.length->sJ aL.val a (b++c)=sJ aL.val a b:=by
   intro a
   induction a with
   |nil=>intro b c _;simp
   |cons p a ih=>
    intro b c hb
    cases b with
    |nil=>simp at hb
    |cons z b=>simp[ih b c (by simpa using hb)]
  exact key _ _ _ (by simp[h1])
 ·rename_i l
  simp only[a7]at h;subst h
  simp only[V.rel,W.den,A.den]at hx
  exact⟨rfl,⟨bV.2.1,bV.2.2,trivial⟩,λzs=>by rw[hx];rfl⟩
 ·rename_i b
  simp only[a7]at h;subst h
  simp only[V.rel,W.den,A.den,bw.den]at hx
  cases b<;>exact⟨rfl,by simp[D.bds,ag,I.bg],λzs=>by rw[hx];simp[D.val,I.bg]⟩
 ·rename_i l y
  cases hc:y.ed with
  |none=>simp[hc]at h
  |some c=>
   simp only[hc]at h
   cases hd:decide (c=jv (vl l))with
   |false=>simp[hd]at h
   |true=>
    simp only[hd,cond_true,a7]at h
    subst h
    have hd:c=jv (vl l):=by simpa using hd
    refine⟨rfl,trivial,λzs=>?_⟩
    have hx:x= .string (dI (bp (y.den ρ))):=hx
    rw[hx,akL (n:=n) hc hd];rfl
 ·rename_i k c bA y
  cases hc:y.l.ed with
  |none=>simp[hc]at h
  |some d=>
   simp only[hc]at h
   cases hd:(decide (k=bA)&&decide (d=c))with
   |false=>simp[hd]at h
   |true=>
    simp only[hd,cond_true,a7]at h
    subst h
    simp only[bo,decide_eq_true_eq]at hd
    refine⟨rfl,trivial,λzs=>?_⟩
    have hx:x= .int bA (y.l.den ρ):=hx
    rw[hx,I.jI hc,<-hd.1,hd.2];rfl
 ·cases h
theorem OI {n nb:Nat} {ρ:Env} {m:Nat->Nat}:∀{ds:List D} {vs:List V} {r:List I} {xs:List aP},q6 ds vs=some r->(∀v∈vs,V.ok n nb ρ v)->eJ ρ m vs xs->ag (bf ds) (r.map (·.den ρ))/\nh ds (r.map (·.den ρ))=xs
 |[],[],r,[],h,_,_=>by simp[q6]at h;subst h;exact⟨trivial,rfl⟩
 |d::ds,v::vs,r,x::xs,h,bV,hr=>by
  simp only[q6]at h
  cases h1:D2 d v with
  |none=>simp[h1]at h
  |some a=>
   cases h2:q6 ds vs with
   |none=>simp[h1,h2]at h
   |some b=>
    simp only[h1,h2,a7]at h
    subst h
    obtain⟨cm,cl,c3⟩:=afE (m:=m) h1 (bV v (by simp)) hr.1
    obtain⟨bb,b0⟩:=OI h2 (λu hu=>bV u (dU _ hu)) hr.2
    refine⟨by rw[iy];exact nK cl bb,?_⟩
    rw[iy]
    simp only[nh,c3]
    rw[show d.num=(a.map (·.den ρ)).length by simp[cm],Dd,b0]
 |[],_::_,_,_,h,_,_=>by simp[q6]at h
 |_::_,[],_,_,h,_,_=>by simp[q6]at h
 |[],[],_,_::_,_,_,hr=>hr.elim
 |_::_,_::_,_,[],_,_,hr=>hr.elim
structure bU where
 f:dn
 id:Nat
 args:List D
 res:List D
def bU.bY (P:bQ) (wb:aE) (c:bU) (spec:List Int->List Int->Prop):Prop:=
 (∀args w,(callFunc c.f args).run P w= .ok (.enter c.f args) w)/\
 ∀zs,ag (bf c.args) zs->∃rs,ag (bf c.res) rs/\spec zs rs/\∀w,wb.Extends w->lG P c.f (nh c.args zs).toArray w λe w'=>e= .returned (mE c.res rs)/\w.Extends w'
noncomputable def VL (d:D) (v:V):M (List I):=
 match d,v with
 | .bool,.w (.one (.bool e))=>bind (EH e) λl=>pure [l]
 | .mix l,.w (.agg s)=>A5 l s
 | .int k lo hi,.w (.one (.int bA x))=>cond (decide (k=bA)) (cond (q5 lo hi x) (pure [x.l]) (bind (gh 39 [x.l,.const lo,.const hi]) λ_=>pure [x.l])) fail
 |d,v=>match D2 d v with|some r=>pure r|none=>fail
noncomputable def OH:List D->List V->M (List I)
 |[],[]=>pure []
 |d::r,v::s=>bind (VL d v) λa=>bind (OH r s) λb=>pure (a++b)
 |_,_=>fail
noncomputable def bU.M (c:bU):List aG->List V->M V:=λ_ vs n k=>
 match q6 c.args vs with
 |some l=> .call c.id l n (bf c.res) (k (Fj c.res n) (n+(bf c.res).length))
 |none=>OH c.args vs n λl n=> .call c.id l n (bf c.res) (k (Fj c.res n) (n+(bf c.res).length))
section
variable {S:Nat->List Int->List Int->Prop} {L:V->Env->Prop}
theorem VK {k:du} {lo hi:Int} {n nb:Nat} {ρ:Env}:∀{l:List A} {r:List I},mg k lo hi l=some r->(∀a∈l,A.ok n nb ρ a)->∀x∈r,I.bD n x
 |[],r,h,_=>by simp[mg]at h;subst h;intro x hx;simp at hx
 |a::s,r,h,bV=>by
  cases a with
  |int bA x=>
   simp only[mg]at h
   cases hc:(decide (k=bA)&&q5 lo hi x)with
   |false=>simp[hc]at h
   |true=>
    cases hr:mg k lo hi s with
    |none=>simp[hc,hr]at h
    |some r'=>
     simp only[hc,hr,cond_true,a7]at h
     subst h
     intro y hy
     rcases List.mem_cons.1 hy with hy|hy
     ·rw[hy]
      have h0:A.ok n nb ρ (.int bA x):=bV _ (Sx ..)
      have h0:x.ok n ρ:=h0
      exact h0.1
     ·exact VK hr (λa ha=>bV a (dU _ ha)) y hy
  |_=>simp[mg]at h
theorem afG {n nb:Nat} {ρ:Env}:∀{d:List aL} {l:List A} {r:List I},sa d l=some r->(∀a∈l,A.ok n nb ρ a)->∀x∈r,I.bD n x
 |[],[],r,h,_=>by simp[sa]at h;subst h;intro x hx;simp at hx
 |c::d,a::s,r,h,bV=>by
  simp only[sa]at h
  cases hx:c.fit a with
  |none=>simp[hx]at h
  |some x=>
   cases hr:sa d s with
   |none=>simp[hx,hr]at h
   |some r'=>
    simp only[hx,hr,a7]at h
    subst h
    intro y hy
    rcases List.mem_cons.1 hy with hy|hy
    ·subst hy
     have h0:=bV a (by simp)
     unfold aL.fit at hx
     split at hx
     ·rename_i k lo hi bA z
      cases hc:(decide (k=bA)&&q5 lo hi z)with
      |false=>simp[hc]at hx
      |true=>
       simp only[hc,cond_true,a7]at hx
       subst hx
       have h0:z.ok n ρ:=h0
       exact h0.1
     ·simp only[a7]at hx;subst hx
      exact h0.1
     ·simp only[a7]at hx;subst hx
      exact I.c5 _ _
     ·cases hx
    ·exact afG hr (λa ha=>bV a (dU _ ha)) y hy
 |[],_::_,_,h,_=>by simp[sa]at h
 |_::_,[],_,h,_=>by simp[sa]at h
theorem apR {n nb:Nat} {ρ:Env} {d:D} {v:V} {r:List I} (h:D2 d v=some r) (bV:v.ok n nb ρ):∀x∈r,I.bD n x:=by
 unfold D2 at h
 split at h
 ·rename_i k lo hi bA y
  cases hc:(decide (k=bA)&&q5 lo hi y)with
  |false=>simp[hc]at h
  |true=>
   simp only[hc,cond_true,a7]at h
   subst h
   have h0:y.ok n ρ:=bV
   intro x hx
   simp at hx;subst hx
   exact h0.1
 ·rename_i k n' lo hi l
  cases hc:aK l.length n' with
  |false=>simp[hc]at h
  |true=>
   simp only[hc,cond_true]at h
   exact VK h bV
 ·exact afG h bV
 ·simp only[a7]at h;subst h
  intro x hx
  simp at hx;subst hx
  exact bV.1
 ·simp only[a7]at h;subst h
  intro x hx
  simp at hx;subst hx
  exact I.c5 _ _
 ·rename_i l y
  cases hc:y.ed with
  |none=>simp[hc]at h
  |some c=>
   simp only[hc]at h
   cases hd:decide (c=jv (vl l))with
   |false=>simp[hd]at h
   |true=>
    simp only[hd,cond_true,a7]at h
    subst h
    intro x hx;simp at hx
 ·rename_i k c bA y
  cases hc:y.l.ed with
  |none=>simp[hc]at h
  |some d=>
   simp only[hc]at h
   cases hd:(decide (k=bA)&&decide (d=c))with
   |false=>simp[hd]at h
   |true=>
    simp only[hd,cond_true,a7]at h
    subst h
    intro x hx;simp at hx
 ·cases h
theorem cw.XE:∀{sh:List aL} {zs:List Int},cw sh zs->ag (sh.map aL.fq) zs/\sJ aL.val sh zs=dq sh zs
 |[],[],_=>⟨trivial,rfl⟩
 |c::sh,z::zs,h=>⟨⟨h.1.1,h.1.2,(cw.XE h.2).1⟩,by simp[dq,(cw.XE h.2).2]⟩
 |[],_::_,h=>h.elim
 |_::_,[],h=>h.elim
theorem alR {f:aL->Int->aP}:∀(a:List aL) (b c:List Int),b.length=a.length->sJ f a (b++c)=sJ f a b
 |[],b,c,_=>by simp
 |_::a,[],c,h=>by simp at h
 |_::a,z::b,c,h=>by simp[alR a b c (by simpa using h)]
theorem apP {d:D} {v:V} {X:aP} {n nb:Nat} {ρ:Env} {m:Nat->Nat} (hv:v.ok n nb ρ) (bT:v.rel ρ m X):az S L (VL d v) n ρ λaa n' ls=>(∀x∈ls,I.bD n' x)/\ls.length=d.num/\ag d.bds (ls.map (·.den aa))/\∀zs,d.val ((ls.map (·.den aa))++zs)=X:=by
 unfold VL
 split
 ·rename_i e
  have bT:X= .bool (e.den ρ):=bT
  exact Pu.bind λaJ aT l hn ha ⟨g1,g2,g3⟩=>az.pure ⟨λx hx=>by simp at hx;subst hx;exact g1,rfl,⟨g2.1,g2.2,trivial⟩,λzs=>by rw[bT,g3];rfl⟩
 ·rename_i l s
  have bT:X= .agg (s.map (A.den ρ m)).toArray:=bT
  refine(H6 (nb:=nb) (m:=m) hv).mono λaJ aT ls hn ha ⟨g1,g2,g3⟩=>?_
  have h1:=cw.XE g2
  have h2:=g2.len
  refine⟨g1,by simpa [D.num]using h2,h1.1,λzs=>?_⟩
  rw[bT,<-g3,<-h1.2]
  simp only[D.val]
  rw[alR _ _ _ (by simpa using h2)]
 ·rename_i k lo hi bA x
  have bT:X= .int bA (x.l.den ρ):=bT
  have hv:x.ok n ρ:=hv
  refine dY λab=>?_
  have ab:=of_decide_eq_true ab
  subst ab
  cases hf:q5 lo hi x with
  |true=>
   have:=JV hf hv
   exact az.pure ⟨λy hy=>by simp at hy;subst hy;exact hv.1,rfl,⟨this.1,this.2,trivial⟩,λzs=>by rw[bT];rfl⟩
  |false=>
   refine iM λhc=>az.pure ?_
   simp only[cQ,e3,au,I.bg]at hc
   exact⟨λy hy=>by simp at hy;subst hy;exact hv.1,rfl,⟨hc.1,hc.2,trivial⟩,λzs=>by rw[bT];rfl⟩
 ·split
  ·rename_i hf
   obtain⟨cm,cl,c3⟩:=afE (m:=m) hf hv bT
   exact az.pure ⟨apR hf hv,cm,cl,c3⟩
  ·exact az.fail
theorem eJ.ext {n nb:Nat} {ρ aa:Env} {m m':Nat->Nat}:∀{vs:List V} {xs:List aP},eJ ρ m vs xs->(∀v∈vs,V.ok n nb ρ v)->agree n ρ aa->(∀b,b<nb->m' b=m b)->eJ aa m' vs xs
 |[],[],_,_,_,_=>trivial
 |v::vs,x::xs,h,bV,ha,hm=>⟨V.rel.ext h.1 (bV v (by simp)) ha hm,eJ.ext h.2 (λu hu=>bV u (dU _ hu)) ha hm⟩
 |[],_::_,h,_,_,_=>h.elim
 |_::_,[],h,_,_,_=>h.elim
theorem afF {nb:Nat} {m:Nat->Nat}:∀{ds:List D} {vs:List V} {xs:List aP} {n:Nat} {ρ:Env},(∀v∈vs,V.ok n nb ρ v)->eJ ρ m vs xs->az S L (OH ds vs) n ρ λaa n' ls=>(∀x∈ls,I.bD n' x)/\ag (bf ds) (ls.map (·.den aa))/\nh ds (ls.map (·.den aa))=xs
 |[],[],[],n,ρ,_,_=>az.pure ⟨λ_ h=>by simp at h,trivial,rfl⟩
 |d::ds,v::vs,x::xs,n,ρ,bV,hr=>by
  unfold OH
  refine(apP (nb:=nb) (bV v (by simp)) hr.1).bind λaJ aT a gi eK ⟨p0,cm,cl,c3⟩=>(afF (ds:=ds) (vs:=vs) (λu hu=>(bV u (dU _ hu)).ext eK gi (bL _)) (eJ.ext hr.2 (λu hu=>bV u (dU _ hu)) eK (λ_ _=>rfl))).bind λbR eF b eL dz ⟨eB,bb,b0⟩=>az.pure ⟨λy hy=>?_,?_,?_⟩
  ·rcases List.mem_append.1 hy with hy|hy
   ·exact(p0 y hy).mono eL
   ·exact eB y hy
  ·have e:a.map (·.den bR)=a.map (·.den aJ):=jQ λy hy=>I.bX dz (p0 y hy)
   rw[iy,e];exact nK cl bb
  ·have e:a.map (·.den bR)=a.map (·.den aJ):=jQ λy hy=>I.bX dz (p0 y hy)
   rw[iy,e]
   simp only[nh,c3]
   rw[show d.num=(a.map (·.den aJ)).length by simp[cm],Dd,b0]
 |[],_::_,_,_,_,_,_=>az.fail
 |_::_,[],_,_,_,_,_=>az.fail
 |[],[],_::_,_,_,_,hr=>hr.elim
 |_::_,_::_,[],_,_,_,hr=>hr.elim
end
section
variable {S:Nat->List Int->List Int->Prop} {P:bQ} {gl:eI} {w0:dX}
theorem N8 {L:V->Env->Prop} {id:Nat} {l:List I} {n:Nat} {bds:List (Int×Int)} {r:T} {G:ev} {ρ:Env} (h:(T.call id l n bds r).holds S L G ρ) {rs:List Int} (hi:ag bds rs) (hs:S id (l.map (·.den ρ)) rs):r.holds S L G (bI ρ n rs):=
 lL h hi hs
theorem Q5 {ρ:Env} {m:Nat->Nat} {N nb:Nat} {ds:List D} {s:Nat} {zs:List Int} (h:ag (bf ds) zs) (ha:je ρ s zs) (cF:s+(bf ds).length<=N):(Fj ds s).ok N nb ρ/\(Fj ds s).rel ρ m (mE ds zs):=by
 have hs:=Rp (m:=m) (nb:=nb) ds h ha cF
 unfold Fj mE
 rw[<-hs.2]
 split
 ·rename_i u heq
  rw[heq]at hs
  rw[heq]
  exact⟨hs.1 u (by simp),rfl⟩
 ·rename_i l cW
  refine⟨hs.1,?_⟩
  split
  ·rename_i x heq
   have:∃u,su s ds=[u]:=by
    cases hl:su s ds with
    |nil=>rw[hl]at heq;simp at heq
    |cons u r=>
     cases r with
     |nil=>exact⟨u,rfl⟩
     |cons _ _=>rw[hl]at heq;simp at heq
   obtain⟨u,hu⟩:=this
   exact absurd hu (cW u)
  ·rfl
def bU.x0 (P:bQ) (wb:aE) (c:bU) (spec:List Int->List Int->Prop):Prop:=
 ∀zs,ag (bf c.args) zs->∃rs,ag (bf c.res) rs/\spec zs rs/\∀w,wb.Extends w->uG P c.f (nh c.args zs).toArray w (mE c.res rs)
theorem bU.bY.f {wb:aE} {c:bU} {spec:List Int->List Int->Prop} (h:c.bY P wb spec):c.x0 P wb spec:=λzs hz=>by
 obtain⟨rs,h1,h2,h3⟩:=h.2 zs hz
 exact⟨rs,h1,h2,λw hw=> .inr ⟨h.1 _ _,h3 w hw⟩⟩
theorem bU.snd {c:bU} {spec:List Int->List Int->Prop} (hc:c.x0 P w0.b spec) (gK:∀zs rs,spec zs rs->S c.id zs rs) (L:V->Env->Prop) (n:Nat) (ρ:Env) (m:Nat->Nat) (bl:List aG) (vs:List V) (xs:List aP)
 (jW:∀v∈vs,V.ok n bl.length ρ v) (hr:eJ ρ m vs xs):az S L (c.M bl vs) n ρ λaa n' v=>v.ok n' bl.length aa/\∃val,v.rel aa m val/\∀w,Mem w0 ρ m bl w->uG P c.f xs.toArray w val:=by
 intro G k ab
 unfold bU.M at ab
 cases hl:q6 c.args vs with
 |none=>
  simp only[hl]at ab
  obtain⟨aJ,aT,l,gi,eK,⟨_,h1,h2⟩,ab⟩:=afF (S:=S) (L:=L) (nb:=bl.length) jW hr G _ ab
  obtain⟨rs,r1,r2,gn⟩:=hc _ h1
  have ae:=N8 ab r1 (gK _ _ r2)
  have hlen:=er r1
  have m2:=Q5 (m:=m) (nb:=bl.length) (N:=aT+(bf c.res).length) r1 (je.bI aJ aT rs) (bL _)
  refine⟨_,_,_,lg gi (IT _ _),eK.trans (agree.bI rs aT aJ) gi,⟨m2.1,_,m2.2,λw hw=>?_⟩,ae⟩
  rw[h2]at gn
  exact gn w hw.ext
 |some l=>
  simp only[hl]at ab
  obtain⟨h1,h2⟩:=OI hl jW hr
  obtain⟨rs,r1,r2,gn⟩:=hc _ h1
  have ae:=N8 ab r1 (gK _ _ r2)
  have hlen:=er r1
  have m2:=Q5 (m:=m) (nb:=bl.length) (N:=n+(bf c.res).length) r1 (je.bI ρ n rs) (bL _)
  refine⟨_,_,_,IT _ _,agree.bI rs n ρ,⟨m2.1,_,m2.2,λw hw=>?_⟩,ae⟩
  rw[h2]at gn
  exact gn w hw.ext
def YO:List aG->List V->M V:=λ_ vs=>
 match vs with
 |[.w (.one (.int .u64 x)),.w (.one (.int .u64 y))]=>
  cond (decide (0<=x.lo)&&decide (x.hi<18446744073709551616)&&decide (0<=y.lo)&&decide (y.hi<18446744073709551616)) (bind (mulM x y) λp=>bind (yn p 18446744073709551616) λq=>
   pure (.h9 [.one (.int .u64 q),.one (.int .u64 ⟨p.l.sub (q.l.smul 18446744073709551616),0,18446744073709551615⟩)])) fail
 |_=>fail
def Up:List aG->List V->M V:=λ_ vs=>
 match vs with
 |[.w (.one (.int .u64 x)),.w (.one (.int .u64 y)),.w (.one (.int .u64 c))]=>
  cond (decide (0<=x.lo)&&decide (0<=y.lo)&&decide (0<=c.lo)&&decide (c.hi<=1)) (bind (yn ⟨(x.l.add y.l).add c.l,x.lo+y.lo+c.lo,x.hi+y.hi+c.hi⟩ 18446744073709551616) λq=>
   pure (.h9 [.one (.int .u64 ⟨((x.l.add y.l).add c.l).sub (q.l.smul 18446744073709551616),0,18446744073709551615⟩),.one (.int .u64 q)])) fail
 |_=>fail
def aat:List aG->List V->M V:=λ_ vs=>
 match vs with
 |[.w (.one (.int .u64 x)),.w (.one (.int .u64 y)),.w (.one (.int .u64 c))]=>
  cond (decide (0<=x.lo)&&decide (x.hi<18446744073709551616)&&decide (0<=y.lo)&&decide (y.hi<18446744073709551616)&&decide (0<=c.lo)&&decide (c.hi<=1)) (bind (yn ⟨(x.l.sub y.l).sub c.l,x.lo-y.hi-c.hi,x.hi-y.lo-c.lo⟩ 18446744073709551616) λq=>
   pure (.h9 [.one (.int .u64 ⟨((x.l.sub y.l).sub c.l).sub (q.l.smul 18446744073709551616),0,18446744073709551615⟩),.one (.int .u64 ⟨q.l.smul (-1),0,1⟩)])) fail
 |_=>fail
def FP (P:bQ) (f:dn):Prop:=∀x y:Int,0<=x->x<18446744073709551616->0<=y->y<18446744073709551616->∀w,uG P f #[.int .u64 x,.int .u64 y] w (.tuple #[.int .u64 (x*y/18446744073709551616),.int .u64 (x*y% 18446744073709551616)])
def FK (P:bQ) (f:dn):Prop:=∀x y c:Int,0<=x->0<=y->0<=c->c<=1->∀w,uG P f #[.int .u64 x,.int .u64 y,.int .u64 c] w (.tuple #[.int .u64 ((x+y+c)% 18446744073709551616),.int .u64 ((x+y+c)/18446744073709551616)])
def FQ (P:bQ) (f:dn):Prop:=∀x y c:Int,0<=x->x<18446744073709551616->0<=y->y<18446744073709551616->0<=c->c<=1->∀w,uG P f #[.int .u64 x,.int .u64 y,.int .u64 c] w (.tuple #[.int .u64 ((x-y-c)% 18446744073709551616),.int .u64 (-((x-y-c)/18446744073709551616))])
variable {L:V->Env->Prop} {n:Nat} {ρ:Env} {m:Nat->Nat} {bl:List aG} {vs:List V} {xs:List aP}
theorem aiq {x y c:A} (hr:eJ ρ m [.w (.one x),.w (.one y),.w (.one c)] xs):xs=[x.den ρ m,y.den ρ m,c.den ρ m]:=by
 match xs,hr with
 |[a,b,d],h=>obtain⟨rfl,rfl,rfl,_⟩:=h;rfl
 |[],h=>exact h.elim
 |[_],h=>exact h.2.elim
 |[_,_],h=>exact h.2.2.elim
 |_::_::_::_::_,h=>exact h.2.2.2.elim
theorem avK {x y:A} (hr:eJ ρ m [.w (.one x),.w (.one y)] xs):xs=[x.den ρ m,y.den ρ m]:=by
 match xs,hr with
 |[a,b],h=>obtain⟨rfl,rfl,_⟩:=h;rfl
 |[],h=>exact h.elim
 |[_],h=>exact h.2.elim
 |_::_::_::_,h=>exact h.2.2.elim
theorem av0 {f:dn} (hf:FP P f) (jW:∀v∈vs,V.ok n bl.length ρ v) (hr:eJ ρ m vs xs):az S L (YO bl vs) n ρ λaa n' v=>v.ok n' bl.length aa/\∃val,v.rel aa m val/\∀w,Mem w0 ρ m bl w->uG P f xs.toArray w val:=by
 unfold YO
 split
 ·rename_i x y
  refine dY λhc=>?_
  simp only[bo,decide_eq_true_eq]at hc
  have hx:x.ok n ρ:=jW (.w (.one (.int .u64 x))) (by simp)
  have hy:y.ok n ρ:=jW (.w (.one (.int .u64 y))) (by simp)
  have zN:=hx.2;have Jq:=hy.2
  refine(YQ hx hy).bind λaJ aT p gi eK ⟨hp,ep⟩=>?_
  refine(BX (by decide) hp).bind λbR eF q eL dz ⟨aj,eq,_⟩=>az.pure ?_
  have G7:=hp.agree dz eL
  have VD:p.l.den bR=x.l.den ρ*y.l.den ρ:=by rw[I.bX dz hp.1,ep]
  have aF:(p.l.sub (q.l.smul 18446744073709551616)).den bR=x.l.den ρ*y.l.den ρ% 18446744073709551616:=by
   rw[I.kf,I.kM,VD,eq,ep];omega
  refine⟨λu hu=>?_,_,rfl,λw _=>?_⟩
  ·simp at hu
   rcases hu with rfl|rfl
   ·exact aj
   ·exact⟨I.uh G7.1 (I.ug aj.1),by simp only[aF];omega,by simp only[aF];omega⟩
  ·rw[avK hr]
   have:=hf (x.l.den ρ) (y.l.den ρ) (by omega) (by omega) (by omega) (by omega) w
   simpa [A.den,W.den,aF,eq,ep]using this
 ·exact az.fail
theorem anw {f:dn} (hf:FK P f) (jW:∀v∈vs,V.ok n bl.length ρ v) (hr:eJ ρ m vs xs):az S L (Up bl vs) n ρ λaa n' v=>v.ok n' bl.length aa/\∃val,v.rel aa m val/\∀w,Mem w0 ρ m bl w->uG P f xs.toArray w val:=by
 unfold Up
 split
 ·rename_i x y c
  refine dY λhc=>?_
  simp only[bo,decide_eq_true_eq]at hc
  have hx:x.ok n ρ:=jW (.w (.one (.int .u64 x))) (by simp)
  have hy:y.ok n ρ:=jW (.w (.one (.int .u64 y))) (by simp)
  have El:c.ok n ρ:=jW (.w (.one (.int .u64 c))) (by simp)
  have zN:=hx.2;have Jq:=hy.2;have bc:=El.2
  have hs:(bM.mk ((x.l.add y.l).add c.l) (x.lo+y.lo+c.lo) (x.hi+y.hi+c.hi)).ok n ρ:=⟨I.vG (I.vG hx.1 hy.1) El.1,by simp only[I.den_add];omega,by simp only[I.den_add];omega⟩
  refine(BX (x:=⟨(x.l.add y.l).add c.l,x.lo+y.lo+c.lo,x.hi+y.hi+c.hi⟩) (by decide) hs).bind λbR eF q eL dz ⟨aj,eq,_⟩=>az.pure ?_
  have wZ:=hs.agree dz eL
  simp only[I.den_add]at eq
  have aF:(((x.l.add y.l).add c.l).sub (q.l.smul 18446744073709551616)).den bR=(x.l.den ρ+y.l.den ρ+c.l.den ρ)% 18446744073709551616:=by
   rw[I.kf,I.kM,I.bX dz hs.1,I.den_add,I.den_add,eq];omega
  refine⟨λu hu=>?_,_,rfl,λw _=>?_⟩
  ·simp at hu
   rcases hu with rfl|rfl
   ·exact⟨I.uh wZ.1 (I.ug aj.1),by simp only[aF];omega,by simp only[aF];omega⟩
   ·exact aj
  ·rw[aiq hr]
   have:=hf (x.l.den ρ) (y.l.den ρ) (c.l.den ρ) (by omega) (by omega) (by omega) (by omega) w
   simpa [A.den,W.den,aF,eq]using this
 ·exact az.fail
theorem aBi {f:dn} (hf:FQ P f) (jW:∀v∈vs,V.ok n bl.length ρ v) (hr:eJ ρ m vs xs):az S L (aat bl vs) n ρ λaa n' v=>v.ok n' bl.length aa/\∃val,v.rel aa m val/\∀w,Mem w0 ρ m bl w->uG P f xs.toArray w val:=by
 unfold aat
 split
 ·rename_i x y c
  refine dY λhc=>?_
  simp only[bo,decide_eq_true_eq]at hc
  have hx:x.ok n ρ:=jW (.w (.one (.int .u64 x))) (by simp)
  have hy:y.ok n ρ:=jW (.w (.one (.int .u64 y))) (by simp)
  have El:c.ok n ρ:=jW (.w (.one (.int .u64 c))) (by simp)
  have zN:=hx.2;have Jq:=hy.2;have bc:=El.2
  have hs:(bM.mk ((x.l.sub y.l).sub c.l) (x.lo-y.hi-c.hi) (x.hi-y.lo-c.lo)).ok n ρ:=⟨I.uh (I.uh hx.1 hy.1) El.1,by simp only[I.kf];omega,by simp only[I.kf];omega⟩
  refine(BX (x:=⟨(x.l.sub y.l).sub c.l,x.lo-y.hi-c.hi,x.hi-y.lo-c.lo⟩) (by decide) hs).bind λbR eF q eL dz ⟨aj,eq,_⟩=>az.pure ?_
  have wZ:=hs.agree dz eL
  simp only[I.kf]at eq
  have aF:(((x.l.sub y.l).sub c.l).sub (q.l.smul 18446744073709551616)).den bR=(x.l.den ρ-y.l.den ρ-c.l.den ρ)% 18446744073709551616:=by
   rw[I.kf,I.kM,I.bX dz hs.1,I.kf,I.kf,eq];omega
  have cb:(q.l.smul (-1)).den bR=-((x.l.den ρ-y.l.den ρ-c.l.den ρ)/18446744073709551616):=by
   rw[I.kM,eq];omega
  refine⟨λu hu=>?_,_,rfl,λw _=>?_⟩
  ·simp at hu
   rcases hu with rfl|rfl
   ·exact⟨I.uh wZ.1 (I.ug aj.1),by simp only[aF];omega,by simp only[aF];omega⟩
   ·exact⟨I.ug aj.1,by simp only[cb];omega,by simp only[cb];omega⟩
  ·rw[aiq hr]
   have:=hf (x.l.den ρ) (y.l.den ρ) (c.l.den ρ) (by omega) (by omega) (by omega) (by omega) (by omega) (by omega) w
   simpa [A.den,W.den,aF,cb]using this
 ·exact az.fail
end
end Go.b6
namespace Go.b6
open M
theorem Nd:∀{b:List (Int×Int)} {P Q:List Int->Prop},(∀rs,P rs->Q rs)->ju b P->ju b Q
 |[],_,_,h,hp=>h _ hp
 |(l,u)::b,P,Q,h,hp=>λr h1 h2=>Nd (b:=b) (P:=λrs=>P (r::rs)) (Q:=λrs=>Q (r::rs)) (λrs=>h (r::rs)) (hp r h1 h2)
theorem sV:∀{b:List (Int×Int)} {P:List Int->Prop},(∀rs,ag b rs->P rs)->ju b P
 |[],_,h=>h [] trivial
 |(l,u)::b,P,h=>λr h1 h2=>sV (b:=b) (P:=λrs=>P (r::rs)) λrs hi=>h (r::rs) ⟨h1,h2,hi⟩
theorem jK {S:Nat->List Int->List Int->Prop} {L acp:V->Env->Prop} (h:∀v ρ,L v ρ->acp v ρ):∀(t:T) (G:ev) (ρ:Env),t.holds S L G ρ->t.holds S acp G ρ
 | .stuck,_,_,ae=>ae
 | .leaf v,_,ρ,ae=>h v ρ ae
 | .div n x d lo hi r,G,ρ,ae=>λq h1 h2 h3 h4=>jK h r G _ (ae q h1 h2 h3 h4)
 | .mul n x y lo hi r,G,ρ,ae=>λq h1 h2 h3=>jK h r G _ (ae q h1 h2 h3)
 | .bit n op k x y r,G,ρ,ae=>λq h1 h2 h3=>jK h r G _ (ae q h1 h2 h3)
 | .shr n x y lo hi r,G,ρ,ae=>λq h1 h2 h3=>jK h r G _ (ae q h1 h2 h3)
 | .y7 n cs bd lo hi r,G,ρ,ae=>λq h1 h2 h3=>jK h r G _ (ae q h1 h2 h3)
 | .r6 b t e,G,ρ,ae=>⟨λhb=>jK h t G ρ (ae.1 hb),λhb=>jK h e G ρ (ae.2 hb)⟩
 | .call id args n bds r,G,ρ,ae=>Nd (λrs hr hs=>jK h r G _ (hr hs)) ae
 | .loop ka init n bds r,G,ρ,ae=>by
  obtain⟨ks,mR,h1,h2⟩:=ae
  exact⟨ks,mR,h1,Nd (λzs hz fQ=>jK h r _ _ (hz fQ)) h2⟩
 | .again ka vals,G,ρ,ae=>ae
 | .both x y,G,ρ,ae=>⟨jK h x G ρ ae.1,jK h y G ρ ae.2⟩
 | .fn n op args lo hi r,G,ρ,ae=>λq h1 h2 h3=>jK h r G _ (ae q h1 h2 h3)
 | .qy op args r,G,ρ,ae=>⟨ae.1,jK h r G ρ ae.2⟩
 | .sz n lo hi r,G,ρ,ae=>λz h1 h2=>jK h r G _ (ae z h1 h2)
 | .nat n r,G,ρ,ae=>λz h1=>jK h r G _ (ae z h1)
 | .uT op args r,G,ρ,ae=>λh1=>jK h r G ρ (ae h1)
 | .ind n b r,G,ρ,ae=>λz h1 h2 h3=>jK h r G _ (ae z h1 h2 h3)
def T.plain:T->Bool
 |stuck=>true
 |leaf _=>true
 |fn _ _ _ _ _ r|qy _ _ r|ind _ _ r|div _ _ _ _ _ r|mul _ _ _ _ _ r|bit _ _ _ _ _ r|shr _ _ _ _ _ r|y7 _ _ _ _ _ r|call _ _ _ _ r=>r.plain
 |r6 _ t e=>t.plain&&e.plain
 |loop .. =>false
 |again .. =>false
 |both .. =>false
 |sz .. =>false
 |nat .. =>false
 |uT .. =>false
def Path (S:Nat->List Int->List Int->Prop):T->Env->V->Env->Prop
 | .stuck,_,_,_=>False
 | .leaf v,ρ,v',aa=>v'=v/\aa=ρ
 | .div n x d lo hi r,ρ,v,aa=>∃q,0<=x.den ρ-d*q/\x.den ρ-d*q<d/\Path S r (de ρ n q) v aa
 | .mul n x y lo hi r,ρ,v,aa=>Path S r (de ρ n (x.den ρ*y.den ρ)) v aa
 | .bit n op k x y r,ρ,v,aa=>Path S r (de ρ n (eb op k (x.den ρ) (y.den ρ))) v aa
 | .shr n x y lo hi r,ρ,v,aa=>Path S r (de ρ n (x.den ρ/2^(y.den ρ).toNat)) v aa
 | .y7 n cs bd lo hi r,ρ,v,aa=>Path S r (de ρ n ((cs.map (·.den ρ)).getD (bd.den ρ).toNat 0)) v aa
 | .r6 b t e,ρ,v,aa=>(b.den ρ=true/\Path S t ρ v aa)∨(b.den ρ=false/\Path S e ρ v aa)
 | .call id args n bds r,ρ,v,aa=>∃rs,S id (args.map (·.den ρ)) rs/\Path S r (bI ρ n rs) v aa
 | .loop ..,_,_,_=>False
 | .again ..,_,_,_=>False
 | .both ..,_,_,_=>False
 | .sz ..,_,_,_=>False
 | .nat ..,_,_,_=>False
 | .uT ..,_,_,_=>False
 | .ind n b r,ρ,v,aa=>Path S r (de ρ n (cond (b.den ρ) 1 0)) v aa
 | .fn n op args lo hi r,ρ,v,aa=>Path S r (de ρ n (bt op (args.map (·.den ρ)))) v aa
 | .qy op args r,ρ,v,aa=>Path S r ρ v aa
theorem vf {S:Nat->List Int->List Int->Prop} {L:V->Env->Prop}:∀(t:T) (G:ev) (ρ:Env),t.plain=true->t.holds S L G ρ->t.holds S (λv aa=>L v aa/\Path S t ρ v aa) G ρ
 | .stuck,_,_,_,ae=>ae
 | .leaf v,_,ρ,_,ae=>⟨ae,rfl,rfl⟩
 | .div n x d lo hi r,G,ρ,hp,ae=>λq h1 h2 h3 h4=>jK (λv aa h=>⟨h.1,q,h3,h4,h.2⟩) r G _ (vf r G _ hp (ae q h1 h2 h3 h4))
 | .mul n x y lo hi r,G,ρ,hp,ae=>λq h1 h2 h3=>jK (λv aa h=>⟨h.1,by subst h3;exact h.2⟩) r G _ (vf r G _ hp (ae q h1 h2 h3))
 | .bit n op k x y r,G,ρ,hp,ae=>λq h1 h2 h3=>jK (λv aa h=>⟨h.1,by subst h3;exact h.2⟩) r G _ (vf r G _ hp (ae q h1 h2 h3))
 | .shr n x y lo hi r,G,ρ,hp,ae=>λq h1 h2 h3=>jK (λv aa h=>⟨h.1,by subst h3;exact h.2⟩) r G _ (vf r G _ hp (ae q h1 h2 h3))
 | .y7 n cs bd lo hi r,G,ρ,hp,ae=>λq h1 h2 h3=>jK (λv aa h=>⟨h.1,by subst h3;exact h.2⟩) r G _ (vf r G _ hp (ae q h1 h2 h3))
 | .r6 b t e,G,ρ,hp,ae=>by
  simp only[T.plain,bo]at hp
  exact⟨λhb=>jK (λv aa h=>⟨h.1,.inl ⟨hb,h.2⟩⟩) t G ρ (vf t G ρ hp.1 (ae.1 hb)),λhb=>jK (λv aa h=>⟨h.1,.inr ⟨hb,h.2⟩⟩) e G ρ (vf e G ρ hp.2 (ae.2 hb))⟩
 | .call id args n bds r,G,ρ,hp,ae=>Nd (λrs hr hs=>jK (λv aa h=>⟨h.1,rs,hs,h.2⟩) r G _ (vf r G _ hp (hr hs))) ae
 | .loop ..,_,_,hp,_=>by simp[T.plain]at hp
 | .again ..,_,_,hp,_=>by simp[T.plain]at hp
 | .both ..,_,_,hp,_=>by simp[T.plain]at hp
 | .sz ..,_,_,hp,_=>by simp[T.plain]at hp
 | .nat ..,_,_,hp,_=>by simp[T.plain]at hp
 | .uT ..,_,_,hp,_=>by simp[T.plain]at hp
 | .ind n b r,G,ρ,hp,ae=>λq h1 h2 h3=>jK (λv aa h=>⟨h.1,by
  have:q=cond (b.den ρ) 1 0:=by rw[h3];by_cases aj:q=1<;>simp[aj]<;>omega
  rw[this]at h;exact h.2⟩) r G _ (vf r G _ hp (ae q h1 h2 h3))
 | .fn n op args lo hi r,G,ρ,hp,ae=>λq h1 h2 h3=>jK (λv aa h=>⟨h.1,by subst h3;exact h.2⟩) r G _ (vf r G _ hp (ae q h1 h2 h3))
 | .qy op args r,G,ρ,hp,ae=>⟨ae.1,jK (λv aa h=>⟨h.1,h.2⟩) r G ρ (vf r G ρ hp ae.2)⟩
theorem LG {x d q eA:Int} (h1:0<=x-d*q) (h2:x-d*q<d) (h3:0<=x-d*eA) (h4:x-d*eA<d):q=eA:=by
 have hd:0<d:=by omega
 have aw:x/d=q:=by
  rw[Sy hd];constructor<;>rw[j3]<;>(try rw[IQ])<;>omega
 have aF:x/d=eA:=by
  rw[Sy hd];constructor<;>rw[j3]<;>(try rw[IQ])<;>omega
 omega
theorem vr {S:Nat->List Int->List Int->Prop} (gK:∀id a rs cH,S id a rs->S id a cH->rs=cH):∀(t:T) (ρ:Env) {v v':V} {aJ bR:Env},Path S t ρ v aJ->Path S t ρ v' bR->v=v'/\aJ=bR
 | .stuck,_,_,_,_,_,h,_=>h.elim
 | .leaf v,_,_,_,_,_,h,a8=>⟨h.1.trans a8.1.symm,h.2.trans a8.2.symm⟩
 | .div n x d lo hi r,ρ,_,_,_,_,⟨q,bZ,a2,a3⟩,⟨eA,b3,b4,c7⟩=>by
  have:=LG bZ a2 b3 b4
  subst this
  exact vr gK r _ a3 c7
 | .mul n x y lo hi r,ρ,_,_,_,_,h,a8=>vr gK r _ h a8
 | .bit n op k x y r,ρ,_,_,_,_,h,a8=>vr gK r _ h a8
 | .shr n x y lo hi r,ρ,_,_,_,_,h,a8=>vr gK r _ h a8
 | .y7 n cs bd lo hi r,ρ,_,_,_,_,h,a8=>vr gK r _ h a8
 | .r6 b t e,ρ,_,_,_,_,h,a8=>by
  rcases h with⟨h1,h2⟩|⟨h1,h2⟩<;>rcases a8 with⟨h3,h4⟩|⟨h3,h4⟩
  ·exact vr gK t ρ h2 h4
  ·rw[h1]at h3;cases h3
  ·rw[h1]at h3;cases h3
  ·exact vr gK e ρ h2 h4
 | .call id args n bds r,ρ,_,_,_,_,⟨rs,bZ,a2⟩,⟨cH,b3,b4⟩=>by
  have:=gK _ _ _ _ bZ b3
  subst this
  exact vr gK r _ a2 b4
 | .loop ..,_,_,_,_,_,h,_=>h.elim
 | .again ..,_,_,_,_,_,h,_=>h.elim
 | .both ..,_,_,_,_,_,h,_=>h.elim
 | .sz ..,_,_,_,_,_,h,_=>h.elim
 | .nat ..,_,_,_,_,_,h,_=>h.elim
 | .uT ..,_,_,_,_,_,h,_=>h.elim
 | .ind n b r,ρ,_,_,_,_,h,a8=>vr gK r _ h a8
 | .fn n op args lo hi r,ρ,_,_,_,_,h,a8=>vr gK r _ h a8
 | .qy op args r,ρ,_,_,_,_,h,a8=>vr gK r _ h a8
inductive O where
 |l (x:I)
 |b (x:bw)
def O.den (ρ:Env):O->Int
 |l x=>x.den ρ
 |b x=>cond (x.den ρ) 1 0
def kk (k:du):List A->Option (List O)
 |[]=>some []
 | .int bA x::r=>cond (decide (k=bA)) (match kk k r with|some l=>some (.l x.l::l)|none=>none) none
 |_::_=>none
def aL.out:aL->A->Option O
 | .int k _ _,.int bA x=>cond (decide (k=bA)) (some (.l x.l)) none
 | .str,.str l=>some (.l l)
 | .bool,.bool e=>some (.b e)
 |_,_=>none
def sg:List aL->List A->Option (List O)
 |[],[]=>some []
 |c::d,a::r=>match c.out a,sg d r with|some o,some l=>some (o::l)|_,_=>none
 |_,_=>none
def AP:D->W->Option (List O)
 | .int k _ _,.one (.int bA x)=>cond (decide (k=bA)) (some [.l x.l]) none
 | .bool,.one (.bool x)=>some [.b x]
 | .agg k n _ _,.agg l=>cond (aK l.length n) (kk k l) none
 | .str,.one (.str l)=>some [.l l]
 | .mix d,.agg l=>sg d l
 |_,_=>none
def CN:List D->List W->Option (List O)
 |[],[]=>some []
 |d::r,w::s=>match AP d w,CN r s with|some a,some b=>some (a++b)|_,_=>none
 |_,_=>none
def outs (ds:List D):V->Option (List O)
 | .w u=>match ds with|[d]=>AP d u|_=>none
 | .h9 l=>match ds with|[_]=>none|_=>CN ds l
 |_=>none
def jt (ds:List D) (K:List Int->Prop) (v:V) (ρ:Env):Prop:=
 match outs ds v with
 |some os=>K (os.map (O.den ρ))
 |none=>False
theorem ajw {ρ:Env} {m:Nat->Nat} {k:du}:∀{l:List A} {os:List O},kk k l=some os->os.length=l.length/\l.map (A.den ρ m)=(os.map (O.den ρ)).map (.int k)
 |[],os,h=>by simp[kk]at h;subst h;exact⟨rfl,rfl⟩
 | .int bA x::r,os,h=>by
  simp only[kk]at h
  by_cases ab:k=bA
  ·simp only[ab,decide_true,cond_true]at h
   cases hr:kk bA r with
   |none=>simp[hr]at h
   |some o=>
    simp only[hr,a7]at h
    subst h
    subst ab
    obtain⟨h1,h2⟩:=ajw (ρ:=ρ) (m:=m) hr
    exact⟨by simp[h1],by simp only[cQ,h2,A.den,O.den]⟩
  ·simp[ab]at h
 | .bool _::_,_,h=>by simp[kk]at h
 | .ptr .. ::_,_,h=>by simp[kk]at h
 | .oD .. ::_,_,h=>by simp[kk]at h
 | .gptr .. ::_,_,h=>by simp[kk]at h
 | .slc .. ::_,_,h=>by simp[kk]at h
 | .con _::_,_,h=>by simp[kk]at h
 | .str _::_,_,h=>by simp[kk]at h
theorem aL.axA {ρ:Env} {m:Nat->Nat} {c:aL} {a:A} {o:O} (h:c.out a=some o):a.den ρ m=c.val (o.den ρ):=by
 unfold aL.out at h
 split at h
 ·rename_i k lo hi bA x
  by_cases ab:k=bA
  ·subst ab
   simp only[decide_true,cond_true,a7]at h
   subst h;rfl
  ·simp[ab]at h
 ·simp only[a7]at h;subst h;rfl
 ·rename_i e
  simp only[a7]at h;subst h
  have hb:∀b:Bool,aD9 b=aD9 (decide ((cond b 1 0:Int)=1)):=by intro b;cases b<;>rfl
  exact hb (e.den ρ)
 ·cases h
theorem ajz {ρ:Env} {m:Nat->Nat}:∀{d:List aL} {l:List A} {os:List O},sg d l=some os->os.length=d.length/\l.map (A.den ρ m)=sJ aL.val d (os.map (O.den ρ))
 |[],[],os,h=>by simp[sg]at h;subst h;exact⟨rfl,rfl⟩
 |c::d,a::r,os,h=>by
  simp only[sg]at h
  cases h1:c.out a with
  |none=>simp[h1]at h
  |some o=>
   cases hr:sg d r with
   |none=>simp[h1,hr]at h
   |some l=>
    simp only[h1,hr,a7]at h
    subst h
    obtain⟨cm,cl⟩:=ajz (ρ:=ρ) (m:=m) hr
    exact⟨by simp[cm],by simp only[cQ,cl,aL.axA h1,Sw]⟩
 |[],_::_,_,h=>by simp[sg]at h
 |_::_,[],_,h=>by simp[sg]at h
theorem Ze {ρ:Env} {m:Nat->Nat} {d:D} {u:W} {os:List O} (h:AP d u=some os):os.length=d.num/\∀zs,d.val (os.map (O.den ρ)++zs)=u.den ρ m:=by
 unfold AP at h
 split at h
 ·rename_i k _ _ bA x
  by_cases ab:k=bA
  ·subst ab
   simp only[decide_true,cond_true,a7]at h
   subst h
   exact⟨rfl,λzs=>by simp[D.val,W.den,A.den,O.den]⟩
  ·simp[ab]at h
 ·rename_i x
  simp only[a7]at h
  subst h
  exact⟨rfl,λzs=>by cases hx:x.den ρ<;>simp[D.val,W.den,A.den,O.den,hx]⟩
 ·rename_i k n' _ _ l
  cases hc:aK l.length n' with
  |false=>simp[hc]at h
  |true=>
   simp only[hc,cond_true]at h
   have hl:=bO hc
   subst hl
   obtain⟨h1,h2⟩:=ajw (ρ:=ρ) (m:=m) h
   exact⟨h1,λzs=>by simp only[D.val,W.den,h2];rw[Mz (by simp[h1]),pt (by simp[h1])]⟩
 ·simp only[a7]at h;subst h
  exact⟨rfl,λzs=>rfl⟩
 ·rename_i d l
  obtain⟨h1,h2⟩:=ajz (ρ:=ρ) (m:=m) h
  refine⟨h1,λzs=>?_⟩
  simp only[D.val,W.den,h2]
  congr 2
  have key:∀(a:List aL) (b c:List Int),b.length=a.length->sJ aL.val a (b++c)=sJ aL.val a b:=by
   intro a
   induction a with
   |nil=>intro b c _;simp
   |cons p a ih=>
    intro b c hb
    cases b with
    |nil=>simp at hb
    |cons z b=>simp[ih b c (by simpa using hb)]
  exact key _ _ _ (by simp[h1])
 ·cases h
theorem ajx {ρ:Env} {m:Nat->Nat}:∀{ds:List D} {l:List W} {os:List O},CN ds l=some os->nh ds (os.map (O.den ρ))=l.map (W.den ρ m)
 |[],[],os,h=>by simp[CN]at h;subst h;rfl
 |d::ds,u::l,os,h=>by
  simp only[CN]at h
  cases h1:AP d u with
  |none=>simp[h1]at h
  |some a=>
   cases h2:CN ds l with
   |none=>simp[h1,h2]at h
   |some b=>
    simp only[h1,h2,a7]at h
    subst h
    obtain⟨cm,cl⟩:=Ze (ρ:=ρ) (m:=m) h1
    rw[iy]
    simp only[nh,cl,cQ]
    rw[show d.num=(a.map (O.den ρ)).length by simp[cm],Dd,ajx h2]
 |[],_::_,_,h=>by simp[CN]at h
 |_::_,[],_,h=>by simp[CN]at h
theorem aC6 (ds:List D):∀zs,(nh ds zs).length=ds.length:=by
 induction ds with
 |nil=>intro zs;rfl
 |cons d r ih=>intro zs;simp[nh,ih]
theorem Bw {ds:List D} {K:List Int->Prop} {v:V} {ρ:Env} {m:Nat->Nat} {val:aP} (h:jt ds K v ρ) (hr:v.rel ρ m val):∃rs,K rs/\val=mE ds rs:=by
 unfold jt at h
 cases ax:outs ds v with
 |none=>simp[ax]at h
 |some os=>
  simp only[ax]at h
  refine⟨_,h,?_⟩
  unfold outs at ax
  cases v with
  |any=>cases ax
  |p3 _ _ _=>cases ax
  |qz _ _=>cases ax
  |w u=>
   simp only at ax
   split at ax
   ·rename_i d
    obtain⟨cm,cl⟩:=Ze (ρ:=ρ) (m:=m) ax
    simp only[V.rel]at hr
    have:=cl []
    rw[fY]at this
    simp[mE,nh,this,hr]
   ·cases ax
  |h9 l=>
   simp only at ax
   split at ax
   ·cases ax
   ·rename_i cW
    have:=ajx (ρ:=ρ) (m:=m) ax
    simp only[V.rel]at hr
    unfold mE
    split
    ·rename_i x heq
     exfalso
     have hl:=aC6 ds (os.map (O.den ρ))
     rw[heq]at hl
     match ds,hl with
     |[d],_=>exact cW d rfl
    ·rw[hr,this]
noncomputable def U2 (cons:List bU) (yS yb y9:dn):eW:=λf=>
 cond (aK f yS) (some YO) <| cond (aK f yb) (some Up) <| cond (aK f y9) (some aat) <|
 match cons.find? (λc=>aK f c.f)with
 |some c=>some c.M
 |none=>none
section
variable {S:Nat->List Int->List Int->Prop} {P:bQ} {gl:eI} {wb:aE}
theorem aou {w0:dX} {cons:List bU} {yS yb y9:dn} (hm:FP P yS) (ha:FK P yb) (hs:FQ P y9) (hc:∀c∈cons,c.x0 P w0.b (S c.id)):hk S P gl w0 (U2 cons yS yb y9):=by
 intro f g jy L n ρ m bl vs xs h1 h2 h3 h4
 unfold U2 at jy
 cases aw:aK f yS with
 |true=>
  have:=bO aw;subst this
  simp only[aw,cond_true,a7]at jy
  subst jy
  exact av0 hm h3 h4
 |false=>
  cases aF:aK f yb with
  |true=>
   have:=bO aF;subst this
   simp only[aw,aF,cond_true,cond_false,a7]at jy
   subst jy
   exact anw ha h3 h4
  |false=>
   cases cb:aK f y9 with
   |true=>
    have:=bO cb;subst this
    simp only[aw,aF,cb,cond_true,cond_false,a7]at jy
    subst jy
    exact aBi hs h3 h4
   |false=>
    simp only[aw,aF,cb,cond_false]at jy
    cases gX:cons.find? (λc=>aK f c.f)with
    |none=>simp[gX]at jy
    |some c=>
     simp only[gX,a7]at jy
     subst jy
     have h5:=List.find?_some gX
     have:=bO h5
     subst this
     exact bU.snd (hc c (FC gX)) (λ_ _ h=>h) L n ρ m bl vs xs h3 h4
noncomputable def N6 (cons:List bU):eW:=λf=>
 match cons.filter (λc=>aK f c.f)with
 |[]=>none
 |l=>some λbl vs n k=>match l.find? (λc=>(q6 c.args vs).isSome)with
  |some c=>c.M bl vs n k
  |none=>match l with
   |c::_=>c.M bl vs n k
   |[]=> .stuck
theorem aeV {w0:dX} {cons:List bU} (hc:∀c∈cons,c.x0 P w0.b (S c.id)):hk S P gl w0 (N6 cons):=by
 intro f g jy L n ρ m bl vs xs h1 h2 h3 h4
 unfold N6 at jy
 split at jy
 ·cases jy
 ·rename_i l hl
  simp only[a7]at jy
  subst jy
  intro G k ab
  simp only at ab
  split at ab
  ·rename_i c Kk
   have ec:=List.mem_filter.1 (FC Kk)
   have Eo:=bO ec.2
   subst Eo
   exact bU.snd (hc c ec.1) (λ_ _ h=>h) L n ρ m bl vs xs h3 h4 G k ab
  ·split at ab
   ·rename_i c r Et
    have ec:=List.mem_filter.1 (show c∈cons.filter (λc=>aK f c.f) from by rw[Et];exact Sx (a:=c) (l:=r))
    have Eo:=bO ec.2
    subst Eo
    exact bU.snd (hc c ec.1) (λ_ _ h=>h) L n ρ m bl vs xs h3 h4 G k ab
   ·exact ab.elim
theorem Calls.some {f:dn} {args:Array aP} {w:aE} {R:Ending->aE->Prop} (h:lG P f args w R):∃e w',R e w':=by
 obtain⟨e,w',Cj,h1,_⟩:=h []
 exact⟨e,w',h1⟩
noncomputable def bU.tree (P:bQ) (gl:eI) (cal:eW) (li:dn->Nat->Option fH) (rounds d:Nat) (c:bU):T:=
 Jv P gl cal li rounds d c.f (bf c.args).length ((su 0 c.args).map V.w) [] λ_ v _=> .leaf v
theorem TS {ρ:Env} {m:Nat->Nat}:∀(l:List W),eJ ρ m (l.map V.w) (l.map (W.den ρ m))
 |[]=>trivial
 |_::r=>⟨rfl,TS r⟩
theorem bU.calls {c:bU} {cal:eW} {li:dn->Nat->Option fH} {rounds d:Nat} {L:V->Env->Prop} (hm:P.follows .mixedOrders=true) (cU:∀r ex ro,hk S P gl ⟨wb,r,ex,ro,[]⟩ cal) (hg:eX gl ⟨wb,wb,λ_=>False,λ_=>False,[]⟩) {zs:List Int} (hz:ag (bf c.args) zs)
 (aA:(c.tree P gl cal li rounds d).holds S L (λ_ _=>False) (bI (λ_=>0) 0 zs)) (w:aE) (hw:wb.Extends w):
 lG P c.f (nh c.args zs).toArray w λe w'=>∃v aa m val,e= .returned val/\v.rel aa m val/\L v aa/\w.Extends w':=by
 have hs:=Rp (m:=λ_=>0) (nb:=0) (N:=(bf c.args).length) c.args hz (je.bI (λ_=>0) 0 zs) (by omega)
 have:=aow (L:=L) (b:=wb) (w:=w) hm (cU w _ _) hg c.f _ _ _ ((su 0 c.args).map (W.den (bI (λ_=>0) 0 zs) λ_=>0)) hw (λv hv=>by
  obtain⟨u,hu,rfl⟩:=List.mem_map.1 hv
  exact hs.1 u hu) (TS _) aA
 rw[hs.2]at this
 refine this.mono λe w' ⟨v,aa,m,val,nb,h1,h2,_,h3,h4⟩=>⟨v,aa,m,val,h1,h2,h3,h4⟩
theorem bU.awp {c:bU} {cal:eW} {li:dn->Nat->Option fH} {rounds d:Nat} {spec:List Int->List Int->Prop} (hm:P.follows .mixedOrders=true) (cU:∀r ex ro,hk S P gl ⟨wb,r,ex,ro,[]⟩ cal) (hg:eX gl ⟨wb,wb,λ_=>False,λ_=>False,[]⟩)
 (hf:∀args w,(callFunc c.f args).run P w= .ok (.enter c.f args) w) (gK:∀id a rs cH,S id a rs->S id a cH->rs=cH) (hp:(c.tree P gl cal li rounds d).plain=true)
 (aA:∀zs,ag (bf c.args) zs->(c.tree P gl cal li rounds d).holds S (jt c.res λrs=>ag (bf c.res) rs/\spec zs rs) (λ_ _=>False) (bI (λ_=>0) 0 zs)):c.bY P wb spec:=by
 refine⟨hf,λzs hz=>?_⟩
 have rl:=vf _ _ _ hp (aA zs hz)
 have h0:=bU.calls hm cU hg hz rl wb (qc wb)
 obtain⟨e,w',v0,ck,m0,aJP,h1,h2,⟨h3,Cn⟩,h4⟩:=Calls.some h0
 obtain⟨rs,⟨hb,hs⟩,hv⟩:=Bw h3 h2
 refine⟨rs,hb,hs,λw hw=>?_⟩
 refine(bU.calls hm cU hg hz rl w hw).mono λe w' ⟨v,aa,m,val,g1,g2,⟨g3,aq7⟩,g4⟩=>?_
 obtain⟨aw,aF⟩:=vr gK _ _ aq7 Cn
 subst aw;subst aF
 unfold jt at g3 h3
 have:val=mE c.res rs:=by
  cases ax:outs c.res v with
  |none=>simp[ax]at h3
  |some os=>
   have key:∀{m val},v.rel aa m val->val=mE c.res (os.map (O.den aa)):=λ{m val} hr=>by
    have arF:jt c.res (λrs=>rs=os.map (O.den aa)) v aa:=by unfold jt;simp[ax]
    obtain⟨cH,atu,hv⟩:=Bw arF hr
    rw[hv,atu]
   rw[key g2,<-key h2,hv]
 exact⟨by rw[g1,this],g4⟩
theorem bU.bY.fn {c:bU} {spec:List Int->List Int->Prop} (h:c.bY P wb spec):∃F:List Int->List Int,c.bY P wb λzs rs=>rs=F zs/\spec zs rs:=by
 have h2:∀zs,∃rs,ag (bf c.args) zs->ag (bf c.res) rs/\spec zs rs/\∀w,wb.Extends w->lG P c.f (nh c.args zs).toArray w λe w'=>e= .returned (mE c.res rs)/\w.Extends w':=λzs=>by
  by_cases hz:ag (bf c.args) zs
  ·obtain⟨rs,h3⟩:=h.2 zs hz
   exact⟨rs,λ_=>h3⟩
  ·exact⟨[],λat4=>absurd at4 hz⟩
 obtain⟨F,hF⟩:=aLj h2
 exact⟨F,h.1,λzs hz=>⟨F zs,(hF zs hz).1,⟨rfl,(hF zs hz).2.1⟩,(hF zs hz).2.2⟩⟩
end
end Go.b6
namespace Go.b6
open M
structure jR where
 f:dn
 id:Nat
 k:du
 N:Nat
 lo:Int
 hi:Int
 ty:bh
 off:Nat
 len:Nat
 cap:Nat
 args:List D
 res:List D
noncomputable def jR.bds (c:jR):List (Int×Int):=av c.lo c.hi c.N++bf c.args
def jR.bY (P:bQ) (wb:aE) (c:jR) (spec:List Int->List Int->Prop):Prop:=
 (∀args w,(callFunc c.f args).run P w= .ok (.enter c.f args) w)/\
 ∀zs,ag c.bds zs->∃rs,ag (bf c.res) rs/\spec zs rs/\∀(w:aE) (g:Nat),wb.Extends w->wb.heap.size<=g->w.heap[g]?=some (.cells ((zs.take c.N).map (.int c.k)).toArray c.ty (0,0))->
  lG P c.f (.slice (some ⟨g,c.off,none⟩) c.len c.cap::nh c.args (zs.drop c.N)).toArray w λe w'=>e= .returned (mE c.res rs)/\w.Extends w'
noncomputable def jR.M (c:jR):List aG->List V->M V:=λbl vs n k=>
 match vs with
 | .w (.one (.slc b off len cap))::rest=>match bl[b]? with
  |some (cs,t)=>cond (aK off c.off&&aK len c.len&&aK cap c.cap&&aK t.1 c.ty&& !t.2&&aK cs.length c.N&&b7 cs) (match mg c.k c.lo c.hi cs,q6 c.args rest with
   |some l1,some l2=> .call c.id (l1++l2) n (bf c.res) (k (Fj c.res n) (n+(bf c.res).length))
   |_,_=> .stuck) .stuck
  |none=> .stuck
 |_=> .stuck
section
variable {S:Nat->List Int->List Int->Prop} {P:bQ} {gl:eI} {w0:dX}
theorem jR.snd {c:jR} {spec:List Int->List Int->Prop} (hc:c.bY P w0.b spec) (gK:∀zs rs,spec zs rs->S c.id zs rs) (L:V->Env->Prop) (n:Nat) (ρ:Env) (m:Nat->Nat) (bl:List aG) (vs:List V) (xs:List aP)
 (hb:cM n bl.length ρ bl) (jW:∀v∈vs,V.ok n bl.length ρ v) (hr:eJ ρ m vs xs):az S L (c.M bl vs) n ρ λaa n' v=>v.ok n' bl.length aa/\∃val,v.rel aa m val/\∀w,Mem w0 ρ m bl w->uG P c.f xs.toArray w val:=by
 intro G k ab
 unfold jR.M at ab
 split at ab
 ·rename_i b off len cap rest
  cases aQ:bl[b]? with
  |none=>simp[aQ,T.holds]at ab
  |some q=>
   obtain⟨cs,t⟩:=q
   simp only[aQ]at ab
   cases aj:(aK off c.off&&aK len c.len&&aK cap c.cap&&aK t.1 c.ty&& !t.2&&aK cs.length c.N&&b7 cs)with
   |false=>rw[aj]at ab;exact ab.elim
   |true=>
    simp only[aj,cond_true]at ab
    simp only[bo]at aj
    obtain⟨⟨⟨⟨⟨⟨bb,b0⟩,cv⟩,dK⟩,lX⟩,jC⟩,nQ⟩:=aj
    have bb:=bO bb;have b0:=bO b0;have cv:=bO cv;have dK:=bO dK;have jC:=bO jC
    cases h1:mg c.k c.lo c.hi cs with
    |none=>simp[h1,T.holds]at ab
    |some l1=>
     cases h2:q6 c.args rest with
     |none=>simp[h1,h2,T.holds]at ab
     |some l2=>
      simp only[h1,h2]at ab
      have c0:∀a∈cs,A.ok n bl.length ρ a:=hb (cs,t) (eD aQ)
      obtain⟨bZ,a2,a3⟩:=OF (m:=m) h1 c0
      cases xs with
      |nil=>exact hr.elim
      |cons x xs=>
       obtain⟨hx,hr⟩:=hr
       obtain⟨b3,b4⟩:=OI h2 (λv hv=>jW v (dU _ hv)) hr
       have ec:ag c.bds ((l1++l2).map (·.den ρ)):=by
        rw[iy];unfold jR.bds;rw[<-jC];exact nK a2 b3
       obtain⟨rs,r1,r2,gn⟩:=hc.2 _ ec
       have ae:=N8 ab r1 (gK _ _ r2)
       have m2:=Q5 (m:=m) (nb:=bl.length) (N:=n+(bf c.res).length) r1 (je.bI ρ n rs) (bL _)
       refine⟨_,_,_,IT _ _,agree.bI rs n ρ,⟨m2.1,_,m2.2,λw hw=> .inr ⟨hc.1 _ _,?_⟩⟩,ae⟩
       obtain⟨g1,g2,r0,iq,g3⟩:=hw.fe b cs t aQ nQ
       have hlen:((l1.map (·.den ρ)).length)=c.N:=by simp[bZ,jC]
       have aw:((l1++l2).map (·.den ρ)).take c.N=l1.map (·.den ρ):=by rw[iy,<-hlen,List.take_left]
       have aF:((l1++l2).map (·.den ρ)).drop c.N=l2.map (·.den ρ):=by rw[iy,<-hlen,Dd]
       have:=gn w (m b) hw.ext g1 (by rw[aw,<-a3,<-dK];rw[iq (by simpa using lX),fY]at g3;exact g3)
       rw[aF,b4,<-bb,<-b0,<-cv]at this
       simp only[V.rel,W.den,A.den]at hx
       rw[hx]
       exact this
 ·exact ab.elim
theorem ajS (k:du) (lo hi:Int) (i N:Nat):b7 (ua k lo hi i N)=true:=by cases N<;>rfl
noncomputable def jR.tree (P:bQ) (gl:eI) (cal:eW) (li:dn->Nat->Option fH) (rounds d:Nat) (c:jR):T:=
 Jv P gl cal li rounds d c.f (c.bds.length) (.w (.one (.slc 0 c.off c.len c.cap))::(su c.N c.args).map V.w) [(ua c.k c.lo c.hi 0 c.N,(c.ty,false))] λ_ v bj=>match bj with
  |(cs,t)::_=>cond (oQ (ua c.k c.lo c.hi 0 c.N) cs&&aK c.ty t.1&& !t.2) (.leaf v) .stuck
  |[]=> .stuck
theorem jR.calls {wb:aE} {c:jR} {cal:eW} {li:dn->Nat->Option fH} {rounds d:Nat} {L:V->Env->Prop} (hm:P.follows .mixedOrders=true) (cU:∀r ex ro,hk S P gl ⟨wb,r,ex,ro,[]⟩ cal) (hg:eX gl ⟨wb,wb,λ_=>False,λ_=>False,[]⟩) {zs:List Int} (hz:ag c.bds zs)
 (aA:(c.tree P gl cal li rounds d).holds S L (λ_ _=>False) (bI (λ_=>0) 0 zs)) (w:aE) (g:Nat) (hw:wb.Extends w) (WI:wb.heap.size<=g) (hcell:w.heap[g]?=some (.cells ((zs.take c.N).map (.int c.k)).toArray c.ty (0,0))):
 lG P c.f (.slice (some ⟨g,c.off,none⟩) c.len c.cap::nh c.args (zs.drop c.N)).toArray w λe w'=>∃v aa m val,e= .returned val/\v.rel aa m val/\L v aa/\w.Extends w':=by
 have hat:=je.bI (λ_=>0) 0 zs
 have tr:=yH hz
 rw[Fg]at tr
 have cF:c.bds.length=c.N+(bf c.args).length:=by simp[jR.bds,Fg]
 have h1:=ZK (ρ:=bI (λ_=>0) 0 zs) (m:=λ_=>g) (N:=c.bds.length) (nb:=1) (k:=c.k) c.N 0 zs tr.1 hat (by omega)
 have h2:=Rp (ρ:=bI (λ_=>0) 0 zs) (m:=λ_=>g) (N:=c.bds.length) (nb:=1) (s:=c.N) c.args tr.2 (by have:=hat.drop c.N;simpa using this) (by omega)
 have kQ:Mem ⟨wb,w,λi=>i=g,λ_=>False,[]⟩ (bI (λ_=>0) 0 zs) (λ_=>g) [(ua c.k c.lo c.hi 0 c.N,(c.ty,false))] w:=by
  refine⟨hw,rfl,rfl,rfl,bL _,λ_ _ _=>rfl,λi cs t h _=>?_,λi sh off code cap kind t h=>?_,λi j p q hi aI _=> .inl (by have h1:=(List.getElem?_eq_some_iff.1 hi).1;have h2:=(List.getElem?_eq_some_iff.1 aI).1;simp at h1 h2;omega)⟩
  rotate_left
  ·cases i with
   |zero=>
    simp only[uz,a7,ek]at h
    have:=ajS c.k c.lo c.hi 0 c.N
    rw[h.1]at this;cases this
   |succ i=>simp at h
  cases i with
  |zero=>simp at h;obtain⟨rfl,rfl⟩:=h;exact⟨WI,.inl rfl,[],λ_=>rfl,by rw[h1.2,fY];exact hcell⟩
  |succ i=>simp at h
 have oX:cM c.bds.length 1 (bI (λ_=>0) 0 zs) [(ua c.k c.lo c.hi 0 c.N,(c.ty,false))]:=λp hp=>by simp at hp;subst hp;exact h1.1
 have hrel:eJ (bI (λ_=>0) 0 zs) (λ_=>g) (V.w (.one (.slc 0 c.off c.len c.cap))::(su c.N c.args).map V.w) (MA (some ⟨g,c.off,none⟩) c.len c.cap::(su c.N c.args).map (W.den (bI (λ_=>0) 0 zs) λ_=>g)):=⟨rfl,TS _⟩
 have jW:∀v∈(V.w (.one (.slc 0 c.off c.len c.cap))::(su c.N c.args).map V.w),V.ok c.bds.length 1 (bI (λ_=>0) 0 zs) v:=λv hv=>by
  rcases List.mem_cons.1 hv with rfl|hv
  ·simp[V.ok,W.ok,A.ok]
  ·obtain⟨u,hu,rfl⟩:=List.mem_map.1 hv
   exact h2.1 u hu
 have key:=(U3 rfl (L:=L) (li:=li) (rounds:=rounds) hm (cU w (λi=>i=g) (λ_=>False)) hg d c.f c.bds.length _ [(ua c.k c.lo c.hi 0 c.N,(c.ty,false))] _ (λ_ _=>False) _ (λ_=>g) w _ (λe w'=>∃v aa m val,e= .returned val/\V.rel aa m v val/\L v aa/\w.Extends w') oX kQ jW hrel aA ?_).2
 ·rw[h2.2]at key;exact key
 ·intro n' v bj ee aa m' w' val cm cl c3 e0 fb gm m7
  match bj,m7,gm,cm with
  |[],m7,_,_=>exact m7.elim
  |(cs,t)::r,m7,gm,cm=>
   simp only at m7
   cases hc:(oQ (ua c.k c.lo c.hi 0 c.N) cs&&aK c.ty t.1&& !t.2)with
   |false=>simp[hc,T.holds]at m7
   |true=>
    simp only[hc,cond_true,T.holds]at m7
    simp only[bo]at hc
    have aw:=DH hc.1.1
    have aF:t=(c.ty,false):=Prod.ext (bO hc.1.2).symm (by simpa using hc.2)
    subst aw;subst aF
    refine⟨v,aa,m',val,rfl,e0,m7,?_⟩
    have as0:m' 0=g:=cm.hm 0 (by simp)
    have q9:∀i:Nat,i<w.heap.size->w'.heap[i]?=w.heap[i]?:=λi hi=>by
     by_cases GZ:i=g
     ·subst GZ
      obtain⟨_,_,gn,ato,h3⟩:=gm.fe 0 _ _ rfl (ajS _ _ _ _ _)
      rw[as0,ato rfl,fY]at h3
      rw[h3,hcell,<-h1.2,vp h1.1 cm.ha (λb hb=>cm.hm b (by simpa using hb))]
     ·exact gm.iO i hi GZ
    exact⟨gm.iZ,gm.kA,gm.j7,gm.gj,λa ha=>by simp only[lH,q9 a.block ha],λa ha=>by simp only[Bn,q9 a.block ha],q9⟩
noncomputable def ca (Rg:List jR) (cons:List bU) (yS yb y9:dn):eW:=λf=>
 match Rg.filter (λc=>aK f c.f)with
 |[]=>U2 cons yS yb y9 f
 |l=>some λbl vs n k=>match l.find? (λc=>match vs with| .w (.one (.slc b off len cap))::_=>(match bl[b]? with|some (cs,t)=>aK off c.off&&aK len c.len&&aK cap c.cap&&aK t.1 c.ty&& !t.2&&aK cs.length c.N|none=>false)|_=>false)with
  |some c=>c.M bl vs n k
  |none=> .stuck
theorem gg {Rg:List jR} {cons:List bU} {yS yb y9:dn} (hm:FP P yS) (ha:FK P yb) (hs:FQ P y9) (Xe:∀c∈Rg,c.bY P w0.b (S c.id)) (hc:∀c∈cons,c.x0 P w0.b (S c.id)):hk S P gl w0 (ca Rg cons yS yb y9):=by
 intro f g jy L n ρ m bl vs xs h1 h2 h3 h4
 unfold ca at jy
 split at jy
 ·exact aou (gl:=gl) hm ha hs hc f g jy L n ρ m bl vs xs h1 h2 h3 h4
 ·rename_i l hl
  simp only[a7]at jy
  subst jy
  intro G k ab
  simp only at ab
  split at ab
  ·rename_i c Kk
   have kQ:=FC Kk
   have ec:=List.mem_filter.1 kQ
   have Eo:=bO ec.2
   subst Eo
   exact jR.snd (Xe c ec.1) (λ_ _ h=>h) L n ρ m bl vs xs h1 h3 h4 G k ab
  ·exact ab.elim
end
end Go.b6
namespace Go.b6
theorem ac7 {P:bQ} {f:dn} {fn:Func} (hf:P.funcs[f]?=some fn) (W2:(fn.name== "runtime.NumGoroutine")=false) (hb:fn.body.isNone=true) (hn:abx fn=none) (he:aby fn=some add64Entry):FK P f:=by
 intro x y c hx hy hc gL w
 refine .inl ?_
 rw[run_callFunc_extern hf W2 hb hn he,run_add64 x y c hx hy hc gL]
 rfl
def akM:Array aP->Sem aP:=λargs=>do
 let(x,y,b)<-aLk "Sub64" args
 pure (aLl ((x+aEb-y-b)% aEb) (if x<y+b then 1 else 0))
theorem az5 {P:bQ} (x y b:Nat) (hb:b<=1) (w:aE):
 (akM #[.int .u64 x,.int .u64 y,.int .u64 b]).run P w=
   .ok (.tuple #[.int .u64 (((x+18446744073709551616-y-b)% 18446744073709551616:Nat):Int),.int .u64 ((if x<y+b then 1 else 0:Nat):Int)]) w:=by
 have:b=0∨b=1:=by omega
 rcases this with rfl|rfl<;>rfl
theorem akN {P:bQ} {f:dn} {fn:Func} (hf:P.funcs[f]?=some fn) (W2:(fn.name== "runtime.NumGoroutine")=false) (hb:fn.body.isNone=true) (hn:abx fn=none) (he:aby fn=some akM):FQ P f:=by
 intro x y c hx qH hy Xv hc gL w
 refine .inl ?_
 obtain⟨X,rfl⟩:=ps hx
 obtain⟨Y,rfl⟩:=ps hy
 obtain⟨C,rfl⟩:=ps hc
 rw[run_callFunc_extern hf W2 hb hn he,az5 X Y C (by omega)]
 have aw:(((X+18446744073709551616-Y-C)% 18446744073709551616:Nat):Int)=((X:Int)-Y-C)% 18446744073709551616:=by omega
 have aF:(((if X<Y+C then 1 else 0:Nat)):Int)=-(((X:Int)-Y-C)/18446744073709551616):=by split<;>omega
 rw[aw,aF]
 rfl
def Cl (P:bQ) (f:dn):Bool:=match P.funcs[f]? with
 |some fn=> !(fn.name== "runtime.NumGoroutine")&&fn.body.isSome
 |none=>false
theorem enters {P:bQ} {f:dn} (h:Cl P f=true) (args:Array aP) (w:aE):(callFunc f args).run P w= .ok (.enter f args) w:=by
 unfold Cl at h
 cases hf:P.funcs[f]? with
 |none=>simp[hf]at h
 |some fn=>
  simp only[hf,bo,fF]at h
  have h1:fn.name≠ "runtime.NumGoroutine" :=by simpa using h.1
  obtain⟨c,hc⟩:=Option.isSome_iff_exists.1 h.2
  simp[callFunc,hf,h1,hc,Sem.run]
section
variable {S:Nat->List Int->List Int->Prop} {P:bQ} {gl:eI} {wb:aE}
theorem bU.oB {c:bU} {cal:eW} {li:dn->Nat->Option fH} {rounds d:Nat} {spec:List Int->List Int->Prop} (hm:P.follows .mixedOrders=true) (cU:∀r ex ro,hk S P gl ⟨wb,r,ex,ro,[]⟩ cal) (hg:eX gl ⟨wb,wb,λ_=>False,λ_=>False,[]⟩)
 (hf:∀args w,(callFunc c.f args).run P w= .ok (.enter c.f args) w) (hu:∀zs rs cH,ag (bf c.args) zs->ag (bf c.res) rs->ag (bf c.res) cH->spec zs rs->spec zs cH->rs=cH)
 (aA:ju (bf c.args) λzs=>(c.tree P gl cal li rounds d).holds S (jt c.res λrs=>ag (bf c.res) rs/\spec zs rs) (λ_ _=>False) (bI (λ_=>0) 0 zs)):c.bY P wb spec:=by
 refine⟨hf,λzs hz=>?_⟩
 have h0:=bU.calls hm cU hg hz (lL aA hz) wb (qc wb)
 obtain⟨e,w',v,aa,m,val,h1,h2,h3,h4⟩:=Calls.some h0
 obtain⟨rs,⟨hb,hs⟩,hv⟩:=Bw h3 h2
 refine⟨rs,hb,hs,λw hw=>?_⟩
 refine(bU.calls hm cU hg hz (lL aA hz) w hw).mono λe w' ⟨v,aa,m,val,h1,h2,h3,h4⟩=>?_
 obtain⟨cH,⟨mj,KN⟩,yE⟩:=Bw h3 h2
 rw[hu zs cH rs hz mj hb KN hs]at yE
 exact⟨by rw[h1,yE],h4⟩
theorem jR.oB {c:jR} {cal:eW} {li:dn->Nat->Option fH} {rounds d:Nat} {spec:List Int->List Int->Prop} (hm:P.follows .mixedOrders=true) (cU:∀r ex ro,hk S P gl ⟨wb,r,ex,ro,[]⟩ cal) (hg:eX gl ⟨wb,wb,λ_=>False,λ_=>False,[]⟩)
 (hf:∀args w,(callFunc c.f args).run P w= .ok (.enter c.f args) w) (hu:∀zs rs cH,ag c.bds zs->ag (bf c.res) rs->ag (bf c.res) cH->spec zs rs->spec zs cH->rs=cH) (hex:∀zs,ag c.bds zs->∃rs,ag (bf c.res) rs/\spec zs rs)
 (aA:ju c.bds λzs=>(c.tree P gl cal li rounds d).holds S (jt c.res λrs=>ag (bf c.res) rs/\spec zs rs) (λ_ _=>False) (bI (λ_=>0) 0 zs)):c.bY P wb spec:=by
 refine⟨hf,λzs hz=>?_⟩
 obtain⟨rs,hb,hs⟩:=hex zs hz
 refine⟨rs,hb,hs,λw g hw WI hcell=>?_⟩
 refine(jR.calls hm cU hg hz (lL aA hz) w g hw WI hcell).mono λe w' ⟨v,aa,m,val,h1,h2,h3,h4⟩=>?_
 obtain⟨cH,⟨mj,KN⟩,yE⟩:=Bw h3 h2
 rw[hu zs cH rs hz mj hb KN hs]at yE
 exact⟨by rw[h1,yE],h4⟩
end
def num (b:Int):List Int->Int
 |[]=>0
 |x::r=>x+b*num b r
theorem num_nonneg {b lo hi:Int} (hb:0<b) (hl:0<=lo):∀{n:Nat} {l:List Int},ag (av lo hi n) l->0<=num b l
 |0,[],_=>cL _
 |_+1,x::r,h=>by
  have:=num_nonneg hb hl h.2.2
  have h2:0<=b*num b r:=Int.mul_nonneg (pv hb) this
  have:=h.1
  simp only[num];omega
 |0,_::_,h=>h.elim
 |_+1,[],h=>h.elim
theorem QC {b:Int} (hb:0<b):∀{n:Nat} {l:List Int},ag (av 0 (b-1) n) l->num b l<b^n
 |0,[],_=>by simp[num]
 |n+1,x::r,h=>by
  have:=QC hb h.2.2
  have h2:b*(num b r+1)<=b*b^n:=Int.mul_le_mul_of_nonneg_left (by omega) (pv hb)
  have:=h.2.1
  simp only[num]
  rw[Int.pow_succ,j3 _ b]
  have:b*(num b r+1)=b*num b r+b:=by rw[IQ,Int.mul_one]
  omega
 |0,_::_,h=>h.elim
 |_+1,[],h=>h.elim
theorem QB {b:Int} (hb:0<b):∀{n:Nat} {l l':List Int},ag (av 0 (b-1) n) l->ag (av 0 (b-1) n) l'->num b l=num b l'->l=l'
 |0,[],[],_,_,_=>rfl
 |n+1,x::r,fx::r',h,a8,he=>by
  simp only[num]at he
  have aw:(x+b*num b r)% b=(fx+b*num b r')% b:=by rw[he]
  rw[xM,xM,nm h.1 (by have:=h.2.1;omega),nm a8.1 (by have:=a8.2.1;omega)]at aw
  subst aw
  have aF:b*num b r=b*num b r':=by omega
  have cb:=Int.eq_of_mul_eq_mul_left (by omega) aF
  rw[QB hb h.2.2 a8.2.2 cb]
 |0,_::_,_,h,_,_=>h.elim
 |_+1,[],_,h,_,_=>h.elim
 |0,[],_::_,_,a8,_=>a8.elim
 |_+1,_::_,[],_,a8,_=>a8.elim
def Gl (b:Int):Nat->Int->List Int
 |0,_=>[]
 |n+1,x=>x% b::Gl b n (x/b)
theorem afe {b:Int} (hb:0<b):∀(n:Nat) (x:Int),ag (av 0 (b-1) n) (Gl b n x)
 |0,_=>trivial
 |n+1,x=>⟨Int.emod_nonneg _ (by omega),by have:=Int.emod_lt_of_pos x hb;omega,afe hb n _⟩
theorem ajg {b:Int} (hb:0<b):∀(n:Nat) (x:Int),0<=x->x<b^n->num b (Gl b n x)=x
 |0,x,h0,h=>by simp at h;simp[Gl,num];omega
 |n+1,x,h0,h=>by
  have h1:x/b<b^n:=Int.ediv_lt_of_lt_mul hb (by rw[Int.pow_succ]at h;exact h)
  have h2:0<=x/b:=Int.ediv_nonneg h0 (pv hb)
  simp only[Gl,num,ajg hb n _ h2 h1]
  have:=Int.emod_add_mul_ediv x b
  omega
def YT (K:List Int->List Int->Prop):Prop:=
 ∀z0:Int,0<=z0->z0<=18446744073709551615->
 ∀aD:Int,0<=aD->aD<=18446744073709551615->
 ∀z2:Int,0<=z2->z2<=4294967295->0<=((1*z0+0)+0)-4294967296*z2->((1*z0+0)+0)-4294967296*z2<4294967296->
 ∀z3:Int,0<=z3->z3<=4294967295->0<=((1*z0+0)+0)-4294967296*z3->((1*z0+0)+0)-4294967296*z3<4294967296->
 ∀z4:Int,0<=z4->z4<=4294967295->0<=((1*aD+0)+0)-4294967296*z4->((1*aD+0)+0)-4294967296*z4<4294967296->
 ∀z5:Int,0<=z5->z5<=4294967295->0<=((1*aD+0)+0)-4294967296*z5->((1*aD+0)+0)-4294967296*z5<4294967296->
 ∀bz:Int,0<=bz->bz<=18446744065119617025->bz=((1*z0+((-4294967296)*z2+0))+0)*((1*aD+((-4294967296)*z4+0))+0)->
 ∀aR:Int,0<=aR->aR<=18446744065119617025->aR=((1*z3+0)+0)*((1*aD+((-4294967296)*z4+0))+0)->
 ∀aN:Int,0<=aN->aN<=4294967294->0<=((1*bz+0)+0)-4294967296*aN->((1*bz+0)+0)-4294967296*aN<4294967296->
 ∀z9:Int,0<=z9->z9<=4294967294->0<=((1*aR+(1*aN+0))+0)-4294967296*z9->((1*aR+(1*aN+0))+0)-4294967296*z9<4294967296->
 ∀bm:Int,0<=bm->bm<=4294967294->0<=((1*aR+(1*aN+0))+0)-4294967296*bm->((1*aR+(1*aN+0))+0)-4294967296*bm<4294967296->
 ∀aU:Int,0<=aU->aU<=18446744065119617025->aU=((1*z0+((-4294967296)*z2+0))+0)*((1*z5+0)+0)->
 ∀z12:Int,0<=z12->z12<=18446744065119617025->z12=((1*z3+0)+0)*((1*z5+0)+0)->
 ∀aq:Int,0<=aq->aq<=4294967295->0<=((1*aR+(1*aN+((-4294967296)*z9+(1*aU+0))))+0)-4294967296*aq->((1*aR+(1*aN+((-4294967296)*z9+(1*aU+0))))+0)-4294967296*aq<4294967296->
 ∀aB:Int,0<=aB->aB<=340282366920938463426481119284349108225->aB=((1*z0+0)+0)*((1*aD+0)+0)->
 ∀aV:Int,0<=aV->aV<=18446744073709551614->0<=((1*aB+0)+0)-18446744073709551616*aV->((1*aB+0)+0)-18446744073709551616*aV<18446744073709551616->
 K [z0,aD] [((1*bm+(1*z12+(1*aq+0)))+0),((1*aB+((-18446744073709551616)*aV+0))+0)]
def wd:D:= .int .u64 0 18446744073709551615
def N5 (f:dn):bU:=⟨f,0,[wd,wd],[wd,wd]⟩
theorem av6 (x y a b:Int):x*y=(x+(-4294967296)*a)*(y+(-4294967296)*b)+4294967296*(a*(y+(-4294967296)*b)+(x+(-4294967296)*a)*b)+18446744073709551616*(a*b):=by
 grind
theorem mulVC_holds:YT λzs rs=>ag (bf [wd,wd]) rs/\rs=[zs.getD 0 0*zs.getD 1 0/18446744073709551616,zs.getD 0 0*zs.getD 1 0% 18446744073709551616]:=by
 unfold YT
 intro x h1 h2 y h3 h4 a h5 h6 h7 ew dr c9 kN od hX b jU jx VZ qC b' J5 V0 V1 D9 p GJ J6 Ea q ti J7 GK c Eb af5 aHW aHX d aHY aHZ aH0 aH1 DK wM aH2 aH3 aH4 r aH5 aH7 arw s aH8 aH9 arx t aIa aIb aIc aId m aIe aIf af8 u aIg aIh aIi aIj
 have aw:dr=a:=by omega
 have aF:b'=b:=by omega
 have cb:DK=d:=by omega
 subst aw;subst aF;subst cb
 simp only[Int.one_mul,Int.add_zero]at*
 have:=av6 x y dr b'
 rw[<-af8,<-Ea,<-GK,<-arw,<-arx]at this
 simp only[iU,j4,<-af8,bf,wd,D.bds,kp,e2,ag,and_true,nZ]
 omega
theorem aiV {P:bQ} {f:dn} (hm:P.follows .mixedOrders=true) (hf:∀args w,(callFunc f args).run P w= .ok (.enter f args) w)
 (h:∀K,(ju (bf (N5 f).args) λzs=>((N5 f).tree P [] (λ_=>none) (λ_ _=>none) 600 6).holds (λ_ _ _=>True) (jt (N5 f).res (K zs)) (λ_ _=>False) (bI (λ_=>0) 0 zs))=YT K):FP P f:=by
 intro x y hx qH hy Xv w
 have hv:=mulVC_holds
 rw[<-h]at hv
 have ec:ag (bf (N5 f).args) [x,y]:=⟨hx,by omega,hy,by omega,trivial⟩
 refine .inr ⟨hf _ _,?_⟩
 have:=bU.calls (wb:=w) hm (λr ex ro f g jy=>by cases jy) (λg cs hg=>by cases hg) ec (lL hv ec) w (qc w)
 refine this.mono λe w' ⟨v,aa,m,val,h1,h2,h3,h4⟩=>?_
 obtain⟨rs,⟨_,hr⟩,hv⟩:=Bw h3 h2
 rw[h1,hv,hr]
 exact⟨rfl,h4⟩
end Go.b6
namespace Go.b6
abbrev jg:=List (Nat×Nat)
abbrev jf:=List (List Int)
def vo:jg->jf->Nat->Int
 |(s,k)::st,l::aX,i=>cond (cx s i&&dv i (s+k)) (l.getD (i-s) 0) (vo st aX i)
 |_,_,_=>0
def YC:jg->jf->Prop
 |(_,k)::st,l::aX=>l.length=k/\YC st aX
 |[],[]=>True
 |_,_=>False
def pC (ρ:Env) (st:jg) (aX:jf):Prop:=YC st aX/\∀i,ρ i=vo st aX i
def Gk (st:jg) (aX:jf):List (Int×Nat)->Int
 |[]=>0
 |(k,i)::r=>match r with
  |[]=>cond (k==1) (vo st aX i) (k*vo st aX i)
  |_=>cond (k==1) (vo st aX i) (k*vo st aX i)+Gk st aX r
def I.ff (st:jg) (aX:jf) (l:I):Int:=
 match l.ts with
 |[]=>l.c
 |ts=>cond (l.c==0) (Gk st aX ts) (Gk st aX ts+l.c)
theorem ae6 {ρ:Env} {st:jg} {aX:jf} (h:∀i,ρ i=vo st aX i):∀ts,Gk st aX ts=ji ρ ts
 |[]=>rfl
 |(k,i)::[]=>by
  simp only[Gk,ji,<-h i]
  cases ab:(k==1)with
  |true=>have:k=1:=by simpa using ab
         subst this;simp
  |false=>simp
 |(k,i)::t::r=>by
  have ih:=ae6 h (t::r)
  rw[Gk,ji,ih,<-h i]
  ·cases ab:(k==1)with
   |true=>have:k=1:=by simpa using ab
          subst this;simp
   |false=>simp
  ·intro hc;cases hc
theorem I.ke {ρ:Env} {st:jg} {aX:jf} (h:∀i,ρ i=vo st aX i) (l:I):l.ff st aX=l.den ρ:=by
 unfold I.ff I.den
 cases hl:l.ts with
 |nil=>simp[ji]
 |cons t r=>
  simp only[ae6 h]
  cases hc:(l.c==0)with
  |true=>have:l.c=0:=by simpa using hc
         rw[this];simp
  |false=>simp
def DZ:jg->jf->Nat->Nat->Option (List Int)
 |(s,k)::st,l::aX,i,len=>cond (aK s i&&aK k len) (some l) (cond (cx (i+len) s||cx (s+k) i) (DZ st aX i len) none)
 |_,_,_,_=>none
theorem afu:∀{st:jg} {aX:jf} {i len:Nat} {l:List Int},DZ st aX i len=some l->YC st aX->l.length=len/\∀j,j<len->vo st aX (i+j)=l.getD j 0
 |[],_,_,_,_,h,_=>by simp[DZ]at h
 |_::_,[],_,_,_,h,_=>by simp[DZ]at h
 |(s,k)::st,l'::aX,i,len,l,h,hl=>by
  unfold DZ at h
  cases h1:(aK s i&&aK k len)with
  |true=>
   simp only[h1,cond_true,a7]at h
   subst h
   simp only[bo]at h1
   have aw:=bO h1.1
   have aF:=bO h1.2
   subst aw;subst aF
   refine⟨hl.1,λj aI=>?_⟩
   unfold vo
   have:(cx s (s+j)&&dv (s+j) (s+k))=true:=by simp[dv];omega
   rw[this,cond_true,Nat.add_sub_cancel_left]
  |false=>
   simp only[h1,cond_false]at h
   cases h2:(cx (i+len) s||cx (s+k) i)with
   |false=>simp[h2]at h
   |true=>
    simp only[h2,cond_true]at h
    obtain⟨g1,g2⟩:=afu h hl.2
    refine⟨g1,λj aI=>?_⟩
    rw[<-g2 j aI]
    conv=>lhs;unfold vo
    have:(cx s (i+j)&&dv (i+j) (s+k))=false:=by
     simp only[Bm,Nat.ble_eq]at h2
     cases h3:(cx s (i+j)&&dv (i+j) (s+k))with
     |false=>rfl
     |true=>simp[dv]at h3;omega
    rw[this,cond_false]
def K1:Nat->List I->Bool
 |_,[]=>true
 |i,l::r=>(l.c==0&&(match l.ts with|[(k,j)]=>k==1&&aK i j|_=>false))&&K1 (i+1) r
def firstVar:List I->Nat
 |[]=>0
 |l::_=>match l.ts with|[(_,j)]=>j|_=>0
theorem ahO {ρ:Env}:∀{ls:List I} {i:Nat},K1 i ls=true->∀j,j<ls.length->(ls.map (·.den ρ)).getD j 0=ρ (i+j)
 |[],_,_,j,aI=>by simp at aI
 |l::r,i,h,j,aI=>by
  simp only[K1,bo]at h
  cases j with
  |zero=>
   obtain⟨⟨h1,h2⟩,_⟩:=h
   have hc:l.c=0:=by simpa using h1
   cases hl:l.ts with
   |nil=>simp[hl]at h2
   |cons t s=>
    cases s with
    |cons t' Fm=>simp[hl]at h2
    |nil=>
     obtain⟨k,q⟩:=t
     simp only[hl,bo]at h2
     have aw:k=1:=by simpa using h2.1
     have aF:=bO h2.2
     subst aw;subst aF
     simp[I.den,hl,ji,hc]
  |succ j=>
   have:=ahO (ρ:=ρ) h.2 j (by simpa using aI)
   simp only[cQ,j4]
   rw[this]
   congr 1;omega
def y6 (st:jg) (aX:jf) (ls:List I):List Int:=
 cond (dv 1 ls.length&&K1 (firstVar ls) ls) (match DZ st aX (firstVar ls) ls.length with|some l=>l|none=>ls.map (I.ff st aX)) (ls.map (I.ff st aX))
theorem aio {l l':List Int} (hl:l.length=l'.length) (h:∀j,j<l.length->l.getD j 0=l'.getD j 0):l=l':=by
 apply List.ext_getElem hl
 intro j h1 h2
 have:=h j h1
 simpa [List.getD_eq_getElem?_getD,nq h1,nq h2]using this
theorem Rh {ρ:Env} {st:jg} {aX:jf} (h:pC ρ st aX) (ls:List I):y6 st aX ls=ls.map (·.den ρ):=by
 have e5:ls.map (I.ff st aX)=ls.map (·.den ρ):=jQ λl _=>I.ke h.2 l
 unfold y6
 cases h1:(dv 1 ls.length&&K1 (firstVar ls) ls)with
 |false=>simpa using e5
 |true=>
  simp only[cond_true]
  simp only[bo]at h1
  cases h2:DZ st aX (firstVar ls) ls.length with
  |none=>exact e5
  |some l=>
   obtain⟨g1,g2⟩:=afu h2 h.1
   show l=_
   refine aio (by simp[g1]) λj aI=>?_
   rw[ahO h1.2 j (by omega),h.2,g2 j (by omega)]
def oU:bw->Option (List I×List I)
 | .eq a b=>some ([a],[b])
 | .and (.eq a b) r=>match oU r with|some (x,y)=>some (a::x,b::y)|none=>none
 |_=>none
def bw.ff (st:jg) (aX:jf):bw->Bool
 |lit b=>b
 |eq a b=>decide (a.ff st aX=b.ff st aX)
 |lt a b=>decide (a.ff st aX<b.ff st aX)
 |le a b=>decide (a.ff st aX<=b.ff st aX)
 |not a=> !a.ff st aX
 |and a b=>match oU (.and a b)with
  |some (x,y)=>decide (y6 st aX x=y6 st aX y)
  |none=>a.ff st aX&&b.ff st aX
 |iff a b=>a.ff st aX==b.ff st aX
theorem afo {ρ:Env}:∀{b:bw} {x y:List I},oU b=some (x,y)->b.den ρ=decide (x.map (·.den ρ)=y.map (·.den ρ))
 | .eq a b,x,y,h=>by
  simp only[oU,a7,ek]at h
  obtain⟨rfl,rfl⟩:=h
  simp[bw.den]
 | .and (.eq a b) r,x,y,h=>by
  simp only[oU]at h
  cases hr:oU r with
  |none=>simp[hr]at h
  |some p=>
   obtain⟨fx,lE⟩:=p
   simp only[hr,a7,ek]at h
   obtain⟨rfl,rfl⟩:=h
   have ih:=afo (ρ:=ρ) hr
   simp only[bw.den,ih,cQ,nZ]
   simp
 | .lit _,_,_,h=>by simp[oU]at h
 | .lt _ _,_,_,h=>by simp[oU]at h
 | .le _ _,_,_,h=>by simp[oU]at h
 | .not _,_,_,h=>by simp[oU]at h
 | .iff _ _,_,_,h=>by simp[oU]at h
 | .and (.lit _) _,_,_,h=>by simp[oU]at h
 | .and (.lt _ _) _,_,_,h=>by simp[oU]at h
 | .and (.le _ _) _,_,_,h=>by simp[oU]at h
 | .and (.not _) _,_,_,h=>by simp[oU]at h
 | .and (.and _ _) _,_,_,h=>by simp[oU]at h
 | .and (.iff _ _) _,_,_,h=>by simp[oU]at h
theorem bw.ke {ρ:Env} {st:jg} {aX:jf} (h:pC ρ st aX):∀b:bw,b.ff st aX=b.den ρ
 |lit _=>rfl
 |eq a b=>by simp only[ff,den,I.ke h.2]
 |lt a b=>by simp only[ff,den,I.ke h.2]
 |le a b=>by simp only[ff,den,I.ke h.2]
 |not a=>by simp only[ff,den,bw.ke h a]
 |and a b=>by
  have aw:=bw.ke h a
  have aF:=bw.ke h b
  unfold ff
  cases aj:oU (.and a b)with
  |none=>simp only[den,aw,aF]
  |some p=>
   obtain⟨x,y⟩:=p
   simp only[afo (ρ:=ρ) aj,Rh h]
 |iff a b=>by simp only[ff,den,bw.ke h a,bw.ke h b]
def dd {α:Type}:List Nat->List α->List (List α)
 |[],[]=>[]
 |[],x::l=>[x::l]
 |k::ly,l=>l.take k::dd ly (l.drop k)
theorem Rl {α β:Type} (f:α->β):∀(ly:List Nat) (l:List α),dd ly (l.map f)=(dd ly l).map (List.map f)
 |[],[]=>rfl
 |[],_::_=>rfl
 |k::ly,l=>by simp only[dd,cQ,<-IU,<-IV,Rl f ly]
def BD:List Nat->Nat->List (Int×Int)->(jg->jf->List (List Int)->Prop)->jg->jf->Prop
 |[],_,[],P,st,aX=>P st aX []
 |[],_,_::_,_,_,_=>False
 |k::ly,n,bds,P,st,aX=>cond (aK k 1)
  (match bds with
  |(lo,hi)::aea=>∀z:Int,lo<=z->z<=hi->BD ly (n+1) aea (λqT qA ls=>P qT qA ([z]::ls)) ((n,1)::st) ([z]::aX)
  |[]=>False)
  (cond (cx k bds.length) (∀r:List Int,ag (bds.take k) r->BD ly (n+k) (bds.drop k) (λqT qA ls=>P qT qA (r::ls)) ((n,k)::st) (r::aX)) False)
theorem ale:∀(a b:List Int) (n:Nat) (ρ:Env),bI ρ n (a++b)=bI (bI ρ n a) (n+a.length) b
 |[],b,n,ρ=>rfl
 |z::a,b,n,ρ=>by
  simp only[kp,bI,jd]
  rw[ale a b]
  congr 1;omega
theorem alf:∀(l:List Int) (n:Nat) (ρ:Env) (i:Nat),bI ρ n l i=cond (cx n i&&dv i (n+l.length)) (l.getD (i-n) 0) (ρ i)
 |[],n,ρ,i=>by
  have:(cx n i&&dv i (n+0))=false:=by
   cases h:(cx n i&&dv i (n+0))with
   |false=>rfl
   |true=>simp[dv]at h;omega
  simp only[bI,n0,this,cond_false]
 |z::l,n,ρ,i=>by
  simp only[bI]
  rw[alf l (n+1)]
  by_cases h1:i=n
  ·subst h1
   have aw:(cx (i+1) i&&dv i (i+1+l.length))=false:=by
    have:cx (i+1) i=false:=by
     cases h:cx (i+1) i with
     |false=>rfl
     |true=>exact absurd (e8 h) (by omega)
    simp[this]
   have aF:(cx i i&&dv i (i+(z::l).length))=true:=by simp[dv]
   rw[aw,aF]
   simp[de]
  ·have hu:de ρ n z i=ρ i:=aaS ρ z h1
   by_cases h2:n<=i/\i<n+1+l.length
   ·have aw:(cx (n+1) i&&dv i (n+1+l.length))=true:=by simp[dv];omega
    have aF:(cx n i&&dv i (n+(z::l).length))=true:=by simp[dv];omega
    rw[aw,aF]
    simp only[cond_true]
    rw[show i-n=(i-(n+1))+1 by omega,j4]
   ·have aw:(cx (n+1) i&&dv i (n+1+l.length))=false:=by
     cases h:(cx (n+1) i&&dv i (n+1+l.length))with
     |false=>rfl
     |true=>simp[dv]at h;omega
    have aF:(cx n i&&dv i (n+(z::l).length))=false:=by
     cases h:(cx n i&&dv i (n+(z::l).length))with
     |false=>rfl
     |true=>simp[dv]at h;omega
    rw[aw,aF]
    simp[hu]
theorem pC.push {ρ:Env} {st:jg} {aX:jf} (h:pC ρ st aX) (n:Nat) (l:List Int):pC (bI ρ n l) ((n,l.length)::st) (l::aX):=
 ⟨⟨rfl,h.1⟩,λi=>by rw[alf,vo,<-h.2 i]⟩
theorem ahI:∀{bds:List (Int×Int)} {zs:List Int} (k:Nat),ag bds zs->ag (bds.take k) (zs.take k)/\ag (bds.drop k) (zs.drop k)
 |[],[],k,_=>by simp[ag]
 |[],_::_,_,h=>h.elim
 |(_,_)::_,[],_,h=>h.elim
 |(l,u)::b,z::zs,0,h=>by simpa [ag]using h
 |(l,u)::b,z::zs,k+1,h=>by
  obtain⟨h1,h2,h3⟩:=h
  obtain⟨g1,g2⟩:=ahI (bds:=b) (zs:=zs) k h3
  exact⟨⟨h1,h2,g1⟩,g2⟩
theorem FV:∀{ly:List Nat} {n:Nat} {bds:List (Int×Int)} {P:jg->jf->List (List Int)->Prop} {st:jg} {aX:jf} {ρ:Env} {zs:List Int},BD ly n bds P st aX->pC ρ st aX->ag bds zs->∃qT qA,pC (bI ρ n zs) qT qA/\P qT qA (dd ly zs)
 |[],n,[],P,st,aX,ρ,[],h,aA,_=>⟨st,aX,aA,h⟩
 |[],_,[],_,_,_,_,_::_,_,_,hi=>hi.elim
 |[],_,_::_,_,_,_,_,_,h,_,_=>h.elim
 |k::ly,n,bds,P,st,aX,ρ,zs,h,aA,hi=>by
  unfold BD at h
  cases ab:aK k 1 with
  |true=>
   have e:=bO ab
   subst e
   simp only[ab,cond_true]at h
   cases bds with
   |nil=>exact h.elim
   |cons b aea=>
    obtain⟨lo,oi⟩:=b
    cases zs with
    |nil=>exact hi.elim
    |cons z zs=>
     obtain⟨h1,h2,h3⟩:=hi
     have:=FV (h z h1 h2) (aA.push n [z]) h3
     obtain⟨qT,qA,g1,g2⟩:=this
     refine⟨qT,qA,g1,?_⟩
     simpa [dd]using g2
  |false=>
   simp only[ab,cond_false]at h
   cases hb:cx k bds.length with
   |false=>simp only[hb,cond_false]at h
   |true=>
    simp only[hb,cond_true]at h
    have mj:k<=bds.length:=by simpa using hb
    have hlen:=er hi
    obtain⟨i1,i2⟩:=ahI k hi
    have e:(zs.take k).length=k:=by simp;omega
    have rl:=aA.push n (zs.take k)
    rw[e]at rl
    obtain⟨qT,qA,g1,g2⟩:=FV (h _ i1) rl i2
    refine⟨qT,qA,?_,g2⟩
    have aF:=ale (zs.take k) (zs.drop k) n ρ
    rw[ld,e]at aF
    rw[aF];exact g1
abbrev FL:=Nat->List (List Int)->Prop
def FL.set (A:FL) (ka:Nat) (p:List (List Int)->Prop):FL:=λi=>cond (aK i ka) p (A i)
def T.nJ (sh:Nat->List Nat×List Nat) (lsh:Nat->List Nat) (S:Nat->List (List Int)->List (List Int)->Prop) (L:V->jg->jf->Prop):T->FL->jg->jf->Prop
 |stuck,_,_,_=>False
 |leaf v,_,st,aX=>L v st aX
 |div n x d lo hi r,A,st,aX=>∀q:Int,lo<=q->q<=hi->0<=x.ff st aX-d*q->x.ff st aX-d*q<d->r.nJ sh lsh S L A ((n,1)::st) ([q]::aX)
 |mul n x y lo hi r,A,st,aX=>∀p:Int,lo<=p->p<=hi->p=x.ff st aX*y.ff st aX->r.nJ sh lsh S L A ((n,1)::st) ([p]::aX)
 |bit n op k x y r,A,st,aX=>∀z:Int,0<=z->z<=k.max->z=eb op k (x.ff st aX) (y.ff st aX)->r.nJ sh lsh S L A ((n,1)::st) ([z]::aX)
 |shr n x y lo hi r,A,st,aX=>∀z:Int,lo<=z->z<=hi->z=x.ff st aX/2^(y.ff st aX).toNat->r.nJ sh lsh S L A ((n,1)::st) ([z]::aX)
 |y7 n cs bd lo hi r,A,st,aX=>∀z:Int,lo<=z->z<=hi->z=(y6 st aX cs).getD (bd.ff st aX).toNat 0->r.nJ sh lsh S L A ((n,1)::st) ([z]::aX)
 |r6 b t e,A,st,aX=>(b.ff st aX=true->t.nJ sh lsh S L A st aX)/\(b.ff st aX=false->e.nJ sh lsh S L A st aX)
 |call id args n bds r,A,st,aX=>BD (sh id).2 n bds (λqT qA rs=>S id ((dd (sh id).1 args).map (y6 st aX)) rs->r.nJ sh lsh S L A qT qA) st aX
 |loop ka init n bds r,A,st,aX=>∃(ks:List (List Int)->Prop) (mR:List (List Int)->Nat),ks ((dd (lsh ka) init).map (y6 st aX))/\
  BD (lsh ka) n bds (λqT qA zs=>ks zs->r.nJ sh lsh S L (A.set ka λvs=>ks vs/\mR vs<mR zs) qT qA) st aX
 |again ka vals,A,st,aX=>A ka ((dd (lsh ka) vals).map (y6 st aX))
 |both a b,A,st,aX=>a.nJ sh lsh S L A st aX/\b.nJ sh lsh S L A st aX
 |fn n op args lo hi r,A,st,aX=>∀z:Int,lo<=z->z<=hi->z=bt op (args.map (I.ff st aX))->r.nJ sh lsh S L A ((n,1)::st) ([z]::aX)
 |ind n b r,A,st,aX=>∀z:Int,0<=z->z<=1->b.ff st aX=decide (z=1)->r.nJ sh lsh S L A ((n,1)::st) ([z]::aX)
 |sz n lo hi r,A,st,aX=>∀z:Int,lo<=z->z<=hi->r.nJ sh lsh S L A ((n,1)::st) ([z]::aX)
 |nat n r,A,st,aX=>∀z:Int,0<=z->r.nJ sh lsh S L A ((n,1)::st) ([z]::aX)
 |uT op args r,A,st,aX=>au op (args.map (I.ff st aX))->r.nJ sh lsh S L A st aX
 |qy op args r,A,st,aX=>au op (args.map (I.ff st aX))/\r.nJ sh lsh S L A st aX
theorem Z5 {ρ:Env} {st:jg} {aX:jf} (h:pC ρ st aX) (ly:List Nat) (l:List I):(dd ly l).map (y6 st aX)=dd ly (l.map (·.den ρ)):=by
 rw[Rl];exact jQ λx _=>Rh h x
def iD (sh:Nat->List Nat×List Nat) (S:Nat->List (List Int)->List (List Int)->Prop):Nat->List Int->List Int->Prop:=λid zs rs=>S id (dd (sh id).1 zs) (dd (sh id).2 rs)
theorem YK {ρ:Env} {st:jg} {aX:jf} (h:pC ρ st aX) (l:List I):l.map (I.ff st aX)=l.map (·.den ρ):=jQ λx _=>I.ke h.2 x
theorem oo {sh:Nat->List Nat×List Nat} {lsh:Nat->List Nat} {S:Nat->List (List Int)->List (List Int)->Prop} {acs:V->jg->jf->Prop} {L:V->Env->Prop} (dB:∀v ρ st aX,pC ρ st aX->acs v st aX->L v ρ):
 ∀(t:T) (iJ:FL) (A:ev) (ρ:Env) (st:jg) (aX:jf),(∀ka vs,iJ ka (dd (lsh ka) vs)->A ka vs)->pC ρ st aX->t.nJ sh lsh S acs iJ st aX->t.holds (iD sh S) L A ρ
 | .stuck,_,_,_,_,_,_,_,h=>h
 | .leaf v,_,_,ρ,st,aX,_,aA,h=>dB v ρ st aX aA h
 | .div n x d lo hi r,iJ,A,ρ,st,aX,aM,aA,h=>λq h1 h2 h3 h4=>oo dB r iJ A _ _ _ aM (aA.push n [q]) (h q h1 h2 (by rw[I.ke aA.2];exact h3) (by rw[I.ke aA.2];exact h4))
 | .mul n x y lo hi r,iJ,A,ρ,st,aX,aM,aA,h=>λq h1 h2 h3=>oo dB r iJ A _ _ _ aM (aA.push n [q]) (h q h1 h2 (by rw[I.ke aA.2,I.ke aA.2];exact h3))
 | .bit n op k x y r,iJ,A,ρ,st,aX,aM,aA,h=>λq h1 h2 h3=>oo dB r iJ A _ _ _ aM (aA.push n [q]) (h q h1 h2 (by rw[I.ke aA.2,I.ke aA.2];exact h3))
 | .shr n x y lo hi r,iJ,A,ρ,st,aX,aM,aA,h=>λq h1 h2 h3=>oo dB r iJ A _ _ _ aM (aA.push n [q]) (h q h1 h2 (by rw[I.ke aA.2,I.ke aA.2];exact h3))
 | .y7 n cs bd lo hi r,iJ,A,ρ,st,aX,aM,aA,h=>λq h1 h2 h3=>oo dB r iJ A _ _ _ aM (aA.push n [q]) (h q h1 h2 (by rw[Rh aA,I.ke aA.2];exact h3))
 | .r6 b t e,iJ,A,ρ,st,aX,aM,aA,h=>⟨λhb=>oo dB t iJ A _ _ _ aM aA (h.1 (by rw[bw.ke aA];exact hb)),λhb=>oo dB e iJ A _ _ _ aM aA (h.2 (by rw[bw.ke aA];exact hb))⟩
 | .call id args n bds r,iJ,A,ρ,st,aX,aM,aA,h=>by
  refine sV λrs hi hs=>?_
  obtain⟨qT,qA,h1,h2⟩:=FV h aA hi
  exact oo dB r iJ A _ _ _ aM h1 (h2 (by rw[Z5 aA];exact hs))
 | .loop ka init n bds r,iJ,A,ρ,st,aX,aM,aA,h=>by
  obtain⟨ks,mR,h1,h2⟩:=h
  refine⟨λzs=>ks (dd (lsh ka) zs),λzs=>mR (dd (lsh ka) zs),?_,?_⟩
  ·rw[Z5 aA]at h1;exact h1
  ·refine sV λzs hi fQ=>?_
   obtain⟨qT,qA,g1,g2⟩:=FV h2 aA hi
   refine oo dB r _ _ _ _ _ (λavA vs hv=>?_) g1 (g2 fQ)
   unfold FL.set at hv
   unfold ev.set
   cases aj:aK avA ka with
   |true=>
    rw[aj]at hv
    have e:=bO aj
    subst e
    exact hv
   |false=>rw[aj]at hv;exact aM _ _ hv
 | .again ka vals,iJ,A,ρ,st,aX,aM,aA,h=>aM ka _ (by rw[<-Z5 aA];exact h)
 | .both x y,iJ,A,ρ,st,aX,aM,aA,h=>⟨oo dB x iJ A ρ st aX aM aA h.1,oo dB y iJ A ρ st aX aM aA h.2⟩
 | .fn n op args lo hi r,iJ,A,ρ,st,aX,aM,aA,h=>λq h1 h2 h3=>oo dB r iJ A _ _ _ aM (aA.push n [q]) (h q h1 h2 (by rw[YK aA];exact h3))
 | .ind n b r,iJ,A,ρ,st,aX,aM,aA,h=>λq h1 h2 h3=>oo dB r iJ A _ _ _ aM (aA.push n [q]) (h q h1 h2 (by rw[bw.ke aA];exact h3))
 | .sz n lo hi r,iJ,A,ρ,st,aX,aM,aA,h=>λq h1 h2=>oo dB r iJ A _ _ _ aM (aA.push n [q]) (h q h1 h2)
 | .nat n r,iJ,A,ρ,st,aX,aM,aA,h=>λq h1=>oo dB r iJ A _ _ _ aM (aA.push n [q]) (h q h1)
 | .uT op args r,iJ,A,ρ,st,aX,aM,aA,h=>λh1=>oo dB r iJ A ρ st aX aM aA (h (by rw[YK aA];exact h1))
 | .qy op args r,iJ,A,ρ,st,aX,aM,aA,h=>⟨by rw[<-YK aA];exact h.1,oo dB r iJ A _ _ _ aM aA h.2⟩
def CI:List O->Option (List I)
 |[]=>some []
 | .l x::r=>match CI r with|some l=>some (x::l)|none=>none
 | .b _::_=>none
def O.ff (st:jg) (aX:jf):O->Int
 |l x=>x.ff st aX
 |b x=>cond (x.ff st aX) 1 0
def Ic (st:jg) (aX:jf) (os:List O):List Int:=
 match CI os with
 |some ls=>y6 st aX ls
 |none=>os.map (O.ff st aX)
theorem ain {ρ:Env}:∀{os:List O} {ls:List I},CI os=some ls->ls.map (·.den ρ)=os.map (O.den ρ)
 |[],ls,h=>by simp[CI]at h;subst h;rfl
 | .l x::r,ls,h=>by
  simp only[CI]at h
  cases hr:CI r with
  |none=>simp[hr]at h
  |some l=>
   simp only[hr,a7]at h
   subst h
   simp only[cQ,ain hr,O.den]
 | .b _::_,_,h=>by simp[CI]at h
theorem O.ke {ρ:Env} {st:jg} {aX:jf} (h:pC ρ st aX):∀o:O,o.ff st aX=o.den ρ
 | .l x=>I.ke h.2 x
 | .b x=>by simp only[ff,den,bw.ke h]
theorem akx {ρ:Env} {st:jg} {aX:jf} (h:pC ρ st aX) (os:List O):Ic st aX os=os.map (O.den ρ):=by
 unfold Ic
 cases hl:CI os with
 |some ls=>exact(Rh h ls).trans (ain hl)
 |none=>exact jQ λo _=>O.ke h o
def avY (k:Nat):List Nat:=match k with
 |12=>[4,4,4]
 |15=>[5,5,5]
 |20=>[5,5,5,5]
 |k=>[k]
def D.nums:D->List Nat
 | .mix l=>avY l.length
 | .xj _=>[]
 | .mq .. =>[]
 |d=>[d.num]
def vq (ds:List D):List Nat:=ds.flatMap D.nums
def TT (ds:List D) (K:List (List Int)->Prop) (v:V) (st:jg) (aX:jf):Prop:=
 match outs ds v with
 |some os=>K ((dd (vq ds) os).map (Ic st aX))
 |none=>False
theorem am8 {ds:List D} {K:List (List Int)->Prop} (v:V) (ρ:Env) (st:jg) (aX:jf) (aA:pC ρ st aX) (h:TT ds K v st aX):jt ds (λrs=>K (dd (vq ds) rs)) v ρ:=by
 unfold TT at h
 unfold jt
 cases ax:outs ds v with
 |none=>simp[ax]at h
 |some os=>
  simp only[ax]at h⊢
  rw[Rl]
  rwa [show(dd (vq ds) os).map (Ic st aX)=(dd (vq ds) os).map (List.map (O.den ρ)) from jQ λo _=>akx aA o]at h
def iC (sh:Nat->List Nat×List Nat) (lsh:Nat->List Nat) (S:Nat->List (List Int)->List (List Int)->Prop) (K:List (List Int)->List (List Int)->Prop) (lens:List Nat) (bds:List (Int×Int)) (ds:List D) (t:T):Prop:=
 BD lens 0 bds (λst aX zs=>t.nJ sh lsh S (TT ds (K zs)) (λ_ _=>False) st aX) [] []
theorem M5 {sh:Nat->List Nat×List Nat} {lsh:Nat->List Nat} {S:Nat->List (List Int)->List (List Int)->Prop} {K:List (List Int)->List (List Int)->Prop} {lens:List Nat} {bds:List (Int×Int)} {ds:List D} {t:T}
 (h:iC sh lsh S K lens bds ds t):ju bds λzs=>t.holds (iD sh S) (jt ds λrs=>K (dd lens zs) (dd (vq ds) rs)) (λ_ _=>False) (bI (λ_=>0) 0 zs):=by
 refine sV λzs hi=>?_
 obtain⟨st,aX,h1,h2⟩:=FV h (show pC (λ_=>0) [] [] from⟨trivial,λ_=>rfl⟩) hi
 exact oo (λv ρ st aX aA hl=>am8 v ρ st aX aA hl) t _ _ _ st aX (λ_ _ hf=>hf.elim) h1 h2
end Go.b6
namespace Go.b6
open Go.ChangeShapes Go.WideShapes Go.RowKit
variable {H:Type} {enc:bh×aP->H} {P:bQ}
theorem ali {k:du} {z:Int}:(Lit.int k z).wf=true↔k.min<=z/\z<=k.max:=by simp[Lit.wf]
theorem aeY {k:du}:∀(cs:List aP) (xs:List (oK H×List xR)),cs.length=xs.length->
 (∀i,i<xs.length->∃z,(cs.drop i).take 1=[.int k z]/\xs[i]?=some (.lit (.int k z),[])/\(Lit.int k z).wf=true)->
 ∃zs:List Int,cs=zs.map (.int k)/\xs=zs.map (λz=>(.lit (.int k z),[]))/\∀z∈zs,(Lit.int k z).wf=true
 |[],[],_,_=>⟨[],rfl,rfl,λ_ h=>by cases h⟩
 |[],_::_,h,_=>by simp at h
 |_::_,[],h,_=>by simp at h
 |c::cs,x::xs,hl,h=>by
  obtain⟨z,h1,h2,h3⟩:=h 0 (by simp)
  simp at h1 h2
  obtain⟨zs,aw,aF,cb⟩:=aeY cs xs (by simpa using hl) λi hi=>by
   obtain⟨y,g1,g2,g3⟩:=h (i+1) (by simpa using hi)
   exact⟨y,by simpa using g1,by simpa using g2,g3⟩
  refine⟨z::zs,by rw[h1,aw];rfl,by rw[h2,aF];rfl,λy hy=>?_⟩
  rcases List.mem_cons.1 hy with rfl|hy
  ·exact h3
  ·exact cb y hy
theorem He:∀{b b':List (Int×Int)} {l l':List Int},ag b l->ag b' l'->ag (b++b') (l++l')
 |[],_,[],_,_,h=>h
 |_::_,_,_::_,_,h,a8=>⟨h.1,h.2.1,He h.2.2 a8⟩
 |[],_,_::_,_,h,_=>h.elim
 |_::_,_,[],_,h,_=>h.elim
theorem D.alg (d:D) {zs l:List Int} (h:zs.length=d.num):d.val (zs++l)=d.val zs:=by
 cases d with
 |str=>match zs,h with|[z],_=>rfl
 |int k lo hi=>match zs,h with|[z],_=>rfl
 |bool=>match zs,h with|[z],_=>rfl
 |agg k n lo hi=>simp only[D.num]at h;simp only[D.val,<-h];simp
 |xj p=>rfl
 |mq k c=>rfl
 |mix p=>
  simp only[D.num]at h
  simp only[D.val]
  congr 2
  revert zs
  induction p with
  |nil=>intro zs h;simp
  |cons a p ih=>
   intro zs h
   match zs,h with
   |z::zs,h=>simp only[kp,Sw,ih (zs:=zs) (by simpa using h)]
theorem avc {w w':aE} (h:w.Extends w') (may:xR->Prop):w.keptBut w' may:=
 Below.frame (W:=w) ⟨h.os,h.tape,h.output,h.size,λi hi=>h.block i hi⟩ may
theorem GD {w:aE} {name:String} {g:Nat} {t e:bh} {k:du} {n:Nat} {cs:Array aP} {fuel:Nat} {p:List xR} {zs:List Int} {spare:Nat->Bool} {held:Bool} {base:Nat} {enc:bh×aP->Unit}
 (hg:P.globalNamed name=some g) (aA:P.underlying t=some (.array n e)) (he:P.underlying e=some (.int k)) (OX:P.cellsOf e=1) (asn:P.cellsOf t=n)
 (hv:w.var? P name=some cs) (hd:abA enc P w base spare held fuel t cs.toList=some (.agg (zs.map λz=> .lit (.int k z)),p)):
 g<w.heap.size/\∃t' Cj,w.heap[g]?=some (Obj.cells (zs.map (xS k)).toArray t' Cj):=by
 obtain⟨xs,m,rfl,hx,hlen,hn,GU⟩:=aEd aA hd
 obtain⟨gN,aw,aF,cb⟩:=aeY (k:=k) cs.toList xs (by rw[hlen,asn,hn]) λi hi=>by
  have:=GU i (by omega)
  rw[OX,zw]at this
  cases ahp:xs[i]? with
  |none=>simp at ahp;omega
  |some y=>
   rw[ahp]at this
   obtain⟨z,g1,g2,g3⟩:=al2 he this
   exact⟨z,g1,by rw[g2],g3⟩
 simp only[ek,aLo]at hx
 have hy:gN=zs:=by
  have h1:=hx.1
  rw[aF,nk]at h1
  have yC:∀a b:Int,(aEe (.int k a):oK Unit)= .lit (.int k b)->a=b:=λa b h=>by cases h;rfl
  exact((List.map_inj_right (f:=λz:Int=>(aEe (.int k z):oK Unit)) yC).1 h1).symm
 subst hy
 simp only[World.var?,hg,Option.bind_some]at hv
 split at hv
 ·rename_i jT t' Cj hb
  simp only[a7]at hv
  subst hv
  refine⟨?_,t',Cj,?_⟩
  ·exact(Array.getElem?_eq_some_iff.1 hb).1
  ·rw[hb,<-aw]
 ·cases hv
end Go.b6
namespace Go.b6
open M
inductive cB where
 |d (x:D)
 |rd (sh:List aL)
 |p4 (sh:List aL) (e:bh)
def cB.num:cB->Nat
 |d x=>x.num
 |_=>1
noncomputable def cB.bds:cB->List (Int×Int)
 |d x=>x.bds
 |_=>[(0,bN)]
noncomputable def dx:List cB->List (Int×Int)
 |[]=>[]
 |x::r=>x.bds++dx r
def cB.EK:cB->Bool
 |d _=>true
 |_=>false
def cB.qJ:cB->Bool
 |p4 _ _=>true
 |_=>false
def cB.o4:cB->Bool
 |rd _=>true
 |_=>false
def qu:List cB->Bool
 |[]=>true
 | .d _::r=>qu r
 | .rd _::r=>r.all (λb=> !b.qJ)&&qu r
 | .p4 _ _::r=>r.all cB.EK&&qu r
def zG (F:Nat->Prop) (w:aE) (sh:List aL) (rows:List (List Int)) (v:aP):Prop:=
 (v= .slice none 0 0/\rows=[])∨∃(g o cap:Nat) (cells:Array aP) (t:bh) (fz:Nat×Nat),v= .slice (some ⟨g,o,none⟩) rows.length cap/\(rows.length<=cap/\(cap:Int)<=9223372036854775807)/\F g/\w.heap[g]?=some (.cells cells t fz)/\mU cells o sh rows
def Dq (N:Nat->Prop) (w:aE) (sh:List aL) (e:bh) (rows:List (List Int)) (v:aP):Prop:=
 (v= .slice none 0 0/\rows=[])∨∃(g cap:Nat) (cells:Array aP),v= .slice (some ⟨g,0,none⟩) rows.length cap/\(rows.length<=cap/\(cap:Int)<=9223372036854775807)/\N g/\w.heap[g]?=some (.cells cells e (0,0))/\mU cells 0 sh rows/\cells.size=cap*sh.length
def cB.at (F N:Nat->Prop) (w:aE):cB->List Int->aP->Prop
 |d x,zs,v=>v=x.val zs
 |rd sh,zs,v=>zG F w sh (ah (zs.getD 0 0)) v
 |p4 sh e,zs,v=>Dq N w sh e (ah (zs.getD 0 0)) v
def kK (F N:Nat->Prop) (w:aE):List cB->List Int->List aP->Prop
 |[],_,[]=>True
 |b::r,zs,v::vs=>b.at F N w zs v/\kK F N w r (zs.drop b.num) vs
 |_,_,_=>False
def uq (us:List aP):aP:=match us with|[x]=>x|l=> .tuple l.toArray
structure e4 where
 f:dn
 id:Nat
 args:List cB
 res:List cB
 pre:Nat:=0
def HJ:Nat->List Int->Prop
 |0,_=>True
 |p+1,l=>au (p+1) l
def Zo:Nat->List I->T->T
 |0,_,r=>r
 |p+1,ls,r=> .qy (p+1) ls r
def QS:Nat->List I->T->T
 |0,_,r=>r
 |p+1,ls,r=> .uT (p+1) ls r
theorem preM_holds {S:Nat->List Int->List Int->Prop} {L:V->Env->Prop} {A:ev} {ρ:Env} {p:Nat} {ls:List I} {r:T} (h:(Zo p ls r).holds S L A ρ):HJ p (ls.map (·.den ρ))/\r.holds S L A ρ:=by
 cases p with
 |zero=>exact⟨trivial,h⟩
 |succ p=>exact h
theorem preA_holds {S:Nat->List Int->List Int->Prop} {L:V->Env->Prop} {A:ev} {ρ:Env} {p:Nat} {ls:List I} {r:T} (h:(QS p ls r).holds S L A ρ) (hp:HJ p (ls.map (·.den ρ))):r.holds S L A ρ:=by
 cases p with
 |zero=>exact h
 |succ p=>exact h hp
def e4.bY (P:bQ) (wb:aE) (c:e4) (spec:List Int->List Int->Prop):Prop:=
 (∀args w,(callFunc c.f args).run P w= .ok (.enter c.f args) w)/\
 ∀(F:Nat->Prop) (w:aE) (vs:List aP) (zs:List Int),wb.Extends w->ag (dx c.args) zs->HJ c.pre zs->kK F (λ_=>False) w c.args zs vs->
  lG P c.f vs.toArray w λe w'=>w.Extends w'/\∃rs us,ag (dx c.res) rs/\spec zs rs/\kK (λg=>F g∨w.heap.size<=g) (λg=>w.heap.size<=g) w' c.res rs us/\e= .returned (uq us)
noncomputable def wy:List cB->Nat->Nat->List W->List aG->(Nat->List W->List aG->T)->T
 |[],_,n,us,bl,k=>k n us bl
 | .d x::r,s,n,us,bl,k=>wy r (s+x.num) n (us++[x.sym s]) bl k
 | .rd sh::r,s,n,us,bl,k=> .nat n (.sz (n+1) (-1) 9223372036854775807 (.fn (n+2) 20 [.var s] 0 9223372036854775807
  (wy r (s+1) (n+3) (us++[.one (.sl bl.length sh.length (.var n) (.const 0) (.var (n+2)) (.var (n+1)))]) (bl++[([.rows sh (.var n) (.var s) (.var (n+1)) 1],(0,false))]) k)))
 | .p4 sh e::r,s,n,us,bl,k=> .sz n (-1) 9223372036854775807 (.fn (n+1) 20 [.var s] 0 9223372036854775807
  (wy r (s+1) (n+2) (us++[.one (.sl bl.length sh.length (.const 0) (.const 0) (.var (n+1)) (.var n))]) (bl++[([.rows sh (.const 0) (.var s) (.var n) 2],(e,false))]) k))
section
variable {S:Nat->List Int->List Int->Prop} {L:V->Env->Prop} {w0:dX} {P:bQ} {gl:eI} {cal:eW}
theorem je.agree {ρ aa:Env} {s n:Nat} {zs:List Int} (h:je ρ s zs) (ha:agree n ρ aa) (hn:s+zs.length<=n):je aa s zs:=λj aI=>by rw[ha (s+j) (by omega)];exact h j aI
theorem vK {ρ:Env} {n i:Nat} {z:Int} (h:i<n):de ρ n z i=ρ i:=aaS ρ z (by omega)
theorem DA {F N:Nat->Prop} (hF:∀g,F g->w0.ex g∨w0.ro g∨w0.r.heap.size<=g) (cF:∀g,N g->w0.b.heap.size<=g/\w0.r.heap.size<=g):∀{l:List cB} {s n:Nat} {us:List W} {bl:List aG} {k:Nat->List W->List aG->T} {G:ev} {ρ:Env} {m:Nat->Nat} {w:aE} {zs:List Int} {vals:List aP},
 qu l=true->cM n bl.length ρ bl->Mem w0 ρ m bl w->je ρ s zs->ag (dx l) zs->s+(dx l).length<=n->kK F N w l zs vals->
 ((l.all λb=> !b.o4)=true∨∀(i:Nat) (p:aG),bl[i]?=some p->F (m i)->bJ ρ p.1<=1)->((l.all λb=> !b.qJ)=true∨∀(i:Nat) (p:aG),bl[i]?=some p->N (m i)->bJ ρ p.1=0)->
 (∀u∈us,W.ok n bl.length ρ u)->
 (wy l s n us bl k).holds S L G ρ->∃n' aa m' ng bj,en n bl.length ρ m n' (np bj) aa m'/\cM n' bj.length aa bj/\Mem w0 aa m' bj w/\ng.map (W.den aa m')=us.map (W.den ρ m)++vals/\(∀u∈ng,W.ok n' bj.length aa u)/\(k n' ng bj).holds S L G aa
 |[],s,n,us,bl,k,G,ρ,m,w,zs,vals,_,hb,hm,_,_,_,hat,_,_,tu,ae=>by
  match vals,hat with
  |[],_=>exact⟨n,ρ,m,us,bl,en.refl _ _ _ _,hb,hm,by simp,tu,ae⟩
 | .d x::r,s,n,us,bl,k,G,ρ,m,w,zs,vals,bV,hb,hm,aM,hz,hn,hat,h1,h2,tu,ae=>by
  match vals,hat with
  |v::vs,hat=>
   obtain⟨hv,hat⟩:=hat
   have hv:v=x.val zs:=hv
   simp only[dx,cB.bds]at hz hn
   simp only[fc]at hn
   obtain⟨i1,i2⟩:=yH hz
   rw[D.Jl]at i1 i2 hn
   have hs:=D.L7 (ρ:=ρ) (m:=m) (N:=n) (nb:=bl.length) x i1 aM (by omega)
   obtain⟨n',aa,m',ng,bj,g1,g2,g3,g4,g5,g6⟩:=DA hF cF (l:=r) (s:=s+x.num) (us:=us++[x.sym s]) (zs:=zs.drop x.num) bV hb hm (aM.drop x.num) i2 (by omega) hat (by
    rcases h1 with h1|h1
    ·left;simpa [cB.o4]using h1
    ·exact .inr h1) (by
    rcases h2 with h2|h2
    ·left;simpa [cB.qJ]using h2
    ·exact .inr h2) (λu hu=>by
    rcases List.mem_append.1 hu with hu|hu
    ·exact tu u hu
    ·simp at hu;subst hu;exact hs.1) ae
   exact⟨n',aa,m',ng,bj,g1,g2,g3,by rw[g4,iy,hv];simp[hs.2],g5,g6⟩
 | .rd sh::r,s,n,us,bl,k,G,ρ,m,w,zs,vals,bV,hb,hm,aM,hz,hn,hat,h1,h2,tu,ae=>by
  match vals,hat with
  |v::vs,hat=>
   obtain⟨hv,hat⟩:=hat
   match zs,hz with
   |z::zs,hz=>
    obtain⟨aD,z2,hz⟩:=hz
    have hv:zG F w sh (ah z) v:=hv
    obtain⟨Co,V9⟩:=aM.tail
    have h1:∀(i:Nat) (p:aG),bl[i]?=some p->F (m i)->bJ ρ p.1<=1:=by
     rcases h1 with h1|h1
     ·simp[cB.o4]at h1
     ·exact h1
    simp only[dx,cB.bds,fc,jd,n0]at hn
    simp only[qu,bo]at bV
    have hlen:(ah z).length<=9223372036854775807:=by
     rcases hv with⟨_,h⟩|⟨_,_,cap,_,_,_,_,⟨h3,h4⟩,_⟩
     ·simp[h]
     ·omega
    have ou:zs.length=(dx r).length:=er hz
    obtain⟨g,o,cap,Aa,Ab,Ep,Ku,Er⟩:∃(g:Nat) (o:Nat) (cap:Int),(-1<=cap/\cap<=9223372036854775807)/\(cap<0->ah z=[])/\(0<=cap->((ah z).length:Int)<=cap)/\
     (v=if cap<0 then MA none 0 0 else .slice (some ⟨g,o,none⟩) (ah z).length cap.toNat)/\
     (0<=cap->F g/\∃cells t fz,w.heap[g]?=some (.cells cells t fz)/\mU cells o sh (ah z)):=by
     rcases hv with⟨h3,h4⟩|⟨g,o,cap,cells,t,fz,h3,⟨h4,h5⟩,h6,h7,ew⟩
     ·exact⟨0,0,-1,by omega,λ_=>h4,λh=>by omega,by simp[h3],λh=>by omega⟩
     ·exact⟨g,o,cap,by omega,λh=>by omega,λ_=>by omega,by rw[if_neg (by omega)];simpa using h3,λ_=>⟨h6,cells,t,fz,h7,ew⟩⟩
    have Kw:=ae (o:Int) (by omega) cap Aa.1 Aa.2 (ah z).length (by omega) (by omega) (by
     simp only[cQ,e3,bt,I.cE]
     rw[vK (by omega),vK (by omega),Co])
    generalize qI:de (de (de ρ n (o:Int)) (n+1) cap) (n+2) ((ah z).length:Int)=hj at Kw
    have ha:agree n ρ hj:=by
     rw[<-qI]
     intro i hi
     rw[vK (by omega),vK (by omega),vK hi]
    have e5:hj n=o:=by rw[<-qI,vK (by omega),vK (by omega),kF]
    have aw:hj (n+1)=cap:=by rw[<-qI,vK (by omega),kF]
    have aF:hj (n+2)=(ah z).length:=by rw[<-qI,kF]
    have cb:hj s=z:=by rw[ha s (by omega)];exact Co
    have WZ:=hm.p6 hb ha
    have Ke:=hb.ext ha (show n<=n+3 by omega) (bL bl.length)
    have J9:(A.rows sh (.var n) (.var s) (.var (n+1)) 1).ok (n+3) bl.length hj:=⟨⟨I.fg (by omega),I.fg (by omega),I.fg (by omega)⟩,by rw[I.cE,cb];exact⟨aD,z2⟩,by rw[I.cE,aw];exact Aa⟩
    have mY:=WZ.push (x:=([.rows sh (.var n) (.var s) (.var (n+1)) 1],(0,false))) (g:=g) Ke (λy hy=>by simp at hy;subst hy;exact J9) (λax=>by cases ax) (λfh jB code' jw p1 he=>by
     cases he
     intro _
     refine⟨λh=>by rw[I.cE,aw]at h;rw[I.cE,cb];exact Ab h,λh=>?_⟩
     rw[I.cE,aw]at h
     obtain⟨Ka,cells,t,fz,k1,k2⟩:=Er h
     exact⟨hF g Ka,cells,t,fz,k1,⟨by rw[I.cE,e5];omega,by rw[I.cE,I.cE,e5,cb];exact k2⟩,λh2=>by omega⟩) (λi p hi he=>by
      by_cases hc:0<=cap
      ·refine .inl ⟨?_,?_⟩
       ·rw[vm (hb _ (eD hi)) ha]
        exact h1 i p hi (by rw[he];exact(Er hc).1)
       ·rw[tA (by decide) (by rw[I.cE,aw];exact hc)];exact bL 1
      ·refine .inr (.inr ?_)
       simp only[bJ,I.cE,aw]
       rw[if_pos (by omega)])
    have WW:en n bl.length ρ m (n+3) (bl++[([A.rows sh (.var n) (.var s) (.var (n+1)) 1],((0:bh),false))]).length hj (lC m bl.length g):=⟨by omega,ha,by simp,λb hb=>mG hb⟩
    have Ek:cM (n+3) (bl++[([A.rows sh (.var n) (.var s) (.var (n+1)) 1],((0:bh),false))]).length hj (bl++[([.rows sh (.var n) (.var s) (.var (n+1)) 1],(0,false))]):=λp hp a ll=>by
     rcases List.mem_append.1 hp with hp|hp
     ·exact(Ke p hp a ll).ext (agree.refl _ _) (bL _) (by simp)
     ·simp at hp;subst hp;simp at ll;subst ll
      exact J9.ext (agree.refl _ _) (bL _) (by simp)
    have Xk:W.ok (n+3) (bl++[([A.rows sh (.var n) (.var s) (.var (n+1)) 1],((0:bh),false))]).length hj (.one (.sl bl.length sh.length (.var n) (.const 0) (.var (n+2)) (.var (n+1)))):=by
     refine⟨by simp,⟨I.fg (by omega),I.c5 _ _,I.fg (by omega),I.fg (by omega)⟩,?_⟩
     simp only[I.cE,I.bg,e5,aw,aF]
     exact⟨by omega,by omega,λh=>by rw[Ab h];rfl,Ep⟩
    obtain⟨n',aa,m',ng,bj,g1,g2,g3,g4,g5,g6⟩:=DA hF cF (l:=r) (s:=s+1) (us:=us++[.one (.sl bl.length sh.length (.var n) (.const 0) (.var (n+2)) (.var (n+1)))]) (zs:=zs) (vals:=vs) bV.2 Ek mY (V9.agree ha (by omega)) hz (by omega) hat (.inr λi p hi hf=>by
     rw[List.getElem?_append]at hi
     split at hi
     ·rename_i iP
      rw[mG iP]at hf
      rw[vm (hb _ (eD hi)) ha]
      exact h1 i p hi hf
     ·have:i=bl.length:=by
       have:=(List.getElem?_eq_some_iff.1 hi).1
       simp at this;omega
      subst this
      simp at hi
      subst hi
      simp only[bJ];split<;>omega) (.inl bV.1) (λu hu=>by
     rcases List.mem_append.1 hu with hu|hu
     ·exact(tu u hu).ext ha (by omega) (by simp)
     ·simp at hu;subst hu;exact Xk) Kw
    refine⟨n',aa,m',ng,bj,WW.trans g1,g2,g3,?_,g5,g6⟩
    rw[g4,iy,kq]
    congr 1
    ·exact jQ λu hu=>W.lR (tu u hu) ha (λb hb=>mG hb)
    ·simp only[cQ,e3,kp,e2,W.den,A.den,I.cE,I.bg,e5,aw,aF,nf]
     rw[Ku]
     simp
 | .p4 sh e::r,s,n,us,bl,k,G,ρ,m,w,zs,vals,bV,hb,hm,aM,hz,hn,hat,h1,h2,tu,ae=>by
  match vals,hat with
  |v::vs,hat=>
   obtain⟨hv,hat⟩:=hat
   match zs,hz with
   |z::zs,hz=>
    obtain⟨aD,z2,hz⟩:=hz
    have hv:Dq N w sh e (ah z) v:=hv
    obtain⟨Co,V9⟩:=aM.tail
    simp only[dx,cB.bds,fc,jd,n0]at hn
    simp only[qu,bo]at bV
    have h2:∀(i:Nat) (p:aG),bl[i]?=some p->N (m i)->bJ ρ p.1=0:=by
     rcases h2 with h2|h2
     ·simp[cB.qJ]at h2
     ·exact h2
    have hlen:(ah z).length<=9223372036854775807:=by
     rcases hv with⟨_,h⟩|⟨_,cap,_,_,⟨h3,h4⟩,_⟩
     ·simp[h]
     ·omega
    have ou:zs.length=(dx r).length:=er hz
    obtain⟨g,cap,Aa,Ab,Ep,Ku,Er⟩:∃(g:Nat) (cap:Int),(-1<=cap/\cap<=9223372036854775807)/\(cap<0->ah z=[])/\(0<=cap->((ah z).length:Int)<=cap)/\
     (v=if cap<0 then MA none 0 0 else .slice (some ⟨g,0,none⟩) (ah z).length cap.toNat)/\
     (0<=cap->N g/\∃cells,w.heap[g]?=some (.cells cells e (0,0))/\mU cells 0 sh (ah z)/\cells.size=cap.toNat*sh.length):=by
     rcases hv with⟨h3,h4⟩|⟨g,cap,cells,h3,⟨h4,h5⟩,h6,h7,ew,c9⟩
     ·exact⟨0,-1,by omega,λ_=>h4,λh=>by omega,by simp[h3],λh=>by omega⟩
     ·exact⟨g,cap,by omega,λh=>by omega,λ_=>by omega,by rw[if_neg (by omega)];simpa using h3,λ_=>⟨h6,cells,h7,ew,by simpa using c9⟩⟩
    have Kw:=ae cap Aa.1 Aa.2 (ah z).length (by omega) (by omega) (by
     simp only[cQ,e3,bt,I.cE]
     rw[vK (by omega),Co])
    generalize qI:de (de ρ n cap) (n+1) ((ah z).length:Int)=hj at Kw
    have ha:agree n ρ hj:=by
     rw[<-qI]
     intro i hi
     rw[vK (by omega),vK hi]
    have aw:hj n=cap:=by rw[<-qI,vK (by omega),kF]
    have aF:hj (n+1)=(ah z).length:=by rw[<-qI,kF]
    have cb:hj s=z:=by rw[ha s (by omega)];exact Co
    have WZ:=hm.p6 hb ha
    have Ke:=hb.ext ha (show n<=n+2 by omega) (bL bl.length)
    have J9:(A.rows sh (.const 0) (.var s) (.var n) 2).ok (n+2) bl.length hj:=⟨⟨I.c5 _ _,I.fg (by omega),I.fg (by omega)⟩,by rw[I.cE,cb];exact⟨aD,z2⟩,by rw[I.cE,aw];exact Aa⟩
    have mY:=WZ.push (x:=([.rows sh (.const 0) (.var s) (.var n) 2],(e,false))) (g:=g) Ke (λy hy=>by simp at hy;subst hy;exact J9) (λax=>by cases ax) (λfh jB code' jw p1 he=>by
     cases he
     intro _
     refine⟨λh=>by rw[I.cE,aw]at h;rw[I.cE,cb];exact Ab h,λh=>?_⟩
     rw[I.cE,aw]at h
     obtain⟨arI,cells,k1,k2,k3⟩:=Er h
     have eL:=cF g arI
     exact⟨.inr (.inr eL.2),cells,e,(0,0),k1,⟨by rw[I.bg];exact cL _,by rw[I.bg,I.cE,cb];exact k2⟩,λ_=>⟨rfl,I.bg _ _,.Le,by rw[I.cE,aw];exact k3,eL.1,.inr eL.2⟩⟩) (λi p hi he=>by
      by_cases hc:0<=cap
      ·refine .inr (.inl ?_)
       rw[vm (hb _ (eD hi)) ha]
       exact h2 i p hi (by rw[he];exact(Er hc).1)
      ·refine .inr (.inr ?_)
       simp only[bJ,I.cE,aw]
       rw[if_pos (by omega)])
    have WW:en n bl.length ρ m (n+2) (bl++[([A.rows sh (.const 0) (.var s) (.var n) 2],(e,false))]).length hj (lC m bl.length g):=⟨by omega,ha,by simp,λb hb=>mG hb⟩
    have Ek:cM (n+2) (bl++[([A.rows sh (.const 0) (.var s) (.var n) 2],(e,false))]).length hj (bl++[([.rows sh (.const 0) (.var s) (.var n) 2],(e,false))]):=λp hp a ll=>by
     rcases List.mem_append.1 hp with hp|hp
     ·exact(Ke p hp a ll).ext (agree.refl _ _) (bL _) (by simp)
     ·simp at hp;subst hp;simp at ll;subst ll
      exact J9.ext (agree.refl _ _) (bL _) (by simp)
    have Xk:W.ok (n+2) (bl++[([A.rows sh (.const 0) (.var s) (.var n) 2],(e,false))]).length hj (.one (.sl bl.length sh.length (.const 0) (.const 0) (.var (n+1)) (.var n))):=by
     refine⟨by simp,⟨I.c5 _ _,I.c5 _ _,I.fg (by omega),I.fg (by omega)⟩,?_⟩
     simp only[I.cE,I.bg,aw,aF]
     exact⟨by omega,by omega,λh=>by rw[Ab h];rfl,Ep⟩
    obtain⟨n',aa,m',ng,bj,g1,g2,g3,g4,g5,g6⟩:=adl (w0:=w0) (l:=r) (s:=s+1) (us:=us++[.one (.sl bl.length sh.length (.const 0) (.const 0) (.var (n+1)) (.var n))]) (zs:=zs) (vals:=vs) bV.1 Ek mY (V9.agree ha (by omega)) hz (by omega) hat (λu hu=>by
     rcases List.mem_append.1 hu with hu|hu
     ·exact(tu u hu).ext ha (by omega) (by simp)
     ·simp at hu;subst hu;exact Xk) Kw
    refine⟨n',aa,m',ng,bj,WW.trans g1,g2,g3,?_,g5,g6⟩
    rw[g4,iy,kq]
    congr 1
    ·exact jQ λu hu=>W.lR (tu u hu) ha (λb hb=>mG hb)
    ·simp only[cQ,e3,kp,e2,W.den,A.den,I.cE,I.bg,aw,aF,nf]
     rw[Ku]
     simp
where
 adl {w0:dX} {F N:Nat->Prop}:∀{l:List cB} {s n:Nat} {us:List W} {bl:List aG} {k:Nat->List W->List aG->T} {G:ev} {ρ:Env} {m:Nat->Nat} {w:aE} {zs:List Int} {vals:List aP},
  (l.all cB.EK)=true->cM n bl.length ρ bl->Mem w0 ρ m bl w->je ρ s zs->ag (dx l) zs->s+(dx l).length<=n->kK F N w l zs vals->
  (∀u∈us,W.ok n bl.length ρ u)->
  (wy l s n us bl k).holds S L G ρ->∃n' aa m' ng bj,en n bl.length ρ m n' (np bj) aa m'/\cM n' bj.length aa bj/\Mem w0 aa m' bj w/\ng.map (W.den aa m')=us.map (W.den ρ m)++vals/\(∀u∈ng,W.ok n' bj.length aa u)/\(k n' ng bj).holds S L G aa
 |[],s,n,us,bl,k,G,ρ,m,w,zs,vals,_,hb,hm,_,_,_,hat,tu,ae=>by
  match vals,hat with
  |[],_=>exact⟨n,ρ,m,us,bl,en.refl _ _ _ _,hb,hm,by simp,tu,ae⟩
 | .d x::r,s,n,us,bl,k,G,ρ,m,w,zs,vals,bV,hb,hm,aM,hz,hn,hat,tu,ae=>by
  match vals,hat with
  |v::vs,hat=>
   obtain⟨hv,hat⟩:=hat
   have hv:v=x.val zs:=hv
   simp only[dx,cB.bds]at hz hn
   simp only[fc]at hn
   obtain⟨i1,i2⟩:=yH hz
   rw[D.Jl]at i1 i2 hn
   have hs:=D.L7 (ρ:=ρ) (m:=m) (N:=n) (nb:=bl.length) x i1 aM (by omega)
   obtain⟨n',aa,m',ng,bj,g1,g2,g3,g4,g5,g6⟩:=adl (l:=r) (s:=s+x.num) (us:=us++[x.sym s]) (zs:=zs.drop x.num) (by simpa [cB.EK]using bV) hb hm (aM.drop x.num) i2 (by omega) hat (λu hu=>by
    rcases List.mem_append.1 hu with hu|hu
    ·exact tu u hu
    ·simp at hu;subst hu;exact hs.1) ae
   exact⟨n',aa,m',ng,bj,g1,g2,g3,by rw[g4,iy,hv];simp[hs.2],g5,g6⟩
 | .rd _::_,_,_,_,_,_,_,_,_,_,_,_,bV,_,_,_,_,_,_,_,_=>by simp[cB.EK]at bV
 | .p4 _ _::_,_,_,_,_,_,_,_,_,_,_,_,bV,_,_,_,_,_,_,_,_=>by simp[cB.EK]at bV
end
end Go.b6
namespace Go.b6
open M
theorem Qp (x:Nat) (r:List Nat):lc (x::r)=2^x*(2*lc r+1):=rfl
theorem avv (x:Nat) (r:List Nat):lc r<=lc (x::r):=by
 rw[Qp]
 have h1:1<=2^x:=Nat.one_le_two_pow
 have h2:2*lc r+1<=2^x*(2*lc r+1):=Nat.le_mul_of_pos_left _ h1
 omega
theorem aii:∀(a:Nat) (l:List Nat),lc (l.drop a)<=lc l
 |0,l=>by simp
 |a+1,[]=>by simp
 |a+1,x::r=>by rw[List.drop_succ_cons];exact lg (aii a r) (avv x r)
theorem aij:∀(k:Nat) (l:List Nat),lc (l.take k)<=lc l
 |0,l=>by simp[lc]
 |k+1,[]=>by simp
 |k+1,x::r=>by
  rw[lI,Qp,Qp]
  exact SA _ (by have:=aij k r;omega)
theorem ajN (l:List (List Int)) (a k:Nat):rc ((l.drop a).take k)<=rc l:=by
 unfold rc
 rw[IU,IV]
 exact_mod_cast lg (aij k _) (aii a _)
theorem aE3 (n:Nat):zB (C9 n)=n:=by
 unfold zB C9
 by_cases h:n% 2=0
 ·rw[if_pos h,if_pos (by omega)];omega
 ·rw[if_neg h,if_neg (by omega)];omega
theorem akY:∀(f n:Nat),0<n->n<=f->n=2^qV f n*(2*(n/2^qV f n/2)+1)
 |0,n,h,a8=>by omega
 |f+1,n,h,a8=>by
  unfold qV
  by_cases hn:n% 2=0
  ·rw[if_pos hn]
   have ih:=akY f (n/2) (by omega) (by omega)
   have e:n/2^(qV f (n/2)+1)=n/2/2^qV f (n/2):=by rw[wg,xN,Nat.div_div_eq_div_mul]
   rw[e,wg,xN (2^_) 2,Sr,<-ih];omega
  ·rw[if_neg hn];simp;omega
theorem Yz:∀(f n:Nat),n<=f->lc (bK f n)=n
 |0,n,h=>by
  have:n=0:=by omega
  subst this;rfl
 |f+1,n,h=>by
  unfold bK
  by_cases hn:n=0
  ·rw[if_pos hn,hn];rfl
  ·rw[if_neg hn,Qp]
   have hp:0<2^qV n n:=Nat.two_pow_pos _
   have hd:n/2^qV n n/2<=f:=by
    have h1:n/2^qV n n<=n:=aD4 _ _
    omega
   rw[Yz f _ hd]
   exact(akY n n (by omega) (bL _)).symm
theorem ajM {z:Int} (h:0<=z):rc (ah z)=z:=by
 unfold rc ah
 rw[nk]
 have e:((λrow:List Int=>lc (row.map zB))∘λn=>(bK n n).map C9)=id:=by
  funext n
  simp only[Mv,nk,id]
  have:(zB∘C9)=id:=by funext k;exact aE3 k
  rw[this,Mu,Yz n n (bL _)]
 rw[e,Mu,Yz _ _ (bL _)]
 omega
def n7:V->List Nat
 | .w (.one (.sl b _ _ _ _ _))=>[b]
 | .w (.one (.slc b _ _ _))=>[b]
 |_=>[]
def U4 (cap eE:I):M Unit:=cond (I.beq cap eE) (pure ()) (gh 40 [cap,eE])
noncomputable def Q1 (sh:List aL) (bl:List aG) (v:V):M I:=
 match v with
 | .w (.one (.con (.slice none 0 0)))=>pure (.const 0)
 | .w (.one (.sl b bq o ro len cap))=>match bl[b]? with
  |some ([.rows fh off code eE kind],_)=>cond (dv 0 kind&&qS sh fh&&I.beq o off&&aK bq sh.length) (bind (gh 22 [code,ro,ro.add len]) λ_=>bind (U4 cap eE) λ_=>fa 22 [code,ro,ro.add len] 0 bN) fail
  |_=>fail
 | .w (.one (.slc b off len cap))=>match va bl b off (len*sh.length)with
  |some cs=>cond (nT sh&&cx len 1073741824&&cx len cap&&cx cap 9223372036854775807) (BE sh (oS sh.length len cs) (.const 0)) fail
  |none=>fail
 |_=>fail
noncomputable def Zf (sh:List aL) (e:bh) (bl:List aG) (v:V):M I:=
 match v with
 | .w (.one (.con (.slice none 0 0)))=>pure (.const 0)
 | .w (.one (.sl b bq o ro len cap))=>match bl[b]? with
  |some ([.rows fh off code eE kind],t)=>cond (aK kind 2&&qS sh fh&&I.beq o (.const 0)&&I.beq off (.const 0)&&I.beq ro (.const 0)&&I.beq cap eE&&aK bq sh.length&&aK t.1 e) (bind (gh 22 [code,.const 0,len]) λ_=>fa 22 [code,.const 0,len] 0 bN) fail
  |_=>fail
 | .w (.one (.slc b off len cap))=>match bl[b]? with
  |some (C,t)=>match va bl b off (len*sh.length)with
   |some cs=>cond (nT sh&&cx len 1073741824&&cx len cap&&cx cap 9223372036854775807&&aK off 0&&aK C.length (cap*sh.length)&& !t.2&&aK t.1 e) (BE sh (oS sh.length len cs) (.const 0)) fail
   |none=>fail
  |none=>fail
 |_=>fail
def vH:V->List Nat
 | .w (.one (.slc b _ _ _))=>[b]
 |_=>[]
def rI (w0:dX) (ρ:Env) (m:Nat->Nat) (bl:List aG) (bs os:List Nat) (g:Nat):Prop:=
 (∃b∈bs,m b=g/\∃p,bl[b]?=some p/\bJ ρ p.1≠0/\(b7 p.1=true->b∈os))/\(w0.ex g∨w0.ro g∨w0.r.heap.size<=g)
section
variable {S:Nat->List Int->List Int->Prop} {L:V->Env->Prop} {n:Nat} {ρ:Env} {m:Nat->Nat} {bl:List aG} {gl:eI} {w0:dX} {P:bQ} {w:aE}
theorem zG.mono {F Bv:Nat->Prop} {sh:List aL} {rows:List (List Int)} {v:aP} (h:zG F w sh rows v) (hF:∀g,F g->Bv g):zG Bv w sh rows v:=by
 rcases h with h|⟨g,o,cap,cells,t,fz,h1,h2,h3,h4⟩
 ·exact .inl h
 ·exact .inr ⟨g,o,cap,cells,t,fz,h1,h2,hF g h3,h4⟩
theorem akC {b off len:Nat} {C:List A} {t:bh×Bool} {cs:List A} {sh:List aL} {rows:List (List Int)} (hb:cM n bl.length ρ bl) (hw:Mem w0 ρ m bl w) (aQ:bl[b]?=some (C,t)) (c0:va bl b off (len*sh.length)=some cs)
 (j8:∀row∈rows,cw sh row) (j6:b2 sh rows=cs.map (A.den ρ m)):w0.b.heap.size<=m b/\(w0.ex (m b)∨w0.r.heap.size<=m b)/\∃cells:Array aP,w.heap[m b]?=some (.cells cells t.1 (0,0))/\mU cells off sh rows/\(t.2=false->cells.size=C.length):=by
 unfold va at c0
 rw[aQ]at c0
 simp only at c0
 cases hc:(cx (off+len*sh.length) C.length&&b7 C)with
 |false=>rw[hc]at c0;cases c0
 |true=>
  rw[hc]at c0
  simp only[cond_true,a7]at c0
  simp only[bo]at hc
  have hle:=e8 hc.1
  obtain⟨g1,g2,r,hr,g3⟩:=hw.fe b C t aQ hc.2
  refine⟨g1,g2,_,g3,⟨j8,(C.take off).map (A.den ρ m),((C.drop off).drop (len*sh.length)).map (A.den ρ m)++r,?_,by simp;omega⟩,λaA=>by rw[hr aA];simp⟩
  rw[j6,<-c0]
  show C.map (A.den ρ m)++r=_
  have e:C=C.take off++((C.drop off).take (len*sh.length)++(C.drop off).drop (len*sh.length)):=by rw[ld,ld]
  conv=>lhs;rw[e]
  simp only[iy,kq]
theorem LR:ah ((I.const 0).den ρ)=[]:=by rw[I.bg];exact k6
theorem x2:(0:Int)<=bN:=Bl (ja []) (rK (l:=[]) (by simp) (by simp))
theorem akB {sh:List aL} {len:Nat} {cs:List A} (kh:nT sh=true) (hl:len<=1073741824) (bV:∀a∈cs,A.ok n bl.length ρ a) (lU:cs.length=len*sh.length):
 az S L (BE sh (oS sh.length len cs) (.const 0)) n ρ λaa n' l=>l.bD n'/\(0<=l.den aa/\l.den aa<=bN)/\(ah (l.den aa)).length=len/\(∀row∈ah (l.den aa),cw sh row)/\b2 sh (ah (l.den aa))=cs.map (A.den ρ m):=by
 have ml:=Jx (w:=sh.length) (k:=len) lU
 refine(Ji (nb:=bl.length) (m:=m) kh (rs:=oS sh.length len cs) (c:= .const 0) (λrow hr a ha=>bV a (Jy row hr a ha)) (I.c5 _ _) (by rw[I.bg];exact⟨cL _,x2⟩) (by rw[LR];intro _ h;simp at h) (by rw[LR,ml.1];simpa using hl)).mono λaJ aT l hn ha ⟨cm,cl,dT,c3,e0,fb,gm⟩=>?_
 rw[LR,e2]at c3
 rw[c3]
 exact⟨cm,cl,by rw[e0,ml.1],fb,by rw[gm,ml.2]⟩
theorem aox {cap eE:I} {α:Type} {x:M α} {R:Env->Nat->α->Prop} (h:(0<=cap.den ρ->0<=eE.den ρ)->az S L x n ρ R):az S L (bind (U4 cap eE) λ_=>x) n ρ R:=by
 unfold U4
 cases hc:I.beq cap eE with
 |true=>exact h (by rw[I.beq_eq hc];exact id)
 |false=>exact iM h
theorem ajO {sh:List aL} {v:V} {X:aP} (hb:cM n bl.length ρ bl) (hw:Mem w0 ρ m bl w) (hv:v.ok n bl.length ρ) (bT:v.rel ρ m X):
 az S L (Q1 sh bl v) n ρ λaa n' l=>l.bD n'/\(0<=l.den aa/\l.den aa<=bN)/\zG (rI w0 ρ m bl (n7 v) (vH v)) w sh (ah (l.den aa)) X:=by
 unfold Q1
 split
 ·refine az.pure ⟨I.c5 _ _,by rw[I.bg];exact⟨cL _,x2⟩,.inl ⟨bT,LR⟩⟩
 ·rename_i b bq o ro len cap
  split
  ·rename_i fh off code eE kind t aQ
   refine dY λhc=>iM λab=>?_
   simp only[bo]at hc
   obtain⟨⟨⟨c1,bH⟩,cp⟩,cR⟩:=hc
   have c1:0<kind:=e8 c1
   have bH:=C6 bH;have cp:=I.beq_eq cp;have cR:=bO cR
   subst bH;subst cp;subst cR
   simp only[cQ,e3,au,I.den_add]at ab
   have KS:(A.sl b sh.length o ro len cap).ok n bl.length ρ:=hv
   obtain⟨ptr,aw,aF,cb⟩:=uj (m:=m) KS
   have bT:X=(A.sl b sh.length o ro len cap).den ρ m:=bT
   obtain⟨ai,⟨af,ar,cN,ia⟩,⟨iR,k9,la,lb⟩,⟨lD,k8⟩,gC,iQ⟩:=KS
   have fu:(A.rows sh o code eE kind).ok n bl.length ρ:=hb _ (eD aQ) _ (by simp)
   have hf:bt 22 ([code,ro,ro.add len].map (·.den ρ))=rc (((ah (code.den ρ)).drop (ro.den ρ).toNat).take (len.den ρ).toNat):=by
    simp only[cQ,e3,bt,I.den_add]
    congr 2;omega
   have hL:rc (((ah (code.den ρ)).drop (ro.den ρ).toNat).take (len.den ρ).toNat)<=bN:=by
    have h1:=ajN (ah (code.den ρ)) (ro.den ρ).toNat (len.den ρ).toNat
    rw[ajM fu.2.1.1]at h1
    exact Bl h1 fu.2.1.2
   refine aox λEl=>?_
   refine(hI (by rw[hf];exact ja _) (by rw[hf];exact hL)).mono λaJ aT l hn ha ⟨k1,k2⟩=>?_
   rw[hf]at k2
   refine⟨k1,by rw[k2];exact⟨ja _,hL⟩,?_⟩
   rw[k2,jm]
   have hlen:(((ah (code.den ρ)).drop (ro.den ρ).toNat).take (len.den ρ).toNat).length=(len.den ρ).toNat:=by simp;omega
   rcases kI (cap.den ρ) 0 with cZ|cZ
   ·left
    have:=gC cZ
    refine⟨by rw[bT,aw,aF cZ,if_pos cZ,this];rfl,by rw[this];simp⟩
   ·right
    clear hL
    rcases kI (eE.den ρ) 0 with z6|z6
    ·have:=El cZ;omega
    ·obtain⟨eB,cells,km,fz,bb,⟨b0,cv⟩,_⟩:=(hw.rws b sh o code eE kind t aQ (by omega)).2 z6
     refine⟨m b,(o.den ρ).toNat+(ro.den ρ).toNat*sh.length,(cap.den ρ).toNat,cells,km,fz,?_,⟨by rw[hlen];have:=iQ cZ;omega,by omega⟩,⟨⟨b,by simp[n7],rfl,_,aQ,by rw[tA (by omega) z6];omega,λh=>by cases h⟩,eB⟩,bb,?_⟩
     ·rw[bT,aw,cb cZ,hlen,if_neg (by omega)]
     ·exact cv.sub _ _ (by omega)
  ·exact az.fail
 ·rename_i b off len cap
  split
  ·rename_i cs c0
   refine dY λhc=>?_
   simp only[bo]at hc
   obtain⟨⟨⟨c1,bH⟩,cp⟩,cR⟩:=hc
   have bH:=e8 bH;have cp:=e8 cp;have cR:=e8 cR
   obtain⟨d1,d2,d3⟩:=GQ hw hb c0
   refine(akB (m:=m) c1 bH d2 d1).mono λaJ aT l hn ha ⟨k1,k2,k3,k4,sc⟩=>⟨k1,k2,.inr ?_⟩
   have bT:X= .slice (some ⟨m b,off,none⟩) len cap:=bT
   cases aQ:bl[b]? with
   |none=>unfold va at c0;rw[aQ]at c0;cases c0
   |some q=>
    obtain⟨C,t⟩:=q
    obtain⟨g1,g2,cells,g3,g4,_⟩:=akC hb hw aQ c0 k4 sc
    have mm:b7 C=true:=by
     unfold va at c0
     rw[aQ]at c0
     simp only at c0
     cases hc:(cx (off+len*sh.length) C.length&&b7 C)with
     |false=>rw[hc]at c0;cases c0
     |true=>simp only[bo]at hc;exact hc.2
    exact⟨m b,off,cap,cells,t.1,(0,0),by rw[bT,k3],⟨by omega,by omega⟩,⟨⟨b,by simp[n7],rfl,_,aQ,by rw[lv mm];decide,λ_=>by simp[vH]⟩,g2.elim .inl λh=> .inr (.inr h)⟩,g3,g4⟩
  ·exact az.fail
 ·exact az.fail
theorem axB {sh:List aL} {e:bh} {v:V} {X:aP} (hex:∀g,¬w0.ex g) (hb:cM n bl.length ρ bl) (hw:Mem w0 ρ m bl w) (hv:v.ok n bl.length ρ) (bT:v.rel ρ m X):
 az S L (Zf sh e bl v) n ρ λaa n' l=>l.bD n'/\(0<=l.den aa/\l.den aa<=bN)/\Dq (λg=>w0.r.heap.size<=g) w sh e (ah (l.den aa)) X:=by
 unfold Zf
 split
 ·refine az.pure ⟨I.c5 _ _,by rw[I.bg];exact⟨cL _,x2⟩,.inl ⟨bT,LR⟩⟩
 ·rename_i b bq o ro len cap
  split
  ·rename_i fh off code eE kind t aQ
   refine dY λhc=>iM λab=>?_
   simp only[bo]at hc
   obtain⟨⟨⟨⟨⟨⟨⟨c1,bH⟩,cp⟩,Nw⟩,U0⟩,gI⟩,cR⟩,eO⟩:=hc
   have c1:=bO c1
   have bH:=C6 bH;have cp:=I.beq_eq cp;have Nw:=I.beq_eq Nw;have U0:=I.beq_eq U0;have gI:=I.beq_eq gI;have cR:=bO cR;have eO:=bO eO
   subst bH;subst cp;subst cR;subst Nw;subst U0;subst gI;subst eO;subst c1
   simp only[cQ,e3,au,I.bg]at ab
   have KS:(A.sl b sh.length (.const 0) (.const 0) len cap).ok n bl.length ρ:=hv
   obtain⟨ptr,aw,aF,cb⟩:=uj (m:=m) KS
   have bT:X=(A.sl b sh.length (.const 0) (.const 0) len cap).den ρ m:=bT
   obtain⟨ai,⟨af,ar,cN,ia⟩,⟨iR,k9,la,lb⟩,⟨lD,k8⟩,gC,iQ⟩:=KS
   rw[I.bg]at k8
   have fu:(A.rows sh (.const 0) code cap 2).ok n bl.length ρ:=hb _ (eD aQ) _ (by simp)
   have hf:bt 22 ([code,.const 0,len].map (·.den ρ))=rc (((ah (code.den ρ)).drop 0).take (len.den ρ).toNat):=by
    simp only[cQ,e3,bt,I.bg]
    congr 2
   have hL:rc (((ah (code.den ρ)).drop 0).take (len.den ρ).toNat)<=bN:=by
    have h1:=ajN (ah (code.den ρ)) 0 (len.den ρ).toNat
    rw[ajM fu.2.1.1]at h1
    exact Bl h1 fu.2.1.2
   refine(hI (by rw[hf];exact ja _) (by rw[hf];exact hL)).mono λaJ aT l hn ha ⟨k1,k2⟩=>?_
   rw[hf]at k2
   refine⟨k1,by rw[k2];exact⟨ja _,hL⟩,?_⟩
   rw[k2,jm]
   have hlen:(((ah (code.den ρ)).drop 0).take (len.den ρ).toNat).length=(len.den ρ).toNat:=by simp;omega
   rcases kI (cap.den ρ) 0 with cZ|cZ
   ·left
    have:=gC cZ
    refine⟨by rw[bT,aw,aF cZ,if_pos cZ,this];rfl,by rw[this];simp⟩
   ·right
    clear hL
    obtain⟨eB,cells,km,fz,bb,⟨b0,cv⟩,dK⟩:=(hw.rws b sh (.const 0) code cap 2 t aQ (by omega)).2 cZ
    obtain⟨p0,cm,cl,c3,e0,fb⟩:=dK (by omega)
    have cl:=cl.two
    subst p0;subst cl
    rw[I.bg]at cv
    refine⟨m b,(cap.den ρ).toNat,cells,?_,⟨by rw[hlen];have:=iQ cZ;omega,by omega⟩,fb.elim (λh=>absurd h (hex _)) id,bb,?_,c3⟩
    ·rw[bT,aw,cb cZ,hlen,if_neg (by omega)];simp[I.bg]
    ·have:=cv.sub 0 (len.den ρ).toNat (by omega)
     simpa using this
  ·exact az.fail
 ·rename_i b off len cap
  split
  ·rename_i C t aQ
   split
   ·rename_i cs c0
    refine dY λhc=>?_
    simp only[bo]at hc
    obtain⟨⟨⟨⟨⟨⟨⟨c1,bH⟩,cp⟩,cR⟩,eO⟩,gI⟩,nz⟩,mX⟩:=hc
    have bH:=e8 bH;have cp:=e8 cp;have cR:=e8 cR
    have eO:=bO eO;have gI:=bO gI;have mX:=bO mX
    subst eO;subst mX
    obtain⟨d1,d2,d3⟩:=GQ hw hb c0
    refine(akB (m:=m) c1 bH d2 d1).mono λaJ aT l hn ha ⟨k1,k2,k3,k4,sc⟩=>⟨k1,k2,.inr ?_⟩
    have bT:X= .slice (some ⟨m b,0,none⟩) len cap:=bT
    obtain⟨g1,g2,cells,g3,g4,g5⟩:=akC hb hw aQ c0 k4 sc
    exact⟨m b,cap,cells,by rw[bT,k3],⟨by omega,by omega⟩,g2.elim (λh=>absurd h (hex _)) id,g3,g4,by rw[g5 (by simpa using nz),gI]⟩
   ·exact az.fail
  ·exact az.fail
 ·exact az.fail
end
def VM (d:D) (v:V):M (List I):=
 match d,v with
 | .bool,.w (.one (.bool e))=>match e with
  | .lit v=>pure [.const (cond v 1 0)]
  |e=>bind (EH e) λl=>pure [l]
 | .int k lo hi,.w (.one (.int bA x))=>cond (decide (k=bA)) (cond (q5 lo hi x) (pure [x.l]) (bind (gh 39 [x.l,.const lo,.const hi]) λ_=>pure [x.l])) fail
 | .mix l,.w (.agg s)=>A5 l s
 | .str,.w (.one (.str l))=>pure [l]
 | .xj l,.w (.one (.str x))=>match x.ed with|some c=>cond (decide (c=jv (vl l))) (pure []) fail|none=>fail
 | .mq k c,.w (.one (.int bA x))=>match x.l.ed with|some d=>cond (decide (k=bA)&&decide (d=c)) (pure []) fail|none=>fail
 | .agg k n lo hi,.w (.agg l)=>cond (aK l.length n) (match mg k lo hi l with|some r=>pure r|none=>fail) fail
 |_,_=>fail
noncomputable def D1 (bl:List aG):List cB->List V->M (List I)
 |[],[]=>pure []
 | .d x::r,v::s=>bind (VM x v) λa=>bind (D1 bl r s) λb=>pure (a++b)
 | .rd sh::r,v::s=>bind (Q1 sh bl v) λa=>bind (D1 bl r s) λb=>pure (a::b)
 |_,_=>fail
section
variable {S:Nat->List Int->List Int->Prop} {L:V->Env->Prop} {w0:dX} {P:bQ} {w:aE}
theorem ZP:∀{sh:List aL} {zs:List Int},cw sh zs->ag (sh.map aL.fq) zs/\sJ aL.val sh zs=dq sh zs
 |[],[],_=>⟨trivial,rfl⟩
 |c::sh,z::zs,h=>⟨⟨h.1.1,h.1.2,(ZP h.2).1⟩,by simp[dq,(ZP h.2).2]⟩
 |[],_::_,h=>h.elim
 |_::_,[],h=>h.elim
theorem apQ {d:D} {v:V} {X:aP} {n nb:Nat} {ρ:Env} {m:Nat->Nat} (hv:v.ok n nb ρ) (bT:v.rel ρ m X):az S L (VM d v) n ρ λaa n' ls=>(∀x∈ls,I.bD n' x)/\ag d.bds (ls.map (·.den aa))/\X=d.val (ls.map (·.den aa)):=by
 unfold VM
 split
 ·rename_i e
  have bT:X= .bool (e.den ρ):=bT
  have key:az S L (bind (EH e) λl=>pure [l]) n ρ λaa n' ls=>(∀x∈ls,I.bD n' x)/\ag D.bool.bds (ls.map (·.den aa))/\X=D.bool.val (ls.map (·.den aa)):=
   Pu.bind λaJ aT l hn ha ⟨g1,g2,g3⟩=>az.pure ⟨λx hx=>by simp at hx;subst hx;exact g1,⟨g2.1,g2.2,trivial⟩,by rw[bT,g3];rfl⟩
  cases e with
  |lit b=>
   refine az.pure ⟨λx hx=>by simp at hx;subst hx;exact I.c5 _ _,?_,?_⟩
   ·simp only[cQ,e3,I.bg,D.bds];cases b<;>exact⟨by decide,by decide,trivial⟩
   ·rw[bT];simp only[cQ,e3,I.bg];cases b<;>rfl
  |_=>exact key
 ·rename_i k lo hi bA x
  refine dY λab=>?_
  have ab:k=bA:=by simpa using ab
  subst ab
  have hv:x.ok n ρ:=hv
  have bT:X= .int k (x.l.den ρ):=bT
  cases hf:q5 lo hi x with
  |true=>
   have:=JV hf hv
   exact az.pure ⟨λy hy=>by simp at hy;subst hy;exact hv.1,⟨this.1,this.2,trivial⟩,bT⟩
  |false=>
   refine iM λab=>az.pure ?_
   simp only[cQ,e3,au,I.bg]at ab
   exact⟨λy hy=>by simp at hy;subst hy;exact hv.1,⟨ab.1,ab.2,trivial⟩,bT⟩
 ·rename_i l s
  have bT:X= .agg (s.map (A.den ρ m)).toArray:=bT
  refine(H6 (nb:=nb) (m:=m) hv).mono λaJ aT ls hn ha ⟨g1,g2,g3⟩=>?_
  have:=ZP g2
  refine⟨g1,this.1,?_⟩
  rw[bT,<-g3]
  simp only[D.val,this.2]
 ·rename_i l
  have bT:X= .string (dI (bp (l.den ρ))):=bT
  have hv:l.bD n/\0<=l.den ρ/\l.den ρ<=n4:=hv
  exact az.pure ⟨λy hy=>by simp at hy;subst hy;exact hv.1,⟨hv.2.1,hv.2.2,trivial⟩,bT⟩
 ·rename_i l x
  have bT:X= .string (dI (bp (x.den ρ))):=bT
  cases hc:x.ed with
  |none=>exact az.fail
  |some c=>
   refine dY λhd=>az.pure ⟨λy hy=>by simp at hy,trivial,?_⟩
   rw[bT,akL (n:=n) hc (by simpa using hd)];rfl
 ·rename_i k c bA x
  have bT:X= .int bA (x.l.den ρ):=bT
  cases hc:x.l.ed with
  |none=>exact az.fail
  |some d=>
   refine dY λhd=>az.pure ⟨λy hy=>by simp at hy,trivial,?_⟩
   simp only[bo,decide_eq_true_eq]at hd
   rw[bT,I.jI hc,<-hd.1,hd.2];rfl
 ·rename_i k n' lo hi l
  refine dY λab=>?_
  have ab:=bO ab
  have bT:X= .agg (l.map (A.den ρ m)).toArray:=bT
  cases hf:mg k lo hi l with
  |none=>exact az.fail
  |some r=>
   obtain⟨g1,g2,g3⟩:=OF (m:=m) hf hv
   rw[ab]at g2
   refine az.pure ⟨VK hf hv,g2,?_⟩
   rw[bT,g3]
   simp only[D.val]
   rw[pt (by simp[g1,ab])]
 ·exact az.fail
theorem aiJ {n:Nat} {ρ aa:Env} {ls:List I} (h:∀x∈ls,I.bD n x) (ha:agree n ρ aa):ls.map (·.den aa)=ls.map (·.den ρ):=jQ λx hx=>I.bX ha (h x hx)
theorem rI.later {n nb:Nat} {ρ aa:Env} {m:Nat->Nat} {bl:List aG} {bs os:List Nat} {g:Nat} (hb:cM n nb ρ bl) (ha:agree n ρ aa) (h:rI w0 aa m bl bs os g):rI w0 ρ m bl bs os g:=by
 obtain⟨⟨b,h1,h2,p,h3,h4,h6⟩,h5⟩:=h
 exact⟨⟨b,h1,h2,p,h3,by rw[<-vm (hb p (eD h3)) ha];exact h4,h6⟩,h5⟩
theorem OG {bl:List aG} {m:Nat->Nat}:∀{ds:List cB} {vs:List V} {xs:List aP} {n:Nat} {ρ:Env},cM n bl.length ρ bl->Mem w0 ρ m bl w->(∀v∈vs,V.ok n bl.length ρ v)->eJ ρ m vs xs->
 az S L (D1 bl ds vs) n ρ λaa n' ls=>(∀x∈ls,I.bD n' x)/\ag (dx ds) (ls.map (·.den aa))/\∀F:Nat->Prop,(∀g,rI w0 ρ m bl (vs.flatMap n7) (vs.flatMap vH) g->F g)->kK F (λ_=>False) w ds (ls.map (·.den aa)) xs
 |[],[],[],n,ρ,_,_,_,_=>az.pure ⟨λ_ h=>by simp at h,trivial,λ_ _=>trivial⟩
 | .d x::r,v::s,X::xs,n,ρ,hb,hw,hv,hr=>by
  unfold D1
  refine(apQ (hv v (by simp)) hr.1).bind λaJ aT a hn ha ⟨g1,g2,g3⟩=>?_
  refine(OG (ds:=r) (vs:=s) (xs:=xs) (hb.ext ha hn (bL _)) (hw.p6 hb ha) (λu hu=>(hv u (dU _ hu)).ext ha hn (bL _)) (eJ.later (λu hu=>hv u (dU _ hu)) ha hr.2)).bind λbR eF b eL dz ⟨k1,k2,k3⟩=>az.pure ⟨λy hy=>?_,?_,λF hF=>?_⟩
  ·rcases List.mem_append.1 hy with hy|hy
   ·exact(g1 y hy).mono eL
   ·exact k1 y hy
  ·rw[iy,aiJ g1 dz]
   exact nK g2 k2
  ·have hl:(a.map (·.den aJ)).length=x.num:=by rw[er g2,D.Jl]
   rw[iy,aiJ g1 dz]
   refine⟨?_,?_⟩
   ·show X=x.val _
    rw[D.alg x hl];exact g3
   ·show kK F _ w r (List.drop x.num _) xs
    rw[<-hl,Dd]
    exact k3 F λg hg=>hF g (by
     have:=rI.later hb ha hg
     obtain⟨⟨b',h1,h2,p,h4,h5,h6⟩,h3⟩:=this
     exact⟨⟨b',by simp only[sL,wi];exact .inr h1,h2,p,h4,h5,λh=>by simp only[sL,wi];exact .inr (h6 h)⟩,h3⟩)
 | .rd sh::r,v::s,X::xs,n,ρ,hb,hw,hv,hr=>by
  unfold D1
  refine(ajO hb hw (hv v (by simp)) hr.1).bind λaJ aT a hn ha ⟨g1,g2,g3⟩=>?_
  refine(OG (ds:=r) (vs:=s) (xs:=xs) (hb.ext ha hn (bL _)) (hw.p6 hb ha) (λu hu=>(hv u (dU _ hu)).ext ha hn (bL _)) (eJ.later (λu hu=>hv u (dU _ hu)) ha hr.2)).bind λbR eF b eL dz ⟨k1,k2,k3⟩=>az.pure ⟨λy hy=>?_,?_,λF hF=>?_⟩
  ·rcases List.mem_cons.1 hy with rfl|hy
   ·exact g1.mono eL
   ·exact k1 y hy
  ·simp only[cQ,I.bX dz g1]
   exact⟨g2.1,g2.2,k2⟩
  ·simp only[cQ,I.bX dz g1]
   refine⟨?_,?_⟩
   ·show zG F w sh (ah _) X
    exact g3.mono λg hg=>hF g (by
     obtain⟨⟨b',h1,h2,p,h4,h5,h6⟩,h3⟩:=hg
     exact⟨⟨b',by simp only[sL,wi];exact .inl h1,h2,p,h4,h5,λh=>by simp only[sL,wi];exact .inl (h6 h)⟩,h3⟩)
   ·exact k3 F λg hg=>hF g (by
     have:=rI.later hb ha hg
     obtain⟨⟨b',h1,h2,p,h4,h5,h6⟩,h3⟩:=this
     exact⟨⟨b',by simp only[sL,wi];exact .inr h1,h2,p,h4,h5,λh=>by simp only[sL,wi];exact .inr (h6 h)⟩,h3⟩)
 |[],_::_,_,_,_,_,_,_,_=>az.fail
 | .d _::_,[],_,_,_,_,_,_,_=>az.fail
 | .rd _::_,[],_,_,_,_,_,_,_=>az.fail
 | .p4 _ _::_,[],_,_,_,_,_,_,_=>az.fail
 | .p4 _ _::_,_::_,_,_,_,_,_,_,_=>az.fail
 |_,[],_::_,_,_,_,_,_,hr=>hr.elim
 |_,_::_,[],_,_,_,_,_,hr=>hr.elim
where
 eJ.later {n nb:Nat} {ρ aa:Env} {m:Nat->Nat}:∀{vs:List V} {xs:List aP},(∀v∈vs,V.ok n nb ρ v)->agree n ρ aa->eJ ρ m vs xs->eJ aa m vs xs
 |[],[],_,_,_=>trivial
 |v::vs,x::xs,hv,ha,hr=>⟨V.rel.ext hr.1 (hv v (by simp)) ha (λ_ _=>rfl),eJ.later (λu hu=>hv u (dU _ hu)) ha hr.2⟩
 |[],_::_,_,_,hr=>hr.elim
 |_::_,[],_,_,hr=>hr.elim
end
end Go.b6
namespace Go.b6
open M
def Ck:List Nat->List aG->List aG
 |[],bl=>bl
 |b::r,bl=>match bl[b]? with
  |some ([.rows sh off code cap (k+1)],t)=>Ck r (dE bl b ([.rows sh off code cap 1],t))
  |_=>Ck r bl
def C3 (us:List W):V:=match us with|[u]=> .w u|l=> .h9 l
def yT:List V->Bool
 |[]=>true
 | .w (.one (.slc ..))::_=>false
 |_::r=>yT r
noncomputable def e4.I5 (c:e4) (n:Nat) (vs:List V) (bl:List aG) (k:RK):T:=
 D1 bl c.args vs n λls aT=>cond (qu c.res&&(!(c.res.any cB.o4)||yT vs)) (Zo c.pre ls (.call c.id ls aT (dx c.res) (wy c.res aT (aT+(dx c.res).length) [] (cond (c.res.any cB.o4) (Ck (vs.flatMap n7) bl) bl) λeF us pQ=>k eF (C3 us) pQ))) .stuck
def amn (sh:List aL) (b:Nat):V:= .w (.one (.sl b sh.length (.const 0) (.const 0) (.const 0) (.const 0)))
def abn (rd:Bool) (sh:List aL) (b:Nat) (bl:List aG):Option (List aG):=
 match bl[b]? with
 |some ([],(t,false))=>cond rd (some (dE bl b ([.rows sh (.const 0) (.const 0) (.const 0) 1],(t,false)))) none
 |some ([.rows fh off code cap kind],t)=>cond (qS sh fh&&I.beq off (.const 0)&&I.beq cap (.const 0)&&dv 0 kind) (some bl) none
 |_=>none
def l5 (rd:Bool):List cB->List V->List aG->List V×List aG
 | .rd sh::r,v::s,bl=>match v with
  | .w (.one (.slc b 0 0 0))=>match abn rd sh b bl with
   |some q4=>(amn sh b::(l5 rd r s q4).1,(l5 rd r s q4).2)
   |none=>(v::(l5 rd r s bl).1,(l5 rd r s bl).2)
  |_=>(v::(l5 rd r s bl).1,(l5 rd r s bl).2)
 |_::r,v::s,bl=>(v::(l5 rd r s bl).1,(l5 rd r s bl).2)
 |_,vs,bl=>(vs,bl)
noncomputable def e4.E (c:e4) (n:Nat) (vs:List V) (bl:List aG) (k:RK):T:=
 c.I5 n (l5 (c.res.any cB.o4) c.args vs bl).1 (l5 (c.res.any cB.o4) c.args vs bl).2 k
section
variable {S:Nat->List Int->List Int->Prop} {L:V->Env->Prop} {w0:dX} {P:bQ}
theorem Mem.zero {ρ:Env} {m:Nat->Nat} {bl:List aG} {w:aE} {b:Nat} {sh:List aL} {t:bh} (h:Mem w0 ρ m bl w) (aQ:bl[b]?=some ([],(t,false))):Mem w0 ρ m (dE bl b ([.rows sh (.const 0) (.const 0) (.const 0) 1],(t,false))) w:=by
 have q8:b<bl.length:=(List.getElem?_eq_some_iff.1 aQ).1
 obtain⟨bb,b0,r,hr,cv⟩:=h.fe b [] (t,false) aQ rfl
 have hr:=hr rfl
 subst hr
 have dN:∀(i:Nat) (p:aG),(dE bl b ([.rows sh (.const 0) (.const 0) (.const 0) 1],(t,false)))[i]?=some p->(i=b/\p=([.rows sh (.const 0) (.const 0) (.const 0) 1],(t,false)))∨(i≠b/\bl[i]?=some p):=λi p hi=>by
  rw[kE,sI]at hi
  split at hi
  ·rename_i gZ
   subst gZ
   simp only[q8,if_true,a7]at hi
   exact .inl ⟨rfl,hi.symm⟩
  ·rename_i gZ;exact .inr ⟨λe=>gZ e.symm,hi⟩
 have hold:bJ ρ ([]:List A)=2:=lv rfl
 refine⟨h.ext,h.iZ,h.kA,h.j7,h.gj,h.iO,λi jT t' hi jj=>?_,λi fh jB code' jw p1 t' hi=>?_,λi j p q hi aI he=>?_⟩
 ·rcases dN i _ hi with⟨rfl,dJ⟩|⟨cW,hi⟩
  ·cases dJ;cases jj
  ·exact h.fe i jT t' hi jj
 ·rcases dN i _ hi with⟨rfl,dJ⟩|⟨cW,hi⟩
  ·cases dJ
   intro _
   simp only[I.bg]
   exact⟨λh0=>by omega,λ_=>⟨b0.elim .inl λh=> .inr (.inr h),_,_,_,cv,⟨cL _,by rw[k6];intro _ h;simp at h,[],[],by simp[k6,b2],rfl⟩,λc9=>by omega⟩⟩
  ·exact h.rws i fh jB _ jw p1 t' hi
 ·rcases dN i _ hi with⟨rfl,dJ⟩|⟨cW,oi⟩
  ·rcases dN j _ aI with⟨rfl,vb⟩|⟨as2,aI⟩
   ·exact .inl rfl
   ·rcases h.inj i j _ q aQ aI he with h1|h1|h1|h1
    ·exact .inl h1
    ·simp only[hold]at h1;omega
    ·simp only[hold]at h1;omega
    ·exact .inr (.inr (.inr h1))
  ·rcases dN j _ aI with⟨Es,vb⟩|⟨as2,aI⟩
   ·subst Es
    rcases h.inj i j p _ oi aQ he with h1|h1|h1|h1
    ·exact .inl h1
    ·simp only[hold]at h1;omega
    ·exact .inr (.inr (.inl h1))
    ·simp only[hold]at h1;omega
   ·exact h.inj i j p q oi aI he
theorem aDQ {n:Nat} {ρ:Env} {m:Nat->Nat} {w:aE} {rd:Bool} {sh:List aL} {b:Nat} {bl q4:List aG} (h:abn rd sh b bl=some q4) (hm:Mem w0 ρ m bl w) (hb:cM n bl.length ρ bl):Mem w0 ρ m q4 w/\cM n q4.length ρ q4/\q4.length=bl.length/\b<bl.length:=by
 unfold abn at h
 split at h
 ·rename_i t aQ
  cases rd with
  |false=>cases h
  |true=>
   simp only[cond_true,a7]at h
   subst h
   refine⟨hm.zero aQ,hb.set (λa ha=>?_),j2 _ _ _,(List.getElem?_eq_some_iff.1 aQ).1⟩
   have ha:a= .rows sh (.const 0) (.const 0) (.const 0) 1:=by simpa using ha
   subst ha
   refine⟨⟨I.c5 _ _,I.c5 _ _,I.c5 _ _⟩,?_,?_⟩
   ·simp only[I.bg];exact⟨cL _,x2⟩
   ·simp only[I.bg];omega
 ·rename_i fh off code cap kind t aQ
  cases hc:(qS sh fh&&I.beq off (.const 0)&&I.beq cap (.const 0)&&dv 0 kind)with
  |false=>rw[hc]at h;cases h
  |true=>
   rw[hc]at h
   simp only[cond_true,a7]at h
   subst h
   exact⟨hm,hb,rfl,(List.getElem?_eq_some_iff.1 aQ).1⟩
 ·cases h
theorem abo {n:Nat} {ρ:Env} {m:Nat->Nat} {w:aE} {rd:Bool}:∀{ds:List cB} {vs:List V} {bl:List aG} {xs:List aP},Mem w0 ρ m bl w->cM n bl.length ρ bl->(∀v∈vs,V.ok n bl.length ρ v)->eJ ρ m vs xs->
 Mem w0 ρ m (l5 rd ds vs bl).2 w/\cM n (l5 rd ds vs bl).2.length ρ (l5 rd ds vs bl).2/\(l5 rd ds vs bl).2.length=bl.length/\(∀v∈(l5 rd ds vs bl).1,V.ok n bl.length ρ v)/\eJ ρ m (l5 rd ds vs bl).1 xs
 |[],vs,bl,xs,hm,hb,hv,hr=>⟨hm,hb,rfl,hv,hr⟩
 |d::r,[],bl,xs,hm,hb,hv,hr=>by
  cases d<;>exact⟨hm,hb,rfl,hv,hr⟩
 |d::r,v::s,bl,xs,hm,hb,hv,hr=>by
  match xs,hr with
  |x::xs,hr=>
  have fR:Mem w0 ρ m (l5 rd r s bl).2 w/\cM n (l5 rd r s bl).2.length ρ (l5 rd r s bl).2/\(l5 rd r s bl).2.length=bl.length/\(∀u∈(v::(l5 rd r s bl).1),V.ok n bl.length ρ u)/\eJ ρ m (v::(l5 rd r s bl).1) (x::xs):=by
   obtain⟨g1,g2,g3,g4,g5⟩:=abo (rd:=rd) (ds:=r) (vs:=s) hm hb (λu hu=>hv u (dU _ hu)) hr.2
   exact⟨g1,g2,g3,λu hu=>by
    rcases List.mem_cons.1 hu with rfl|hu
    ·exact hv u (by simp)
    ·exact g4 u hu,hr.1,g5⟩
  cases d with
  |d y=>exact fR
  |p4 sh e=>exact fR
  |rd sh=>
   unfold l5
   split
   ·rename_i b _
    split
    ·rename_i q4 hz
     obtain⟨bb,b0,cv,dK⟩:=aDQ hz hm hb
     obtain⟨g1,g2,g3,g4,g5⟩:=abo (rd:=rd) (ds:=r) (vs:=s) bb b0 (λu hu=>by rw[cv];exact hv u (dU _ hu)) hr.2
     refine⟨g1,g2,by rw[g3,cv],λu hu=>?_,?_,g5⟩
     ·rcases List.mem_cons.1 hu with rfl|hu
      ·refine⟨dK,⟨I.c5 _ _,I.c5 _ _,I.c5 _ _,I.c5 _ _⟩,?_⟩
       simp only[I.bg]
       exact⟨⟨by omega,by omega,by omega,by omega⟩,⟨by omega,by omega⟩,λh=>by omega,λ_=>by omega⟩
      ·rw[<-cv];exact g4 u hu
     ·have h0:x= .slice (some ⟨m b,0,none⟩) 0 0:=hr.1
      rw[h0]
      simp[amn,V.rel,W.den,A.den,I.bg]
    ·exact fR
   ·exact fR
theorem Mem.low {ρ:Env} {m:Nat->Nat} {bl:List aG} {w:aE} {b k:Nat} {sh:List aL} {off code cap:I} {t:bh×Bool} (h:Mem w0 ρ m bl w) (aQ:bl[b]?=some ([.rows sh off code cap (k+1)],t)):Mem w0 ρ m (dE bl b ([.rows sh off code cap 1],t)) w:=by
 have q8:b<bl.length:=(List.getElem?_eq_some_iff.1 aQ).1
 have dN:∀(i:Nat) (p:aG),(dE bl b ([.rows sh off code cap 1],t))[i]?=some p->(i=b/\p=([.rows sh off code cap 1],t))∨(i≠b/\bl[i]?=some p):=λi p hi=>by
  rw[kE,sI]at hi
  split at hi
  ·rename_i gZ
   subst gZ
   simp only[q8,if_true,a7]at hi
   exact .inl ⟨rfl,hi.symm⟩
  ·rename_i gZ;exact .inr ⟨λe=>gZ e.symm,hi⟩
 have ab:∀(i:Nat) (p:aG),(dE bl b ([.rows sh off code cap 1],t))[i]?=some p->∃dc,bl[i]?=some dc/\bJ ρ p.1<=bJ ρ dc.1/\(bJ ρ dc.1≠0->True):=λi p hi=>by
  rcases dN i p hi with⟨rfl,rfl⟩|⟨cW,hi⟩
  ·refine⟨_,aQ,?_,λ_=>trivial⟩
   simp only[bJ];split<;>omega
  ·exact⟨p,hi,bL _,λ_=>trivial⟩
 refine⟨h.ext,h.iZ,h.kA,h.j7,h.gj,h.iO,λi jT t' hi ax=>?_,λi fh jB code' jw p1 t' hi=>?_,λi j p q hi aI he=>?_⟩
 ·rcases dN i _ hi with⟨rfl,dJ⟩|⟨cW,hi⟩
  ·cases dJ;cases ax
  ·exact h.fe i jT t' hi ax
 ·rcases dN i _ hi with⟨rfl,dJ⟩|⟨cW,hi⟩
  ·cases dJ
   intro _
   obtain⟨g1,g2⟩:=h.rws i _ _ _ _ (k+1) _ aQ (by omega)
   refine⟨g1,λhc=>?_⟩
   obtain⟨g3,cells,km,fz,g4,g5,_⟩:=g2 hc
   exact⟨g3,cells,km,fz,g4,g5,λh2=>by omega⟩
  ·exact h.rws i fh jB _ jw p1 t' hi
 ·obtain⟨dc,h1,h2,_⟩:=ab i p hi
  obtain⟨eA,h3,h4,_⟩:=ab j q aI
  rcases h.inj i j dc eA h1 h3 he with h5|h5|h5|h5
  ·exact .inl h5
  ·exact .inr (.inl ⟨by omega,by omega⟩)
  ·exact .inr (.inr (.inl (by omega)))
  ·exact .inr (.inr (.inr (by omega)))
theorem VT {n nb:Nat} {ρ:Env} {m:Nat->Nat} {w:aE}:∀{bs:List Nat} {bl:List aG},Mem w0 ρ m bl w->cM n nb ρ bl->Mem w0 ρ m (Ck bs bl) w/\cM n nb ρ (Ck bs bl)/\(Ck bs bl).length=bl.length/\
 ∀(i:Nat) (p:aG),(Ck bs bl)[i]?=some p->∃dc,bl[i]?=some dc/\bJ ρ p.1<=bJ ρ dc.1/\(i∈bs->b7 dc.1=false->bJ ρ p.1<=1)
 |[],bl,h,hb=>⟨h,hb,rfl,λi p hi=>⟨p,hi,bL _,λh=>by simp at h⟩⟩
 |b::r,bl,h,hb=>by
  unfold Ck
  split
  ·rename_i sh off code cap k t aQ
   have q8:b<bl.length:=(List.getElem?_eq_some_iff.1 aQ).1
   have mj:cM n nb ρ (dE bl b ([.rows sh off code cap 1],t)):=λp hp a ha=>by
    rw[kE]at hp
    rcases MJ hp with hp|hp
    ·exact hb p hp a ha
    ·subst hp
     simp at ha;subst ha
     have h0:A.ok n nb ρ (.rows sh off code cap (k+1)):=hb _ (eD aQ) _ (by simp)
     exact h0
   obtain⟨g1,g2,g3,g4⟩:=VT (bs:=r) (h.low aQ) mj
   refine⟨g1,g2,by rw[g3,j2],λi p hp=>?_⟩
   obtain⟨dc,h1,h2,h3⟩:=g4 i p hp
   by_cases jV:i=b
   ·subst jV
    rw[kE,List.getElem?_set_self q8]at h1
    cases h1
    refine⟨_,aQ,lg h2 (by simp only[bJ];split<;>omega),λ_ _=>lg h2 (by simp only[bJ];split<;>omega)⟩
   ·rw[kE,List.getElem?_set_ne (λe=>jV e.symm)]at h1
    exact⟨dc,h1,h2,λhi ax=>h3 (by simpa [jV]using hi) ax⟩
  ·rename_i kz
   obtain⟨g1,g2,g3,g4⟩:=VT (bs:=r) h hb
   refine⟨g1,g2,g3,λi p hp=>?_⟩
   obtain⟨dc,h1,h2,h3⟩:=g4 i p hp
   refine⟨dc,h1,h2,λhi ax=>?_⟩
   rcases List.mem_cons.1 hi with rfl|hi
   ·obtain⟨C,t⟩:=dc
    obtain⟨sh,off,code,cap,k,rfl⟩:=QL ax
    cases k with
    |zero=>
     have:bJ ρ [A.rows sh off code cap 0]=0:=by simp[bJ]
     simp only[this]at h2;omega
    |succ k=>exact absurd h1 (kz _ _ _ _ _ _)
   ·exact h3 hi ax
theorem ajY {n nb:Nat} {ρ:Env} {m:Nat->Nat} {us:List W} {vals:List aP} (h:∀u∈us,W.ok n nb ρ u) (hm:us.map (W.den ρ m)=vals):(C3 us).ok n nb ρ/\(C3 us).rel ρ m (uq vals):=by
 subst hm
 unfold C3 uq
 split
 ·exact⟨h _ (by simp),rfl⟩
 ·rename_i cW
  refine⟨h,?_⟩
  split
  ·rename_i x hx
   match us,cW,hx with
   |[u],cW,_=>exact absurd rfl (cW u)
  ·rfl
theorem ajc:∀{vs:List V},yT vs=true->vs.flatMap vH=[]
 |[],_=>rfl
 |v::r,h=>by
  unfold yT at h
  split at h
  ·rename_i heq;cases heq
  ·cases h
  ·rename_i cW heq
   cases heq
   rw[sL,ajc h,fY]
   unfold vH
   split
   ·exact(cW _ _ _ _ rfl).elim
   ·rfl
theorem ajd:∀{vs:List V} {b:Nat},yT vs=true->b∈vs.flatMap n7->∃bq o ro len cap,V.w (.one (.sl b bq o ro len cap))∈vs
 |[],b,_,h=>by simp at h
 |v::r,b,h,hb=>by
  simp only[sL,wi]at hb
  rcases hb with hb|hb
  ·unfold n7 at hb
   split at hb
   ·simp at hb;subst hb;exact⟨_,_,_,_,_,Sx ..⟩
   ·simp[yT]at h
   ·simp at hb
  ·have a8:yT r=true:=by
    unfold yT at h
    split at h
    ·rename_i heq;cases heq
    ·cases h
    ·rename_i heq;cases heq;exact h
   obtain⟨bq,o,ro,len,cap,h1⟩:=ajd a8 hb
   exact⟨bq,o,ro,len,cap,dU _ h1⟩
theorem e4.acm {c:e4} {spec:List Int->List Int->Prop} {f:dn} {adm:Array aP} (gK:∀zs rs,spec zs rs->S c.id zs rs) (n:Nat) (vs:List V) (bl:List aG) (k:RK) (G:ev) (ρ:Env) (m:Nat->Nat) (w:aE) (xs:List aP) (R':Ending->aE->Prop)
 (hc:∀zs,ag (dx c.args) zs->HJ c.pre zs->kK (rI w0 ρ m bl (vs.flatMap n7) (vs.flatMap vH)) (λ_=>False) w c.args zs xs->
   lG P f adm w λe w'=>w.Extends w'/\∃rs us,ag (dx c.res) rs/\spec zs rs/\kK (λg=>rI w0 ρ m bl (vs.flatMap n7) (vs.flatMap vH) g∨w.heap.size<=g) (λg=>w.heap.size<=g) w' c.res rs us/\e= .returned (uq us))
 (hb:cM n bl.length ρ bl) (hw:Mem w0 ρ m bl w) (hv:∀v∈vs,V.ok n bl.length ρ v) (hr:eJ ρ m vs xs) (ae:(c.I5 n vs bl k).holds S L G ρ) (ab:Dn S L w0 k n bl.length ρ m G R'):
 lG P f adm w R':=by
 unfold e4.I5 at ae
 obtain⟨aJ,aT,ls,gi,eK,⟨g1,g2,g3⟩,ae⟩:=OG (S:=S) (L:=L) hb hw hv hr G _ ae
 cases aj:(qu c.res&&(!(c.res.any cB.o4)||yT vs))with
 |false=>rw[aj]at ae;exact ae.elim
 |true=>
  rw[aj]at ae
  simp only[cond_true]at ae
  obtain⟨o2,ae⟩:=preM_holds ae
  simp only[T.holds]at ae
  simp only[bo,Bm,fF]at aj
  refine(hc _ g2 o2 (g3 _ λ_ h=>h)).mono ?_
  rintro e w' ⟨he,rs,us,r1,r2,gn,rfl⟩
  have ae:=lL ae r1 (gK _ _ r2)
  have nF:=hb.ext eK gi (bL bl.length)
  have atZ:=(hw.grow he).p6 hb eK
  have dz:agree aT aJ (bI aJ aT rs):=agree.bI rs aT aJ
  have og:=nF.ext dz (IT aT (dx c.res).length) (bL bl.length)
  have Xp:=atZ.p6 nF dz
  have aM:je (bI aJ aT rs) aT rs:=je.bI aJ aT rs
  have Pj:rs.length=(dx c.res).length:=er r1
  have Eh:=eK.trans dz gi
  have Wg:en n bl.length ρ m (aT+(dx c.res).length) bl.length (bI aJ aT rs) m:=⟨by omega,Eh,bL _,λ_ _=>rfl⟩
  have im:∀(i:Nat) (p:aG),bl[i]?=some p->bJ (bI aJ aT rs) p.1=bJ ρ p.1:=λi p hi=>vm (hb p (eD hi)) Eh
  have WB:∀(i:Nat) (p:aG),bl[i]?=some p->w.heap.size<=m i->bJ ρ p.1=0:=λi p hi oh=>by
   by_cases h0:bJ ρ p.1=0
   ·exact h0
   ·have:=hw.lt hi h0;omega
  have fin:∀bj:List aG,cM (aT+(dx c.res).length) bj.length (bI aJ aT rs) bj->Mem w0 (bI aJ aT rs) m bj w'->bj.length=bl.length->
   (∀(i:Nat) (p:aG),bj[i]?=some p->(rI w0 ρ m bl (vs.flatMap n7) (vs.flatMap vH) (m i)∨w.heap.size<=m i)->(c.res.any cB.o4)=true->bJ (bI aJ aT rs) p.1<=1)->
   (∀(i:Nat) (p:aG),bj[i]?=some p->w.heap.size<=m i->bJ (bI aJ aT rs) p.1=0)->
   (wy c.res aT (aT+(dx c.res).length) [] bj λeF us pQ=>k eF (C3 us) pQ).holds S L G (bI aJ aT rs)->R' (.returned (uq us)) w':=λbj mj vi hlen eR ar6 ae=>by
   have hF:∀g,(rI w0 ρ m bl (vs.flatMap n7) (vs.flatMap vH) g∨w.heap.size<=g)->w0.ex g∨w0.ro g∨w0.r.heap.size<=g:=λg hg=>by
    rcases hg with hg|hg
    ·exact hg.2
    ·exact .inr (.inr (lg hw.gj hg))
   have cF:∀g,w.heap.size<=g->w0.b.heap.size<=g/\w0.r.heap.size<=g:=λg hg=>⟨lg hw.ext.size hg,lg hw.gj hg⟩
   have h1:(c.res.all λb=> !b.o4)=true∨∀(i:Nat) (p:aG),bj[i]?=some p->(rI w0 ρ m bl (vs.flatMap n7) (vs.flatMap vH) (m i)∨w.heap.size<=m i)->bJ (bI aJ aT rs) p.1<=1:=by
    cases wY:c.res.any cB.o4 with
    |true=>exact .inr λi p hi hf=>eR i p hi hf wY
    |false=>
     left
     rw[IM]
     intro b hb
     cases hL:b.o4 with
     |false=>rfl
     |true=>rw[List.any_eq_true.2 ⟨b,hb,hL⟩]at wY;cases wY
   obtain⟨n',aa,m',ng,pQ,cm,cl,c3,e0,fb,gm⟩:=DA (S:=S) (L:=L) hF cF (l:=c.res) (us:=[]) (vals:=us) aj.1 mj vi aM r1 (bL _) gn h1 (.inr ar6) (λu hu=>by simp at hu) ae
   have m2:=ajY (m:=m') fb (by simpa using e0)
   exact ab n' (C3 ng) pQ G aa m' w' (uq us) (Wg.trans (hlen▸cm)) (eM.refl _ _) m2.1 m2.2 cl c3 gm
  cases wY:c.res.any cB.o4 with
  |false=>
   rw[wY]at ae
   exact fin bl og Xp rfl (λ_ _ _ _ h=>by rw[wY]at h;cases h) (λi p hi oh=>by rw[im i p hi];exact WB i p hi oh) ae
  |true=>
   rw[wY]at ae aj
   obtain⟨f1,f2,f3,f4⟩:=VT (bs:=vs.flatMap n7) Xp og
   have vd:yT vs=true:=by
    rcases aj.2 with h|h
    ·cases h
    ·exact h
   refine fin _ (by rw[f3];exact f2) f1 f3 (λi p hi hf _=>?_) (λi p hi oh=>?_) ae
   ·obtain⟨dc,h1,h2,h3⟩:=f4 i p hi
    rw[im i dc h1]at h2
    rcases hf with⟨⟨b,agy,ar7,q,wX,tq,atn⟩,_⟩|oh
    ·obtain⟨bq,o,ro,len,cap,kQ⟩:=ajd vd agy
     rcases hw.inj i b dc q h1 wX (by rw[ar7])with h5|h5|h5|h5
     ·subst h5
      rw[h1]at wX;cases wX
      cases ax:b7 dc.1 with
      |false=>exact h3 agy ax
      |true=>
       have:=atn ax
       rw[ajc vd]at this
       simp at this
     ·omega
     ·omega
     ·exact absurd h5 tq
    ·have:=WB i dc h1 oh;omega
   ·obtain⟨dc,h1,h2,_⟩:=f4 i p hi
    rw[im i dc h1]at h2
    have:=WB i dc h1 oh;omega
theorem e4.amD {c:e4} {spec:List Int->List Int->Prop} (hc:c.bY P w0.b spec) (gK:∀zs rs,spec zs rs->S c.id zs rs) (n:Nat) (vs:List V) (bl:List aG) (k:RK) (G:ev) (ρ:Env) (m:Nat->Nat) (w:aE) (xs:List aP) (R':Ending->aE->Prop)
 (hb:cM n bl.length ρ bl) (hw:Mem w0 ρ m bl w) (hv:∀v∈vs,V.ok n bl.length ρ v) (hr:eJ ρ m vs xs) (ae:(c.I5 n vs bl k).holds S L G ρ) (ab:Dn S L w0 k n bl.length ρ m G R'):
 (callFunc c.f xs.toArray).run P w= .ok (.enter c.f xs.toArray) w/\lG P c.f xs.toArray w R':=by
 exact⟨hc.1 _ _,e4.acm gK n vs bl k G ρ m w xs R' (λzs h1 h2 h3=>hc.2 _ w xs zs hw.ext h1 h2 h3) hb hw hv hr ae ab⟩
theorem e4.I7 {c:e4} {spec:List Int->List Int->Prop} (hc:c.bY P w0.b spec) (gK:∀zs rs,spec zs rs->S c.id zs rs) (n:Nat) (vs:List V) (bl:List aG) (k:RK) (G:ev) (ρ:Env) (m:Nat->Nat) (w:aE) (xs:List aP) (R':Ending->aE->Prop)
 (hb:cM n bl.length ρ bl) (hw:Mem w0 ρ m bl w) (hv:∀v∈vs,V.ok n bl.length ρ v) (hr:eJ ρ m vs xs) (ae:(c.E n vs bl k).holds S L G ρ) (ab:Dn S L w0 k n bl.length ρ m G R'):
 (callFunc c.f xs.toArray).run P w= .ok (.enter c.f xs.toArray) w/\lG P c.f xs.toArray w R':=by
 obtain⟨g1,g2,g3,g4,g5⟩:=abo (rd:=c.res.any cB.o4) (ds:=c.args) hw hb hv hr
 exact c.amD hc gK n _ _ k G ρ m w xs R' g2 g1 (λv hv=>by rw[g3];exact g4 v hv) g5 ae (by rw[g3];exact ab)
end
end Go.b6
namespace Go.b6
open M
def O.bD (n:Nat):O->Prop
 |l x=>x.bD n
 |b x=>x.bD n
theorem O.bX {n:Nat} {ρ aa:Env} (ha:agree n ρ aa):∀{o:O},o.bD n->o.den aa=o.den ρ
 | .l x,h=>I.bX ha h
 | .b x,h=>by simp only[O.den];rw[bw.bX ha h]
theorem ajv {k:du} {n nb:Nat} {ρ:Env}:∀{l:List A} {os:List O},kk k l=some os->(∀a∈l,A.ok n nb ρ a)->∀o∈os,O.bD n o
 |[],os,h,_=>by simp[kk]at h;subst h;intro x hx;simp at hx
 | .int bA x::s,os,h,bV=>by
  simp only[kk]at h
  cases hc:decide (k=bA)with
  |false=>simp[hc]at h
  |true=>
   cases hr:kk k s with
   |none=>simp[hc,hr]at h
   |some r'=>
    simp only[hc,hr,cond_true,a7]at h
    subst h
    intro y hy
    rcases List.mem_cons.1 hy with hy|hy
    ·rw[hy]
     have h0:A.ok n nb ρ (.int bA x):=bV _ (Sx ..)
     have h0:x.ok n ρ:=h0
     exact h0.1
    ·exact ajv hr (λa ha=>bV a (dU _ ha)) y hy
 | .bool _::_,_,h,_=>by simp[kk]at h
 | .ptr .. ::_,_,h,_=>by simp[kk]at h
 | .oD .. ::_,_,h,_=>by simp[kk]at h
 | .gptr .. ::_,_,h,_=>by simp[kk]at h
 | .slc .. ::_,_,h,_=>by simp[kk]at h
 | .con _::_,_,h,_=>by simp[kk]at h
 | .str _::_,_,h,_=>by simp[kk]at h
 | .rows .. ::_,_,h,_=>by simp[kk]at h
 | .sl .. ::_,_,h,_=>by simp[kk]at h
 | .ep .. ::_,_,h,_=>by simp[kk]at h
theorem aL.axz {c:aL} {a:A} {o:O} {n nb:Nat} {ρ:Env} (h:c.out a=some o) (ha:a.ok n nb ρ):o.bD n:=by
 unfold aL.out at h
 split at h
 ·rename_i k _ _ bA x
  cases ab:decide (k=bA)with
  |false=>simp[ab]at h
  |true=>
   simp only[ab,cond_true,a7]at h
   subst h
   have ha:x.ok n ρ:=ha
   exact ha.1
 ·simp only[a7]at h;subst h
  exact ha.1
 ·simp only[a7]at h;subst h
  exact ha
 ·cases h
theorem ajy {n nb:Nat} {ρ:Env}:∀{d:List aL} {l:List A} {os:List O},sg d l=some os->(∀a∈l,A.ok n nb ρ a)->∀o∈os,O.bD n o
 |[],[],os,h,_=>by simp[sg]at h;subst h;intro x hx;simp at hx
 |c::d,a::s,os,h,bV=>by
  simp only[sg]at h
  cases h1:c.out a with
  |none=>simp[h1]at h
  |some o=>
   cases h2:sg d s with
   |none=>simp[h1,h2]at h
   |some ajt=>
    simp only[h1,h2,a7]at h
    subst h
    intro y hy
    rcases List.mem_cons.1 hy with hy|hy
    ·rw[hy];exact aL.axz h1 (bV a (Sx ..))
    ·exact ajy h2 (λb hb=>bV b (dU _ hb)) y hy
 |[],_::_,_,h,_=>by simp[sg]at h
 |_::_,[],_,h,_=>by simp[sg]at h
theorem axy {d:D} {u:W} {os:List O} {n nb:Nat} {ρ:Env} (h:AP d u=some os) (hu:u.ok n nb ρ):∀o∈os,O.bD n o:=by
 unfold AP at h
 split at h
 ·rename_i k _ _ bA x
  cases ab:decide (k=bA)with
  |false=>simp[ab]at h
  |true=>
   simp only[ab,cond_true,a7]at h
   subst h
   have hu:x.ok n ρ:=hu
   intro o ax;simp at ax;subst ax;exact hu.1
 ·simp only[a7]at h;subst h
  intro o ax;simp at ax;subst ax;exact hu
 ·rename_i k n' _ _ l
  cases ab:aK l.length n' with
  |false=>simp[ab]at h
  |true=>
   simp only[ab,cond_true]at h
   exact ajv h hu
 ·simp only[a7]at h;subst h
  intro o ax;simp at ax;subst ax;exact hu.1
 ·exact ajy h hu
 ·cases h
noncomputable def H4 (bl:List aG):cB->W->M (List O)
 | .d x,u=>match AP x u with|some os=>pure os|none=>fail
 | .rd sh,u=>bind (Q1 sh bl (.w u)) λl=>pure [.l l]
 | .p4 sh e,u=>bind (Zf sh e bl (.w u)) λl=>pure [.l l]
noncomputable def Q4 (bl:List aG):List cB->List W->M (List O)
 |[],[]=>pure []
 |b::r,u::s=>bind (H4 bl b u) λa=>bind (Q4 bl r s) λc=>pure (a++c)
 |_,_=>fail
noncomputable def LW (bl:List aG) (ds:List cB) (v:V):M (List O):=
 match v with
 | .w u=>match ds with|[d]=>H4 bl d u|_=>fail
 | .h9 l=>match ds with|[_]=>fail|_=>Q4 bl ds l
 |_=>fail
def O.toW:O->W
 |l x=> .one (.int .u8 ⟨x,0,0⟩)
 |b x=> .one (.bool x)
def W.toO:W->O
 | .one (.int _ x)=> .l x.l
 | .one (.bool e)=> .b e
 |_=> .l (.const 0)
theorem O.toW_toO (o:O):o.toW.toO=o:=by cases o<;>rfl
def CM (os:List O):V:= .h9 (os.map O.toW)
def wm (K:List Int->Prop) (v:V) (ρ:Env):Prop:=
 match v with
 | .h9 l=>K (l.map λu=>u.toO.den ρ)
 |_=>False
theorem TV {K:List Int->Prop} {os:List O} {ρ:Env}:wm K (CM os) ρ=K (os.map (O.den ρ)):=by
 unfold wm CM
 simp only[nk]
 congr 1
 exact jQ λo _=>by simp[Mv,O.toW_toO]
section
variable {S:Nat->List Int->List Int->Prop} {L:V->Env->Prop} {w0:dX} {P:bQ} {w:aE}
theorem Dq.mono {N Ja:Nat->Prop} {sh:List aL} {e:bh} {rows:List (List Int)} {v:aP} (h:Dq N w sh e rows v) (cF:∀g,N g->Ja g):Dq Ja w sh e rows v:=by
 rcases h with h|⟨g,cap,cells,h1,h2,h3,h4⟩
 ·exact .inl h
 ·exact .inr ⟨g,cap,cells,h1,h2,cF g h3,h4⟩
def Tt (w0:dX) (g:Nat):Prop:=w0.ex g∨w0.ro g∨w0.r.heap.size<=g
theorem ajW {d:cB} {u:W} {n:Nat} {ρ:Env} {m:Nat->Nat} {bl:List aG} (hex:∀g,¬w0.ex g) (hb:cM n bl.length ρ bl) (hw:Mem w0 ρ m bl w) (hu:u.ok n bl.length ρ):
 az S L (H4 bl d u) n ρ λaa n' os=>(∀o∈os,O.bD n' o)/\os.length=d.num/\(d.EK=false->ag d.bds (os.map (O.den aa)))/\∀zs,d.at (Tt w0) (λg=>w0.r.heap.size<=g) w (os.map (O.den aa)++zs) (u.den ρ m):=by
 cases d with
 |d x=>
  unfold H4
  cases ax:AP x u with
  |none=>simp only[ax];exact az.fail
  |some os=>
   simp only[ax]
   have:=Ze (ρ:=ρ) (m:=m) ax
   exact az.pure ⟨axy ax hu,this.1,λh=>(by simp[cB.EK]at h),λzs=>(this.2 zs).symm⟩
 |rd sh=>
  unfold H4
  refine(ajO (v:= .w u) hb hw hu rfl).bind λaJ aT l hn ha ⟨g1,g2,g3⟩=>az.pure ⟨λo ax=>by simp at ax;subst ax;exact g1,rfl,λ_=>⟨g2.1,g2.2,trivial⟩,λzs=>?_⟩
  exact g3.mono λg hg=>hg.2
 |p4 sh e=>
  unfold H4
  refine(axB (v:= .w u) hex hb hw hu rfl).bind λaJ aT l hn ha ⟨g1,g2,g3⟩=>az.pure ⟨λo ax=>by simp at ax;subst ax;exact g1,rfl,λ_=>⟨g2.1,g2.2,trivial⟩,λzs=>g3⟩
theorem avT {n:Nat} {ρ aa:Env} {os:List O} (h:∀x∈os,O.bD n x) (ha:agree n ρ aa):os.map (O.den aa)=os.map (O.den ρ):=jQ λx hx=>O.bX ha (h x hx)
theorem ajX {m:Nat->Nat} {bl:List aG} (hex:∀g,¬w0.ex g):∀{ds:List cB} {us:List W} {n:Nat} {ρ:Env},cM n bl.length ρ bl->Mem w0 ρ m bl w->(∀u∈us,W.ok n bl.length ρ u)->
 az S L (Q4 bl ds us) n ρ λaa n' os=>(∀o∈os,O.bD n' o)/\kK (Tt w0) (λg=>w0.r.heap.size<=g) w ds (os.map (O.den aa)) (us.map (W.den ρ m))
 |[],[],n,ρ,_,_,_=>az.pure ⟨λ_ h=>by simp at h,trivial⟩
 |b::r,u::s,n,ρ,hb,hw,hu=>by
  unfold Q4
  refine(ajW hex hb hw (hu u (by simp))).bind λaJ aT a hn ha ⟨g1,g2,_,g3⟩=>?_
  refine(ajX (ds:=r) (us:=s) hex (hb.ext ha hn (bL _)) (hw.p6 hb ha) (λx hx=>(hu x (dU _ hx)).ext ha hn (bL _))).bind λbR eF c eL dz ⟨k1,k2⟩=>az.pure ⟨λo ax=>?_,?_⟩
  ·rcases List.mem_append.1 ax with ax|ax
   ·have:=g1 o ax
    cases o with
    |l x=>exact I.bD.mono this eL
    |b x=>exact bw.bD.mono eL this
   ·exact k1 o ax
  ·rw[iy,avT g1 dz]
   refine⟨g3 _,?_⟩
   rw[<-g2,<-l6 (f:=O.den aJ) (as:=a),Dd]
   have e:s.map (W.den ρ m)=s.map (W.den aJ m):=jQ λx hx=>(W.lR (hu x (dU _ hx)) ha (λ_ _=>rfl)).symm
   rw[e];exact k2
 |[],_::_,_,_,_,_,_=>az.fail
 |_::_,[],_,_,_,_,_=>az.fail
theorem ZM {ds:List cB} {v:V} {val:aP} {n:Nat} {ρ:Env} {m:Nat->Nat} {bl:List aG} (hex:∀g,¬w0.ex g) (hb:cM n bl.length ρ bl) (hw:Mem w0 ρ m bl w) (hv:v.ok n bl.length ρ) (hr:v.rel ρ m val):
 az S L (LW bl ds v) n ρ λaa n' os=>∃us,val=uq us/\kK (Tt w0) (λg=>w0.r.heap.size<=g) w ds (os.map (O.den aa)) us:=by
 unfold LW
 split
 ·rename_i u
  split
  ·rename_i d
   refine(ajW hex hb hw hv).mono λaJ aT os hn ha ⟨g1,g2,_,g3⟩=>⟨[u.den ρ m],hr,?_,trivial⟩
   have:=g3 []
   rwa [fY]at this
  ·exact az.fail
 ·rename_i l
  split
  ·exact az.fail
  ·rename_i cW
   refine(ajX (ds:=ds) hex hb hw hv).mono λaJ aT os hn ha ⟨g1,g2⟩=>⟨l.map (W.den ρ m),?_,g2⟩
   have hr:val= .tuple (l.map (W.den ρ m)).toArray:=hr
   rw[hr]
   unfold uq
   split
   ·rename_i x hx
    exfalso
    have hl:l.length=1:=by have:=congrArg np hx;simpa using this
    match ds,l,hl,g2,cW with
    |[d],[u],_,_,cW=>exact cW d rfl
    |[],[u],_,g2,_=>simp[kK]at g2
    |_::_::_,[u],_,g2,_=>simp[kK]at g2
   ·rfl
 ·exact az.fail
def Lb (i:Nat):I:=⟨0,[(1,i)]⟩
theorem YI (ρ:Env) (zs:List Int):((fk zs.length).map Lb).map (·.den (bI ρ 0 zs))=zs:=by
 refine aio (by simp) λj aI=>?_
 have aI:j<zs.length:=by simpa using aI
 have:=je.bI ρ 0 zs j aI
 rw[uC]at this
 simp[Lb,I.den,ji,U,aI]at this⊢
 exact this
noncomputable def e4.tree (bc:n1) (P:bQ) (gl:eI) (cal:eW) (li:dn->Nat->Option fH) (rounds d:Nat) (c:e4):T:=
 cond (qu c.args&& !(c.args.any cB.qJ)) (QS c.pre ((fk (dx c.args).length).map Lb) (wy c.args 0 (dx c.args).length [] [] λn us bl=>Gd bc P gl cal li rounds d c.f n (us.map V.w) bl λn' v bj=>LW bj c.res v n' λos _=> .leaf (CM os))) .stuck
theorem TO {ρ:Env} {m:Nat->Nat}:∀{us:List W} {xs:List aP},us.map (W.den ρ m)=xs->eJ ρ m (us.map V.w) xs
 |[],[],_=>trivial
 |u::us,x::xs,h=>by
  simp only[cQ,nZ]at h
  exact⟨h.1.symm,TO h.2⟩
 |[],_::_,h=>by simp at h
 |_::_,[],h=>by simp at h
noncomputable def kx:List e4->n1
 |[],_=>none
 |c::r,f=>cond (aK c.f f) (some c.E) (kx r f)
theorem qt {wb:aE} {r:aE} {ex ro:Nat->Prop}:∀{l:List e4},(∀c∈l,c.bY P wb (S c.id))->uE S L ⟨wb,r,ex,ro,[]⟩ P (kx l)
 |[],_=>λf g h=>by cases h
 |c::l,h=>λf g hf=>by
  unfold kx at hf
  cases hb:aK c.f f with
  |true=>
   rw[hb]at hf
   simp only[cond_true,a7]at hf
   have:=bO hb
   subst this;subst hf
   intro n vs bl k G ρ m w xs R' h1 h2 h3 h4 h5 h6
   exact e4.I7 (w0:=⟨wb,r,ex,ro,[]⟩) (h c (by simp)) (λ_ _ h=>h) n vs bl k G ρ m w xs R' h1 h2 h3 h4 h5 h6
  |false=>
   rw[hb]at hf
   exact qt (λc hc=>h c (dU _ hc)) f g hf
theorem e4.Lj {wb:aE} {gl:eI} {c:e4} {bc:n1} {cal:eW} {li:dn->Nat->Option fH} {rounds d:Nat} {spec:List Int->List Int->Prop} (hm:P.follows .mixedOrders=true) (cU:∀r ex ro,hk S P gl ⟨wb,r,ex,ro,[]⟩ cal) (hg:eX gl ⟨wb,wb,λ_=>False,λ_=>False,[]⟩)
 (lT:∀(L:V->Env->Prop) (r:aE) (ro:Nat->Prop),uE S L ⟨wb,r,λ_=>False,ro,[]⟩ P bc) (hf:∀args w,(callFunc c.f args).run P w= .ok (.enter c.f args) w)
 (aA:ju (dx c.args) λzs=>(c.tree bc P gl cal li rounds d).holds S (wm λrs=>ag (dx c.res) rs/\spec zs rs) (λ_ _=>False) (bI (λ_=>0) 0 zs)):c.bY P wb spec:=by
 refine⟨hf,λF w vs zs hw hz KJ hat=>?_⟩
 have ae:=lL aA hz
 have ou:=er hz
 unfold e4.tree at ae
 cases aj:(qu c.args&& !(c.args.any cB.qJ))with
 |false=>rw[aj]at ae;exact ae.elim
 |true=>
  rw[aj]at ae
  simp only[cond_true]at ae
  have ae:=preA_holds ae (by rw[<-ou,YI];exact KJ)
  simp only[bo,fF]at aj
  have kQ:Mem ⟨wb,w,λ_=>False,F,[]⟩ (bI (λ_=>0) 0 zs) (λ_=>0) [] w:=⟨hw,rfl,rfl,rfl,bL _,λ_ _ _=>rfl,λi cs t h=>by simp at h,λi sh off code cap kind t h=>by simp at h,λi j p q h=>by simp at h⟩
  have iE:(c.args.all λb=> !b.qJ)=true:=by
   rw[IM]
   intro b hb
   cases hL:b.qJ with
   |false=>rfl
   |true=>rw[List.any_eq_true.2 ⟨b,hb,hL⟩]at aj;cases aj.2
  obtain⟨n',aa,m',us,bl,cm,cl,c3,e0,fb,gm⟩:=DA (S:=S) (L:=_) (w0:=⟨wb,w,λ_=>False,F,[]⟩) (F:=F) (N:=λ_=>False) (λg hg=> .inr (.inl hg)) (λg hg=>hg.elim) (l:=c.args) (s:=0) (us:=[]) (bl:=[]) (m:=λ_=>0) aj.1 (λp hp=>by simp at hp) kQ (je.bI _ 0 zs) hz (by omega) hat (.inr λi p h=>by simp at h) (.inl iE) (λu hu=>by simp at hu) ae
  have WL:eX gl ⟨wb,w,λ_=>False,F,[]⟩:=hg
  refine(N7 (S:=S) (w0:=⟨wb,w,λ_=>False,F,[]⟩) rfl hm (cU w (λ_=>False) F) WL (lT _ _ _) d c.f n' (us.map V.w) bl _ _ aa m' w vs _ cl c3 (λv hv=>by
   obtain⟨u,hu,rfl⟩:=List.mem_map.1 hv
   exact fb u hu) (TO (by simpa using e0)) gm ?_).2
  intro eF v bj ee bR eQ w' val h1 h2 h3 h4 h5 h6 h7
  obtain⟨hj,ru,os,Ag,tl,⟨xs,qH,yF⟩,hl⟩:=ZM (S:=S) (w0:=⟨wb,w,λ_=>False,F,[]⟩) (λg hg=>hg) h5 h6 h3 h4 ee _ h7
  have hl:wm _ (CM os) hj:=hl
  rw[TV]at hl
  refine⟨?_,os.map (O.den hj),xs,hl.1,hl.2,?_,by rw[qH]⟩
  ·have q9:∀i:Nat,i<w.heap.size->w'.heap[i]?=w.heap[i]?:=λi hi=>h6.iO i hi λh=>h
   exact⟨h6.iZ,h6.kA,h6.j7,h6.gj,λa ha=>by simp only[lH,q9 a.block ha],λa ha=>by simp only[Bn,q9 a.block ha],q9⟩
  ·exact FX (λg hg=>by
    rcases hg with hg|hg|hg
    ·exact hg.elim
    ·exact .inl hg
    ·exact .inr hg) (λg hg=>hg) yF
where
 FX {F Bv N Ja:Nat->Prop} {w:aE} (hF:∀g,F g->Bv g) (cF:∀g,N g->Ja g):∀{ds:List cB} {zs:List Int} {vs:List aP},kK F N w ds zs vs->kK Bv Ja w ds zs vs
 |[],_,[],_=>trivial
 | .d x::r,zs,v::vs,h=>⟨h.1,FX hF cF h.2⟩
 | .rd sh::r,zs,v::vs,h=>⟨zG.mono h.1 hF,FX hF cF h.2⟩
 | .p4 sh e::r,zs,v::vs,h=>⟨Dq.mono h.1 cF,FX hF cF h.2⟩
 |[],_,_::_,h=>h.elim
 |_::_,_,[],h=>by simp[kK]at h
end
def cB.nums:cB->List Nat
 | .d x=>x.nums
 |_=>[1]
def AM (ds:List cB):List Nat:=ds.flatMap cB.nums
def TU (ds:List cB) (K:List (List Int)->Prop) (v:V) (st:jg) (aX:jf):Prop:=
 match v with
 | .h9 l=>K ((dd (AM ds) (l.map W.toO)).map (Ic st aX))
 |_=>False
theorem am9 {ds:List cB} {K:List (List Int)->Prop} (v:V) (ρ:Env) (st:jg) (aX:jf) (aA:pC ρ st aX) (h:TU ds K v st aX):wm (λrs=>K (dd (AM ds) rs)) v ρ:=by
 unfold TU at h
 unfold wm
 split at h
 ·rename_i l
  have e:l.map (λu=>u.toO.den ρ)=(l.map W.toO).map (O.den ρ):=by simp
  simp only[e]
  rw[Rl]
  rwa [show(dd (AM ds) (l.map W.toO)).map (Ic st aX)=(dd (AM ds) (l.map W.toO)).map (List.map (O.den ρ)) from jQ λo _=>akx aA o]at h
 ·exact h.elim
def nv (sh:Nat->List Nat×List Nat) (lsh:Nat->List Nat) (S:Nat->List (List Int)->List (List Int)->Prop) (K:List (List Int)->List (List Int)->Prop) (lens:List Nat) (bds:List (Int×Int)) (ds:List cB) (t:T):Prop:=
 BD lens 0 bds (λst aX zs=>t.nJ sh lsh S (TU ds (K zs)) (λ_ _=>False) st aX) [] []
theorem Uc {sh:Nat->List Nat×List Nat} {lsh:Nat->List Nat} {S:Nat->List (List Int)->List (List Int)->Prop} {K:List (List Int)->List (List Int)->Prop} {lens:List Nat} {bds:List (Int×Int)} {ds:List cB} {t:T}
 (h:nv sh lsh S K lens bds ds t):ju bds λzs=>t.holds (iD sh S) (wm λrs=>K (dd lens zs) (dd (AM ds) rs)) (λ_ _=>False) (bI (λ_=>0) 0 zs):=by
 refine sV λzs hi=>?_
 obtain⟨st,aX,h1,h2⟩:=FV h (show pC (λ_=>0) [] [] from⟨trivial,λ_=>rfl⟩) hi
 exact oo (λv ρ st aX aA hl=>am9 v ρ st aX aA hl) t _ _ _ st aX (λ_ _ hf=>hf.elim) h1 h2
end Go.b6
namespace Go.b6
open M
structure x1 where
 c:bU
 pre:Nat
def x1.bY (P:bQ) (wb:aE) (q:x1) (spec:List Int->List Int->Prop):Prop:=
 ∀zs,ag (bf q.c.args) zs->au q.pre zs->∃rs,ag (bf q.c.res) rs/\spec zs rs/\∀w,wb.Extends w->uG P q.c.f (nh q.c.args zs).toArray w (mE q.c.res rs)
noncomputable def x1.M (q:x1):List aG->List V->M V:=λ_ vs n k=>
 match q6 q.c.args vs with
 |some l=> .qy q.pre l (.call q.c.id l n (bf q.c.res) (k (Fj q.c.res n) (n+(bf q.c.res).length)))
 |none=> .stuck
noncomputable def iX (HM:List x1) (cons:List bU):eW:=λf=>
 match HM.filter (λq=>aK f q.c.f)with
 |[]=>N6 cons f
 |l=>some λbl vs n k=>match l.find? (λq=>(q6 q.c.args vs).isSome)with
  |some q=>q.M bl vs n k
  |none=>match N6 cons f with
   |some g=>g bl vs n k
   |none=> .stuck
section
variable {S:Nat->List Int->List Int->Prop} {P:bQ} {gl:eI} {w0:dX}
theorem x1.snd {q:x1} {spec:List Int->List Int->Prop} (hc:q.bY P w0.b spec) (gK:∀zs rs,spec zs rs->S q.c.id zs rs) (L:V->Env->Prop) (n:Nat) (ρ:Env) (m:Nat->Nat) (bl:List aG) (vs:List V) (xs:List aP)
 (jW:∀v∈vs,V.ok n bl.length ρ v) (hr:eJ ρ m vs xs):az S L (q.M bl vs) n ρ λaa n' v=>v.ok n' bl.length aa/\∃val,v.rel aa m val/\∀w,Mem w0 ρ m bl w->uG P q.c.f xs.toArray w val:=by
 intro G k ab
 unfold x1.M at ab
 cases hl:q6 q.c.args vs with
 |none=>simp[hl,T.holds]at ab
 |some l=>
  simp only[hl]at ab
  obtain⟨kO,ab⟩:=ab
  obtain⟨h1,h2⟩:=OI hl jW hr
  obtain⟨rs,r1,r2,gn⟩:=hc _ h1 kO
  have ae:=N8 ab r1 (gK _ _ r2)
  have hlen:=er r1
  have m2:=Q5 (m:=m) (nb:=bl.length) (N:=n+(bf q.c.res).length) r1 (je.bI ρ n rs) (bL _)
  refine⟨_,_,_,IT _ _,agree.bI rs n ρ,⟨m2.1,_,m2.2,λw hw=>?_⟩,ae⟩
  rw[h2]at gn
  exact gn w hw.ext
theorem mf {HM:List x1} {cons:List bU} (aj:∀q∈HM,q.bY P w0.b (S q.c.id)) (hc:∀c∈cons,c.x0 P w0.b (S c.id)):hk S P gl w0 (iX HM cons):=by
 intro f g jy L n ρ m bl vs xs h1 h2 h3 h4
 unfold iX at jy
 split at jy
 ·exact aeV (gl:=gl) hc f g jy L n ρ m bl vs xs h1 h2 h3 h4
 ·rename_i l hl
  simp only[a7]at jy
  subst jy
  intro G k ab
  simp only at ab
  split at ab
  ·rename_i q Kk
   have ec:=List.mem_filter.1 (FC Kk)
   have Eo:=bO ec.2
   subst Eo
   exact x1.snd (aj q ec.1) (λ_ _ h=>h) L n ρ m bl vs xs h3 h4 G k ab
  ·split at ab
   ·rename_i lk yB
    exact aeV (gl:=gl) hc f lk yB L n ρ m bl vs xs h1 h2 h3 h4 G k ab
   ·exact ab.elim
end
end Go.b6
namespace Go.b6
section
variable {S:Nat->List Int->List Int->Prop} {P:bQ} {gl:eI} {wb:aE}
def wo (args res:List D) (spec:List Int->List Int->Prop):Prop:=∀zs rs cH,ag (bf args) zs->ag (bf res) rs->ag (bf res) cH->spec zs rs->spec zs cH->mE res rs=mE res cH
theorem bU.awq {c:bU} {cal:eW} {li:dn->Nat->Option fH} {rounds d:Nat} {spec:List Int->List Int->Prop} (hm:P.follows .mixedOrders=true) (cU:∀r ex ro,hk S P gl ⟨wb,r,ex,ro,[]⟩ cal) (hg:eX gl ⟨wb,wb,λ_=>False,λ_=>False,[]⟩)
 (hf:∀args w,(callFunc c.f args).run P w= .ok (.enter c.f args) w) (hu:wo c.args c.res spec)
 (aA:ju (bf c.args) λzs=>(c.tree P gl cal li rounds d).holds S (jt c.res λrs=>ag (bf c.res) rs/\spec zs rs) (λ_ _=>False) (bI (λ_=>0) 0 zs)):c.bY P wb spec:=by
 refine⟨hf,λzs hz=>?_⟩
 have h0:=bU.calls hm cU hg hz (lL aA hz) wb (qc wb)
 obtain⟨e,w',v,aa,m,val,h1,h2,h3,h4⟩:=Calls.some h0
 obtain⟨rs,⟨hb,hs⟩,hv⟩:=Bw h3 h2
 refine⟨rs,hb,hs,λw hw=>?_⟩
 refine(bU.calls hm cU hg hz (lL aA hz) w hw).mono λe w' ⟨v,aa,m,val,h1,h2,h3,h4⟩=>?_
 obtain⟨cH,⟨mj,KN⟩,yE⟩:=Bw h3 h2
 rw[hu zs cH rs hz mj hb KN hs]at yE
 exact⟨by rw[h1,yE],h4⟩
end
theorem um {α:Type}:∀(ly:List Nat) (l:List α),(dd ly l).flatten=l
 |[],[]=>rfl
 |[],_::_=>by simp[dd]
 |k::ly,l=>by simp only[dd,sH,um ly,ld]
section
variable {P:bQ} {gl:eI} {wb:aE} {sh:Nat->List Nat×List Nat} {SB:Nat->List (List Int)->List (List Int)->Prop}
def uJ (SB:Nat->List (List Int)->List (List Int)->Prop) (res:List D) (id:Nat):List (List Int)->List (List Int)->Prop:=λzs rs=>ag (bf res) rs.flatten/\SB id zs rs
theorem aC7 {lsh:Nat->List Nat} {id:Nat} {lens:List Nat} {bds:List (Int×Int)} {ds:List D} {t:T} (hl:lens=(sh id).1) (hd:vq ds=(sh id).2) (h:iC sh lsh SB (uJ SB ds id) lens bds ds t):
 ju bds λzs=>t.holds (iD sh SB) (jt ds λrs=>ag (bf ds) rs/\iD sh SB id zs rs) (λ_ _=>False) (bI (λ_=>0) 0 zs):=by
 refine sV λzs hz=>?_
 have h:=lL (M5 h) hz
 simp only[uJ,um]at h
 rw[hl,hd]at h
 exact h
theorem axm {c:bU} {cal:eW} {li:dn->Nat->Option fH} {rounds d:Nat} {lsh:Nat->List Nat} {lens:List Nat} (hm:P.follows .mixedOrders=true) (cU:∀r ex ro,hk (iD sh SB) P gl ⟨wb,r,ex,ro,[]⟩ cal) (hg:eX gl ⟨wb,wb,λ_=>False,λ_=>False,[]⟩)
 (hf:Cl P c.f=true) (hu:wo c.args c.res (iD sh SB c.id)) (hl:lens=(sh c.id).1) (hd:vq c.res=(sh c.id).2)
 (hv:iC sh lsh SB (uJ SB c.res c.id) lens (bf c.args) c.res (c.tree P gl cal li rounds d)):c.bY P wb (iD sh SB c.id):=
 bU.awq hm cU hg (enters hf) hu (aC7 hl hd hv)
end
end Go.b6
namespace Go.b6
open Go.ChangeShapes Go.WideShapes Go.RowKit
variable {H:Type} {enc:bh×aP->H} {P:bQ}
def Ie (g:bh->Option (List aL)) (cells:bh->Nat):List Field->Nat->Option (List aL)
 |[],_=>some []
 |f::r,o=>match g f.type,Ie g cells r (o+cells f.type)with
  |some l,some m=>cond (aK f.offset o&&aK (cells f.type) l.length) (some (l++m)) none
  |_,_=>none
def A6 (P:bQ):Nat->bh->Option (List aL)
 |0,_=>none
 |d+1,t=>match P.underlying t with
  |some (.int k)=>some [.int k k.min k.max]
  |some .string=>some [.str]
  |some .bool=>some [.bool]
  |some (.struct fs)=>Ie (A6 P d) P.cellsOf fs.toList 0
  |some (.array n e)=>match A6 P d e with
   |some l=>cond (aK (P.cellsOf e) l.length) (some (eH n l).flatten) none
   |none=>none
  |_=>none
theorem cw.append:∀{a b:List aL} {x y:List Int},cw a x->cw b y->cw (a++b) (x++y)/\dq (a++b) (x++y)=dq a x++dq b y
 |[],_,[],_,_,h=>⟨h,rfl⟩
 |_::_,_,_::_,_,h,a8=>by
  have:=cw.append h.2 a8
  exact⟨⟨h.1,this.1⟩,by simp only[kp,dq,this.2]⟩
 |[],_,_::_,_,h,_=>h.elim
 |_::_,_,[],_,h,_=>h.elim
def TX (enc:bh×aP->H) (P:bQ) (w:aE) (base:Nat) (spare:Nat->Bool) (held:Bool) (t:bh) (sh:List aL):Prop:=
 ∀(n:Nat) (cs:List aP) (x:oK H×List xR),abA enc P w base spare held n t cs=some x->cs.length=sh.length->(∀m∈x.1.weights P t,m<=reachBytes)->
  ∃zs,cw sh zs/\cs=dq sh zs/\x.2=[]
theorem ajr {base n:Nat} {w:aE} {spare:Nat->Bool} {held:Bool} {g:bh->Option (List aL)} (hg:∀t sh,g t=some sh->TX enc P w base spare held t sh) {cs:List aP}:∀(fs:List Field) (o:Nat) (sh:List aL) (xs:List (oK H×List xR)),Ie g P.cellsOf fs o=some sh->cs.length=o+sh.length->xs.length=fs.length->
 (∀(j:Nat) (f:Field),fs[j]?=some f->abA enc P w base spare held n f.type ((cs.drop f.offset).take (P.cellsOf f.type))=xs[j]?)->
 (∀m∈SM P (fs.map (·.type)) (xs.map (·.1)),m<=reachBytes)->
 ∃zs,cw sh zs/\cs.drop o=dq sh zs/\xs.flatMap (·.2)=[]
 |[],o,sh,xs,h,hl,hx,_,_=>by
  simp only[Ie,a7]at h
  subst h
  have:xs=[]:=List.length_eq_zero_iff.1 (by simpa using hx)
  subst this
  exact⟨[],trivial,Mq (by simp at hl;omega),rfl⟩
 |f::fs,o,sh,[],_,_,hx,_,_=>by simp at hx
 |f::fs,o,sh,x::xs,h,hl,hx,hf,hw=>by
  unfold Ie at h
  cases h1:g f.type with
  |none=>simp[h1]at h
  |some l=>
   cases h2:Ie g P.cellsOf fs (o+P.cellsOf f.type)with
   |none=>simp[h1,h2]at h
   |some m=>
    simp only[h1,h2]at h
    cases hc:(aK f.offset o&&aK (P.cellsOf f.type) l.length)with
    |false=>simp[hc]at h
    |true=>
     simp only[hc,cond_true,a7]at h
     subst h
     simp only[bo]at hc
     have aw:=bO hc.1
     have aF:=bO hc.2
     have h0:=hf 0 f rfl
     simp only[uz]at h0
     simp only[cQ,SM,wi]at hw
     simp only[fc]at hl
     obtain⟨zs,bZ,a2,a3⟩:=hg f.type l h1 n ((cs.drop f.offset).take (P.cellsOf f.type)) x h0 (by rw[px,nn,aw,aF];omega) λm' hm=>hw m' (.inl hm)
     obtain⟨gN,b3,b4,c7⟩:=ajr (cs:=cs) hg fs (o+P.cellsOf f.type) m xs h2 (by omega) (by simpa using hx) (λj qB aI=>by simpa using hf (j+1) qB (by simpa using aI)) λm' hm=>hw m' (.inr hm)
     have Kd:=cw.append bZ b3
     refine⟨zs++gN,Kd.1,?_,by simp[a3,c7]⟩
     rw[Kd.2,<-a2,<-b4,aw,<-zv]
     exact(ld _ _).symm
theorem ajq {base n:Nat} {w:aE} {spare:Nat->Bool} {held:Bool} {e:bh} {l:List aL} (hg:TX enc P w base spare held e l) (hc:P.cellsOf e=l.length) {cs:List aP}:∀(k i:Nat) (xs:List (oK H×List xR)),cs.length=(i+k)*l.length->xs.length=k->
 (∀j,j<k->abA enc P w base spare held n e ((cs.drop ((i+j)*P.cellsOf e)).take (P.cellsOf e))=xs[j]?)->
 (∀m∈SN P e (xs.map (·.1)),m<=reachBytes)->
 ∃zs,cw (eH k l).flatten zs/\cs.drop (i*l.length)=dq (eH k l).flatten zs/\xs.flatMap (·.2)=[]
 |0,i,xs,hl,hx,_,_=>by
  have:xs=[]:=List.length_eq_zero_iff.1 hx
  subst this
  exact⟨[],trivial,Mq (by rw[hl];exact bL _),rfl⟩
 |k+1,i,[],_,hx,_,_=>by simp at hx
 |k+1,i,x::xs,hl,hx,hf,hw=>by
  have h0:=hf 0 (Nat.succ_pos k)
  simp only[uz,mM]at h0
  simp only[cQ,SN,wi]at hw
  have Et:cs.length=i*l.length+(l.length+k*l.length):=by rw[hl,Nat.add_mul,xU];omega
  obtain⟨zs,bZ,a2,a3⟩:=hg n _ x h0 (by rw[px,nn,hc];omega) λm' hm=>hw m' (.inl hm)
  obtain⟨gN,b3,b4,c7⟩:=ajq hg hc k (i+1) xs (by rw[hl];congr 1;omega) (by simpa using hx) (λj aI=>by
   have:=hf (j+1) (by omega)
   rw[show i+(j+1)=i+1+j by omega]at this
   simpa using this) λm' hm=>hw m' (.inr hm)
  have Kd:=cw.append bZ b3
  refine⟨zs++gN,by rw[Bs,sH];exact Kd.1,?_,by simp[a3,c7]⟩
  rw[Bs,sH,Kd.2,<-a2,<-b4,hc,xU,<-zv]
  exact(ld _ _).symm
theorem QI {base:Nat} {w:aE} {spare:Nat->Bool} {held:Bool}:∀(d:Nat) (t:bh) (sh:List aL),A6 P d t=some sh->TX enc P w base spare held t sh
 |0,t,sh,h=>by simp[A6]at h
 |d+1,t,sh,h=>by
  have ih:=QI (base:=base) (w:=w) (spare:=spare) (held:=held) d
  intro n cs x hx hl hw
  unfold A6 at h
  split at h
  ·rename_i k hu
   simp only[a7]at h
   subst h
   obtain⟨z,rfl,rfl,Xq⟩:=al2 hu hx
   have:=ali.1 Xq
   exact⟨[z],⟨this,trivial⟩,rfl,rfl⟩
  ·rename_i hu
   simp only[a7]at h
   subst h
   obtain⟨s,rfl,rfl,hs⟩:=aET hu hx
   have hb:s.data.toList.length<=kW:=hw _ (by simp[SO])
   refine⟨[jv s.data.toList],⟨⟨wD _,uI hb⟩,trivial⟩,?_,rfl⟩
   simp[dq,aL.val,y4,dI]
  ·rename_i hu
   simp only[a7]at h
   subst h
   obtain⟨b,rfl,rfl⟩:=DataW.trod_bool hu hx
   refine⟨[cond b 1 0],⟨?_,trivial⟩,?_,rfl⟩
   ·cases b<;>simp[aL.fq]
   ·cases b<;>simp[dq,aL.val]
  ·rename_i fs hu
   obtain⟨xs,m,rfl,rfl,hlen,hn,GU⟩:=DataW.trod_struct hu hx
   simp only[SO,hu]at hw
   obtain⟨zs,bZ,a2,a3⟩:=ajr (n:=m) ih fs.toList 0 sh xs h (by omega) (by rw[hn];simp) (λj f aI=>GU j f (by simpa using aI)) hw
   exact⟨zs,bZ,by simpa using a2,a3⟩
  ·rename_i k e hu
   cases h1:A6 P d e with
   |none=>simp[h1]at h
   |some l=>
    simp only[h1]at h
    cases hc:aK (P.cellsOf e) l.length with
    |false=>simp[hc]at h
    |true=>
     simp only[hc,cond_true,a7]at h
     subst h
     have hc:=bO hc
     obtain⟨xs,m,rfl,rfl,hlen,hn,GU⟩:=aEd hu hx
     simp only[SO,hu]at hw
     have j6:(eH k l).flatten.length=k*l.length:=by simp
     obtain⟨zs,bZ,a2,a3⟩:=ajq (n:=m) (ih e l h1) hc k 0 xs (by rw[hl,j6];simp) hn (λj aI=>by
      have:=GU j aI
      simpa using this) hw
     exact⟨zs,bZ,by simpa using a2,a3⟩
  ·cases h
theorem azY {fits:bh->Bool}:∀(d:Nat) (e:bh) (count off n:Nat),rowAt P fits d e count off n=true->off<=count*P.cellsOf e
 |0,_,_,_,_,h=>by simp[rowAt]at h
 |d+1,e,count,off,n,h=>by
  unfold rowAt at h
  dsimp only at h
  split at h
  ·cases h
  ·rename_i hs
   have asr:=Mp off (P.cellsOf e)
   have hlt:=Ms off (Nat.pos_of_ne_zero hs)
   rw[Bm]at h
   rcases h with h|h
   ·simp only[bo,beq_iff_eq,decide_eq_true_eq]at h
    have h1:off/P.cellsOf e<=count:=by omega
    have:=SA (P.cellsOf e) h1
    rw[xN count];omega
   ·rw[bo]at h
    have h1:off/P.cellsOf e<count:=by simpa using h.1
    have h1:off/P.cellsOf e+1<=count:=h1
    have:=SA (P.cellsOf e) h1
    rw[Nat.mul_add,zw]at this
    rw[xN count];omega
theorem aim:∀(d:Nat) (e:bh) (count off:Nat) (u:bh) (n:Nat),liesAt P d e count off u n=true->off<=count*P.cellsOf e
 |0,_,_,_,_,_,h=>by simp[liesAt]at h
 |d+1,e,count,off,u,n,h=>by
  unfold liesAt at h
  rw[Bm]at h
  rcases h with h|h
  ·exact azY _ _ _ _ _ h
  ·split at h
   ·exact aim d e count off _ _ h
   ·cases h
theorem aoM {base:Nat} {w:aE} {a:Addr} {n:Nat} {cs:List aP} (h:w.cells? base a n=some cs):cs.length=n/\∀j,j<n->w.cell? (a.add j)=cs[j]?:=by
 unfold World.cells? at h
 split at h
 ·have hl:=List.aik h
  refine⟨by simpa using hl,λj aI=>?_⟩
  have:=List.af0 h j j (by simp[aI])
  exact this
 ·cases h
where
 List.aik {α β:Type} {f:α->Option β}:∀{l:List α} {r:List β},l.mapM f=some r->r.length=l.length
  |[],r,h=>by simp at h;subst h;rfl
  |x::l,r,h=>by
   rw[al0]at h
   cases hx:f x with
   |none=>simp[hx]at h
   |some y=>
    cases hl:l.mapM f with
    |none=>simp[hx,hl]at h
    |some s=>
     simp[hx,hl]at h
     subst h
     simp[List.aik hl]
 List.af0 {α β:Type} {f:α->Option β}:∀{l:List α} {r:List β},l.mapM f=some r->∀(j:Nat) (x:α),l[j]?=some x->f x=r[j]?
  |[],r,h,j,x,hx=>by simp at hx
  |y::l,r,h,j,x,hx=>by
   rw[al0]at h
   cases hy:f y with
   |none=>simp[hy]at h
   |some z=>
    cases hl:l.mapM f with
    |none=>simp[hy,hl]at h
    |some s=>
     simp[hy,hl]at h
     subst h
     cases j with
     |zero=>simp at hx;subst hx;simp[hy]
     |succ j=>simpa using List.af0 hl j x (by simpa using hx)
theorem aj8 {cells:Array aP} {sh:List aL}:∀(len o:Nat),o<=cells.size->(∀i,i<len->∃zs,cw sh zs/\∀j,j<sh.length->cells[o+i*sh.length+j]?=(dq sh zs)[j]?)->(0<len->0<sh.length)->
 ∃rows:List (List Int),rows.length=len/\mU cells o sh rows
 |0,o,ax,_,_=>⟨[],rfl,λ_ h=>by simp at h,cells.toList.take o,cells.toList.drop o,by simp[b2],by simp;omega⟩
 |len+1,o,ax,h,hp=>by
  obtain⟨zs,bZ,a2⟩:=h 0 (Nat.succ_pos _)
  have hp:=hp (Nat.succ_pos _)
  have hv:=Fl bZ
  have WV:=a2 (sh.length-1) (by omega)
  have hsz:o+sh.length<=cells.size:=by
   have:(dq sh zs)[sh.length-1]?≠none:=by rw[nq (by omega)];simp
   rw[<-WV]at this
   have:=Array.arl.1 this
   omega
  obtain⟨rows,b3,b4,pre,post,c7,lO⟩:=aj8 len (o+sh.length) hsz (λi hi=>by
   obtain⟨gN,c1,bH⟩:=h (i+1) (by omega)
   refine⟨gN,c1,λj aI=>?_⟩
   rw[<-bH j aI]
   congr 1
   rw[xU];omega) λ_=>hp
  refine⟨zs::rows,by simp[b3],λrow hr=>?_,cells.toList.take o,post,?_,by simp;omega⟩
  ·rcases List.mem_cons.1 hr with rfl|hr
   ·exact bZ
   ·exact b4 row hr
  ·have aw:pre=cells.toList.take (o+sh.length):=by
    rw[c7,kq,List.take_left' lO]
   have aF:pre=cells.toList.take o++dq sh zs:=by
    rw[aw,List.take_add]
    congr 1
    refine List.ext_getElem? λj=>?_
    by_cases aI:j<sh.length
    ·have:=a2 j aI
     rw[List.getElem?_take,if_pos aI,List.getElem?_drop,<-this]
     simp
    ·rw[abJ (by simp;omega),abJ (by omega)]
   have cb:cells.toList=cells.toList.take o++dq sh zs++b2 sh rows++post:=by rw[<-aF];exact c7
   have gX:b2 sh (zs::rows)=dq sh zs++b2 sh rows:=by simp[b2]
   rw[gX,<-kq];exact cb
where
 Array.arl {α:Type} {a:Array α} {i:Nat}:a[i]?≠none↔i<a.size:=by simp
def MO (P:bQ) (t:bh):cB->Prop
 | .d (.int k lo hi)=>P.underlying t=some (.int k)/\lo=k.min/\hi=k.max
 | .d .bool=>P.underlying t=some .bool
 | .d .str=>P.underlying t=some .string
 | .d (.agg k n lo hi)=>∃e,P.underlying t=some (.array n e)/\A6 P 8 t=some (eH n (.int k lo hi))/\P.cellsOf t=n
 | .d (.mix l)=>((∃fs,P.underlying t=some (.struct fs))∨∃n e,P.underlying t=some (.array n e))/\A6 P 8 t=some l/\P.cellsOf t=l.length
 | .d (.xj _)=>False
 | .d (.mq ..)=>False
 | .rd sh=>∃e,P.underlying t=some (.slice e)/\A6 P 8 e=some sh/\P.cellsOf e=sh.length/\nT sh=true
 | .p4 _ _=>False
theorem cw.ag:∀{sh:List aL} {zs:List Int},cw sh zs->ag (sh.map aL.fq) zs
 |[],[],_=>trivial
 |_::_,_::_,h=>⟨h.1.1,h.1.2,cw.ag h.2⟩
 |[],_::_,h=>h.elim
 |_::_,[],h=>h.elim
theorem aj3:∀(sh:List aL) (zs:List Int),dq sh zs=sJ aL.val sh zs
 |[],_=>by simp[dq]
 |_::_,[]=>by simp[dq]
 |c::sh,z::zs=>by simp only[dq,Sw,aj3 sh zs]
theorem aj2 (k:du) (lo hi:Int):∀(n:Nat) (zs:List Int),zs.length=n->dq (eH n (.int k lo hi)) zs=zs.map (xS k)
 |0,[],_=>rfl
 |n+1,z::zs,h=>by
  rw[Bs]
  simp only[dq,cQ,aj2 k lo hi n zs (by simpa using h)]
  rfl
 |0,_::_,h=>by simp at h
 |n+1,[],h=>by simp at h
theorem aiK (k:du) (lo hi:Int):∀n:Nat,(eH n (aL.int k lo hi)).map aL.fq=av lo hi n
 |0=>rfl
 |n+1=>by rw[Bs,cQ,aiK k lo hi n];rfl
theorem axt {e9:Nat} {w:aE} {t:bh} {b:cB} {v:aP} {x:oK H} {jM:List xR} (aA:MO P t b) (ot:MM P w .any e9 t v) (hd:DataW.Trod enc P w 0 (λ_=>true) true t v x jM) (hw:∀m∈x.weights P t,m<=reachBytes):
 ∃zs,ag b.bds zs/\zs.length=b.num/\b.at (λg=>g<w.heap.size) (λ_=>False) w zs v:=by
 obtain⟨fuel,hf⟩:=hd
 have agg:((∃fs,P.underlying t=some (.struct fs))∨∃n e,P.underlying t=some (.array n e))->∃cs,v= .agg cs/\cs.size=P.cellsOf t:=λh=>by
  unfold MM at ot
  rcases h with⟨fs,h⟩|⟨n,e,h⟩
  ·rw[h]at ot;obtain⟨cs,a,b,_⟩:=ot;exact⟨cs,a,b⟩
  ·rw[h]at ot;obtain⟨cs,a,b,_⟩:=ot;exact⟨cs,a,b⟩
 cases b with
 |p4 _ _=>exact aA.elim
 |d y=>
  cases y with
  |xj l=>exact aA.elim
  |mq k c=>exact aA.elim
  |int k lo hi=>
   obtain⟨h1,rfl,rfl⟩:=aA
   obtain⟨n,rfl⟩:=okWide_int h1 ot
   obtain⟨n',h,hx,Xq⟩:=al2 h1 hf
   simp[FE]at h
   subst h
   have:=ali.1 Xq
   exact⟨[n],⟨this.1,this.2,trivial⟩,rfl,rfl⟩
  |bool=>
   obtain⟨c,rfl⟩:=okWide_bool aA ot
   refine⟨[cond c 1 0],?_,rfl,?_⟩
   ·cases c<;>simp[cB.bds,D.bds,ag]
   ·cases c<;>simp[cB.at,D.val]
  |str=>
   obtain⟨s,rfl⟩:=okWide_string aA ot
   obtain⟨Fm,h,hx,hs⟩:=aET aA hf
   simp[FE]at h
   subst h
   simp only[ek]at hx
   have hb:s.data.toList.length<=kW:=hw _ (by rw[hx.1];simp[SO])
   exact⟨[jv s.data.toList],⟨wD _,uI hb,trivial⟩,rfl,by simp[cB.at,D.val,y4,dI]⟩
  |agg k n lo hi=>
   obtain⟨e,h1,h2,h3⟩:=aA
   obtain⟨cs,rfl,hsz⟩:=agg (.inr ⟨n,e,h1⟩)
   obtain⟨zs,bZ,a2,_⟩:=QI 8 t _ h2 fuel _ _ hf (by show cs.toList.length=_;simp[hsz,h3]) hw
   have hl:zs.length=n:=by have:=bZ.len;simpa using this
   have c0:cs=(dq (eH n (.int k lo hi)) zs).toArray:=by rw[<-a2];simp[FE]
   refine⟨zs,?_,hl,?_⟩
   ·have:=bZ.ag;rw[aiK]at this;exact this
   ·show aEU cs=_
    rw[c0,aj2 k lo hi n zs hl]
    simp only[D.val,<-hl,abw]
  |mix l=>
   obtain⟨h1,h2,h3⟩:=aA
   obtain⟨cs,rfl,hsz⟩:=agg h1
   obtain⟨zs,bZ,a2,_⟩:=QI 8 t _ h2 fuel _ _ hf (by show cs.toList.length=_;simp[hsz,h3]) hw
   have hl:zs.length=l.length:=bZ.len
   have c0:cs=(dq l zs).toArray:=by rw[<-a2];simp[FE]
   refine⟨zs,bZ.ag,hl,?_⟩
   show aEU cs=_
   rw[c0,aj3];rfl
 |rd sh=>
  obtain⟨e,h1,h2,h3,EC⟩:=aA
  have h4:0<sh.length:=by
   unfold nT at EC
   simp only[bo,Nat.blt_eq]at EC
   exact EC.1.2
  obtain⟨a,len,cap,rfl⟩:=okWide_slice h1 ot
  rcases DataW.trod_slice h1 hf with⟨h,_⟩|⟨ac6,oz,jw,elems,rest,n,rfl,h,hx,_,KB,Cr,GU,asx,tr,vd⟩
  ·simp[FE]at h
   obtain⟨rfl,rfl,rfl⟩:=h
   exact⟨[0],⟨cL _,x2,trivial⟩,rfl,.inl ⟨rfl,k6⟩⟩
  ·simp[FE]at h
   obtain⟨rfl,rfl,rfl⟩:=h
   have asH:w.has P .any e9 ac6 e cap:=by
    unfold MM at ot
    rw[h1]at ot
    simp only[Cell.okWide,Cell.ok,h1]at ot
    exact ot.2.2
   obtain⟨_,ahk,row,U8,kh,asT⟩:=asH
   obtain⟨g,o,sp⟩:=ac6
   simp only at ahk
   subst ahk
   obtain⟨cells,Fu,fz,Ac,rb⟩:∃cells Fu fz,w.heap[g]?=some (.cells cells Fu fz)/\cells.size=U8/\Fu=row:=by
    unfold World.shape? at kh
    split at kh
    ·rename_i c el fz hb
     simp only[a7,ek]at kh
     exact⟨c,el,fz,hb,kh.2,kh.1⟩
    ·cases kh
   have ax:o<=cells.size:=by
    have:=aim _ _ _ _ _ _ asT
    have h6:=Nat.div_mul_le_self U8 (P.cellsOf row)
    have h7:o<=U8/P.cellsOf row*P.cellsOf row:=this
    omega
   simp only[ek]at hx
   obtain⟨qH,yF⟩:=hx
   rw[qH]at hw
   simp only[SO,h1,mL,wi]at hw
   obtain⟨rows,r1,r2⟩:=aj8 (cells:=cells) (sh:=sh) len o ax (λi hi=>by
    have:=asx i hi
    cases hy:elems[i]? with
    |none=>rw[List.getElem?_eq_none_iff]at hy;omega
    |some y=>
     rw[hy,Option.bind_eq_some_iff]at this
     obtain⟨cs,g1,g2⟩:=this
     obtain⟨l1,l2⟩:=aoM g1
     obtain⟨zs,aD,z2,_⟩:=QI 8 e sh h2 n cs y g2 (by rw[l1,h3]) λm hm=>by
      refine hw m (.inr (.inl ?_))
      exact aiM hy hm
     refine⟨zs,aD,λj aI=>?_⟩
     have:=l2 j (by rw[h3];exact aI)
     rw[jG,jG]at this
     simp only[lH,Ac,Option.isSome_none,Bool.false_eq_true,if_false]at this
     rw[<-z2,<-this,h3]) λ_=>h4
   have cZ:(cap:Int)<=9223372036854775807:=by unfold maxLen at Cr;omega
   have Pj:rows.length<=maxLen:=by omega
   have arL:rc rows<=bN:=rK Pj λr hr=>(r2.1 r hr).row EC
   refine⟨[rc rows],⟨ja _,arL,trivial⟩,rfl,.inr ⟨g,o,cap,cells,Fu,fz,?_,?_,?_,Ac,?_⟩⟩
   ·simp[jm,r1]
   ·simp only[iU,jm,r1];exact⟨KB,cZ⟩
   ·exact(Array.getElem?_eq_some_iff.1 Ac).1
   ·simp only[iU,jm];exact r2
where
 aiM {e:bh}:∀{l:List (oK H×List xR)} {i:Nat} {y:oK H×List xR} {m:Nat},l[i]?=some y->m∈y.1.weights P e->m∈SN P e (l.map (·.1))
  |x::l,0,y,m,h,hm=>by
   simp only[uz,a7]at h
   subst h
   simp only[cQ,SN,wi]
   exact .inl hm
  |x::l,i+1,y,m,h,hm=>by
   simp only[cQ,SN,wi]
   exact .inr (aiM (by simpa using h) hm)
  |[],_,_,_,h,_=>by simp at h
def SV (P:bQ):List bh->List cB->Prop
 |[],[]=>True
 |t::ts,b::bs=>MO P t b/\SV P ts bs
 |_,_=>False
theorem cB.anP {F N:Nat->Prop} {w:aE} (b:cB) {zs l:List Int} {v:aP} (h:zs.length=b.num) (ha:b.at F N w zs v):b.at F N w (zs++l) v:=by
 cases b with
 |d x=>
  show v=x.val (zs++l)
  rw[D.alg x (l:=l) h];exact ha
 |rd sh=>match zs,h with|[z],_=>exact ha
 |p4 sh e=>match zs,h with|[z],_=>exact ha
theorem ajp {e9:Nat} {w:aE}:∀{ts:List bh} {bs:List cB} {vs:List aP} {xs:List (oK H)} {jM:List xR},SV P ts bs->(∀(j:Nat) t v,ts[j]?=some t->vs[j]?=some v->MM P w .any e9 t v)->amj enc P w 0 (λ_=>true) true ts vs xs jM->
 (∀m∈SM P ts xs,m<=reachBytes)->∃zs,ag (dx bs) zs/\kK (λg=>g<w.heap.size) (λ_=>False) w bs zs vs/\xs.length=bs.length
 |[],[],[],[],jM,_,_,h,_=>⟨[],trivial,trivial,rfl⟩
 |[],[],_::_,_,_,_,_,h,_=>h.elim
 |[],[],[],_::_,_,_,_,h,_=>h.elim
 |[],_::_,_,_,_,h,_,_,_=>h.elim
 |_::_,[],_,_,_,h,_,_,_=>h.elim
 |_::_,_::_,[],_,_,_,_,h,_=>by cases h
 |_::_,_::_,_::_,[],_,_,_,h,_=>by cases h
 |t::ts,b::bs,v::vs,x::xs,jM,aA,hv,h,hw=>by
  obtain⟨p,q,h1,h2,rfl⟩:=h
  simp only[SM,wi]at hw
  obtain⟨zs,bZ,a2,a3⟩:=axt aA.1 (hv 0 t v rfl rfl) h1 λm hm=>hw m (.inl hm)
  obtain⟨gN,b3,b4,c7⟩:=ajp aA.2 (λj t v h1 h2=>hv (j+1) t v (by simpa using h1) (by simpa using h2)) h2 λm hm=>hw m (.inr hm)
  refine⟨zs++gN,He bZ b3,⟨cB.anP b a2 a3,?_⟩,by simp[c7]⟩
  rw[<-a2,Dd];exact b4
theorem akU (hl:laidOutB P=true) {W W':aE} (hb:Below W.heap.size W W'):∀{ts:List bh} {vs:List aP} {xs:List (oK H)} {jM:List xR},(∀t∈ts,P.readableRec t=true/\t<P.types.size)->amj enc P W 0 (λ_=>true) true ts vs xs jM->(∀x∈jM,x.block<W.heap.size)->
 amj enc P W' 0 (λb=>decide (b<W.heap.size)) true ts vs xs jM
 |[],[],[],_,_,h,_=>h
 |[],_::_,_,_,_,h,_=>h.elim
 |[],[],_::_,_,_,h,_=>h.elim
 |_::_,[],_,_,_,h,_=>by cases h
 |_::_,_::_,[],_,_,h,_=>by cases h
 |t::ts,v::vs,x::xs,jM,hr,h,hlt=>by
  obtain⟨p,q,h1,h2,rfl⟩:=h
  exact⟨p,q,Below.trod hl (hr t (by simp)).1 (hr t (by simp)).2 h1 hb λx hx=>hlt x (List.mem_append.2 (.inl hx)),akU hl hb (λt aA=>hr t (dU _ aA)) h2 λx hx=>hlt x (List.mem_append.2 (.inr hx)),rfl⟩
theorem aoN {C:Checked} {os:Os} {f:dn} {fn:Func} {s:ChangeSpec} {apart:Bool} {X:aE->Array aP->Prop}
 (bT:∀(w w':aE) (args:Array aP),w.heap=w'.heap->X w args->X w' args)
 (own:ownKnob C.prog.godebug=none) (started:os.Started) (YX:C.prog.inits.idxOf? f=none) (Cu:C.prog.funcs[f]?=some fn)
 (witness:∃(w:aE) (tape:Tape) (i:Input),w.os=os/\(w.forCall tape i).Shaped C.prog/\i.vars=[]/\aEV C.prog (w.forCall tape i) .any w.heap.size f i/\
   ((s.pre enc C.prog fn [] apart (w.forCall tape i).memory i.args/\X (w.forCall tape i).memory i.args)/\sizedMet enc C.prog fn (abP s) apart (w.forCall tape i).memory i.args)/\({}:Assume).holds C.prog (lone (aEW C.prog f i.args .normal) [] (w.forCall tape i)))
 (Vd:∀(W:aE) (base:Nat) (args:Array aP) (ds gs:List (oK H)) (before:List xR),
   (∀(j:Nat) t v,fn.params[j]?=some t->args[j]?=some v->MM C.prog W .any base t v)->
   DataW.Whole enc C.prog fn.params.toList s.vars apart W args.toList ds gs before->(SM C.prog (fn.params.toList++s.plain.varTypes C.prog) (ds++gs)).all (·<=reachBytes)=true->X W args->W.ShapedOpen C.prog->
   lG C.prog f args W λe W'=>∃v,e= .returned v/\s.post enc C.prog fn apart true false false W args v W'):
 ReturnsInHanded {} C os f .any (λw args=>(s.pre enc C.prog fn [] apart w args/\X w args)/\sizedMet enc C.prog fn (abP s) apart w args) (s.post enc C.prog fn apart true false false):=by
 refine returnsInHanded_of_calls own started YX witness ?_
 intro w tape i _ kh _ bV o2 aIq
 obtain⟨_,_,_,aq3,Ks,_,_,_,_,ot⟩:=bV
 have e:aq3=fn:=hV (Ks.symm.trans Cu)
 subst e
 obtain⟨⟨⟨ds,gs,before,hw,hc⟩,hx⟩,hz⟩:=o2
 have vi:=aMM (w':=w.forCall tape i) (by rfl) hw
 refine(Vd (w.forCall tape i) w.heap.size i.args ds gs before ot vi (hz.weights hw) (bT _ _ _ (by rfl) hx) kh).mono λe W' ⟨v,he,hp⟩=>?_
 subst he
 exact aMN hp
theorem avu {C:Checked} {os:Os} {f:dn} {fn:Func} {s:ChangeSpec} {X:aE->Array aP->Prop} {apart:Bool} {ts:List bh} {tb:bh} {bs:List cB}
 (bT:∀(w w':aE) (args:Array aP),w.heap=w'.heap->X w args->X w' args)
 (own:ownKnob C.prog.godebug=none) (started:os.Started) (YX:C.prog.inits.idxOf? f=none) (Cu:C.prog.funcs[f]?=some fn)
 (witness:∃(w:aE) (tape:Tape) (i:Input),w.os=os/\(w.forCall tape i).Shaped C.prog/\i.vars=[]/\aEV C.prog (w.forCall tape i) .any w.heap.size f i/\
   ((s.pre enc C.prog fn [] apart (w.forCall tape i).memory i.args/\X (w.forCall tape i).memory i.args)/\sizedMet enc C.prog fn (abP s) apart (w.forCall tape i).memory i.args)/\({}:Assume).holds C.prog (lone (aEW C.prog f i.args .normal) [] (w.forCall tape i)))
 (hp:fn.params.toList=ts) (hr:fn.resultTypes.toList=[tb]) (fE:fn.resultTypes.size=1) (atF:C.prog.underlying tb=some .bool) (KQ:SV C.prog ts bs) (wU:laidOutB C.prog=true) (wY:(ts.all λt=>C.prog.readableRec t&&decide (t<C.prog.types.size))=true) (Xn:s.vars=[])
 (hs:∀xs:List (oK H),xs.length=bs.length->s.fn H xs={results:=[.lit (.bool true)],args:=xs,vars:=[]})
 (Vd:∀(W:aE) (zs:List Int) (vs:List aP),ag (dx bs) zs->kK (λg=>g<W.heap.size) (λ_=>False) W bs zs vs->X W vs.toArray->W.ShapedOpen C.prog->lG C.prog f vs.toArray W λe W'=>e= .returned (.bool true)/\W.Extends W'):
 ReturnsInHanded {} C os f .any (λw args=>(s.pre enc C.prog fn [] apart w args/\X w args)/\sizedMet enc C.prog fn (abP s) apart w args) (s.post enc C.prog fn apart true false false):=by
 refine aoN bT own started YX Cu witness ?_
 intro W base args xs gs before atU zX hsz hx kh
 have arN:=zX
 have hlt:=zX.lt
 obtain⟨p,q,aM,Wl,rfl,WH,aIz⟩:=zX
 rw[hp]at aM
 rw[Xn]at Wl
 obtain⟨rfl,rfl⟩:gs=[]/\q=[]:=by
  cases gs with
  |nil=>exact⟨rfl,Wl⟩
  |cons g r=>exact absurd Wl (by intro h;cases h)
 have ot:∀(j:Nat) t v,ts[j]?=some t->args.toList[j]?=some v->MM C.prog W .any base t v:=λj t v h1 h2=>atU j t v (by rw[<-hp]at h1;simpa using h1) (by simpa using h2)
 have e:(fn.params.toList++s.plain.varTypes C.prog)=ts:=by rw[hp];simp[DataSpec.varTypes,aMP,Xn]
 rw[e,fY,IM]at hsz
 obtain⟨zs,hz,hat,hlen⟩:=ajp KQ ot aM λn hn=>by simpa using hsz n hn
 have qD:args=args.toList.toArray:=by simp
 rw[qD]at hx
 have Wx:lG C.prog f args W λe W'=>e= .returned (.bool true)/\W.Extends W':=by
  have:=Vd W zs args.toList hz hat hx kh
  rwa [<-qD]at this
 refine Wx.mono λe W' ⟨he,hw⟩=>?_
 subst he
 have Ks:=hs (xs++[]) (by simp[hlen])
 have ar8:Below W.heap.size W W':=⟨hw.os,hw.tape,hw.output,hw.size,λi hi=>hw.block i hi⟩
 refine⟨_,rfl,_,_,_,[],p,[],arN,?_,?_,?_,avc hw _,λh=>by cases h⟩
 ·rw[Ks,hr,fE];exact trodAll_mk1 (shut_bool atF true)
 ·rw[Ks,hp,fY]
  exact akU wU ar8 (λt aA=>by
   have:=List.all_eq_true.1 wY t aA
   simpa using this) aM λx hx=>hlt x (by simp[hx])
 ·rw[Ks,Xn];rfl
section
variable {gl:eI} {wb:aE} {sh:Nat->List Nat×List Nat} {SB:Nat->List (List Int)->List (List Int)->Prop}
def jh (SB:Nat->List (List Int)->List (List Int)->Prop) (res:List cB) (id:Nat):List (List Int)->List (List Int)->Prop:=λzs rs=>ag (dx res) rs.flatten/\SB id zs rs
theorem aof {c:e4} {bc:n1} {cal:eW} {li:dn->Nat->Option fH} {rounds d:Nat} {lsh:Nat->List Nat} {lens:List Nat} (hm:P.follows .mixedOrders=true) (cU:∀r ex ro,hk (iD sh SB) P gl ⟨wb,r,ex,ro,[]⟩ cal) (hg:eX gl ⟨wb,wb,λ_=>False,λ_=>False,[]⟩)
 (lT:∀(L:V->Env->Prop) (r:aE) (ro:Nat->Prop),uE (iD sh SB) L ⟨wb,r,λ_=>False,ro,[]⟩ P bc) (hf:Cl P c.f=true) (hl:lens=(sh c.id).1) (hd:AM c.res=(sh c.id).2)
 (hv:nv sh lsh SB (jh SB c.res c.id) lens (dx c.args) c.res (c.tree bc P gl cal li rounds d)):c.bY P wb (iD sh SB c.id):=by
 refine e4.Lj (li:=li) (rounds:=rounds) (d:=d) hm cU hg lT (enters hf) (sV λzs hz=>?_)
 have h:=lL (Uc hv) hz
 simp only[jh,um]at h
 rw[hl,hd]at h
 exact h
theorem avt {c:e4} {W:aE} {vs:List aP} {zs:List Int} (hc:c.bY P W (iD sh SB c.id)) (m2:c.res=[.d .bool]) (o2:c.pre=0) (hz:ag (dx c.args) zs) (hat:kK (λg=>g<W.heap.size) (λ_=>False) W c.args zs vs) (h1:∀a z,SB c.id a [[z]]->z=1) (h2:(sh c.id).2=[1]):
 lG P c.f vs.toArray W λe W'=>e= .returned (.bool true)/\W.Extends W':=by
 refine(hc.2 _ W vs zs (qc W) hz (by rw[o2];trivial) hat).mono λe W' ⟨hx,rs,us,hb,hs,hr,he⟩=>⟨?_,hx⟩
 rw[m2]at hb hr
 match rs,hb,us,hr,hs,he with
 |[z],hb,[u],hr,hs,he=>
  unfold iD at hs
  rw[h2]at hs
  have aw:z=1:=h1 _ z hs
  subst aw
  have:u= .bool true:=hr.1
  subst this
  rw[he];rfl
 |[z],hb,[],hr,hs,he=>exact hr.elim
 |[z],hb,_::_::_,hr,hs,he=>exact hr.2.elim
 |[],hb,_,_,_,_=>exact hb.elim
 |_::_::_,hb,_,_,_,_=>exact hb.2.2.elim
end
end Go.b6
namespace Go.b6
open M
structure aE4 where
 f:dn
 id:Nat
 sh:List aL
 e:bh
 args:List cB
 pre:Nat:=0
section
variable {S:Nat->List Int->List Int->Prop} {L:V->Env->Prop} {w0:dX} {P:bQ}
end
end Go.b6
namespace Go.b6
open M Go.RowKit
variable {S:Nat->List Int->List Int->Prop} {L:V->Env->Prop} {P:bQ} {gl:eI} {cal:eW}
def Tr (P:bQ) (f:dn):Prop:=
 (∀args w,(callFunc f args).run P w= .ok (.enter f args) w)/\
 ∀(l bs r4:Nat) (sv:aP) (g off len cap c:Nat) (J:Nat->aE->Prop) (W:aE),
  0<c->len<=9223372036854775807->c∣len->len<=cap->c<=9223372036854775807->
  (sv= .slice (some ⟨g,off,none⟩) len cap∨(sv= .slice none 0 0/\len=0))->
  (∀i W,J i W->W.cell? ⟨bs,0,none⟩=some sv/\W.cell? ⟨r4,0,none⟩=some (.int .i64 c))->
  (∀i W,J i W->J i W.drew)->
  (∀i W,J i W->c*i<len->YieldAt FI 0 P l #[.slice (some ⟨g,off+c*i,none⟩) c c] W λe W'=>e= .returned (.bool true)/\J (i+1) W')->
  J 0 W->CallsIn FI 0 P f #[.func (.yield l) #[] #[],.pointer (some ⟨bs,0,none⟩),.pointer (some ⟨r4,0,none⟩)] W λe W'=>(∃v,e= .returned v)/\J (len/c) W'
theorem VH {b w w':aE} (h:b.Extends w) (h1:w'.os=w.os) (h2:w'.tape=w.tape) (h3:w'.output=w.output) (h4:w.heap.size<=w'.heap.size) (h5:∀k,k<b.heap.size->w'.heap[k]?=w.heap[k]?):b.Extends w':=
 ⟨h1.trans h.os,h2.trans h.tape,h3.trans h.output,lg h.size h4,λa ha=>(World.cell?_of_block (h5 _ ha)).trans (h.cell a ha),λa ha=>(World.frozen?_of_block (h5 _ ha)).trans (h.frozen a ha),λi hi=>(h5 i hi).trans (h.block i hi)⟩
theorem Mem.vJ {b r r':aE} {ex ro:Nat->Prop} {ds DM:List Df} {ρ:Env} {m:Nat->Nat} {bl:List aG} {w w':aE} (h:Mem ⟨b,r,ex,ro,ds⟩ ρ m bl w) (l:Nat) (hl:b.heap.size<=l) (hex:¬ex l) (hlt:l<r.heap.size)
 (hr:r'.os=r.os/\r'.tape=r.tape/\r'.output=r.output/\r'.heap.size=r.heap.size) (hw:w'.os=w.os/\w'.tape=w.tape/\w'.output=w.output/\w'.heap.size=w.heap.size)
 (h1:∀k,k≠l->r'.heap[k]?=r.heap[k]?) (h2:∀k,k≠l->w'.heap[k]?=w.heap[k]?) (h3:w'.heap[l]?=r'.heap[l]?) (hc:∀o:Obj,r.heap[l]?=some o->o.isCells=false):Mem ⟨b,r',ex,ro,DM⟩ ρ m bl w':=by
 have at0:w.heap[l]?=r.heap[l]?:=h.iO l hlt hex
 have ne:∀{g:Nat} {cs:Array aP} {t:bh} {fz:Nat×Nat},w.heap[g]?=some (.cells cs t fz)->g≠l:=λ{g cs t fz} hg e=>by
  subst e
  rw[at0]at hg
  have:=hc _ hg
  simp[Obj.isCells]at this
 refine⟨VH h.ext hw.1 hw.2.1 hw.2.2.1 (by omega) (λk ab=>h2 k (by simp only at hl ab;omega)),by rw[hw.1,h.iZ];exact hr.1.symm,by rw[hw.2.1,h.kA];exact hr.2.1.symm,by rw[hw.2.2.1,h.j7];exact hr.2.2.1.symm,by have:=h.gj;simp only at this⊢;omega,λi hi hx=>?_,λi cs t hi ax=>?_,λi sh off code cap kind t hi=>?_,h.inj⟩
 ·by_cases e:i=l
  ·subst e;exact h3
  ·rw[h2 i e,h1 i e]
   exact h.iO i (by simp only at hi⊢;omega) hx
 ·obtain⟨g1,g2,H7,Cy,g3⟩:=h.fe i cs t hi ax
  refine⟨g1,g2.imp id λh=>?_,H7,Cy,by rw[h2 _ (ne g3)];exact g3⟩
  simp only at h⊢;omega
 ·intro ab
  obtain⟨g1,g2⟩:=h.rws i sh off code cap kind t hi ab
  refine⟨g1,λcZ=>?_⟩
  obtain⟨k1,cells,t',fz,k2,k3,k4⟩:=g2 cZ
  refine⟨k1.imp id (·.imp id λh=>by simp only at h⊢;omega),cells,t',fz,by rw[h2 _ (ne k2)];exact k2,k3,λJ8=>?_⟩
  obtain⟨hZ,nL,o5,qK,w3,ov⟩:=k4 J8
  exact⟨hZ,nL,o5,qK,w3,ov.imp id λh=>by simp only at h⊢;omega⟩
structure Sub (dZ w0:dX):Prop where
 b:dZ.b=w0.b
 os:dZ.r.os=w0.r.os
 tape:dZ.r.tape=w0.r.tape
 out:dZ.r.output=w0.r.output
 size:w0.r.heap.size<=dZ.r.heap.size
 ex:∀g,dZ.ex g∨dZ.r.heap.size<=g->w0.ex g∨w0.r.heap.size<=g
 ro:∀g,dZ.ro g->w0.ro g
 iO:∀i,i<w0.r.heap.size->¬w0.ex i->dZ.r.heap[i]?=w0.r.heap[i]?
theorem Mem.less {dZ w0:dX} {ρ:Env} {m:Nat->Nat} {bl:List aG} {w:aE} (h:Mem dZ ρ m bl w) (s:Sub dZ w0):Mem w0 ρ m bl w:=by
 refine⟨s.b▸h.ext,h.iZ.trans s.os,h.kA.trans s.tape,h.j7.trans s.out,lg s.size h.gj,λi hi hx=>?_,λi cs t hi ax=>?_,λi sh off code cap kind t hi=>?_,h.inj⟩
 ·have cW:¬dZ.ex i:=λe=>by
   rcases s.ex i (.inl e)with e|e
   ·exact hx e
   ·omega
  exact(h.iO i (FA hi s.size) cW).trans (s.iO i hi hx)
 ·obtain⟨g1,g2,g3⟩:=h.fe i cs t hi ax
  exact⟨s.b▸g1,s.ex _ g2,g3⟩
 ·intro ab
  obtain⟨g1,g2⟩:=h.rws i sh off code cap kind t hi ab
  refine⟨g1,λcZ=>?_⟩
  obtain⟨k1,cells,t',fz,k2,k3,k4⟩:=g2 cZ
  refine⟨?_,cells,t',fz,k2,k3,λJ8=>?_⟩
  ·rcases k1 with k1|k1|k1
   ·exact(s.ex _ (.inl k1)).imp id .inr
   ·exact .inr (.inl (s.ro _ k1))
   ·exact(s.ex _ (.inr k1)).imp id .inr
  ·obtain⟨hZ,nL,o5,qK,w3,ov⟩:=k4 J8
   exact⟨hZ,nL,o5,qK,s.b▸w3,s.ex _ ov⟩
def narrow (w0:dX) (W:aE) (ds:List Df):dX:=⟨w0.b,W,λg=>(w0.ex g∨w0.r.heap.size<=g)/\∃o:Obj,W.heap[g]?=some o/\o.isCells=true,w0.ro,ds⟩
theorem Mem.narrow {w0:dX} {ρ:Env} {m:Nat->Nat} {bl:List aG} {w:aE} (h:Mem w0 ρ m bl w) (ds:List Df):Mem (narrow w0 w ds) ρ m bl w:=by
 refine⟨h.ext,rfl,rfl,rfl,bL _,λ_ _ _=>rfl,λi cs t hi ax=>?_,λi sh off code cap kind t hi=>?_,h.inj⟩
 ·obtain⟨g1,g2,H7,Cy,g3⟩:=h.fe i cs t hi ax
  exact⟨g1,.inl ⟨g2,_,g3,rfl⟩,H7,Cy,g3⟩
 ·intro ab
  obtain⟨g1,g2⟩:=h.rws i sh off code cap kind t hi ab
  refine⟨g1,λcZ=>?_⟩
  obtain⟨k1,cells,t',fz,k2,k3,k4⟩:=g2 cZ
  refine⟨?_,cells,t',fz,k2,k3,λJ8=>?_⟩
  ·rcases k1 with k1|k1|k1
   ·exact .inl ⟨.inl k1,_,k2,rfl⟩
   ·exact .inr (.inl k1)
   ·exact .inl ⟨.inr k1,_,k2,rfl⟩
  ·obtain⟨hZ,nL,o5,qK,w3,ov⟩:=k4 J8
   exact⟨hZ,nL,o5,qK,w3,.inl ⟨ov,_,k2,rfl⟩⟩
theorem Sub.narrow {w0:dX} {ρ:Env} {m:Nat->Nat} {bl:List aG} {w:aE} (h:Mem w0 ρ m bl w) (ds:List Df):Sub (narrow w0 w ds) w0:=
 ⟨rfl,h.iZ,h.kA,h.j7,h.gj,λg hg=>by
  rcases hg with hg|hg
  ·exact hg.1
  ·exact .inr (lg h.gj hg),λ_ h=>h,λi hi hx=>h.iO i hi hx⟩
theorem Sub.vJ {w0:dX} {b r r':aE} {ex ro:Nat->Prop} {ds DM:List Df} (s:Sub ⟨b,r,ex,ro,ds⟩ w0) (l:Nat) (hl:w0.r.heap.size<=l) (hr:r'.os=r.os/\r'.tape=r.tape/\r'.output=r.output/\r'.heap.size=r.heap.size)
 (h1:∀k,k≠l->r'.heap[k]?=r.heap[k]?):Sub ⟨b,r',ex,ro,DM⟩ w0:=
 ⟨s.b,hr.1.trans s.os,hr.2.1.trans s.tape,hr.2.2.1.trans s.out,by have:=s.size;simp only at this⊢;omega,λg hg=>s.ex g (hg.imp id λh=>by simp only at h⊢;omega),s.ro,λi hi hx=>by
  rw[h1 i (by omega)];exact s.iO i hi hx⟩
theorem Mem.ds {b r:aE} {ex ro:Nat->Prop} {ds DM:List Df} {ρ:Env} {m:Nat->Nat} {bl:List aG} {w:aE} (h:Mem ⟨b,r,ex,ro,ds⟩ ρ m bl w):Mem ⟨b,r,ex,ro,DM⟩ ρ m bl w:=
 ⟨h.ext,h.iZ,h.kA,h.j7,h.gj,h.iO,h.fe,h.rws,h.inj⟩
theorem hk.ds {b r:aE} {ex ro:Nat->Prop} {ds DM:List Df} (h:hk S P gl ⟨b,r,ex,ro,ds⟩ cal):hk S P gl ⟨b,r,ex,ro,DM⟩ cal:=λf g hf L n ρ m bl vs xs h1 h2 h3 h4=>by
 obtain⟨w,hw⟩:=h2
 exactλG FJ ae=>by
  obtain⟨aa,n',v,k1,k2,⟨k3,val,k4,sc⟩,w4⟩:=h f g hf L n ρ m bl vs xs h1 ⟨w,hw.ds⟩ h3 h4 G FJ ae
  exact⟨aa,n',v,k1,k2,⟨k3,val,k4,λw hw=>sc w hw.ds⟩,w4⟩
noncomputable def ZJ (P:bQ) (gl:eI) (cal:eW) (inl:kt) (li:Nat->Option fH) (rounds:Nat) (cells:List (Nat×Nat×Int×Int)) (yv:dn) (g:Operand) (jM:Array Tmp) (assign body:Code) (n:Nat) (tm:List V) (bl:List aG) (k:gR):T:=
 match cd tm g,jM.toList,hb cells 0 (n+1) bl with
 | .qz f [.ptr bs 0,.ptr r4 0],[p],some (eN,l2,b4)=>match bl[bs]?,bl[r4]?,eN[bs]?,eN[r4]? with
  |some ([.sl b bq o ro len cap],_),some ([.int .i64 N],_),some ([xs],_),some ([Mb],_)=>match N.l.ed with
   |some c=>cond (aK f yv&&decide (0<c)&&decide (c<=9223372036854775807)&&aK bq 1&&m6 assign&&m6 body&&nE tm tm&&nD eN eN&&A.beq xs (.sl b bq o ro len cap)&&A.beq Mb (.int .i64 N)&&b7 [xs]&&b7 [Mb])
    (.qy 70 [len,.const c] (.loop n (l2++[.const 0]) (n+1) (b4++[(0,9223372036854775807)])
      (.r6 (.lt ((I.var (n+1+l2.length)).smul c) len)
        (nB P gl cal inl li rounds assign (n+1+l2.length+1) (ui tm p (.w (.one (.sl b 1 o (ro.add ((I.var (n+1+l2.length)).smul c)) (.const c) (.const c))))) eN λx n' cr bj=>match x with
          | .normal=>nB P gl cal inl li rounds body n' cr bj λx n' cr bj=>match x with
           | .normal=>match hb cells 0 (n+1) (bj.take bl.length)with
            |some (pR,v2,_)=>cond (nD eN pR) (.again n (v2++[(I.var (n+1+l2.length)).add (.const 1)])) .stuck
            |none=> .stuck
           |_=> .stuck
          |_=> .stuck)
        (k (n+1+l2.length+1) tm eN)))) .stuck
   |none=> .stuck
  |_,_,_,_=> .stuck
 |_,_,_=> .stuck
theorem ahg {fR:List Nat}:∀(tm:List V) (i s:Nat),(∀j,i<=j->j<i+tm.length->fR.any (aK j)=true)->hs fR [] i s tm=some (tm,[],[])
 |[],_,_,_=>rfl
 |v::r,i,s,h=>by
  unfold hs
  rw[h i (bL _) (by simp),ahg r (i+1) s λj h1 h2=>h j (by omega) (by simp only[jd];omega)]
  rfl
theorem ah0 (tm:List V) (s:Nat):hs (fk tm.length) [] 0 s tm=some (tm,[],[]):=
 ahg tm 0 s λj _ h=>List.any_eq_true.2 ⟨j,List.mem_range.2 (by omega),FB j⟩
theorem yX (w:aE) (l:Nat) (o:Obj):(w.putObj l o).os=w.os/\(w.putObj l o).tape=w.tape/\(w.putObj l o).output=w.output/\(w.putObj l o).heap.size=w.heap.size:=⟨rfl,rfl,rfl,abR⟩
theorem Mem.aeX {w0:dX} {ρ:Env} {m:Nat->Nat} {bl:List aG} {w:aE} (h:Mem w0 ρ m bl w) {i:Nat} {x:A} {t:bh×Bool} (hi:bl[i]?=some ([x],t)) (ax:b7 [x]=true):w.cell? ⟨m i,0,none⟩=some (x.den ρ m):=by
 obtain⟨_,_,r,_,h3⟩:=h.fe i _ t hi ax
 simp[lH,h3]
def To (ks:List Int->Prop) (w0:dX) (iK:aE) (n:Nat) (ρ:Env) (m:Nat->Nat) (tm:List V) (eN:List aG) (b4:List (Int×Int)) (k2:Nat) (tmps:Array aP) (i:Nat) (W:aE):Prop:=
 ∃zs,zs.length=k2/\ag (b4++[(0,9223372036854775807)]) (zs++[(i:Int)])/\ks (zs++[(i:Int)])/\R (narrow w0 iK []) (n+1+k2+1) (bI ρ (n+1) (zs++[(i:Int)])) m tm eN {tmps:=tmps,defers:=[]} W
theorem azL {w0:dX} {inl:kt} {li:Nat->Option fH} {rounds:Nat} {cells:List (Nat×Nat×Int×Int)} {yv:dn} {g:Operand} {jM:Array Tmp} {assign body:Code} (ml:Tr P yv) (hm:P.follows .mixedOrders=true)
 (cU:∀r ex ro,hk S P gl ⟨w0.b,r,ex,ro,[]⟩ cal) (hg:eX gl w0) (ln:∀r ex ro,oO S L ⟨w0.b,r,ex,ro,[]⟩ P inl)
 {n:Nat} {ρ:Env} {m:Nat->Nat} {tm:List V} {bl:List aG} {a:Act} {w:aE} {G:ev} {k:gR} {Q:Exit->Act->aE->Prop} (h:R w0 n ρ m tm bl a w) (pU:w0.ds=[])
 (ae:(ZJ P gl cal inl li rounds cells yv g jM assign body n tm bl k).holds S L G ρ)
 (ab:∀n' aa cr bj ee dZ D dr w',en n bl.length ρ m n' (np bj) aa m->eM n G ee->Sub dZ w0->¬dZ.ex D->dZ.r.heap[D]?=some (.deferred (some []))->w0.r.heap.size<=D->w0.b.heap.size<=D->dZ.ds=[{target:= .collected D,args:=#[]}]->
   R dZ n' aa m cr bj dr w'->(k n' cr bj).holds S L ee aa->Q .normal dr w'):(Code.rangeFunc g jM assign body).wpIn FI 0 P Q a w:=by
 unfold ZJ at ae
 split at ae
 rotate_left
 ·exact ae.elim
 rename_i f bs r4 p eN l2 b4 aw aF cb
 split at ae
 rotate_left
 ·exact ae.elim
 rename_i b bq o ro len cap ts N aJB xs qU Mb aJI bb b0 cv dK
 split at ae
 rotate_left
 ·exact ae.elim
 rename_i c hc
 generalize jJ:(aK f yv&&decide (0<c)&&decide (c<=9223372036854775807)&&aK bq 1&&m6 assign&&m6 body&&nE tm tm&&nD eN eN&&A.beq xs (.sl b bq o ro len cap)&&A.beq Mb (.int .i64 N)&&b7 [xs]&&b7 [Mb])=db at ae
 cases db with
 |false=>exact ae.elim
 |true=>
 simp only[bo,decide_eq_true_eq]at jJ
 obtain⟨⟨⟨⟨⟨⟨⟨⟨⟨⟨⟨c1,bH⟩,cp⟩,cR⟩,eO⟩,gI⟩,nz⟩,mX⟩,qx⟩,r8⟩,yi⟩,BM⟩:=jJ
 have c1:=bO c1
 have cR:=bO cR
 subst c1;subst cR
 have qx:=A.beq_eq qx
 have r8:=A.beq_eq r8
 subst qx;subst r8
 simp only[cond_true,T.holds]at ae
 obtain⟨GP,ks,mR,Wc,cY⟩:=ae
 have GP:c∣len.den ρ:=by simpa [au,Jw,I.bg]using GP
 have W7:A.ok n bl.length ρ (.sl b 1 o ro len cap):=h.b _ (eD bb) _ (by simp)
 obtain⟨Kh,⟨ri,qF,aha,aIB⟩,vh⟩:=W7
 obtain⟨⟨s1,s2,bP,c4⟩,⟨fV,gM⟩,iI,jN⟩:=vh
 have asG:a.eval g= .func (.func f) #[] #[.pointer (some ⟨m bs,0,none⟩),.pointer (some ⟨m r4,0,none⟩)]:=by
  have:=(cy h.t g).2
  rw[aw]at this
  exact this
 have atl:jM=#[p]:=by rw[<-Array.toArray_toList (xs:=jM),aF]
 subst atl
 refine wpIn_rangeFunc ?_
 intro fn Cu
 obtain⟨rec,Ey⟩:∃rec:LoopState->Option Code->Loop,rec=λst CU=>{state:=st,pending:=CU,fn,tmps:=a.tmps,params:=#[p],assign,body,defers:=w.heap.size}:=⟨_,rfl⟩
 obtain⟨iK,OU⟩:∃iK,(w.alloc (.deferred (some []))).alloc (.loop (rec .ready none))=iK:=⟨_,rfl⟩
 have u9:iK.heap[w.heap.size+1]?=some (.loop (rec .ready none)):=by
  rw[<-OU];have:=aE0 (w.alloc (.deferred (some []))) (.loop (rec .ready none));rwa [World.size_alloc]at this
 have Wd:iK.heap[w.heap.size]?=some (.deferred (some [])):=by
  rw[<-OU];exact(Below.heap_alloc _ _ _ (by simp)).trans (aE0 w _)
 have Ae:w.heap.size+1<iK.heap.size:=(Array.getElem?_eq_some_iff.1 u9).1
 have agb:Mem w0 ρ m bl iK:=by rw[<-OU];exact h.bB.grow (((qc w).alloc _).alloc _)
 have aQ:w0.b.heap.size<=w.heap.size:=h.bB.ext.size
 have Pj:w0.r.heap.size<=w.heap.size:=h.bB.gj
 generalize hl:w.heap.size+1=l at*
 generalize oe:w.heap.size=D at*
 have Em:∀(k:Nat) (o:Obj),iK.heap[k]?=some o->o.isCells=false->¬(narrow w0 iK []).ex k:=λk o ab ax ⟨_,cu,h1,h2⟩=>by
  rw[ab]at h1;cases h1;rw[ax]at h2;cases h2
 have anh:R (narrow w0 iK []) n ρ m tm bl {tmps:=a.tmps,defers:=[]} iK:=⟨h.t,rfl,h.b,agb.narrow []⟩
 have Po:∀v∈tm,V.ok n bl.length ρ v:=λv hv=>by
  obtain⟨i,hi⟩:=List.getElem?_of_mem hv
  exact(h.t.2 i v hi).1
 have Vm:hb cells 0 (n+1+([]:List I).length) bl=some (eN,l2,b4):=cb
 obtain⟨WY,aIx⟩:=Kf cb
 have head:∀{n':Nat} {aa:Env} {m':Nat->Nat} {bj pR:List aG} {v2:List I} {wA:List (Int×Int)} {W:aE} {x:I},bl.length<=bj.length->agree n ρ aa->(∀b,b<bl.length->m' b=m b)->
  R (narrow w0 iK []) n' aa m' tm bj {tmps:=a.tmps,defers:=[]} W->hb cells 0 (n+1) (bj.take bl.length)=some (pR,v2,wA)->nD eN pR=true->
  v2.length=l2.length/\ag b4 (v2.map (·.den aa))/\R (narrow w0 iK []) (n+1+l2.length+1) (bI ρ (n+1) (v2.map (·.den aa)++[x.den aa])) m tm eN {tmps:=a.tmps,defers:=[]} W:=λ{n' aa m' bj pR v2 wA W x} k1 k2 k3 k4 sc w4=>by
  obtain⟨hZ,nL,o5,_⟩:=agJ (li:={fR:=fk tm.length,ints:=[],cells:=cells}) (ext:=[x]) k1 k2 k3 Po h.b k4 (ah0 tm (n+1)) Vm (ah0 tm (n+1)) (v2:=v2) sc nz w4
  simp only[n0,uC,mM,e2,jd,iy,cQ,e3]at hZ nL o5
  exact⟨hZ,nL,o5⟩
 obtain⟨i0,i1,i2⟩:=head (x:= .const 0) (bL _) (agree.refl n ρ) (λ_ _=>rfl) anh (by rw[abw];exact cb) mX
 have arD:To ks w0 iK n ρ m tm eN b4 l2.length a.tmps 0 iK:=by
  refine⟨l2.map (·.den ρ),by simp,nK i1 ⟨by simp,by simp,trivial⟩,?_,by simpa [I.bg]using i2⟩
  simpa [I.bg]using Wc
 have still:∀{i:Nat} {W:aE} {k:Nat} {o:Obj},To ks w0 iK n ρ m tm eN b4 l2.length a.tmps i W->iK.heap[k]?=some o->o.isCells=false->W.heap[k]?=some o:=λ{i W k o} hJ ab ax=>by
  obtain⟨zs,aD,z2,z3,z4⟩:=hJ
  exact(z4.bB.iO k (Array.getElem?_eq_some_iff.1 ab).1 (Em k o ab ax)).trans ab
 obtain⟨C,hK⟩:∃C:Nat,(C:Int)=c:=⟨c.toNat,Mn (by omega)⟩
 obtain⟨pz,Wh⟩:∃pz:Nat,(pz:Int)=len.den ρ:=⟨(len.den ρ).toNat,Mn (by omega)⟩
 have WC:C∣pz:=by rw[<-hK,<-Wh]at GP;exact Int.natCast_dvd_natCast.1 GP
 have ase:pz<=(cap.den ρ).toNat:=by
  by_cases h0:cap.den ρ<0
  ·have:=iI h0;omega
  ·have:=jN (by omega);omega
 have Pq:∀{i:Nat} {zs:List Int},zs.length=l2.length->bI ρ (n+1) (zs++[(i:Int)]) (n+1+l2.length)=i:=λ{i zs} hz=>by
  rw[Iu _ _ _ _ (by simp[hz]),<-hz];simp
 have gY:∀{i:Nat} {zs:List Int},agree n ρ (bI ρ (n+1) (zs++[(i:Int)])):=λ{i zs}=>(agree.bI _ (n+1) ρ).mono (by omega)
 have main:=ml.2 l (m bs) (m r4) ((A.sl b 1 o ro len cap).den ρ m) (m b) ((o.den ρ).toNat+(ro.den ρ).toNat) pz (cap.den ρ).toNat C (To ks w0 iK n ρ m tm eN b4 l2.length a.tmps) iK (by omega) (by omega) WC ase (by omega)
  (by
    simp only[A.den]
    by_cases h0:cap.den ρ<0
    ·rw[if_pos h0];have:=iI h0;exact .inr ⟨rfl,by omega⟩
    ·rw[if_neg h0];refine .inl ?_;rw[show(len.den ρ).toNat=pz by omega,zw])
  (λi W hJ=>by
    obtain⟨zs,aD,z2,z3,z4⟩:=hJ
    have an:=z4.bB.aeX cv yi
    have ak:=z4.bB.aeX dK BM
    have W7:A.ok n bl.length ρ (.sl b 1 o ro len cap):=h.b _ (eD bb) _ (by simp)
    have atc:A.ok n bl.length ρ (.int .i64 N):=h.b _ (eD b0) _ (by simp)
    rw[A.lR W7 gY (λ_ _=>rfl)]at an
    rw[A.lR atc gY (λ_ _=>rfl)]at ak
    refine⟨an,ak.trans ?_⟩
    simp only[A.den,I.jI hc,hK])
  (λi W hJ=>by
    obtain⟨zs,aD,z2,z3,z4⟩:=hJ
    exact⟨zs,aD,z2,z3,z4.t,z4.d,z4.b,z4.bB.grow (Su (qc W))⟩)
  ?_ arD
 ·refine⟨l,[{target:= .collected D,args:=#[]}],iK,{target:= .fn (.func f) #[.pointer (some ⟨m bs,0,none⟩),.pointer (some ⟨m r4,0,none⟩)],args:=#[.func (.yield l) #[] #[]]},iK,f,
   #[.func (.yield l) #[] #[],.pointer (some ⟨m bs,0,none⟩),.pointer (some ⟨m r4,0,none⟩)],iK,?_,?_,λqB agN=>trivial,?_,λhs=>by simp[FI]at hs,?_⟩
  ·rw[<-OU,Ey,<-hl,<-oe];exact run_enterLoop_outer _ _ _ _ _
  ·simp only[resolve,asG]
   simp[go_sem]
  ·simp[invoke,go_sem,ml.1]
  ·refine main.mono ?_
   rintro e ano ⟨⟨v,rfl⟩,hJ⟩
   have O8:=still hJ u9 rfl
   have aIv:=still hJ Wd rfl
   obtain⟨zs,aD,z2,z3,z4⟩:=hJ
   have wO:=(lL cY z2 z3).2
   have KC:len.den (bI ρ (n+1) (zs++[((pz/C:Nat):Int)]))=pz:=by rw[I.bX gY aha,Wh]
   have aj:C*(pz/C)=pz:=Nat.mul_div_cancel' WC
   have wQ:bw.den (bI ρ (n+1) (zs++[((pz/C:Nat):Int)])) (.lt ((I.var (n+1+l2.length)).smul c) len)=false:=by
    simp only[bw.den,I.kM,I.cE,Pq aD,KC,decide_eq_false_iff_not]
    rw[<-hK]
    have:(C:Int)*((pz/C:Nat):Int)=(pz:Int):=by exact_mod_cast aj
    omega
   have wO:=wO wQ
   refine⟨none,_,by have:=run_endLoop (P:=P) O8 (by rw[Ey];simp);rw[Ey]at this;exact this,?_⟩
   simp only
   obtain⟨Ts,arC⟩:∃o,o=Obj.loop {({state:= .ready,pending:=none,fn,tmps:=a.tmps,params:=#[p],assign,body,defers:=D}:Loop)with state:= .exhausted}:=⟨_,rfl⟩
   rw[<-arC]
   have anc:Mem ⟨w0.b,iK.putObj l Ts,(narrow w0 iK []).ex,w0.ro,[{target:= .collected D,args:=#[]}]⟩ (bI ρ (n+1) (zs++[((pz/C:Nat):Int)])) m eN (ano.putObj l Ts):=
    Mem.vJ z4.bB l (by omega) (Em l _ u9 rfl) Ae (yX _ _ _) (yX _ _ _) (λk ab=>xZ ab) (λk ab=>xZ ab) (by rw[Bt (Array.getElem?_eq_some_iff.1 O8).1,Bt Ae]) (λo ax=>by rw[u9]at ax;cases ax;rfl)
   refine ab _ _ _ _ _ ⟨w0.b,iK.putObj l Ts,(narrow w0 iK []).ex,w0.ro,[{target:= .collected D,args:=#[]}]⟩ D _ _ ⟨by omega,gY,by omega,λ_ _=>rfl⟩ (λl' Cv=>?_) (Sub.vJ (Sub.narrow agb []) l (by omega) (yX _ _ _) (λk ab=>xZ ab)) (Em D _ Wd rfl) ((xZ (by omega)).trans Wd) Pj aQ rfl ⟨z4.t,?_,z4.b,anc⟩ wO
   ·unfold ev.set
    cases hb:aK l' n with
    |true=>have:=bO hb;omega
    |false=>rfl
   ·show _++a.defers=_
    rw[h.d,pU];rfl
 ·
  intro i W hJ hlt
  have O8:=still hJ u9 rfl
  obtain⟨zs,aD,z2,z3,z4⟩:=hJ
  have wO:=(lL cY z2 z3).1
  have KC:len.den (bI ρ (n+1) (zs++[(i:Int)]))=pz:=by rw[I.bX gY aha,Wh]
  have wQ:bw.den (bI ρ (n+1) (zs++[(i:Int)])) (.lt ((I.var (n+1+l2.length)).smul c) len)=true:=by
   simp only[bw.den,I.kM,I.cE,Pq aD,KC,decide_eq_true_eq]
   rw[<-hK];exact_mod_cast hlt
  have wO:=wO wQ
  have lU:C*i+C<=pz:=by
   obtain⟨q,rfl⟩:=WC
   have:i<q:=Nat.lt_of_mul_lt_mul_left hlt
   have:C*(i+1)<=C*q:=SA C this
   rw[Nat.mul_succ]at this
   omega
  have aIm:¬cap.den ρ<0:=λh0=>by have:=iI h0;omega
  have Kj:=jN (by omega)
  have hid:(ro.add ((I.var (n+1+l2.length)).smul c)).den (bI ρ (n+1) (zs++[(i:Int)]))=ro.den ρ+(C*i:Nat):=by
   rw[I.den_add,I.kM,I.cE,Pq aD,I.bX gY qF,<-hK];simp
  have ahb:o.den (bI ρ (n+1) (zs++[(i:Int)]))=o.den ρ:=I.bX gY ri
  have atV:(V.w (.one (.sl b 1 o (ro.add ((I.var (n+1+l2.length)).smul c)) (.const c) (.const c)))).ok (n+1+l2.length+1) eN.length (bI ρ (n+1) (zs++[(i:Int)])):=by
   refine⟨by omega,⟨ri.mono (by omega),I.vG (qF.mono (by omega)) (I.ug (I.fg (by omega))),I.c5 _ _,I.c5 _ _⟩,?_⟩
   rw[hid,ahb,I.bg]
   exact⟨⟨s1,by omega,by omega,by omega⟩,⟨by omega,by omega⟩,λh=>by omega,λ_=>cL _⟩
  have atX:(V.w (.one (.sl b 1 o (ro.add ((I.var (n+1+l2.length)).smul c)) (.const c) (.const c)))).rel (bI ρ (n+1) (zs++[(i:Int)])) m (.slice (some ⟨m b,(o.den ρ).toNat+(ro.den ρ).toNat+C*i,none⟩) C C):=by
   simp only[V.rel,b6.W.den,A.den,hid,ahb,I.bg,zw]
   rw[if_neg (by omega),show c.toNat=C by omega,show(ro.den ρ+(C*i:Nat)).toNat=(ro.den ρ).toNat+C*i by omega,Nat.add_assoc]
  have agf:R (narrow w0 iK []) (n+1+l2.length+1) (bI ρ (n+1) (zs++[(i:Int)])) m (ui tm p (.w (.one (.sl b 1 o (ro.add ((I.var (n+1+l2.length)).smul c)) (.const c) (.const c))))) eN
   (({tmps:=a.tmps,defers:=[]}:Act).put (some p) (.slice (some ⟨m b,(o.den ρ).toNat+(ro.den ρ).toNat+C*i,none⟩) C C)) W:=
   ⟨ef.put z4.t (some p) atV atX,z4.d,z4.b,z4.bB⟩
  have hy:=run_yield (P:=P) (args:=#[.slice (some ⟨m b,(o.den ρ).toNat+(ro.den ρ).toNat+C*i,none⟩) C C]) O8 (by rw[Ey];rfl)
  rw[Ey]at hy
  have apI:(({tmps:=a.tmps,defers:=[]}:Act).put (some p) (.slice (some ⟨m b,(o.den ρ).toNat+(ro.den ρ).toNat+C*i,none⟩) C C))={tmps:=((#[p]:Array Tmp).zip #[MA (some ⟨m b,(o.den ρ).toNat+(ro.den ρ).toNat+C*i,none⟩) C C]).foldl (λtmps (t,a)=>tmps.setIfInBounds t a) a.tmps,defers:=[]}:=by
   simp[Act.put]
  rw[apI]at agf
  refine⟨fn,_,assign,body,hy,roundIn_of_wpIn trivial ?_⟩
  refine Gg (rd:=some l) hm (cU _ _ _) (λg cs h=>hg g cs h) (ln _ _ _) assign (.inr eO) _ _ _ _ _ _ _ _ W _ agf wO λx aT aJ gB Rq q4 G1 bZ dZ g1 g2 g3 g4=>?_
  cases x with
  |exit id=>exact g4.elim
  |ret=>exact g4.elim
  |normal=>
   simp only at g4
   have ag1:dZ.heap[l]?=some (.loop (rec .ready none)):=(g3.bB.iO l Ae (Em l _ u9 rfl)).trans u9
   obtain⟨Dh,Wa⟩:∃o,o=Obj.loop {rec .ready none with state:= .busy}:=⟨_,rfl⟩
   have arA:Dh.isCells=false:=by rw[Wa];rfl
   have M2:Mem ⟨w0.b,iK.putObj l Dh,(narrow w0 iK []).ex,w0.ro,[]⟩ aJ gB q4 (dZ.putObj l Dh):=
    Mem.vJ g3.bB l (by omega) (Em l _ u9 rfl) Ae (yX _ _ _) (yX _ _ _) (λk ab=>xZ ab) (λk ab=>xZ ab) (by rw[Bt (Array.getElem?_eq_some_iff.1 ag1).1,Bt Ae]) (λo ax=>by rw[u9]at ax;cases ax;rfl)
   refine⟨dZ.putObj l Dh,by rw[Wa];exact run_beginRound ag1 (by rw[Ey]),?_⟩
   refine Gg (rd:=some l) hm (cU _ _ _) (λg cs h=>hg g cs h) (ln _ _ _) body (.inr gI) aT Rq q4 _ G1 aJ gB bZ _ _ (⟨g3.t,g3.d,g3.b,M2⟩:R ⟨w0.b,iK.putObj l Dh,(narrow w0 iK []).ex,w0.ro,[]⟩ aT aJ gB Rq q4 bZ (dZ.putObj l Dh)) g4 λx eF bR eQ aBM pQ MP a2 nV k1 k2 k3 k4=>?_
   cases x with
   |exit id=>exact k4.elim
   |ret=>exact k4.elim
   |normal=>
    simp only at k4
    split at k4
    rotate_left
    ·exact k4.elim
    rename_i pR v2 wA gX
    cases hf:nD eN pR with
    |false=>rw[hf]at k4;exact k4.elim
    |true=>
    rw[hf]at k4
    simp only[cond_true,T.holds]at k4
    have O6:nV.heap[l]?=some Dh:=(k3.bB.iO l (by rw[abR];exact Ae) (Em l _ u9 rfl)).trans (Bt Ae)
    have asW:=(Array.getElem?_eq_some_iff.1 O6).1
    rw[Wa]at O6
    refine⟨_,_,run_endRound none O6,rfl,?_⟩
    have att:({{rec .ready none with state:= .busy}with state:=if(none:Option Code).isNone then .ready else .done,pending:=none}:Loop)=rec .ready none:=by rw[Ey];rfl
    rw[att]
    have anb:Mem (narrow w0 iK []) bR eQ pQ (nV.putObj l (.loop (rec .ready none))):=
     Mem.vJ k3.bB l (by omega) (Em l _ u9 rfl) (by rw[abR];exact Ae) ⟨rfl,rfl,rfl,World.putObj_size.symm⟩ (yX _ _ _) (λk ab=>(xZ ab).symm) (λk ab=>xZ ab) (by rw[Bt asW,u9]) (λo ax=>by rw[Bt Ae]at ax;cases ax;exact arA)
    have We:en n bl.length ρ m (n+1+l2.length+1) eN.length (bI ρ (n+1) (zs++[(i:Int)])) m:=⟨by omega,gY,by omega,λ_ _=>rfl⟩
    have Ee:=(We.trans g1).trans k1
    have ani:R (narrow w0 iK []) eF bR eQ tm pQ {tmps:=a.tmps,defers:=[]} (nV.putObj l (.loop (rec .ready none))):=⟨h.t.ext Ee.ha Ee.hn Ee.hb Ee.hm,rfl,k3.b,anb⟩
    obtain⟨nU,p7,zb⟩:=head (x:=(I.var (n+1+l2.length)).add (.const 1)) Ee.hb Ee.ha Ee.hm ani gX hf
    have aht:bR (n+1+l2.length)=i:=by rw[(g1.trans k1).ha _ (by omega),Pq aD]
    have hx:((I.var (n+1+l2.length)).add (.const 1)).den bR=((i+1:Nat):Int):=by rw[I.den_add,I.cE,I.bg,aht];simp
    rw[hx]at zb
    have Wb:MP n=λvs=>ks vs/\mR vs<mR (zs++[(i:Int)]):=by
     rw[k2 n (by have:=g1.hn;omega),g2 n (by omega)]
     unfold ev.set
     rw[show aK n n=true from FB n];rfl
    rw[Wb,iy,cQ,e3,hx]at k4
    have:i+1<=pz:=by
     have:=Nat.mul_le_mul_right i (show 1<=C by omega)
     omega
    exact⟨v2.map (·.den bR),by simp[nU],nK p7 ⟨by omega,by omega,trivial⟩,k4.1,zb⟩
noncomputable def No (P:bQ) (gl:eI) (cal:eW) (inl:kt) (li:dn->Nat->Option fH) (rounds:Nat) (cells:List (Nat×Nat×Int×Int)) (yv:dn):kt:=
 λf n vs bl k=>match P.funcs[f]? with
  |none=> .stuck
  |some fn=>match fn.body with
   |some (.seq eh (.seq (.seq c1 (.block _ (.rangeFunc g jM assign body))) cp))=>cond (!(fn.name== "runtime.NumGoroutine")&&cx vs.length fn.ntmps)
    (nB P gl cal inl (li f) rounds eh n (vs++H3 (fn.ntmps-vs.length)) bl λx n tm bl=>match x with
      | .normal=>nB P gl cal inl (li f) rounds c1 n tm bl λx n tm bl=>match x with
       | .normal=>ZJ P gl cal inl (li f) rounds cells yv g jM assign body n tm bl λn tm bl=>
        nB P gl cal (λ_ _ _ _ _=> .stuck) (li f) rounds cp n tm bl λx n tm bl=>match x with
         | .exit _=> .stuck
         |_=>LV P gl fn n tm bl k
       |_=> .stuck
      |_=> .stuck) .stuck
   |_=> .stuck
theorem auN {w0:dX}:oO S L w0 P (λ_ _ _ _ _=> .stuck):=λf n vs bl k G ρ m w xs R' _ _ _ _ ae _=>ae.elim
theorem aoe {w0:dX} {inl:kt} {li:dn->Nat->Option fH} {rounds:Nat} {cells:List (Nat×Nat×Int×Int)} {yv:dn} (ml:Tr P yv) (hm:P.follows .mixedOrders=true)
 (cU:∀r ex ro,hk S P gl ⟨w0.b,r,ex,ro,[]⟩ cal) (hg:eX gl w0) (ln:∀r ex ro,oO S L ⟨w0.b,r,ex,ro,[]⟩ P inl) (pU:w0.ds=[]):oO S L w0 P (No P gl cal inl li rounds cells yv):=by
 have aho:w0=⟨w0.b,w0.r,w0.ex,w0.ro,[]⟩:=by cases w0;simp at pU;subst pU;rfl
 have agA:hk S P gl w0 cal:=by rw[aho];exact cU _ _ _
 have agT:oO S L w0 P inl:=by rw[aho];exact ln _ _ _
 intro f n vs bl k G ρ m w xs R' hb kQ jW hrel ae ab
 unfold No at ae
 cases hf:P.funcs[f]? with
 |none=>simp[hf,T.holds]at ae
 |some fn=>
  simp only[hf]at ae
  split at ae
  rotate_left
  ·exact ae.elim
  rename_i eh c1 id g jM assign body cp z1
  cases hc:(!(fn.name== "runtime.NumGoroutine")&&cx vs.length fn.ntmps)with
  |false=>simp[hc,T.holds]at ae
  |true=>
   simp only[hc,cond_true]at ae
   simp only[bo,fF]at hc
   have hlen:=TP hrel
   refine⟨?_,?_⟩
   ·have h1:¬fn.name= "runtime.NumGoroutine" :=by have:=hc.1;simpa using this
    simp[callFunc,hf,z1,h1]
   ·refine(callsIn_wide (n:=0)).1 (callsIn_of_wp_marks hf z1 trivial ?_ rfl)
    have hR:R w0 n ρ m (vs++H3 (fn.ntmps-vs.length)) bl {tmps:=xs.toArray++zx (fn.ntmps-xs.toArray.size) undef,defers:=[]} w:=by
     refine⟨?_,pU.symm,hb,kQ⟩
     have:=M4 (TN (fn.ntmps-vs.length) jW hrel)
     have e:(xs++eH (fn.ntmps-vs.length) undef).toArray=xs.toArray++zx (fn.ntmps-xs.toArray.size) undef:=by
      simp[hlen]
     rw[e]at this
     exact this
    refine wpIn_seq (Gg (rd:=none) hm agA hg agT eh (.inl rfl) n _ bl _ G ρ m _ w _ hR ae λx aT aJ gB Rq q4 G1 bZ dZ h1 h2 h3 h4=>?_)
    cases x with
    |exit id=>exact h4.elim
    |ret=>exact h4.elim
    |normal=>
    refine wpIn_seq (wpIn_seq (Gg (rd:=none) hm agA hg agT c1 (.inl rfl) aT Rq q4 _ G1 aJ gB bZ dZ _ h3 h4 λx eF bR eQ aBM pQ MP a2 nV k1 k2 k3 k4=>?_))
    cases x with
    |exit id=>exact k4.elim
    |ret=>exact k4.elim
    |normal=>
    refine wpIn_block (azL ml hm cU hg ln k3 pU k4 λru hj aBN aoc Tv c7 D a3 rE cm cl c3 e0 fb gm m7 HG ajC ajB=>?_)
    have asc:hk S P gl c7 cal:=by
     have e:c7=⟨w0.b,c7.r,c7.ex,c7.ro,c7.ds⟩:=by have:=c3.b;cases c7;simp at this;subst this;rfl
     rw[e];exact(cU _ _ _).ds
    have Ep:eX gl c7:=λg cs h=>by rw[c3.b];exact hg g cs h
    refine Gg (rd:=none) hm asc Ep auN cp (.inl rfl) ru aBN aoc _ Tv hj eQ a3 rE _ ajC ajB λx Lg MN yO akT Jn MQ a4 b1 bb b0 cv dK=>?_
    have oe:b1.heap[D]?=some (.deferred (some [])):=(cv.bB.iO D (Array.getElem?_eq_some_iff.1 fb).1 e0).trans fb
    have asX:=(Array.getElem?_eq_some_iff.1 oe).1
    have ane:Mem ⟨c7.b,c7.r.putObj D (.deferred none),c7.ex,c7.ro,[]⟩ MN yO Jn (b1.putObj D (.deferred none)):=by
     have e:c7=⟨c7.b,c7.r,c7.ex,c7.ro,c7.ds⟩:=rfl
     refine Mem.vJ (e▸cv.bB) D (by rw[c3.b];exact m7) e0 (Array.getElem?_eq_some_iff.1 fb).1 (yX _ _ _) (yX _ _ _) (λk ab=>xZ ab) (λk ab=>xZ ab) (by rw[Bt asX,Bt (Array.getElem?_eq_some_iff.1 fb).1]) (λo ax=>by rw[fb]at ax;cases ax;rfl)
    have Dp:Sub ⟨c7.b,c7.r.putObj D (.deferred none),c7.ex,c7.ro,[]⟩ w0:=Sub.vJ (ds:=c7.ds) c3 D gm (yX _ _ _) (λk ab=>xZ ab)
    have acw:Mem w0 MN yO Jn (b1.putObj D (.deferred none)):=ane.less Dp
    have anj:R w0 Lg MN yO akT Jn {a4 with defers:=[]} (b1.putObj D (.deferred none)):=⟨cv.t,pU.symm,cv.b,acw⟩
    have fin:(LV P gl fn Lg akT Jn k).holds S L MQ MN->LeavesInM FI 0 P fn a4.tmps R' a4.defers .returning b1:=λhr=>by
     obtain⟨v,val,nU,p7,zb,Is⟩:=ZL hg anj hr
     have dB:=(((h1.trans k1).trans cm).trans bb)
     have aM:=(((h2.trans k2 h1.hn).trans cl (h1.trans k1).hn).trans b0 ((h1.trans k1).trans cm).hn)
     rw[cv.d,HG]
     exact⟨by simp,.inl ⟨D,_,rfl,run_takeDeferred oe,val,zb,ab Lg v Jn MQ MN yO _ val dB aM nU p7 cv.b acw Is⟩⟩
    cases x with
    |exit id=>exact dK.elim
    |normal=>exact fin dK
    |ret=>exact fin dK
end Go.b6
namespace Go.b6
open M
variable {S:Nat->List Int->List Int->Prop} {L:V->Env->Prop} {P:bQ} {gl:eI} {cal:eW}
structure jF where
 c:e4
 ty:bh
 nil:Bool
def CQ (p:jF) (g k:Nat):Array aP:=cond p.nil #[.slice (some ⟨g,0,none⟩) k k,.slice none 0 0] #[.slice (some ⟨g,0,none⟩) k k]
def jF.bY (P:bQ) (wb:aE) (p:jF) (spec:List Int->List Int->Prop):Prop:=
 (∀args w,(callFunc p.c.f args).run P w= .ok (.enter p.c.f args) w)/\
 ∀(F:Nat->Prop) (w:aE) (vs:List aP) (zs:List Int) (g:Nat),wb.Extends w->ag (dx p.c.args) zs->HJ p.c.pre zs->kK F (λ_=>False) w p.c.args zs vs->wb.heap.size<=g->¬F g->w.heap[g]?=some (.cells vs.toArray p.ty (0,0))->
  lG P p.c.f (CQ p g vs.length) w λe w'=>w.Extends w'/\∃rs us,ag (dx p.c.res) rs/\spec zs rs/\kK (λg=>F g∨w.heap.size<=g) (λg=>w.heap.size<=g) w' p.c.res rs us/\e= .returned (uq us)
def QO (nil:Bool) (vs:List V):Option (Nat×Nat×Nat):=
 match vs with
 |[.w (.one (.slc b 0 len cap))]=>cond nil none (some (b,len,cap))
 |[.w (.one (.slc b 0 len cap)),.w (.one (.con (.slice none 0 0)))]=>cond nil (some (b,len,cap)) none
 |_=>none
def kY (a:A):V:= .w (.one a)
noncomputable def jF.E (p:jF) (n:Nat) (vs:List V) (bl:List aG) (k:RK):T:=
 match QO p.nil vs with
 |some (b,len,cap)=>match bl[b]? with
  |some (cs,(t,false))=>cond (b7 cs&&aK len cs.length&&aK cap cs.length&&aK t p.ty&& !(((cs.map kY).flatMap n7).any (aK b))) (p.c.I5 n (cs.map kY) bl k) .stuck
  |_=> .stuck
 |none=> .stuck
theorem TQ {ρ:Env} {m:Nat->Nat}:∀(cs:List A),eJ ρ m (cs.map kY) (cs.map (A.den ρ m))
 |[]=>trivial
 |a::r=>⟨rfl,TQ r⟩
theorem ayt {p:jF} {vs:List V} {b len cap:Nat} {ρ:Env} {m:Nat->Nat} {xs:List aP} (h:QO p.nil vs=some (b,len,cap)) (hr:eJ ρ m vs xs) (KB:cap=len):xs.toArray=CQ p (m b) len:=by
 subst KB
 unfold QO at h
 split at h
 ·cases hn:p.nil with
  |true=>rw[hn]at h;cases h
  |false=>
   rw[hn]at h;cases h
   match xs,hr with
   |[x],hr=>have hx:x=_:=hr.1;rw[hx];simp[CQ,hn,W.den,A.den]
 ·cases hn:p.nil with
  |false=>rw[hn]at h;cases h
  |true=>
   rw[hn]at h;cases h
   match xs,hr with
   |[x,y],hr=>have hx:x=_:=hr.1;have hy:y=_:=hr.2.1;rw[hx,hy];simp[CQ,hn,W.den,A.den]
 ·cases h
theorem jF.I7 {w0:dX} {p:jF} {spec:List Int->List Int->Prop} (hc:p.bY P w0.b spec) (gK:∀zs rs,spec zs rs->S p.c.id zs rs) (n:Nat) (vs:List V) (bl:List aG) (k:RK) (G:ev) (ρ:Env) (m:Nat->Nat) (w:aE) (xs:List aP) (R':Ending->aE->Prop)
 (hb:cM n bl.length ρ bl) (hw:Mem w0 ρ m bl w) (hv:∀v∈vs,V.ok n bl.length ρ v) (hr:eJ ρ m vs xs) (ae:(p.E n vs bl k).holds S L G ρ) (ab:Dn S L w0 k n bl.length ρ m G R'):
 (callFunc p.c.f xs.toArray).run P w= .ok (.enter p.c.f xs.toArray) w/\lG P p.c.f xs.toArray w R':=by
 refine⟨hc.1 _ _,?_⟩
 unfold jF.E at ae
 split at ae
 rotate_left
 ·exact ae.elim
 rename_i b len cap hp
 split at ae
 rotate_left
 ·exact ae.elim
 rename_i cs t aQ
 cases jJ:(b7 cs&&aK len cs.length&&aK cap cs.length&&aK t p.ty&& !(((cs.map kY).flatMap n7).any (aK b)))with
 |false=>rw[jJ]at ae;exact ae.elim
 |true=>
 rw[jJ]at ae
 simp only[bo,fF]at jJ
 obtain⟨⟨⟨⟨c1,bH⟩,cp⟩,cR⟩,eO⟩:=jJ
 have bH:=bO bH
 have cp:=bO cp
 have cR:=bO cR
 subst cR
 rw[ayt hp hr (by omega),bH]
 obtain⟨b3,b4,r,iq,c7⟩:=hw.fe b cs _ aQ c1
 have iq:=iq rfl
 subst iq
 rw[fY]at c7
 refine e4.acm (f:=p.c.f) gK n (cs.map kY) bl k G ρ m w (cs.map (A.den ρ m)) R' (λzs h1 h2 h3=>?_) hb hw (λv hv=>?_) (TQ cs) ae ab
 ·have:=hc.2 _ w _ zs (m b) hw.ext h1 h2 h3 b3 (λhF=>?_) c7
  ·rwa [l6]at this
  ·obtain⟨⟨b',k1,k2,q,k3,k4,_⟩,_⟩:=hF
   have cW:b≠b':=λe=>by
    subst e
    rw[List.any_eq_true.2 ⟨b,k1,FB b⟩]at eO;cases eO
   rcases hw.inj b b' _ q aQ k3 k2.symm with h|h|h|h
   ·exact cW h
   ·have:=lv (ρ:=ρ) c1;simp only at h;omega
   ·have:=lv (ρ:=ρ) c1;simp only at h;omega
   ·exact k4 h
 ·obtain⟨a,ha,rfl⟩:=List.mem_map.1 hv
  exact hb _ (eD aQ) a ha
def VJ (p:jF) (vs:List V):Bool:=match QO p.nil vs with
 |some (_,len,_)=>aK len p.c.args.length
 |none=>false
noncomputable def oC:List jF->n1->n1
 |[],bc=>bc
 |p::r,bc=>λf=>cond (aK p.c.f f) (some λn vs bl k=>cond (VJ p vs) (p.E n vs bl k) (match oC r bc f with
  |some g=>g n vs bl k
  |none=> .stuck)) (oC r bc f)
theorem yW {w0:dX} {bc:n1} (lT:uE S L w0 P bc):∀{l:List jF},(∀p∈l,p.bY P w0.b (S p.c.id))->uE S L w0 P (oC l bc)
 |[],_=>lT
 |p::l,h=>λf g hf=>by
  unfold oC at hf
  cases hb:aK p.c.f f with
  |true=>
   rw[hb]at hf
   simp only[cond_true,a7]at hf
   have:=bO hb
   subst this;subst hf
   intro n vs bl k G ρ m w xs R' h1 h2 h3 h4 h5 h6
   have h5:(cond (VJ p vs) (p.E n vs bl k) (match oC l bc p.c.f with
    |some g=>g n vs bl k
    |none=> .stuck)).holds S L G ρ:=h5
   cases aj:VJ p vs with
   |true=>
    rw[aj]at h5
    exact jF.I7 (h p (by simp)) (λ_ _ h=>h) n vs bl k G ρ m w xs R' h1 h2 h3 h4 h5 h6
   |false=>
    rw[aj]at h5
    simp only[cond_false]at h5
    cases hr:oC l bc p.c.f with
    |none=>rw[hr]at h5;exact h5.elim
    |some lk=>
     rw[hr]at h5
     exact yW lT (λp hp=>h p (dU _ hp)) p.c.f lk hr n vs bl k G ρ m w xs R' h1 h2 h3 h4 h5 h6
  |false=>
   rw[hb]at hf
   exact yW lT (λp hp=>h p (dU _ hp)) f g hf
def qP:W->A
 | .one a=>a
 |_=> .con undef
noncomputable def jF.tree (bc:n1) (P:bQ) (gl:eI) (cal:eW) (li:dn->Nat->Option fH) (rounds d:Nat) (p:jF):T:=
 cond (qu p.c.args&& !(p.c.args.any cB.qJ)) (QS p.c.pre ((fk (dx p.c.args).length).map Lb) (wy p.c.args 0 (dx p.c.args).length [] [] λn us bl=>
  cond (us.all (λu=>match u with| .one _=>true|_=>false)&&b7 (us.map qP)) (Gd bc P gl cal li rounds d p.c.f n (cond p.nil [kY (.slc bl.length 0 us.length us.length),kY (.con (.slice none 0 0))] [kY (.slc bl.length 0 us.length us.length)]) (bl++[(us.map qP,(p.ty,false))]) λn' v bj=>match bj[bl.length]? with
   |some (cs,(t,false))=>cond (oQ cs (us.map qP)&&aK t p.ty) (LW (dE bj bl.length ft) p.c.res v n' λos _=> .leaf (CM os)) .stuck
   |_=> .stuck) .stuck)) .stuck
theorem Mem.more {b r:aE} {ex ex' ro:Nat->Prop} {ds:List Df} {ρ:Env} {m:Nat->Nat} {bl:List aG} {w:aE} (h:Mem ⟨b,r,ex,ro,ds⟩ ρ m bl w) (he:∀g,ex g->ex' g):Mem ⟨b,r,ex',ro,ds⟩ ρ m bl w:=
 ⟨h.ext,h.iZ,h.kA,h.j7,h.gj,λi hi hx=>h.iO i hi λmo=>hx (he i mo),λi cs t hi ax=>by
  obtain⟨h1,h2,h3⟩:=h.fe i cs t hi ax
  exact⟨h1,h2.imp (he _) id,h3⟩,λi sh off code cap kind t hi ab=>by
  obtain⟨g1,g2⟩:=h.rws i sh off code cap kind t hi ab
  refine⟨g1,λhc=>?_⟩
  obtain⟨k1,cells,t',fz,k2,k3,k4⟩:=g2 hc
  refine⟨k1.imp (he _) id,cells,t',fz,k2,k3,λh2=>?_⟩
  obtain⟨hZ,nL,o5,qK,w3,ov⟩:=k4 h2
  exact⟨hZ,nL,o5,qK,w3,ov.imp (he _) id⟩,h.inj⟩
theorem Mem.drop {b r:aE} {ro:Nat->Prop} {ρ:Env} {m:Nat->Nat} {bl:List aG} {w:aE} {g i0:Nat} {cs:List A} {t:bh} (h:Mem ⟨b,r,λi=>i=g,ro,[]⟩ ρ m bl w) (hi:bl[i0]?=some (cs,(t,false))) (ax:b7 cs=true) (hg:m i0=g) (hr:r.heap[g]?=some (.cells (cs.map (A.den ρ m)).toArray t (0,0))):
 Mem ⟨b,r,λ_=>False,ro,[]⟩ ρ m (dE bl i0 ft) w:=by
 have hlen:i0<bl.length:=(List.getElem?_eq_some_iff.1 hi).1
 have dN:∀(i:Nat) (q:aG),(dE bl i0 ft)[i]?=some q->(i=i0/\q=ft)∨(i≠i0/\bl[i]?=some q):=λi q aj=>by
  rw[kE,sI]at aj
  split at aj
  ·rename_i gZ
   subst gZ
   simp only[hlen,if_true,a7]at aj
   exact .inl ⟨rfl,aj.symm⟩
  ·rename_i gZ;exact .inr ⟨λe=>gZ e.symm,aj⟩
 have im:bJ ρ ft.1=0:=by simp[ft,bJ,I.bg]
 have kO:bJ ρ cs=2:=lv ax
 have cW:∀(i:Nat) (q:aG),i≠i0->bl[i]?=some q->bJ ρ q.1≠0->m i≠g:=λi q nG aj ab e=>by
  rcases h.inj i i0 q _ aj hi (by rw[e,hg])with h1|h1|h1|h1
  ·exact nG h1
  ·simp only at h1;omega
  ·exact ab h1
  ·simp only at h1;omega
 refine⟨h.ext,h.iZ,h.kA,h.j7,h.gj,λi iP _=>?_,λi jT t' aj jj=>?_,λi sh off code cap kind t' aj=>?_,λi j p q hp aj he=>?_⟩
 ·by_cases e:i=g
  ·subst e
   obtain⟨_,_,H7,m3,h3⟩:=h.fe i0 cs _ hi ax
   have m3:=m3 rfl
   subst m3
   rw[fY,hg]at h3
   rw[h3];exact hr.symm
  ·exact h.iO i iP e
 ·rcases dN i _ aj with⟨_,e⟩|⟨nG,aj⟩
  ·simp only[ft,ek]at e
   rw[e.1]at jj;simp[b7]at jj
  ·obtain⟨h1,h2,h3⟩:=h.fe i jT t' aj jj
   refine⟨h1,?_,h3⟩
   rcases h2 with h2|h2
   ·exact absurd h2 (cW i _ nG aj (by rw[lv jj];decide))
   ·exact .inr h2
 ·rcases dN i _ aj with⟨_,e⟩|⟨nG,aj⟩
  ·simp only[ft,ek,nZ,A.rows.injEq,and_true]at e
   intro ab
   exact absurd e.1.2.2.2.2 ab
  ·intro ab
   obtain⟨g1,g2⟩:=h.rws i sh off code cap kind t' aj ab
   refine⟨g1,λhc=>?_⟩
   have Ev:m i≠g:=cW i _ nG aj (by simp only[bJ];rw[if_neg (by omega)];exact ab)
   obtain⟨k1,cells,L8,fz,k2,k3,k4⟩:=g2 hc
   refine⟨?_,cells,L8,fz,k2,k3,λh2=>?_⟩
   ·rcases k1 with k1|k1
    ·exact absurd k1 Ev
    ·exact .inr k1
   ·obtain⟨hZ,nL,o5,qK,w3,ov⟩:=k4 h2
    refine⟨hZ,nL,o5,qK,w3,?_⟩
    rcases ov with ov|ov
    ·exact absurd ov Ev
    ·exact .inr ov
 ·rcases dN i _ hp with⟨_,e⟩|⟨nG,hp⟩
  ·subst e;exact .inr (.inr (.inl im))
  ·rcases dN j _ aj with⟨_,e⟩|⟨agX,aj⟩
   ·subst e;exact .inr (.inr (.inr im))
   ·exact h.inj i j p q hp aj he
theorem jF.Lj {wb:aE} {gl:eI} {p:jF} {bc:n1} {cal:eW} {li:dn->Nat->Option fH} {rounds d:Nat} {spec:List Int->List Int->Prop} (hm:P.follows .mixedOrders=true) (cU:∀r ex ro,hk S P gl ⟨wb,r,ex,ro,[]⟩ cal) (hg:eX gl ⟨wb,wb,λ_=>False,λ_=>False,[]⟩)
 (lT:∀(L:V->Env->Prop) (r:aE) (ex ro:Nat->Prop),uE S L ⟨wb,r,ex,ro,[]⟩ P bc) (hf:∀args w,(callFunc p.c.f args).run P w= .ok (.enter p.c.f args) w)
 (aA:ju (dx p.c.args) λzs=>(p.tree bc P gl cal li rounds d).holds S (wm λrs=>ag (dx p.c.res) rs/\spec zs rs) (λ_ _=>False) (bI (λ_=>0) 0 zs)):p.bY P wb spec:=by
 refine⟨hf,λF w vs zs g hw hz KJ hat Wv Ka hcell=>?_⟩
 have ae:=lL aA hz
 have ou:=er hz
 unfold jF.tree at ae
 cases aj:(qu p.c.args&& !(p.c.args.any cB.qJ))with
 |false=>rw[aj]at ae;exact ae.elim
 |true=>
  rw[aj]at ae
  simp only[cond_true]at ae
  have ae:=preA_holds ae (by rw[<-ou,YI];exact KJ)
  simp only[bo,fF]at aj
  have kQ:Mem ⟨wb,w,λ_=>False,F,[]⟩ (bI (λ_=>0) 0 zs) (λ_=>0) [] w:=⟨hw,rfl,rfl,rfl,bL _,λ_ _ _=>rfl,λi cs t h=>by simp at h,λi sh off code cap kind t h=>by simp at h,λi j p q h=>by simp at h⟩
  have iE:(p.c.args.all λb=> !b.qJ)=true:=by
   rw[IM]
   intro b hb
   cases hL:b.qJ with
   |false=>rfl
   |true=>rw[List.any_eq_true.2 ⟨b,hb,hL⟩]at aj;cases aj.2
  obtain⟨n',aa,m',us,bl,cm,cl,c3,e0,fb,gm⟩:=DA (S:=S) (L:=_) (w0:=⟨wb,w,λ_=>False,F,[]⟩) (F:=F) (N:=λ_=>False) (λg hg=> .inr (.inl hg)) (λg hg=>hg.elim) (l:=p.c.args) (s:=0) (us:=[]) (bl:=[]) (m:=λ_=>0) aj.1 (λp hp=>by simp at hp) kQ (je.bI _ 0 zs) hz (by omega) hat (.inr λi p h=>by simp at h) (.inl iE) (λu hu=>by simp at hu) ae
  cases vg:(us.all (λu=>match u with| .one _=>true|_=>false)&&b7 (us.map qP))with
  |false=>rw[vg]at gm;exact gm.elim
  |true=>
  rw[vg]at gm
  simp only[cond_true]at gm
  simp only[bo]at vg
  have ahm:∀u∈us,u= .one (qP u):=λu hu=>by
   have:=List.all_eq_true.1 vg.1 u hu
   cases u with
   |one a=>rfl
   |_=>simp at this
  have jW:(us.map qP).map (A.den aa m')=vs:=by
   have e:us.map (W.den aa m')=vs:=by simpa using e0
   rw[<-e,nk]
   refine jQ λu hu=>?_
   rw[ahm u hu];rfl
  have Xm:∀a∈us.map qP,A.ok n' bl.length aa a:=λa ha=>by
   obtain⟨u,hu,rfl⟩:=List.mem_map.1 ha
   have h1:=fb u hu
   rw[ahm u hu]at h1
   exact h1
  have O1:g<w.heap.size:=(Array.getElem?_eq_some_iff.1 hcell).1
  have mY:=(c3.more (ex':=λi=>i=g) λ_ h=>h.elim).push (x:=(us.map qP,(p.ty,false))) (g:=g) cl Xm (λ_=>⟨Wv,.inl rfl,[],λ_=>rfl,by rw[fY,jW];exact hcell⟩) (λsh off code cap kind he=>by
   simp only at he;rw[he]at vg;simp[b7]at vg) (λi q hi he=>by
    refine .inr (.inl ?_)
    by_cases h0:bJ aa q.1=0
    ·exact h0
    ·exfalso
     obtain⟨cs,t⟩:=q
     cases ax:b7 cs with
     |true=>
      obtain⟨_,h2,_⟩:=c3.fe i cs t hi ax
      rcases h2 with h2|h2
      ·exact h2
      ·simp only at h2;omega
     |false=>
      obtain⟨sh,off,code,cap,k,e⟩:=QL ax
      subst e
      simp only[bJ]at h0
      split at h0
      ·exact h0 rfl
      ·rename_i hc
       obtain⟨h1,_⟩:=(c3.rws i sh off code cap k t hi h0).2 (by omega)
       rcases h1 with h1|h1|h1
       ·exact h1
       ·rw[he]at h1;exact Ka h1
       ·simp only at h1;omega)
  have Ek:cM n' (bl++[(us.map qP,(p.ty,false))]).length aa (bl++[(us.map qP,(p.ty,false))]):=λq aj a ll=>by
   rcases List.mem_append.1 aj with aj|aj
   ·exact(cl q aj a ll).ext (agree.refl _ _) (bL _) (by simp)
   ·simp at aj;subst aj
    exact(Xm a ll).ext (agree.refl _ _) (bL _) (by simp)
  have atO:us.length=vs.length:=by rw[<-jW];simp
  have WL:eX gl ⟨wb,w,λi=>i=g,F,[]⟩:=hg
  have ahi:V.ok n' (bl++[(us.map qP,(p.ty,false))]).length aa (kY (.slc bl.length 0 us.length us.length)):=by
   show bl.length<_
   simp
  have vh:(kY (.slc bl.length 0 us.length us.length)).rel aa (lC m' bl.length g) (.slice (some ⟨g,0,none⟩) vs.length vs.length):=by
   simp[V.rel,kY,W.den,A.den,nf,atO]
  have qD:∀v∈(cond p.nil [kY (.slc bl.length 0 us.length us.length),kY (.con (.slice none 0 0))] [kY (.slc bl.length 0 us.length us.length)]),V.ok n' (bl++[(us.map qP,(p.ty,false))]).length aa v:=λv hv=>by
   have asl:V.ok n' (bl++[(us.map qP,(p.ty,false))]).length aa (kY (.con (.slice none 0 0))):=rfl
   cases hn:p.nil with
   |true=>
    rw[hn]at hv
    simp only[cond_true,mL,we,or_false]at hv
    rcases hv with rfl|rfl
    ·exact ahi
    ·exact asl
   |false=>
    rw[hn]at hv
    simp only[cond_false,mL,we,or_false]at hv
    subst hv
    exact ahi
  have hrel:eJ aa (lC m' bl.length g) (cond p.nil [kY (.slc bl.length 0 us.length us.length),kY (.con (.slice none 0 0))] [kY (.slc bl.length 0 us.length us.length)]) (CQ p g vs.length).toList:=by
   unfold CQ
   cases hn:p.nil with
   |true=>simp only[cond_true];exact⟨vh,rfl,trivial⟩
   |false=>simp only[cond_false];exact⟨vh,trivial⟩
  have asd:=(N7 (S:=S) (w0:=⟨wb,w,λi=>i=g,F,[]⟩) (R':=λe w'=>w.Extends w'/\∃rs us,ag (dx p.c.res) rs/\spec zs rs/\kK (λg=>F g∨w.heap.size<=g) (λg=>w.heap.size<=g) w' p.c.res rs us/\e= .returned (uq us)) rfl hm (cU w _ F) WL (lT _ _ _ _) d p.c.f n' _ _ _ _ aa (lC m' bl.length g) w _ Ek mY qD hrel gm ?_).2
  ·simpa using asd
  intro eF v bj ee bR eQ w' val h1 h2 h3 h4 h5 h6 h7
  simp only at h7
  split at h7
  rotate_left
  ·exact h7.elim
  rename_i cs t og
  cases jJ:(oQ cs (us.map qP)&&aK t p.ty)with
  |false=>rw[jJ]at h7;exact h7.elim
  |true=>
  rw[jJ]at h7
  simp only[cond_true]at h7
  simp only[bo]at jJ
  have apz:=DH jJ.1
  have Gx:=bO jJ.2
  subst apz;subst Gx
  have Kg:bl.length<(bl++[(us.map qP,(p.ty,false))]).length:=by simp
  have Pc:eQ bl.length=g:=by rw[h1.hm _ Kg,nf]
  have wQ:(us.map qP).map (A.den bR eQ)=vs:=by
   rw[<-jW]
   refine jQ λa ha=>?_
   rw[A.lR (Xm a ha) h1.ha (λb hb=>?_)]
   rw[h1.hm b (by simp;omega),mG hb]
  have oe:=h6.drop og vg.2 Pc (by rw[wQ];exact hcell)
  have hL:cM eF (dE bj bl.length ft).length bR (dE bj bl.length ft):=by
   rw[j2]
   intro q aj a ha
   rw[kE]at aj
   rcases MJ aj with aj|aj
   ·exact h5 q aj a ha
   ·subst aj
    simp only[ft,mL,we,or_false]at ha
    subst ha
    exact⟨⟨I.c5 _ _,I.c5 _ _,I.c5 _ _⟩,by rw[I.bg];exact⟨cL _,x2⟩,by rw[I.bg];omega⟩
  obtain⟨hj,ru,os,Ag,tl,⟨xs,qH,yF⟩,hl⟩:=ZM (S:=S) (w0:=⟨wb,w,λ_=>False,F,[]⟩) (λg hg=>hg) hL oe (by rw[j2];exact h3) h4 ee _ h7
  have hl:wm _ (CM os) hj:=hl
  rw[TV]at hl
  refine⟨?_,os.map (O.den hj),xs,hl.1,hl.2,?_,by rw[qH]⟩
  ·have q9:∀i:Nat,i<w.heap.size->w'.heap[i]?=w.heap[i]?:=λi hi=>oe.iO i hi λh=>h
   exact⟨oe.iZ,oe.kA,oe.j7,oe.gj,λa ha=>by simp only[lH,q9 a.block ha],λa ha=>by simp only[Bn,q9 a.block ha],q9⟩
  ·exact e4.Lj.FX (λg hg=>by
    rcases hg with hg|hg|hg
    ·exact hg.elim
    ·exact .inl hg
    ·exact .inr hg) (λg hg=>hg) yF
section
variable {wb:aE} {sh:Nat->List Nat×List Nat} {SB:Nat->List (List Int)->List (List Int)->Prop}
theorem E8 {p:jF} {bc:n1} {cal:eW} {li:dn->Nat->Option fH} {rounds d:Nat} {lsh:Nat->List Nat} {lens:List Nat} (hm:P.follows .mixedOrders=true) (cU:∀r ex ro,hk (iD sh SB) P gl ⟨wb,r,ex,ro,[]⟩ cal) (hg:eX gl ⟨wb,wb,λ_=>False,λ_=>False,[]⟩)
 (lT:∀(L:V->Env->Prop) (r:aE) (ex ro:Nat->Prop),uE (iD sh SB) L ⟨wb,r,ex,ro,[]⟩ P bc) (hf:Cl P p.c.f=true) (hl:lens=(sh p.c.id).1) (hd:AM p.c.res=(sh p.c.id).2)
 (hv:nv sh lsh SB (jh SB p.c.res p.c.id) lens (dx p.c.args) p.c.res (p.tree bc P gl cal li rounds d)):p.bY P wb (iD sh SB p.c.id):=by
 refine jF.Lj (li:=li) (rounds:=rounds) (d:=d) hm cU hg lT (enters hf) (sV λzs hz=>?_)
 have h:=lL (Uc hv) hz
 simp only[jh,um]at h
 rw[hl,hd]at h
 exact h
end
end Go.b6
namespace Go.b6
open M
variable {S:Nat->List Int->List Int->Prop} {L:V->Env->Prop} {P:bQ} {gl:eI} {cal:eW}
inductive gQ where
 |int (k:du) (c:Int)
 |fn (f:dn)
def gQ.val:gQ->aP
 |int k c=> .int k c
 |fn f=> .func (.func f) #[] #[]
def gQ.A:gQ->A
 |int k c=> .int k (bM.const c)
 |fn f=> .con (.func (.func f) #[] #[])
def OE:gQ->A->Bool
 | .int k c,.int bA x=>decide (k=bA)&&(match x.l.ed with|some d=>decide (d=c)|none=>false)
 | .fn f,.con v=>match v with
  | .func (.func qB) a b=>aK f qB&&aK a.size 0&&aK b.size 0
  |_=>false
 |_,_=>false
def JY:List gQ->List A->Bool
 |[],[]=>true
 |r::l,a::s=>OE r a&&JY l s
 |_,_=>false
def JX:List gQ->List V->Bool
 |[],[]=>true
 |r::l,.w (.one a)::s=>OE r a&&JX l s
 |_,_=>false
theorem afy {r:gQ} {a:A} {ρ:Env} {m:Nat->Nat} (h:OE r a=true):a.den ρ m=r.val:=by
 unfold OE at h
 split at h
 ·rename_i k c bA x
  simp only[bo,decide_eq_true_eq]at h
  obtain⟨h1,h2⟩:=h
  cases hc:x.l.ed with
  |none=>rw[hc]at h2;cases h2
  |some d=>
   rw[hc]at h2
   have h2:=of_decide_eq_true h2
   subst h1;subst h2
   simp[A.den,gQ.val,I.jI hc]
 ·rename_i f v
  split at h
  ·rename_i qB x y
   simp only[bo]at h
   obtain⟨⟨h1,h2⟩,h3⟩:=h
   have h1:=bO h1
   have h2:=bO h2
   have h3:=bO h3
   rw[Bq h2,Bq h3,h1];rfl
  ·cases h
 ·cases h
theorem afz {ρ:Env} {m:Nat->Nat}:∀{l:List gQ} {cs:List A},JY l cs=true->cs.map (A.den ρ m)=l.map gQ.val
 |[],[],_=>rfl
 |r::l,a::s,h=>by
  simp only[JY,bo]at h
  simp[afy h.1,afz h.2]
 |[],_::_,h=>by cases h
 |_::_,[],h=>by cases h
theorem afx {ρ:Env} {m:Nat->Nat}:∀{l:List gQ} {vs:List V} {xs:List aP},JX l vs=true->eJ ρ m vs xs->xs=l.map gQ.val
 |[],[],[],_,_=>rfl
 |r::l,.w (.one a)::s,x::xs,h,hr=>by
  simp only[JX,bo]at h
  have hx:x=a.den ρ m:=hr.1
  rw[hx,afy h.1,afx h.2 hr.2];rfl
 |[],[],_::_,_,h=>h.elim
 |_::_,[],_,h,_=>by cases h
structure n6 where
 c:e4
 cells:List gQ
 ty:bh
 tail:List gQ
structure aco (g:Nat) (w w':aE):Prop where
 os:w'.os=w.os
 tape:w'.tape=w.tape
 out:w'.output=w.output
 size:w.heap.size<=w'.heap.size
 fe:∀i,i<w.heap.size->i≠g->w'.heap[i]?=w.heap[i]?
def n6.bY (P:bQ) (wb:aE) (p:n6) (spec:List Int->List Int->Prop):Prop:=
 (∀args w,(callFunc p.c.f args).run P w= .ok (.enter p.c.f args) w)/\
 ∀(F:Nat->Prop) (w:aE) (vs:List aP) (zs:List Int) (g:Nat),wb.Extends w->ag (dx p.c.args) zs->HJ p.c.pre zs->kK F (λ_=>False) w p.c.args zs vs->wb.heap.size<=g->¬F g->w.heap[g]?=some (.cells (p.cells.map gQ.val).toArray p.ty (0,0))->
  lG P p.c.f (.pointer (some ⟨g,0,none⟩)::(vs++p.tail.map gQ.val)).toArray w λe w'=>aco g w w'/\∃rs us,ag (dx p.c.res) rs/\spec zs rs/\kK (λg=>F g∨w.heap.size<=g) (λg=>w.heap.size<=g) w' p.c.res rs us/\e= .returned (uq us)
noncomputable def n6.E (p:n6) (n:Nat) (vs:List V) (bl:List aG) (k:RK):T:=
 match vs with
 | .w (.one (.ptr b 0))::us=>match bl[b]? with
  |some (cs,(t,false))=>cond (b7 cs&&JY p.cells cs&&aK t p.ty&&JX p.tail (us.drop p.c.args.length)&&cx p.c.args.length us.length&& !(((us.take p.c.args.length).flatMap n7).any (aK b))&&qu p.c.res&& !(p.c.res.any cB.o4))
   (D1 bl p.c.args (us.take p.c.args.length) n λls aT=>Zo p.c.pre ls (.call p.c.id ls aT (dx p.c.res) (wy p.c.res aT (aT+(dx p.c.res).length) [] (dE bl b ft) λeF us pQ=>k eF (C3 us) pQ))) .stuck
  |_=> .stuck
 |_=> .stuck
theorem Mem.but {w0:dX} {ρ:Env} {m:Nat->Nat} {bl:List aG} {w w':aE} {b:Nat} {cs:List A} {t:bh×Bool} (h:Mem w0 ρ m bl w) (hi:bl[b]?=some (cs,t)) (ax:b7 cs=true) (hx:aco (m b) w w'):Mem w0 ρ m (dE bl b ft) w':=by
 have hlen:b<bl.length:=(List.getElem?_eq_some_iff.1 hi).1
 have dN:∀(i:Nat) (q:aG),(dE bl b ft)[i]?=some q->(i=b/\q=ft)∨(i≠b/\bl[i]?=some q):=λi q aj=>by
  rw[kE,sI]at aj
  split at aj
  ·rename_i gZ
   subst gZ
   simp only[hlen,if_true,a7]at aj
   exact .inl ⟨rfl,aj.symm⟩
  ·rename_i gZ;exact .inr ⟨λe=>gZ e.symm,aj⟩
 have im:bJ ρ ft.1=0:=by simp[ft,bJ,I.bg]
 have kO:bJ ρ cs=2:=lv ax
 have cW:∀(i:Nat) (q:aG),i≠b->bl[i]?=some q->bJ ρ q.1≠0->m i≠m b:=λi q nG aj ab e=>by
  rcases h.inj i b q _ aj hi e with h1|h1|h1|h1
  ·exact nG h1
  ·simp only at h1;omega
  ·exact ab h1
  ·simp only at h1;omega
 obtain⟨nF,og,_⟩:=h.fe b cs t hi ax
 refine⟨VH h.ext hx.os hx.tape hx.out hx.size (λk ab=>hx.fe k (FA ab h.ext.size) (by omega)),hx.os.trans h.iZ,hx.tape.trans h.kA,hx.out.trans h.j7,lg h.gj hx.size,λi iP hex=>?_,λi jT t' aj jj=>?_,λi sh off code cap kind t' aj=>?_,λi j p q hp aj he=>?_⟩
 ·have GZ:i≠m b:=λe=>by
   subst e
   rcases og with h2|h2
   ·exact hex h2
   ·omega
  rw[hx.fe i (FA iP h.gj) GZ]
  exact h.iO i iP hex
 ·rcases dN i _ aj with⟨_,e⟩|⟨nG,aj⟩
  ·simp only[ft,ek]at e
   rw[e.1]at jj;simp[b7]at jj
  ·obtain⟨h1,h2,r,h3,h4⟩:=h.fe i jT t' aj jj
   exact⟨h1,h2,r,h3,by rw[hx.fe _ (Array.getElem?_eq_some_iff.1 h4).1 (cW i _ nG aj (by rw[lv jj];decide))];exact h4⟩
 ·rcases dN i _ aj with⟨_,e⟩|⟨nG,aj⟩
  ·simp only[ft,ek,nZ,A.rows.injEq,and_true]at e
   intro ab
   exact absurd e.1.2.2.2.2 ab
  ·intro ab
   obtain⟨g1,g2⟩:=h.rws i sh off code cap kind t' aj ab
   refine⟨g1,λhc=>?_⟩
   have Ev:=cW i _ nG aj (by simp only[bJ];rw[if_neg (by omega)];exact ab)
   obtain⟨k1,cells,L8,fz,k2,k3,k4⟩:=g2 hc
   exact⟨k1,cells,L8,fz,by rw[hx.fe _ (Array.getElem?_eq_some_iff.1 k2).1 Ev];exact k2,k3,k4⟩
 ·rcases dN i _ hp with⟨_,e⟩|⟨nG,hp⟩
  ·subst e;exact .inr (.inr (.inl im))
  ·rcases dN j _ aj with⟨_,e⟩|⟨agX,aj⟩
   ·subst e;exact .inr (.inr (.inr im))
   ·exact h.inj i j p q hp aj he
theorem cM.dead {n nb:Nat} {ρ:Env} {bl:List aG} (h:cM n nb ρ bl) (b:Nat):cM n nb ρ (dE bl b ft):=by
 intro q aj a ha
 rw[kE]at aj
 rcases MJ aj with aj|aj
 ·exact h q aj a ha
 ·subst aj
  simp only[ft,mL,we,or_false]at ha
  subst ha
  exact⟨⟨I.c5 _ _,I.c5 _ _,I.c5 _ _⟩,by rw[I.bg];exact⟨cL _,x2⟩,by rw[I.bg];omega⟩
theorem TR {ρ:Env} {m:Nat->Nat}:∀(k:Nat) {vs:List V} {xs:List aP},eJ ρ m vs xs->eJ ρ m (vs.take k) (xs.take k)/\eJ ρ m (vs.drop k) (xs.drop k)
 |0,vs,xs,h=>⟨by simp;trivial,by simpa using h⟩
 |k+1,[],[],_=>⟨trivial,trivial⟩
 |k+1,v::vs,x::xs,h=>⟨⟨h.1,(TR k h.2).1⟩,(TR k h.2).2⟩
 |_+1,[],_::_,h=>h.elim
 |_+1,_::_,[],h=>h.elim
theorem n6.I7 {w0:dX} {p:n6} {spec:List Int->List Int->Prop} (hc:p.bY P w0.b spec) (gK:∀zs rs,spec zs rs->S p.c.id zs rs) (n:Nat) (vs:List V) (bl:List aG) (k:RK) (G:ev) (ρ:Env) (m:Nat->Nat) (w:aE) (xs:List aP) (R':Ending->aE->Prop)
 (hb:cM n bl.length ρ bl) (hw:Mem w0 ρ m bl w) (hv:∀v∈vs,V.ok n bl.length ρ v) (hr:eJ ρ m vs xs) (ae:(p.E n vs bl k).holds S L G ρ) (ab:Dn S L w0 k n bl.length ρ m G R'):
 (callFunc p.c.f xs.toArray).run P w= .ok (.enter p.c.f xs.toArray) w/\lG P p.c.f xs.toArray w R':=by
 refine⟨hc.1 _ _,?_⟩
 unfold n6.E at ae
 split at ae
 rotate_left
 ·exact ae.elim
 rename_i b us
 split at ae
 rotate_left
 ·exact ae.elim
 rename_i cs t aQ
 match xs,hr with
 |x::xs,hr=>
 cases jJ:(b7 cs&&JY p.cells cs&&aK t p.ty&&JX p.tail (us.drop p.c.args.length)&&cx p.c.args.length us.length&& !(((us.take p.c.args.length).flatMap n7).any (aK b))&&qu p.c.res&& !(p.c.res.any cB.o4))with
 |false=>rw[jJ]at ae;exact ae.elim
 |true=>
 rw[jJ]at ae
 simp only[cond_true]at ae
 simp only[bo,fF]at jJ
 obtain⟨⟨⟨⟨⟨⟨⟨c1,bH⟩,cp⟩,cR⟩,eO⟩,gI⟩,nz⟩,mX⟩:=jJ
 have cp:=bO cp
 subst cp
 obtain⟨hx,hr⟩:=hr
 have hx:x= .pointer (some ⟨m b,0,none⟩):=hx
 subst hx
 obtain⟨r1,r2⟩:=TR p.c.args.length hr
 have atH:=afx cR r2
 have fv:xs=xs.take p.c.args.length++p.tail.map gQ.val:=by rw[<-atH,ld]
 obtain⟨b3,b4,r,iq,c7⟩:=hw.fe b cs _ aQ c1
 have iq:=iq rfl
 subst iq
 rw[fY,afz bH]at c7
 obtain⟨aJ,aT,ls,gi,eK,⟨g1,g2,g3⟩,ae⟩:=OG (S:=S) (L:=L) hb hw (λv yE=>hv v (dU _ (List.mem_of_mem_take yE))) r1 G _ ae
 obtain⟨o2,ae⟩:=preM_holds ae
 simp only[T.holds]at ae
 rw[fv]
 refine(hc.2 (rI w0 ρ m bl ((us.take p.c.args.length).flatMap n7) ((us.take p.c.args.length).flatMap vH)) w _ _ (m b) hw.ext g2 o2 (g3 _ λ_ h=>h) b3 (λhF=>?_) c7).mono ?_
 ·obtain⟨⟨b',k1,k2,q,k3,k4,_⟩,_⟩:=hF
  have cW:b≠b':=λe=>by
   subst e
   rw[List.any_eq_true.2 ⟨b,k1,FB b⟩]at gI;cases gI
  rcases hw.inj b b' _ q aQ k3 k2.symm with h|h|h|h
  ·exact cW h
  ·have:=lv (ρ:=ρ) c1;simp only at h;omega
  ·have:=lv (ρ:=ρ) c1;simp only at h;omega
  ·exact k4 h
 rintro e w' ⟨he,rs,ng,r1,r2,gn,rfl⟩
 have ae:=lL ae r1 (gK _ _ r2)
 have mY:=hw.but aQ c1 he
 have hL:=hb.dead b
 have hl:(dE bl b ft).length=bl.length:=j2 _ _ _
 have dz:agree aT aJ (bI aJ aT rs):=agree.bI rs aT aJ
 have Eh:=eK.trans dz gi
 have og:cM (aT+(dx p.c.res).length) (dE bl b ft).length (bI aJ aT rs) (dE bl b ft):=by rw[hl];exact hL.ext Eh (by omega) (bL _)
 have arG:Mem w0 (bI aJ aT rs) m (dE bl b ft) w':=mY.p6 (by rw[hl];exact hL) Eh
 have aM:je (bI aJ aT rs) aT rs:=je.bI aJ aT rs
 have Wg:en n bl.length ρ m (aT+(dx p.c.res).length) (dE bl b ft).length (bI aJ aT rs) m:=⟨by omega,Eh,by rw[hl];exact bL _,λ_ _=>rfl⟩
 have hF:∀g,(rI w0 ρ m bl ((us.take p.c.args.length).flatMap n7) ((us.take p.c.args.length).flatMap vH) g∨w.heap.size<=g)->w0.ex g∨w0.ro g∨w0.r.heap.size<=g:=λg hg=>by
  rcases hg with hg|hg
  ·exact hg.2
  ·exact .inr (.inr (lg hw.gj hg))
 have cF:∀g,w.heap.size<=g->w0.b.heap.size<=g/\w0.r.heap.size<=g:=λg hg=>⟨lg hw.ext.size hg,lg hw.gj hg⟩
 have wY:(p.c.res.all λb=> !b.o4)=true:=by
  rw[IM]
  intro b hb
  cases hL:b.o4 with
  |false=>rfl
  |true=>rw[List.any_eq_true.2 ⟨b,hb,hL⟩]at mX;cases mX
 obtain⟨n',aa,m',aCQ,pQ,cm,cl,c3,e0,fb,gm⟩:=DA (S:=S) (L:=L) hF cF (l:=p.c.res) (us:=[]) (vals:=ng) nz og arG aM r1 (bL _) gn (.inl wY) (.inr λi q hi oh=>by
  by_cases h0:bJ (bI aJ aT rs) q.1=0
  ·exact h0
  ·exfalso
   rw[kE,sI]at hi
   split at hi
   ·rename_i e
    subst e
    split at hi
    ·cases hi;exact h0 (by simp[ft,bJ,I.bg])
    ·cases hi
   ·rw[vm (hb q (eD hi)) Eh]at h0
    have:=hw.lt hi h0;omega) (λu hu=>by simp at hu) ae
 have m2:=ajY (m:=m') fb (by simpa using e0)
 exact ab n' (C3 aCQ) pQ G aa m' w' (uq ng) (Wg.trans cm) (eM.refl _ _) m2.1 m2.2 cl c3 gm
noncomputable def A4:List n6->n1->n1
 |[],bc=>bc
 |p::r,bc=>λf=>cond (aK p.c.f f) (some p.E) (A4 r bc f)
theorem QZ {w0:dX} {bc:n1} (lT:uE S L w0 P bc):∀{l:List n6},(∀p∈l,p.bY P w0.b (S p.c.id))->uE S L w0 P (A4 l bc)
 |[],_=>lT
 |p::l,h=>λf g hf=>by
  unfold A4 at hf
  cases hb:aK p.c.f f with
  |true=>
   rw[hb]at hf
   simp only[cond_true,a7]at hf
   have:=bO hb
   subst this;subst hf
   intro n vs bl k G ρ m w xs R' h1 h2 h3 h4 h5 h6
   exact n6.I7 (h p (by simp)) (λ_ _ h=>h) n vs bl k G ρ m w xs R' h1 h2 h3 h4 h5 h6
  |false=>
   rw[hb]at hf
   exact QZ lT (λp hp=>h p (dU _ hp)) f g hf
noncomputable def n6.tree (f:kt) (p:n6):T:=
 cond (qu p.c.args&& !(p.c.args.any cB.qJ)) (QS p.c.pre ((fk (dx p.c.args).length).map Lb) (wy p.c.args 0 (dx p.c.args).length [] [] λn us bl=>
  cond (b7 (p.cells.map gQ.A)) (f p.c.f n (kY (.ptr bl.length 0)::(us.map V.w++p.tail.map λr=>kY r.A)) (bl++[(p.cells.map gQ.A,(p.ty,false))]) λn' v bj=>match bj[bl.length]? with
   |some (cs,_)=>cond (b7 cs) (LW (dE bj bl.length ft) p.c.res v n' λos _=> .leaf (CM os)) .stuck
   |none=> .stuck) .stuck)) .stuck
theorem gQ.abT (r:gQ) (ρ:Env) (m:Nat->Nat):r.A.den ρ m=r.val:=by cases r<;>simp[gQ.A,gQ.val,A.den,bM.const,I.bg]
theorem gQ.abU (r:gQ) (n nb:Nat) (ρ:Env):r.A.ok n nb ρ:=by
 cases r with
 |int k c=>exact bM.n9 _ _ _
 |fn f=>rfl
theorem acv {ρ:Env} {m:Nat->Nat}:∀{vs us:List V} {xs gN:List aP},eJ ρ m vs xs->eJ ρ m us gN->eJ ρ m (vs++us) (xs++gN)
 |[],_,[],_,_,h=>h
 |_::_,_,_::_,_,h,a8=>⟨h.1,acv h.2 a8⟩
 |[],_,_::_,_,h,_=>h.elim
 |_::_,_,[],_,h,_=>h.elim
theorem Mem.apb {b r r':aE} {ro:Nat->Prop} {ρ:Env} {m:Nat->Nat} {bl:List aG} {w:aE} {g i0:Nat} {cs:List A} {t:bh×Bool} (h:Mem ⟨b,r,λi=>i=g,ro,[]⟩ ρ m bl w) (hi:bl[i0]?=some (cs,t)) (ax:b7 cs=true) (hg:m i0=g)
 (hr:r'.os=r.os/\r'.tape=r.tape/\r'.output=r.output/\r'.heap.size=r.heap.size) (h1:∀k,k≠g->r'.heap[k]?=r.heap[k]?) (h2:r'.heap[g]?=w.heap[g]?):
 Mem ⟨b,r',λ_=>False,ro,[]⟩ ρ m (dE bl i0 ft) w:=by
 have hlen:i0<bl.length:=(List.getElem?_eq_some_iff.1 hi).1
 have dN:∀(i:Nat) (q:aG),(dE bl i0 ft)[i]?=some q->(i=i0/\q=ft)∨(i≠i0/\bl[i]?=some q):=λi q aj=>by
  rw[kE,sI]at aj
  split at aj
  ·rename_i gZ
   subst gZ
   simp only[hlen,if_true,a7]at aj
   exact .inl ⟨rfl,aj.symm⟩
  ·rename_i gZ;exact .inr ⟨λe=>gZ e.symm,aj⟩
 have im:bJ ρ ft.1=0:=by simp[ft,bJ,I.bg]
 have kO:bJ ρ cs=2:=lv ax
 have cW:∀(i:Nat) (q:aG),i≠i0->bl[i]?=some q->bJ ρ q.1≠0->m i≠g:=λi q nG aj ab e=>by
  rcases h.inj i i0 q _ aj hi (by rw[e,hg])with h1|h1|h1|h1
  ·exact nG h1
  ·simp only at h1;omega
  ·exact ab h1
  ·simp only at h1;omega
 refine⟨h.ext,h.iZ.trans hr.1.symm,h.kA.trans hr.2.1.symm,h.j7.trans hr.2.2.1.symm,by have:=h.gj;simp only at this⊢;omega,λi iP _=>?_,λi jT t' aj jj=>?_,λi sh off code cap kind t' aj=>?_,λi j p q hp aj he=>?_⟩
 ·by_cases e:i=g
  ·subst e;exact h2.symm
  ·show w.heap[i]?=r'.heap[i]?
   rw[h1 i e];exact h.iO i (by simp only at iP⊢;omega) e
 ·rcases dN i _ aj with⟨_,e⟩|⟨nG,aj⟩
  ·simp only[ft,ek]at e
   rw[e.1]at jj;simp[b7]at jj
  ·obtain⟨k1,k2,k3⟩:=h.fe i jT t' aj jj
   refine⟨k1,?_,k3⟩
   rcases k2 with k2|k2
   ·exact absurd k2 (cW i _ nG aj (by rw[lv jj];decide))
   ·exact .inr (by simp only at k2⊢;omega)
 ·rcases dN i _ aj with⟨_,e⟩|⟨nG,aj⟩
  ·simp only[ft,ek,nZ,A.rows.injEq,and_true]at e
   intro ab
   exact absurd e.1.2.2.2.2 ab
  ·intro ab
   obtain⟨g1,g2⟩:=h.rws i sh off code cap kind t' aj ab
   refine⟨g1,λhc=>?_⟩
   have Ev:m i≠g:=cW i _ nG aj (by simp only[bJ];rw[if_neg (by omega)];exact ab)
   obtain⟨k1,cells,L8,fz,k2,k3,k4⟩:=g2 hc
   refine⟨?_,cells,L8,fz,k2,k3,λh2=>?_⟩
   ·rcases k1 with k1|k1|k1
    ·exact absurd k1 Ev
    ·exact .inr (.inl k1)
    ·exact .inr (.inr (by simp only at k1⊢;omega))
   ·obtain⟨hZ,nL,o5,qK,w3,ov⟩:=k4 h2
    refine⟨hZ,nL,o5,qK,w3,?_⟩
    rcases ov with ov|ov
    ·exact absurd ov Ev
    ·exact .inr (by simp only at ov⊢;omega)
 ·rcases dN i _ hp with⟨_,e⟩|⟨nG,hp⟩
  ·subst e;exact .inr (.inr (.inl im))
  ·rcases dN j _ aj with⟨_,e⟩|⟨agX,aj⟩
   ·subst e;exact .inr (.inr (.inr im))
   ·exact h.inj i j p q hp aj he
theorem n6.awo {wb:aE} {p:n6} {inl:kt} {spec:List Int->List Int->Prop}
 (ln:∀(L:V->Env->Prop) (r:aE) (ex ro:Nat->Prop),oO S L ⟨wb,r,ex,ro,[]⟩ P inl) (hf:∀args w,(callFunc p.c.f args).run P w= .ok (.enter p.c.f args) w)
 (aA:ju (dx p.c.args) λzs=>(p.tree inl).holds S (wm λrs=>ag (dx p.c.res) rs/\spec zs rs) (λ_ _=>False) (bI (λ_=>0) 0 zs)):p.bY P wb spec:=by
 refine⟨hf,λF w vs zs g hw hz KJ hat Wv Ka hcell=>?_⟩
 have ae:=lL aA hz
 have ou:=er hz
 unfold n6.tree at ae
 cases aj:(qu p.c.args&& !(p.c.args.any cB.qJ))with
 |false=>rw[aj]at ae;exact ae.elim
 |true=>
  rw[aj]at ae
  simp only[cond_true]at ae
  have ae:=preA_holds ae (by rw[<-ou,YI];exact KJ)
  simp only[bo,fF]at aj
  have kQ:Mem ⟨wb,w,λ_=>False,F,[]⟩ (bI (λ_=>0) 0 zs) (λ_=>0) [] w:=⟨hw,rfl,rfl,rfl,bL _,λ_ _ _=>rfl,λi cs t h=>by simp at h,λi sh off code cap kind t h=>by simp at h,λi j p q h=>by simp at h⟩
  have iE:(p.c.args.all λb=> !b.qJ)=true:=by
   rw[IM]
   intro b hb
   cases hL:b.qJ with
   |false=>rfl
   |true=>rw[List.any_eq_true.2 ⟨b,hb,hL⟩]at aj;cases aj.2
  obtain⟨n',aa,m',us,bl,cm,cl,c3,e0,fb,gm⟩:=DA (S:=S) (L:=_) (w0:=⟨wb,w,λ_=>False,F,[]⟩) (F:=F) (N:=λ_=>False) (λg hg=> .inr (.inl hg)) (λg hg=>hg.elim) (l:=p.c.args) (s:=0) (us:=[]) (bl:=[]) (m:=λ_=>0) aj.1 (λp hp=>by simp at hp) kQ (je.bI _ 0 zs) hz (by omega) hat (.inr λi p h=>by simp at h) (.inl iE) (λu hu=>by simp at hu) ae
  cases vg:b7 (p.cells.map gQ.A)with
  |false=>rw[vg]at gm;exact gm.elim
  |true=>
  rw[vg]at gm
  simp only[cond_true]at gm
  have O1:g<w.heap.size:=(Array.getElem?_eq_some_iff.1 hcell).1
  have wQ:∀ρ m,(p.cells.map gQ.A).map (A.den ρ m)=p.cells.map gQ.val:=λρ m=>by
   rw[nk];exact jQ λr _=>r.abT ρ m
  have agC:∀n nb ρ,∀a∈p.cells.map gQ.A,A.ok n nb ρ a:=λn nb ρ a ha=>by
   obtain⟨r,_,rfl⟩:=List.mem_map.1 ha
   exact r.abU n nb ρ
  have mY:=(c3.more (ex':=λi=>i=g) λ_ h=>h.elim).push (x:=(p.cells.map gQ.A,(p.ty,false))) (g:=g) cl (agC _ _ _) (λ_=>⟨Wv,.inl rfl,[],λ_=>rfl,by rw[fY,wQ];exact hcell⟩) (λsh off code cap kind he=>by
   simp only at he;rw[he]at vg;simp[b7]at vg) (λi q hi he=>by
    refine .inr (.inl ?_)
    by_cases h0:bJ aa q.1=0
    ·exact h0
    ·exfalso
     obtain⟨cs,t⟩:=q
     cases ax:b7 cs with
     |true=>
      obtain⟨_,h2,_⟩:=c3.fe i cs t hi ax
      rcases h2 with h2|h2
      ·exact h2
      ·simp only at h2;omega
     |false=>
      obtain⟨sh,off,code,cap,k,e⟩:=QL ax
      subst e
      simp only[bJ]at h0
      split at h0
      ·exact h0 rfl
      ·rename_i hc
       obtain⟨h1,_⟩:=(c3.rws i sh off code cap k t hi h0).2 (by omega)
       rcases h1 with h1|h1|h1
       ·exact h1
       ·rw[he]at h1;exact Ka h1
       ·simp only at h1;omega)
  have Ek:cM n' (bl++[(p.cells.map gQ.A,(p.ty,false))]).length aa (bl++[(p.cells.map gQ.A,(p.ty,false))]):=λq aj a ll=>by
   rcases List.mem_append.1 aj with aj|aj
   ·exact(cl q aj a ll).ext (agree.refl _ _) (bL _) (by simp)
   ·simp at aj;subst aj
    exact agC _ _ _ a ll
  have qD:∀v∈(kY (.ptr bl.length 0)::(us.map V.w++p.tail.map λr=>kY r.A)),V.ok n' (bl++[(p.cells.map gQ.A,(p.ty,false))]).length aa v:=λv hv=>by
   rcases List.mem_cons.1 hv with rfl|hv
   ·show bl.length<_;simp
   ·rcases List.mem_append.1 hv with hv|hv
    ·obtain⟨u,hu,rfl⟩:=List.mem_map.1 hv
     exact W.ok.ext (fb u hu) (agree.refl _ _) (bL _) (by simp)
    ·obtain⟨r,_,rfl⟩:=List.mem_map.1 hv
     exact r.abU _ _ _
  have atP:∀u∈us,W.den aa (lC m' bl.length g) u=W.den aa m' u:=λu hu=>W.lR (fb u hu) (agree.refl _ _) (λb hb=>mG hb)
  have hrel:eJ aa (lC m' bl.length g) (kY (.ptr bl.length 0)::(us.map V.w++p.tail.map λr=>kY r.A)) (.pointer (some ⟨g,0,none⟩)::(vs++p.tail.map gQ.val)):=by
   refine⟨by simp[kY,V.rel,W.den,A.den,nf],acv (TO ?_) ?_⟩
   ·rw[jQ atP];simpa using e0
   ·have:=TQ (ρ:=aa) (m:=lC m' bl.length g) (p.tail.map gQ.A)
    rw[nk,nk]at this
    have e:(A.den aa (lC m' bl.length g)∘gQ.A)=gQ.val:=funext λr=>r.abT _ _
    rw[e]at this
    exact this
  refine((ln _ _ _ _ p.c.f n' _ _ _ _ aa (lC m' bl.length g) w _ _ Ek mY qD hrel gm ?_).2)
  intro eF v bj ee bR eQ w' val h1 h2 h3 h4 h5 h6 h7
  simp only at h7
  split at h7
  rotate_left
  ·exact h7.elim
  rename_i cs t og
  cases jJ:b7 cs with
  |false=>rw[jJ]at h7;exact h7.elim
  |true=>
  rw[jJ]at h7
  simp only[cond_true]at h7
  have Kg:bl.length<(bl++[(p.cells.map gQ.A,(p.ty,false))]).length:=by simp
  have Pc:eQ bl.length=g:=by rw[h1.hm _ Kg,nf]
  obtain⟨Y0,as9⟩:∃o,w'.heap[g]?=some o:=by
   obtain⟨_,_,r,_,ew⟩:=h6.fe bl.length cs t og jJ
   rw[Pc]at ew
   exact⟨_,ew⟩
  have oe:=h6.apb (r':=w.putObj g Y0) og jJ Pc (yX _ _ _) (λk ab=>xZ ab) (by rw[Bt O1,as9])
  have hL:cM eF (dE bj bl.length ft).length bR (dE bj bl.length ft):=by
   rw[j2]
   exact h5.dead _
  obtain⟨hj,ru,os,Ag,tl,⟨xs,qH,yF⟩,hl⟩:=ZM (S:=S) (w0:=⟨wb,w.putObj g Y0,λ_=>False,F,[]⟩) (λg hg=>hg) hL oe (by rw[j2];exact h3) h4 ee _ h7
  have hl:wm _ (CM os) hj:=hl
  rw[TV]at hl
  refine⟨⟨h6.iZ,h6.kA,h6.j7,h6.gj,λi hi GZ=>h6.iO i hi GZ⟩,os.map (O.den hj),xs,hl.1,hl.2,?_,by rw[qH]⟩
  have hsz:(w.putObj g Y0).heap.size=w.heap.size:=abR
  exact e4.Lj.FX (λg hg=>by
   rcases hg with hg|hg|hg
   ·exact hg.elim
   ·exact .inl hg
   ·exact .inr (hsz▸hg)) (λg hg=>hsz▸hg) yF
section
variable {wb:aE} {sh:Nat->List Nat×List Nat} {SB:Nat->List (List Int)->List (List Int)->Prop}
theorem azW {p:n6} {inl:kt} {lsh:Nat->List Nat} {lens:List Nat}
 (ln:∀(L:V->Env->Prop) (r:aE) (ex ro:Nat->Prop),oO (iD sh SB) L ⟨wb,r,ex,ro,[]⟩ P inl) (hf:Cl P p.c.f=true) (hl:lens=(sh p.c.id).1) (hd:AM p.c.res=(sh p.c.id).2)
 (hv:nv sh lsh SB (jh SB p.c.res p.c.id) lens (dx p.c.args) p.c.res (p.tree inl)):p.bY P wb (iD sh SB p.c.id):=by
 refine n6.awo ln (enters hf) (sV λzs hz=>?_)
 have h:=lL (Uc hv) hz
 simp only[jh,um]at h
 rw[hl,hd]at h
 exact h
end
end Go.b6
namespace Go.b6
abbrev xd (p:Int->Prop):Prop:=∀z:Int,0<=z->z<=9223372036854775807->p z
abbrev AU (k:Nat) (l:List Int) (p:Int->Prop):Prop:=∀z:Int,0<=z->z<=9223372036854775807->z=bt k l->p z
abbrev pb (p:Int->Prop):Prop:=∀z:Int,0<=z->z<=bN->p z
abbrev hQ (k:Nat) (l:List Int) (p:Int->Prop):Prop:=∀z:Int,0<=z->z<=bN->z=bt k l->p z
abbrev ao (p:Int->Prop):Prop:=∀z:Int,0<=z->z<=255->p z
abbrev a6 (k:Nat) (l:List Int) (p:Int->Prop):Prop:=∀z:Int,0<=z->z<=255->z=bt k l->p z
abbrev sk (p:Int->Prop):Prop:=∀z:Int,0<=z->z<=1->p z
abbrev aW (p:Int->Prop):Prop:=∀z:Int,0<=z->z<=18446744073709551615->p z
abbrev Lz (k:Nat) (l:List Int) (p:Int->Prop):Prop:=∀z:Int,0<=z->z<=18446744073709551615->z=bt k l->p z
abbrev j1 (p:Int->Prop):Prop:=∀z:Int,(-1)<=z->z<=9223372036854775807->p z
abbrev kZ (p:Int->Prop):Prop:=∀z:Int,0<=z->p z
abbrev sj (a b:Int) (p:Int->Prop):Prop:=∀z:Int,a<=z->z<=b->p z
abbrev QW (a b:Int) (k:Nat) (l:List Int) (p:Int->Prop):Prop:=∀z:Int,a<=z->z<=b->z=bt k l->p z
abbrev b9 (x m:Int) (p:Int->Prop):Prop:=∀z:Int,0<=z->z<=1->0<=x-m*z->x-m*z<m->p z
abbrev aH (a b x m:Int) (p:Int->Prop):Prop:=∀z:Int,a<=z->z<=b->0<=x-m*z->x-m*z<m->p z
abbrev pa (b:Bool) (p q:Prop):Prop:=(b=true->p)/\(b=false->q)
end Go.b6
namespace Go.b6
abbrev fU (b x:Int) (p:Int->Prop):Prop:=∀z:Int,0<=z->z<=b->z=x->p z
structure qe (p:Prop):Prop where
 h:p
theorem Xp {a b:Prop} (ha:a) (hb:b):qe (a/\b):=⟨ha,hb⟩
theorem qG {a b c:Prop} (ha:a) (hb:b) (hc:c):qe (a/\b/\c):=⟨ha,hb,hc⟩
theorem eY {a b c d:Prop} (ha:a) (hb:b) (hc:c) (hd:d):qe (a/\b/\c/\d):=⟨ha,hb,hc,hd⟩
abbrev jX:Int:=16777216
abbrev jY:Int:=4294967296
abbrev jZ:Int:=1099511627776
abbrev j0:Int:=281474976710656
abbrev ki:Int:=72057594037927936
abbrev ad:Int:=-18446744073709551616
abbrev bF:Int:=18446744073709551616
abbrev Aq:Int:=72057594037927935
abbrev Ar:Int:=281474976710655
abbrev kU:Int:=1099511627775
abbrev Ao:Int:=4294967295
abbrev Ap:Int:=16777215
abbrev pW:Int:=340282366920938463426481119284349108225
abbrev pX:Int:=18446744073709551614
abbrev kS:Int:=-117067535019779019119668879883403001856
abbrev lq:Int:=-27742317777372353529505694001085284352
abbrev Px:Int:=-1152921504606846976
abbrev tv:Int:=1152921504606846976
abbrev K2:Int:=6346243789798364140
abbrev kT:Int:=101539900636773826256
abbrev hM:Int:=6346243789798364141
abbrev K3:Int:=1503914060200516821
abbrev lr:Int:=24062624963208269152
abbrev iu:Int:=1503914060200516822
abbrev dC:Int:=-2251799813685248
abbrev ahQ:Int:=9223372036854775807
abbrev ez:Int:=2251799813685248
abbrev Hh:Int:=2097152
abbrev Hi:Int:=536870912
abbrev Hj:Int:=137438953472
abbrev Hk:Int:=35184372088832
abbrev Py:Int:=9007199254740992
abbrev Pz:Int:=2305843009213693952
abbrev PA:Int:=590295810358705651712
abbrev XJ:Int:=67108863
abbrev ahR:Int:=274877906944
abbrev Hl:Int:=67108864
abbrev Hm:Int:=17179869184
abbrev Hn:Int:=4398046511104
abbrev Ho:Int:=1125899906842624
abbrev PB:Int:=288230376151711744
abbrev PC:Int:=73786976294838206464
abbrev PD:Int:=18889465931478580854784
abbrev PE:Int:=4835703278458516698824704
abbrev Hp:Int:=549755813887
abbrev ahS:Int:=33554432
abbrev Hq:Int:=549755813888
abbrev Hr:Int:=140737488355328
abbrev PF:Int:=36028797018963968
abbrev PG:Int:=9223372036854775808
abbrev PH:Int:=2361183241434822606848
abbrev PI:Int:=604462909807314587353088
abbrev PJ:Int:=154742504910672534362390528
abbrev PK:Int:=39614081257132168796771975168
abbrev yL:Int:=4503599627370495
abbrev XK:Int:=-18014398509481984
abbrev XL:Int:=-144115188075855872
abbrev XM:Int:=-4503599627370496
abbrev XN:Int:=-36028797018963968
abbrev XO:Int:=8796093022207
abbrev XP:Int:=34359738367
abbrev XQ:Int:=134217727
abbrev XR:Int:=70368744177663
abbrev XS:Int:=274877906943
abbrev XT:Int:=1073741823
abbrev XU:Int:=4194303
abbrev XV:Int:=562949953421311
abbrev XW:Int:=2199023255551
abbrev XX:Int:=8589934591
abbrev XY:Int:=33554431
abbrev XZ:Int:=17592186044415
abbrev X0:Int:=68719476735
abbrev X1:Int:=268435455
abbrev ahT:Int:=8388608
abbrev X2:Int:=1048575
abbrev ahU:Int:=2147483648
abbrev X3:Int:=140737488355327
abbrev X4:Int:=2147483647
abbrev ahV:Int:=1048576
abbrev X5:Int:=8388607
abbrev ahW:Int:=268435456
abbrev ahX:Int:=68719476736
abbrev ahY:Int:=17592186044416
abbrev qL:Int:=20282409603651661416747996545025
abbrev w5:Int:=385365782469381566918211934355475
abbrev w6:Int:=20890720927743
end Go.b6
namespace Go.zE
def cn (n:Nat):Prop:=1<n/\∀a,a% n≠0->∃b,a*b% n=1
def uH (n g:Nat):Prop:=1<n/\g^(n-1)% n=1/\∀a,a% n≠0->∃k,g^k% n=a% n
def pm:Nat->Nat->Nat->Nat->Nat
 |0,_,_,n=>1% n
 |f+1,b,e,n=>bif e% 2==1 then pm f (b*b% n) (e/2) n*b% n else pm f (b*b% n) (e/2) n
theorem QR:∀(f b e n:Nat),e<2^f->pm f b e n=b^e% n
 |0,b,e,n,h=>by
  have:e=0:=by simpa using h
  subst this;rfl
 |f+1,b,e,n,h=>by
  have ih:=QR f (b*b% n) (e/2) n (by rw[wg]at h;omega)
  have aw:(b*b% n)^(e/2)% n=b^(2*(e/2))% n:=by
   rw[<-Nat.pow_mod,Nat.pow_mul,Nat.pow_two]
  rw[aw]at ih
  unfold pm
  rw[ih]
  cases ae:(e% 2==1)with
  |true=>
   have h1:e% 2=1:=by simpa using ae
   simp only[cond_true]
   conv=>rhs;rw[show e=2*(e/2)+1 by omega,wg]
   rw[IL,Nat.mod_mod,<-IL]
  |false=>
   have h1:¬e% 2=1:=by simpa using ae
   simp only[cond_false]
   conv=>rhs;rw[show e=2*(e/2) by omega]
theorem ajF:∀(N:Nat) (f:Nat->Nat),(∀i,i<N->f i<N)->(∀i,i<N->∀j,j<N->f i=f j->i=j)->∀y,y<N->∃i,i<N/\f i=y
 |0,_,_,_,y,h=>by omega
 |N+1,f,hr,hi,y,hy=>by
  have hv:∀i,i<N->f i≠f N:=λi h e=>by have:=hi i (by omega) N (by omega) e;omega
  have key:=ajF N (λi=>if f i=N then f N else f i) (λi h=>by
   have h1:=hr i (by omega)
   have h2:=hr N (by omega)
   have h3:=hv i h
   show(if f i=N then f N else f i)<N
   split<;>omega) (λi h j a8 e=>by
   have h3:=hv i h
   have h4:=hv j a8
   apply hi i (by omega) j (by omega)
   split at e<;>split at e<;>omega)
  by_cases aIE:y=N
  ·by_cases cF:f N=N
   ·exact⟨N,by omega,by omega⟩
   ·obtain⟨i,h1,h2⟩:=key (f N) (by have:=hr N (by omega);omega)
    split at h2
    ·rename_i h3
     exact⟨i,by omega,by omega⟩
    ·exact absurd h2 (hv i h1)
  ·obtain⟨i,h1,h2⟩:=key y (by omega)
   split at h2
   ·exact⟨N,by omega,h2⟩
   ·exact⟨i,by omega,h2⟩
theorem least {p:Nat->Prop}:∀n,p n->∃m,m<=n/\p m/\∀k,k<m->¬p k:=by
 intro n
 induction n using Nat.strongRecOn with
 |_ n ih=>
  intro hn
  by_cases h:∃k,k<n/\p k
  ·obtain⟨k,ab,hp⟩:=h
   obtain⟨m,h1,h2,h3⟩:=ih k ab hp
   exact⟨m,by omega,h2,h3⟩
  ·exact⟨n,bL _,hn,λk ab hp=>h ⟨k,ab,hp⟩⟩
theorem Zn {n g d:Nat} (hn:1<n) (h:g^d% n=1) (k:Nat):g^(d*k)% n=1:=by
 rw[Nat.pow_mul,Nat.pow_mod,h,Nat.one_pow,Nat.mod_eq_of_lt hn]
theorem ae2 {q m:Nat} (aj:cn q) (hm:¬q∣m):Nat.Coprime m q:=by
 obtain⟨b,hb⟩:=aj.2 m (λh=>hm (aD2 h))
 have h1:Nat.gcd m q∣m*b:=Nat.dvd_trans (Nat.gcd_dvd_left m q) (Nat.dvd_mul_right m b)
 have h2:Nat.gcd m q∣m*b% q:=(Nat.dvd_mod_iff (Nat.gcd_dvd_right m q)).2 h1
 rw[hb]at h2
 exact Nat.dvd_one.1 h2
def QT:List Nat->Nat
 |[]=>1
 |q::r=>q*QT r
theorem ae3 {m:Nat}:∀(fs:List Nat),(∀q∈fs,cn q)->(∀q∈fs,¬q∣m)->Nat.Coprime m (QT fs)
 |[],_,_=>Nat.coprime_one_right m
 |q::r,h1,h2=>aK5 (ae2 (h1 q (by simp)) (h2 q (by simp))) (ae3 r (λx hx=>h1 x (dU _ hx)) (λx hx=>h2 x (dU _ hx)))
theorem ari {n g:Nat} {fs:List Nat} (hn:2<n) (hp:QT fs=n-1) (hf:∀q∈fs,cn q) (h1:g^(n-1)% n=1) (h2:∀q∈fs,g^((n-1)/q)% n≠1):uH n g:=by
 have gi:1<n:=by omega
 obtain⟨d,yy,⟨wP,Kl⟩,Km⟩:=least (p:=λd=>0<d/\g^d% n=1) (n-1) ⟨by omega,h1⟩
 have ass:d∣n-1:=by
  have hr:g^((n-1)% d)% n=1:=by
   have e:g^(n-1)% n=g^((n-1)% d)% n:=by
    conv=>lhs;rw[<-Mp (n-1) d,Bj,IL,Zn gi Kl]
    rw[Nat.one_mul,Nat.mod_mod]
   rw[<-e];exact h1
  by_cases h0:(n-1)% d=0
  ·exact aD2 h0
  ·exact absurd ⟨by omega,hr⟩ (Km ((n-1)% d) (Ms _ wP))
 obtain⟨m,hm⟩:=ass
 have hd:d=n-1:=by
  by_cases Pb:m=1
  ·rw[hm,Pb,zw]
  ·exfalso
   have hex:∃q,q∈fs/\q∣m:=by
    apply abu
    intro kz
    have hc:=ae3 fs hf (λq aj Xb=>kz ⟨q,aj,Xb⟩)
    rw[hp]at hc
    have:m∣n-1:=⟨d,by rw[hm,xN]⟩
    exact Pb (aK6 hc this)
   obtain⟨q,aj,x,hx⟩:=hex
   have wX:=(hf q aj).1
   apply h2 q aj
   have e:(n-1)/q=d*x:=by
    rw[hm,hx,show d*(q*x)=(d*x)*q by rw[xN q x,Sr]]
    exact Nat.mul_div_cancel _ (by omega)
   rw[e]
   exact Zn gi Kl x
 subst hd
 refine⟨gi,h1,λa ha=>?_⟩
 have Ew:∀i,i<=n-1->g^i% n≠0:=λi hi h0=>by
  have:g^(n-1)% n=0:=by
   rw[show n-1=i+(n-1-i) by omega,Bj,IL,h0,Nat.zero_mul,Nat.zero_mod]
  omega
 have yC:∀i j,i<j->j<n-1->g^i% n≠g^j% n:=λi j G0 aI he=>by
  have:g^(j-i)% n=1:=by
   have aw:g^(j+(n-1-i))% n=g^(i+(n-1-i))% n:=by
    rw[Bj,Bj,IL,<-he,<-IL]
   rw[show i+(n-1-i)=n-1 by omega,h1,show j+(n-1-i)=(j-i)+(n-1) by omega,Bj,IL,h1,zw,Nat.mod_mod]at aw
   exact aw
  exact Km (j-i) (by omega) ⟨by omega,this⟩
 obtain⟨i,hi,he⟩:=ajF (n-1) (λi=>g^i% n-1) (λi hi=>by
  have:=Ms (g^i) (show n>0 by omega)
  have:=Ew i (by omega)
  show g^i% n-1<n-1
  omega) (λi hi j aI e=>by
  have h3:=Ew i (by omega)
  have h4:=Ew j (by omega)
  have cX:g^i% n=g^j% n:=by omega
  rcases Nat.lt_trichotomy i j with h|h|h
  ·exact absurd cX (yC i j h aI)
  ·exact h
  ·exact absurd cX.symm (yC j i h hi)) (a% n-1) (by have:=Ms a (show n>0 by omega);omega)
 refine⟨i,?_⟩
 have:=Ew i (by omega)
 omega
theorem uH.Ch {n g a:Nat} (h:uH n g) (ha:a% n≠0):a^(n-1)% n=1:=by
 obtain⟨k,ab⟩:=h.2.2 a ha
 rw[Nat.pow_mod,<-ab,<-Nat.pow_mod,<-Nat.pow_mul,xN]
 exact Zn h.1 h.2.1 k
theorem uH.afJ {n g:Nat} (hn:2<n) (h:uH n g):cn n:=
 ⟨h.1,λa ha=>⟨a^(n-2),by
  have:=h.Ch ha
  rw[show n-1=(n-2)+1 by omega,wg,xN]at this
  exact this⟩⟩
theorem bC:cn 2:=⟨by decide,λa h=>⟨1,by omega⟩⟩
theorem dV:cn 3:=⟨by decide,λa h=>⟨a% 3,by
 have:a% 3=1∨a% 3=2:=by omega
 rcases this with h|h<;>rw[h]<;>omega⟩⟩
def okB (n g:Nat) (fs:List Nat):Bool:=decide (2<n)&&decide (n-1<2^256)&&decide (QT fs=n-1)&&decide (pm 256 g (n-1) n=1)&&fs.all λq=>decide (1<q)&&decide (pm 256 g ((n-1)/q) n≠1)
theorem VV {n g:Nat} {fs:List Nat} (h:okB n g fs=true) (hf:∀q∈fs,cn q):uH n g:=by
 simp only[okB,bo,decide_eq_true_eq,IM]at h
 obtain⟨⟨⟨⟨h1,h2⟩,h3⟩,h4⟩,h5⟩:=h
 refine ari h1 h3 hf ?_ λq aj=>?_
 ·rw[<-QR 256 g (n-1) n h2];exact h4
 ·have:=(h5 q aj).2
  rwa [QR 256 g ((n-1)/q) n (Nat.lt_of_le_of_lt (aD4 _ _) h2)]at this
theorem cJ {n g:Nat} {fs:List Nat} (h:okB n g fs=true) (hf:∀q∈fs,cn q):cn n:=by
 have h1:2<n:=by
  simp only[okB,bo,decide_eq_true_eq]at h
  exact h.1.1.1.1
 exact(VV h hf).afJ h1
theorem all_nil:∀q∈([]:List Nat),cn q:=λ_ h=>by cases h
theorem all_cons {x:Nat} {l:List Nat} (h:cn x) (a8:∀q∈l,cn q):∀q∈x::l,cn q:=λq aj=>by
 rcases List.mem_cons.1 aj with rfl|aj
 ·exact h
 ·exact a8 q aj
theorem mh:cn 5:=cJ (g:=2) (fs:=[2,2]) (by decide+kernel) (all_cons bC (all_cons bC all_nil))
theorem q7:cn 7:=cJ (g:=3) (fs:=[2,3]) (by decide+kernel) (all_cons bC (all_cons dV all_nil))
theorem yx:cn 11:=cJ (g:=2) (fs:=[2,5]) (by decide+kernel) (all_cons bC (all_cons mh all_nil))
theorem D3:cn 13:=cJ (g:=2) (fs:=[2,2,3]) (by decide+kernel) (all_cons bC (all_cons bC (all_cons dV all_nil)))
theorem D4:cn 17:=cJ (g:=3) (fs:=[2,2,2,2]) (by decide+kernel) (all_cons bC (all_cons bC (all_cons bC (all_cons bC all_nil))))
theorem OJ:cn 19:=cJ (g:=2) (fs:=[2,3,3]) (by decide+kernel) (all_cons bC (all_cons dV (all_cons dV all_nil)))
theorem OK:cn 23:=cJ (g:=5) (fs:=[2,11]) (by decide+kernel) (all_cons bC (all_cons yx all_nil))
theorem afL:cn 29:=cJ (g:=2) (fs:=[2,2,7]) (by decide+kernel) (all_cons bC (all_cons bC (all_cons q7 all_nil)))
theorem aqr:cn 31:=cJ (g:=3) (fs:=[2,3,5]) (by decide+kernel) (all_cons bC (all_cons dV (all_cons mh all_nil)))
theorem aqw:cn 37:=cJ (g:=2) (fs:=[2,2,3,3]) (by decide+kernel) (all_cons bC (all_cons bC (all_cons dV (all_cons dV all_nil))))
theorem VQ:cn 41:=cJ (g:=6) (fs:=[2,2,2,5]) (by decide+kernel) (all_cons bC (all_cons bC (all_cons bC (all_cons mh all_nil))))
theorem OL:cn 43:=cJ (g:=3) (fs:=[2,3,7]) (by decide+kernel) (all_cons bC (all_cons dV (all_cons q7 all_nil)))
theorem VR:cn 47:=cJ (g:=5) (fs:=[2,23]) (by decide+kernel) (all_cons bC (all_cons OK all_nil))
theorem aqI:cn 53:=cJ (g:=2) (fs:=[2,2,13]) (by decide+kernel) (all_cons bC (all_cons bC (all_cons D3 all_nil)))
theorem aqO:cn 59:=cJ (g:=2) (fs:=[2,29]) (by decide+kernel) (all_cons bC (all_cons afL all_nil))
theorem afM:cn 67:=cJ (g:=2) (fs:=[2,3,11]) (by decide+kernel) (all_cons bC (all_cons dV (all_cons yx all_nil)))
theorem afN:cn 73:=cJ (g:=5) (fs:=[2,2,2,3,3]) (by decide+kernel) (all_cons bC (all_cons bC (all_cons bC (all_cons dV (all_cons dV all_nil)))))
theorem aqU:cn 79:=cJ (g:=3) (fs:=[2,3,13]) (by decide+kernel) (all_cons bC (all_cons dV (all_cons D3 all_nil)))
theorem aqW:cn 83:=cJ (g:=2) (fs:=[2,41]) (by decide+kernel) (all_cons bC (all_cons VQ all_nil))
theorem aqZ:cn 97:=cJ (g:=5) (fs:=[2,2,2,2,2,3]) (by decide+kernel) (all_cons bC (all_cons bC (all_cons bC (all_cons bC (all_cons bC (all_cons dV all_nil))))))
theorem apT:cn 103:=cJ (g:=5) (fs:=[2,3,17]) (by decide+kernel) (all_cons bC (all_cons dV (all_cons D4 all_nil)))
theorem apU:cn 107:=cJ (g:=2) (fs:=[2,53]) (by decide+kernel) (all_cons bC (all_cons aqI all_nil))
theorem apV:cn 113:=cJ (g:=3) (fs:=[2,2,2,2,7]) (by decide+kernel) (all_cons bC (all_cons bC (all_cons bC (all_cons bC (all_cons q7 all_nil)))))
theorem apY:cn 127:=cJ (g:=3) (fs:=[2,3,3,7]) (by decide+kernel) (all_cons bC (all_cons dV (all_cons dV (all_cons q7 all_nil))))
theorem apZ:cn 131:=cJ (g:=2) (fs:=[2,5,13]) (by decide+kernel) (all_cons bC (all_cons mh (all_cons D3 all_nil)))
theorem ap7:cn 173:=cJ (g:=2) (fs:=[2,2,43]) (by decide+kernel) (all_cons bC (all_cons bC (all_cons OL all_nil)))
theorem aqe:cn 223:=cJ (g:=3) (fs:=[2,3,37]) (by decide+kernel) (all_cons bC (all_cons dV (all_cons aqw all_nil)))
theorem aqf:cn 239:=cJ (g:=7) (fs:=[2,7,17]) (by decide+kernel) (all_cons bC (all_cons q7 (all_cons D4 all_nil)))
theorem aqi:cn 269:=cJ (g:=2) (fs:=[2,2,67]) (by decide+kernel) (all_cons bC (all_cons bC (all_cons afM all_nil)))
theorem aqp:cn 307:=cJ (g:=5) (fs:=[2,3,3,17]) (by decide+kernel) (all_cons bC (all_cons dV (all_cons dV (all_cons D4 all_nil))))
theorem aqv:cn 353:=cJ (g:=3) (fs:=[2,2,2,2,2,11]) (by decide+kernel) (all_cons bC (all_cons bC (all_cons bC (all_cons bC (all_cons bC (all_cons yx all_nil))))))
theorem aqD:cn 419:=cJ (g:=2) (fs:=[2,11,19]) (by decide+kernel) (all_cons bC (all_cons yx (all_cons OJ all_nil)))
theorem aqG:cn 479:=cJ (g:=13) (fs:=[2,239]) (by decide+kernel) (all_cons bC (all_cons aqf all_nil))
theorem aqH:cn 487:=cJ (g:=3) (fs:=[2,3,3,3,3,3]) (by decide+kernel) (all_cons bC (all_cons dV (all_cons dV (all_cons dV (all_cons dV (all_cons dV all_nil))))))
theorem aq0:cn 991:=cJ (g:=6) (fs:=[2,3,3,5,11]) (by decide+kernel) (all_cons bC (all_cons dV (all_cons dV (all_cons mh (all_cons yx all_nil)))))
theorem ap2:cn 1361:=cJ (g:=3) (fs:=[2,2,2,2,5,17]) (by decide+kernel) (all_cons bC (all_cons bC (all_cons bC (all_cons bC (all_cons mh (all_cons D4 all_nil))))))
theorem afK:cn 1723:=cJ (g:=3) (fs:=[2,3,7,41]) (by decide+kernel) (all_cons bC (all_cons dV (all_cons q7 (all_cons VQ all_nil))))
theorem aqg:cn 2437:=cJ (g:=2) (fs:=[2,2,3,7,29]) (by decide+kernel) (all_cons bC (all_cons bC (all_cons dV (all_cons q7 (all_cons afL all_nil)))))
theorem aqh:cn 2551:=cJ (g:=6) (fs:=[2,3,5,5,17]) (by decide+kernel) (all_cons bC (all_cons dV (all_cons mh (all_cons mh (all_cons D4 all_nil)))))
theorem aql:cn 2851:=cJ (g:=2) (fs:=[2,3,5,5,19]) (by decide+kernel) (all_cons bC (all_cons dV (all_cons mh (all_cons mh (all_cons OJ all_nil)))))
theorem aqn:cn 2939:=cJ (g:=2) (fs:=[2,13,113]) (by decide+kernel) (all_cons bC (all_cons D3 (all_cons apV all_nil)))
theorem aqx:cn 3727:=cJ (g:=3) (fs:=[2,3,3,3,3,23]) (by decide+kernel) (all_cons bC (all_cons dV (all_cons dV (all_cons dV (all_cons dV (all_cons OK all_nil))))))
theorem aqz:cn 3797:=cJ (g:=2) (fs:=[2,2,13,73]) (by decide+kernel) (all_cons bC (all_cons bC (all_cons D3 (all_cons afN all_nil))))
theorem aqC:cn 4153:=cJ (g:=5) (fs:=[2,2,2,3,173]) (by decide+kernel) (all_cons bC (all_cons bC (all_cons bC (all_cons dV (all_cons ap7 all_nil)))))
theorem aqM:cn 5879:=cJ (g:=11) (fs:=[2,2939]) (by decide+kernel) (all_cons bC (all_cons aqn all_nil))
theorem aqY:cn 9463:=cJ (g:=3) (fs:=[2,3,19,83]) (by decide+kernel) (all_cons bC (all_cons dV (all_cons OJ (all_cons aqW all_nil))))
theorem ap6:cn 17231:=cJ (g:=13) (fs:=[2,5,1723]) (by decide+kernel) (all_cons bC (all_cons mh (all_cons afK all_nil)))
theorem aqd:cn 22111:=cJ (g:=6) (fs:=[2,3,5,11,67]) (by decide+kernel) (all_cons bC (all_cons dV (all_cons mh (all_cons yx (all_cons afM all_nil)))))
theorem aqq:cn 30703:=cJ (g:=3) (fs:=[2,3,7,17,43]) (by decide+kernel) (all_cons bC (all_cons dV (all_cons q7 (all_cons D4 (all_cons OL all_nil)))))
theorem aqt:cn 32573:=cJ (g:=2) (fs:=[2,2,17,479]) (by decide+kernel) (all_cons bC (all_cons bC (all_cons D4 (all_cons aqG all_nil))))
theorem aqu:cn 34123:=cJ (g:=2) (fs:=[2,3,11,11,47]) (by decide+kernel) (all_cons bC (all_cons dV (all_cons yx (all_cons yx (all_cons VR all_nil)))))
theorem aqy:cn 37853:=cJ (g:=2) (fs:=[2,2,9463]) (by decide+kernel) (all_cons bC (all_cons bC (all_cons aqY all_nil)))
theorem aqB:cn 41081:=cJ (g:=3) (fs:=[2,2,2,5,13,79]) (by decide+kernel) (all_cons bC (all_cons bC (all_cons bC (all_cons mh (all_cons D3 (all_cons aqU all_nil))))))
theorem aqL:cn 57467:=cJ (g:=2) (fs:=[2,59,487]) (by decide+kernel) (all_cons bC (all_cons aqO (all_cons aqH all_nil)))
theorem aqP:cn 65147:=cJ (g:=2) (fs:=[2,32573]) (by decide+kernel) (all_cons bC (all_cons aqt all_nil))
theorem aqT:cn 75707:=cJ (g:=2) (fs:=[2,37853]) (by decide+kernel) (all_cons bC (all_cons aqy all_nil))
theorem aqV:cn 82163:=cJ (g:=2) (fs:=[2,41081]) (by decide+kernel) (all_cons bC (all_cons aqB all_nil))
theorem ap0:cn 132049:=cJ (g:=26) (fs:=[2,2,2,2,3,3,7,131]) (by decide+kernel) (all_cons bC (all_cons bC (all_cons bC (all_cons bC (all_cons dV (all_cons dV (all_cons q7 (all_cons apZ all_nil))))))))
theorem ap1:cn 132667:=cJ (g:=5) (fs:=[2,3,22111]) (by decide+kernel) (all_cons bC (all_cons dV (all_cons aqd all_nil)))
theorem ap3:cn 137849:=cJ (g:=3) (fs:=[2,2,2,17231]) (by decide+kernel) (all_cons bC (all_cons bC (all_cons bC (all_cons ap6 all_nil))))
theorem aqA:cn 409477:=cJ (g:=2) (fs:=[2,2,3,34123]) (by decide+kernel) (all_cons bC (all_cons bC (all_cons dV (all_cons aqu all_nil))))
theorem aqE:cn 430751:=cJ (g:=17) (fs:=[2,5,5,5,1723]) (by decide+kernel) (all_cons bC (all_cons mh (all_cons mh (all_cons mh (all_cons afK all_nil)))))
theorem aqJ:cn 531581:=cJ (g:=2) (fs:=[2,2,5,7,3797]) (by decide+kernel) (all_cons bC (all_cons bC (all_cons mh (all_cons q7 (all_cons aqz all_nil)))))
theorem aqK:cn 569003:=cJ (g:=2) (fs:=[2,7,97,419]) (by decide+kernel) (all_cons bC (all_cons q7 (all_cons aqZ (all_cons aqD all_nil))))
theorem apW:cn 1224481:=cJ (g:=13) (fs:=[2,2,2,2,2,3,5,2551]) (by decide+kernel) (all_cons bC (all_cons bC (all_cons bC (all_cons bC (all_cons bC (all_cons dV (all_cons mh (all_cons aqh all_nil))))))))
theorem ap9:cn 1923133:=cJ (g:=2) (fs:=[2,2,3,43,3727]) (by decide+kernel) (all_cons bC (all_cons bC (all_cons dV (all_cons OL (all_cons aqx all_nil)))))
theorem aqX:cn 8574133:=cJ (g:=2) (fs:=[2,2,3,7,103,991]) (by decide+kernel) (all_cons bC (all_cons bC (all_cons dV (all_cons q7 (all_cons apT (all_cons aq0 all_nil))))))
theorem ap4:cn 14741173:=cJ (g:=2) (fs:=[2,2,3,3,409477]) (by decide+kernel) (all_cons bC (all_cons bC (all_cons dV (all_cons dV (all_cons aqA all_nil)))))
theorem aqN:cn 58964693:=cJ (g:=2) (fs:=[2,2,14741173]) (by decide+kernel) (all_cons bC (all_cons bC (all_cons ap4 all_nil)))
theorem aqm:cn 292386187:=cJ (g:=2) (fs:=[2,3,3,3,3,307,5879]) (by decide+kernel) (all_cons bC (all_cons dV (all_cons dV (all_cons dV (all_cons dV (all_cons aqp (all_cons aqM all_nil)))))))
theorem aqk:cn 2773320623:=cJ (g:=5) (fs:=[2,2437,569003]) (by decide+kernel) (all_cons bC (all_cons aqg (all_cons aqK all_nil)))
theorem aqQ:cn 72106336199:=cJ (g:=7) (fs:=[2,13,2773320623]) (by decide+kernel) (all_cons bC (all_cons D3 (all_cons aqk all_nil)))
theorem aqc:cn 213441916511:=cJ (g:=13) (fs:=[2,5,73,292386187]) (by decide+kernel) (all_cons bC (all_cons mh (all_cons afN (all_cons aqm all_nil))))
theorem apX:cn 1257559732178653:=cJ (g:=2) (fs:=[2,2,3,7,23,531581,1224481]) (by decide+kernel) (all_cons bC (all_cons bC (all_cons dV (all_cons q7 (all_cons OK (all_cons aqJ (all_cons apW all_nil)))))))
theorem ap8:cn 1919519569386763:=cJ (g:=2) (fs:=[2,3,7,19,47,47,127,8574133]) (by decide+kernel) (all_cons bC (all_cons dV (all_cons q7 (all_cons OJ (all_cons VR (all_cons VR (all_cons apY (all_cons aqX all_nil))))))))
theorem aqs:cn 31757755568855353:=cJ (g:=10) (fs:=[2,2,2,3,31,107,223,4153,430751]) (by decide+kernel) (all_cons bC (all_cons bC (all_cons bC (all_cons dV (all_cons aqr (all_cons apU (all_cons aqe (all_cons aqC (all_cons aqE all_nil)))))))))
theorem aqF:cn 4434155615661930479:=cJ (g:=17) (fs:=[2,41,43,1257559732178653]) (by decide+kernel) (all_cons bC (all_cons VQ (all_cons OL (all_cons apX all_nil))))
theorem aqo:cn 3044861653679985063343:=cJ (g:=5) (fs:=[2,3,11,30703,82163,132667,137849]) (by decide+kernel) (all_cons bC (all_cons dV (all_cons yx (all_cons aqq (all_cons aqV (all_cons ap1 (all_cons ap3 all_nil)))))))
theorem ap5:cn 172054593956031949258510691:=cJ (g:=2) (fs:=[2,5,1361,2851,4434155615661930479]) (by decide+kernel) (all_cons bC (all_cons mh (all_cons ap2 (all_cons aql (all_cons aqF all_nil)))))
theorem aqb:cn 198211423230930754013084525763697:=cJ (g:=5) (fs:=[2,2,2,2,3,23,58964693,3044861653679985063343]) (by decide+kernel) (all_cons bC (all_cons bC (all_cons bC (all_cons bC (all_cons dV (all_cons OK (all_cons aqN (all_cons aqo all_nil))))))))
theorem aqS:cn 75445702479781427272750846543864801:=cJ (g:=7) (fs:=[2,2,2,2,2,3,3,5,5,75707,72106336199,1919519569386763]) (by decide+kernel) (all_cons bC (all_cons bC (all_cons bC (all_cons bC (all_cons bC (all_cons dV (all_cons dV (all_cons mh (all_cons mh (all_cons aqT (all_cons aqQ (all_cons ap8 all_nil))))))))))))
theorem aqa:cn 19757330305831588566944191468367130476339:=cJ (g:=2) (fs:=[2,269,213441916511,172054593956031949258510691]) (by decide+kernel) (all_cons bC (all_cons aqi (all_cons aqc (all_cons ap5 all_nil))))
theorem aqj:cn 276602624281642239937218680557139826668747:=cJ (g:=2) (fs:=[2,7,19757330305831588566944191468367130476339]) (by decide+kernel) (all_cons bC (all_cons q7 (all_cons aqa all_nil)))
theorem aqR:cn 74058212732561358302231226437062788676166966415465897661863160754340907:=cJ (g:=2) (fs:=[2,3,353,57467,132049,1923133,31757755568855353,75445702479781427272750846543864801]) (by decide+kernel) (all_cons bC (all_cons dV (all_cons aqv (all_cons aqL (all_cons ap0 (all_cons ap9 (all_cons aqs (all_cons aqS all_nil))))))))
theorem arh:uH 7237005577332262213973186563042994240857116359379907606001950938285454250989 2:=VV (fs:=[2,2,3,11,198211423230930754013084525763697,276602624281642239937218680557139826668747]) (by decide+kernel) (all_cons bC (all_cons bC (all_cons dV (all_cons yx (all_cons aqb (all_cons aqj all_nil))))))
theorem arf:uH 57896044618658097711785492504343953926634992332820282019728792003956564819949 2:=VV (fs:=[2,2,3,65147,74058212732561358302231226437062788676166966415465897661863160754340907]) (by decide+kernel) (all_cons bC (all_cons bC (all_cons dV (all_cons aqP (all_cons aqR all_nil)))))
theorem ard:uH 57896044618658097711785492504343953926634992332820282019728792003956564819949 2:=arf
theorem arc:uH 7237005577332262213973186563042994240857116359379907606001950938285454250989 2:=arh
end Go.zE
namespace Go.eV
open Go Go.b6
def H5:List Int:=[4794697086780616226,8158064640168781261,13096744586834688815,16840607885511220156,4131703408338449720,6480981068601479193,10538285296894168987,12329834152419229976,15566598209576043074,1334009975649890238,2608012711638119052,6128411473006802146,8268148722764581231,9286055187155687089,11230858885718282805,13951009754708518548,16472876342353939154,17275323862435702243,1135362057144423861,2597628984639134821,3308224258029322869,5365058923640841347,6679025012923562964,8573033837759648693,10970295158949994411,12119686244451234320,12683024718118986047,13788192230050041572,14330467153632333762,15395433587784984357,489312712824947311,1452737877330783856,2861767655752347644,3322285676063803686,5560940570517711597,5996557281743188959,7280758554555802590,8532644243296465576,9350256976987008742,10552545826968843579,11727347734174303076,12113106623233404929,14000437183269869457,14369950271660146224,15101387698204529176,15463397548674623760,17586052441742319658,1182934255886127544,1847814050463011016,2177327727835720531,2830643537854262169,3796741975233480872,4115178125766777443,5681478168544905931,6601373596472566643,7507060721942968483,8399075790359081724,8693463985226723168,9568029438360202098,10144078919501101548,10430055236837252648,11840083180663258601,13761210420658862357,14299343276471374635,14566680578165727644,15097957966210449927,16922976911328602910,17689382322260857208,500013540394364858,748580250866718886,1242879168328830382,1977374033974150939,2944078676154940804,3659926193048069267,4368137639120453308,4836135668995329356,5532061633213252278,6448918945643986474,6902733635092675308,7801388544844847127]
def Nk:List Int:=[7640891576956012808,13503953896175478587,4354685564936845355,11912009170470909681,5840696475078001361,11170449401992604703,2270897969802886507,6620516959819538809]
structure hW where
 k:du
 w:Nat
 s:Nat
 t:Nat
 a:List Nat
 b:List Nat
 c:List Nat
 d:List Nat
 n:Nat
def zI:hW:=⟨.u32,32,3,10,[2,13,22],[6,11,25],[7,18],[17,19],64⟩
def cA:hW:=⟨.u64,64,7,6,[28,34,39],[14,18,41],[1,8],[19,61],80⟩
def Q6 (w n:Nat) (x:Int):Int:=x/2^n+(x% 2^n)*2^(w-n)
def Ri (p:hW) (l:List Nat) (x:Int):Int:=l.foldl (λy n=>eb .xor p.k y (Q6 p.w n x)) 0
def F4 (p:hW) (x:Int):Int:=Ri p p.a x
def F5 (p:hW) (x:Int):Int:=Ri p p.b x
def L5 (p:hW) (x:Int):Int:=eb .xor p.k (Ri p p.c x) (x/2^p.s)
def L6 (p:hW) (x:Int):Int:=eb .xor p.k (Ri p p.d x) (x/2^p.t)
def md (p:hW) (x:Int):Int:=x% 2^p.w
def Oc (p:hW) (e f g:Int):Int:=eb .xor p.k (eb .and p.k e f) (eb .and p.k (2^p.w-1-e) g)
def YM (p:hW) (a b c:Int):Int:=eb .xor p.k (eb .xor p.k (eb .and p.k a b) (eb .and p.k a c)) (eb .and p.k b c)
def LY (p:hW) (i:Nat):Int:=H5.getD i 0/2^(64-p.w)
def HD (p:hW) (m:List Int):Int:=md p (m.getD (m.length-16) 0+L5 p (m.getD (m.length-15) 0)+m.getD (m.length-7) 0+L6 p (m.getD (m.length-2) 0))
def yu (p:hW):Nat->List Int->List Int
 |0,m=>m
 |j+1,m=>yu p j (m++[HD p m])
def sched (p:hW) (m:List Int):List Int:=yu p (p.n-16) m
def A7 (p:hW) (i:Nat) (x:Int):List Int->List Int
 |[a,b,c,d,e,f,g,h]=>
  let t:=md p (h+F5 p e+Oc p e f g+LY p i+x)
  let u:=md p (F4 p a+YM p a b c)
  [md p (t+u),a,b,c,md p (d+t),e,f,g]
 |l=>l
def C4 (p:hW):Nat->List Int->List Int->List Int
 |_,[],v=>v
 |i,x::m,v=>C4 p (i+1) m (A7 p i x v)
def Ik (p:hW) (h m:List Int):List Int:=sJ (λa b=>md p (a+b)) h (C4 p 0 (sched p m) h)
def aDa (p:hW) (b:List Int) (j:Nat):Int:=(fk (p.w/8)).foldl (λy q=>y*256+b.getD (j*(p.w/8)+q) 0) 0
def Ma (p:hW) (b:List Int):List Int:=(fk 16).map (aDa p b)
def Jo (p:hW) (b:List Int):Nat->List Int->List Int
 |0,h=>h
 |i+1,h=>Ik p (Jo p b i h) (Ma p ((b.drop (2*p.w*i)).take (2*p.w)))
def BK (p:hW):List Int:=Nk.map (·/2^(64-p.w))
def u2 (p:hW) (x:Int) (q:Nat):Int:=x/2^(p.w-8-8*q)% 256
def CO (p:hW) (h:List Int):List Int:=h.flatMap λx=>(fk (p.w/8)).map (u2 p x)
def sW (p:hW) (b:List Int):List Int:=CO p (Jo p b (b.length/(2*p.w)) (BK p))
def si (w n:Nat):Nat:=(n+1+w/4+(2*w-1))/(2*w)*(2*w)
def DG (n:Nat):List Int:=(fk 8).map λq=>((n/2^(56-8*q)% 256:Nat):Int)
def yV (p:hW) (b:List Int):List Int:=b++[128]++eH (si p.w b.length-b.length-9) 0++DG (8*b.length)
def ph (p:hW) (b:List Int):List Int:=sW p (yV p b)
def bG (z:Int):List Int:=(ah z).map λr=>r.getD 0 0
def yU (n w:Int):Int:=if n<0∨1099511627776<n∨(w≠32/\w≠64)then 0 else si w.toNat n.toNat
def digit (n:Int):UInt8:=([48,49,50,51,52,53,54,55,56,57,97,98,99,100,101,102]:List UInt8).getD n.toNat 0
def agM (b:List Int):List UInt8:=b.flatMap λx=>[digit (x/16),digit (x% 16)]
def anl:Nat->List (List Int)->List (List Int)->Prop
 |440,[[n],[w]],rs=>rs=[[yU n w]]
 |441,[[n],[w]],rs=>rs=[[yU n w]]
 |442,[[z]],[[r]]=>bG r=yV zI (bG z)
 |443,[[z]],[[r]]=>bG r=yV cA (bG z)
 |444,[[x]],rs=>rs=[[F4 zI x]]
 |445,[[x]],rs=>rs=[[F5 zI x]]
 |446,[[x]],rs=>rs=[[L5 zI x]]
 |447,[[x]],rs=>rs=[[L6 zI x]]
 |448,[[x]],rs=>rs=[[F4 cA x]]
 |449,[[x]],rs=>rs=[[F5 cA x]]
 |450,[[x]],rs=>rs=[[L5 cA x]]
 |451,[[x]],rs=>rs=[[L6 cA x]]
 |452,[[z]],rs=>rs=[ph zI (bG z)]
 |453,[[z]],rs=>rs=[ph cA (bG z)]
 |454,[[z]],[[s]]=>bp s=agM (bG z)
 |455,[[z]],[[s]]=>bp s=agM (bG z)
 |456,[],rs=>rs=[[1]]
 |457,[_,_],[[r]]=>r=1
 |458,[_,_,_],[[r]]=>r=1
 |459,[_,_,_],[[r]]=>r=1
 |460,[[z]],[[r]]=>ah r=ah z
 |461,[[z]],[[r]]=>ah r=ah z
 |462,[[z]],[[r]]=>ah r=ah z
 |463,[[z]],[[r]]=>ah r=ah z
 |468,[[a],[b],[c],[d]],[[r]]=>ah r=ah a++(ah b++(ah c++ah d))
 |469,[[a],[b],[c]],[[r]]=>ah r=ah a++(ah b++ah c)
 |470,[[a],[b],[c],[d]],rs=>rs=[ph zI (bG a++(bG b++(bG c++bG d)))]
 |471,[[a],[b],[c]],rs=>rs=[ph cA (bG a++(bG b++bG c))]
 |466,[[i]],rs=>rs=[[LY zI i.toNat]]
 |467,[[i]],rs=>rs=[[LY cA i.toNat]]
 |464,[[z]],[[r]]=>bG r=sW zI (bG z)
 |465,[[z]],[[r]]=>bG r=sW cA (bG z)
 |_,_,_=>False
end Go.eV
namespace Go.eV
open Go Go.b6
def Zc:List Int:=[6346243789798364141,1503914060200516822,0,1152921504606846976]
def aaw:List Int:=[6346243789798364141,1503914060200516822]
def Y7:List Int:=[1,0,0,0,0]
def Y6:List Int:=[929955233495203,466365720129213,1662059464998953,2033849074728123,1442794654840575]
def gz:eI:=[(0,Zc.map λz=>(.u64,z)),(1,Nk.map λz=>(.u64,z)),(2,H5.map λz=>(.u64,z)),(3,Y7.map λz=>(.u64,z)),(4,Y6.map λz=>(.u64,z)),(5,aaw.map λz=>(.u64,z))]
end Go.eV
